/- Plain theorems and definitions of this seat, several texts in one. -/
import Derived.Test.YtcakdidcpoolcaaGreatDoorAe
import Derived.Test.YtcakdidcpoolcaaGreatDoorAd
import Derived.Test.YtcakdidcpoolcaaGreatDoorProg
import Derived.Test.YtcakdidcpoolcaaGreatDoorAa
import Derived.Test.YtcakdidcpoolcaaGreatDoorRows
import Derived.ChangeMaps5
import Derived.Stop.LaidErr
import Derived.Shelf.Strconv.Itoa0
import Derived.Shelf.Strconv.Itoa1
import Derived.Shelf.LaysM
import Derived.Shelf.Strconv.Itoa2
import Derived.Shelf.Strconv.Itoa3
import Derived.Ground.SlgnProg
import Derived.Test.YtcakdidcpoolcaaGreatDoorAc
set_option linter.unusedVariables false
set_option linter.unusedSimpArgs false
set_option linter.unusedSectionVars false
namespace Go.D
open Go Go.X
theorem idx_g{xs:List Int}{i:Int}{n:Nat}(e:i=(n:Int))(h:n<xs.length):idx xs i=some (xs.getD n 0):=by
 rw[getD_ok h];exact idx_i e h
theorem sdiv_ok{k:IntKind}{x y:Int}(h:y≠0):sdiv k x y=some (k.wrap (x.tdiv y)):=by unfold sdiv;rw[if_neg h]
theorem srem_ok{x y:Int}(h:y≠0):srem x y=some (x.tmod y):=by unfold srem;rw[if_neg h]
theorem u64_nat{z:Nat}(h:z<18446744073709551616):IntKind.u64.wrap (z:Int)=z:=by rw[show IntKind.u64.wrap (z:Int)=(z:Int)%18446744073709551616 from wu];omega
theorem bshl32{x:Int}(h0:0≤x)(h1:x<4294967296):bshl .u64 x 32=x*4294967296:=by
 unfold bshl
 rw[show((2:Int)^(min (32:Int).toNat IntKind.u64.bits))=4294967296 from rfl]
 rw[show IntKind.u64.wrap (x*4294967296)=(x*4294967296)%18446744073709551616 from wu];omega
theorem bor_hi{x y:Int}(h0:0≤x)(h1:x<4294967296)(h2:0≤y)(h3:y<4294967296):bor .u64 (bshl .u64 x 32) y=x*4294967296+y:=by
 rw[bshl32 h0 h1]
 obtain⟨a,rfl⟩:=Int.eq_ofNat_of_zero_le h0
 obtain⟨b,rfl⟩:=Int.eq_ofNat_of_zero_le h2
 rw[show(a:Int)*4294967296=((a*2^32:Nat):Int) by simp]
 rw[bor_nat (u64_nat (by omega)) (u64_nat (by omega)),←Nat.shiftLeft_eq,←Nat.shiftLeft_add_eq_or_of_lt (by omega),Nat.shiftLeft_eq]
 omega
theorem band_lo{z:Int}(h0:0≤z)(h1:z<18446744073709551616):band .u64 z 4294967295=z%4294967296:=by
 obtain⟨a,rfl⟩:=Int.eq_ofNat_of_zero_le h0
 rw[show(4294967295:Int)=((2^32-1:Nat):Int) by decide,band_nat (u64_nat (by omega)) (u64_nat (by decide)),Nat.and_two_pow_sub_one_eq_mod]
 omega
theorem uw_id{z:Int}(h0:0≤z)(h1:z<18446744073709551616):uw z=z:=by rw[uw_mod];omega
theorem tdivP{x y:Int}(h:0≤x):x.tdiv y=x/y:=Int.tdiv_eq_ediv_of_nonneg h
theorem tmodP{x y:Int}(h:0≤x):x.tmod y=x%y:=Int.tmod_eq_emod_of_nonneg h
theorem bshort_tm{a:List Int}{y:Int}(ha:InB W32 a)(h0:0<y)(h1:y<W32)(hl:a.length≤17592186044416):
 Tm (fun N=>bshort N a y) (fun r=>InB W32 r.1∧val W32 r.1=val W32 a/y∧r.2=val W32 a%y∧r.1.length=a.length):=by
 unfold bshort
 refine Tm.step (mk1_ok rfl (by omega) (by decide)) ?_
 refine Tm.bind (Q:=fun r:List Int×Int=>InB W32 r.1∧r.1.length=a.length∧0≤r.2∧r.2<y∧val W32 r.1*y+r.2=val W32 a)
  (Tm.loop (fun t:List Int×Int×Int=>∃k:Nat,t.2.2=(k:Int)-1∧k≤a.length∧t.1.length=a.length∧InB W32 t.1∧0≤t.2.1∧t.2.1<y∧(∀j,j<k→t.1.getD j 0=0)∧val W32 t.1*y+W32^k*t.2.1+val W32 (a.take k)=val W32 a) (fun t=>(t.2.2+1).toNat)
   ⟨a.length,by rw[iw_eq]<;>omega,Nat.le_refl _,by simp,InB.rep (by decide),by simp,h0,fun j hj=>by rw[getD_ok (by simpa using hj)];simp,by rw[take_all (Nat.le_refl _),val_rep];simp⟩ ?_) ?_
 · rintro⟨out,rest,i⟩ ⟨k,rfl,hk,ho,hB,r0,r1,hz,hv⟩
   dsimp only[bshort_b1]at*
   refine Tm.ite (fun h=>?_) (fun h=>Tm.pure ?_)
   · obtain⟨n,rfl⟩:∃n,k=n+1:=⟨k-1,by omega⟩
     have hi:((n+1:Nat):Int)-1=(n:Int):=by omega
     rw[hi]
     have hx:=ha.getD (by decide) n
     have hvt:=val_take (B:=W32) (l:=a) (n:=n)
     refine Tm.step (idx_g rfl (by omega)) ?_
     generalize a.getD n 0=x at*
     simp only[W32]at hx h1
     have ex:uw x=x:=uw_id hx.1 (by omega)
     have ey:uw y=y:=uw_id (by omega) (by omega)
     rw[ex,ey,bor_hi r0 (by omega) hx.1 hx.2]
     have hT0:0≤rest*4294967296+x:=by omega
     have hq1:(rest*4294967296+x)/y<4294967296:=Int.ediv_lt_of_lt_mul h0 (by
      have:=Int.mul_le_mul_of_nonneg_right (show rest+1≤y by omega) (show(0:Int)≤4294967296 by decide)
      rw[Int.mul_comm 4294967296 y];omega)
     have hq0:0≤(rest*4294967296+x)/y:=Int.ediv_nonneg hT0 (by omega)
     refine Tm.step (sdiv_ok (by omega)) (Tm.step (idx_g rfl (by omega)) (Tm.step (upd1_i rfl (by omega)) (Tm.step (srem_ok (by omega)) (Tm.pure ?_))))
     rw[tdivP hT0,tmodP hT0,show IntKind.u64.wrap ((rest*4294967296+x)/y)=(rest*4294967296+x)/y from uw_id hq0 (by omega),show uw32 ((rest*4294967296+x)/y)=(rest*4294967296+x)/y by rw[uw32_mod];omega]
     have hm0:=Int.emod_nonneg (rest*4294967296+x) (show y≠0 by omega)
     have hm1:=Int.emod_lt_of_pos (rest*4294967296+x) h0
     have hd:=Int.emod_add_mul_ediv (rest*4294967296+x) y
     refine⟨⟨n,by show iw ((n:Int)-1)=_;rw[iw_eq]<;>omega,by omega,by simp;omega,hB.set (by simp only[W32];omega),hm0,hm1,fun j hj=>?_,?_⟩,?_⟩
     · show(out.set n _).getD j 0=0
       rw[getD_set (by omega),if_neg (by omega)];exact hz j (by omega)
     · show val W32 (out.set n _)*y+W32^n*((rest*4294967296+x)%y)+val W32 (a.take n)=_
       have hon:out[n]'(by omega)=0:=by have:=hz n (by omega);rwa[getD_ok (by omega)]at this
       rw[val_set (by omega),hon]
       rw[Int.pow_succ]at hv
       have hw:W32=4294967296:=rfl
       generalize(rest*4294967296+x)/y=q at*
       generalize(rest*4294967296+x)%y=t at*
       rw[←hv,hvt]
       have e1:W32^n*W32*rest=W32^n*(rest*4294967296):=by rw[hw];grind
       have e2:W32^n*(t+y*q)=W32^n*(rest*4294967296+x):=by rw[hd]
       rw[e1]
       grind
     · show(iw ((n:Int)-1)+1).toNat<((n:Int)+1).toNat
       rw[iw_eq]<;>omega
   · obtain rfl:k=0:=by omega
     refine⟨hB,ho,r0,r1,?_⟩
     simpa[val]using hv
 · rintro⟨out,rest⟩ ⟨hB,ho,r0,r1,hv⟩
   dsimp only at*
   simp only[W32]at h1
   refine Tm.pure ⟨hB,?_,?_,ho⟩
   · show val W32 out=_
     rw[←hv,Int.add_comm,Int.add_mul_ediv_right _ _ (by omega),Int.ediv_eq_zero_of_lt r0 r1];omega
   · show uw32 rest=_
     rw[uw32_mod,←hv,Int.add_comm,Int.add_mul_emod_self_right,Int.emod_eq_of_lt r0 r1];omega
section
variable {W V R v1 v2 u2 top p vl rl g rest:Int}
theorem g_dec(hp:0<p)(hV:V=(v1*W+v2)*p+vl)(hvl:0≤vl)(hR:R=(top*W+u2)*p+rl)(hrl:rl<p)(ht:top=g*v1+rest)(hg:0≤g)(h:rest*W+u2<g*v2):R<g*V:=by
 have h1:top*W+u2+1≤g*(v1*W+v2):=by
  have e:g*(v1*W+v2)=(g*v1)*W+g*v2:=by grind
  have e2:top*W=(g*v1)*W+rest*W:=by rw[ht];grind
  omega
 have h2:=Int.mul_le_mul_of_nonneg_right h1 (Int.le_of_lt hp)
 have h3:0≤g*vl:=Int.mul_nonneg hg hvl
 have e1:g*V=g*(v1*W+v2)*p+g*vl:=by rw[hV];grind
 have e2:(top*W+u2+1)*p=(top*W+u2)*p+p:=by grind
 omega
theorem g_top(hp:0<p)(hW:0<W)(hv2:v2<W)(hV:V=(v1*W+v2)*p+vl)(hvl:vl<p)(hR:R=(top*W+u2)*p+rl)(hu2:0≤u2)(hrl:0≤rl)(h:R<W*V):top<(v1+1)*W:=by
 have h1:top*W<W*(v1*W+v2+1):=by
  rcases Int.lt_or_le (top*W) (W*(v1*W+v2+1))with h1|h1
  · exact h1
  · exfalso
    have h2:=Int.mul_le_mul_of_nonneg_right (show W*(v1*W+v2+1)≤top*W+u2 by omega) (Int.le_of_lt hp)
    have h3:W*vl<W*p:=Int.mul_lt_mul_of_pos_left hvl hW
    have e1:W*V=W*(v1*W+v2)*p+W*vl:=by rw[hV];grind
    have e2:W*(v1*W+v2+1)*p=W*(v1*W+v2)*p+W*p:=by grind
    omega
 have h2:W*top<W*(v1*W+v2+1):=by rw[Int.mul_comm W top];exact h1
 have h3:=Int.lt_of_mul_lt_mul_left h2 (Int.le_of_lt hW)
 have e:(v1+1)*W=v1*W+W:=by grind
 omega
theorem g_small(hv1:0<v1)(ht:top=g*v1+rest)(hr:W≤rest)(h:top<(v1+1)*W):g<W:=by
 have h1:g*v1<W*v1:=by
  have e:(v1+1)*W=W*v1+W:=by grind
  omega
 exact Int.lt_of_mul_lt_mul_right h1 (Int.le_of_lt hv1)
theorem g_brk(hp:0<p)(hW:0<W)(hv2:0≤v2)(hv2':v2<W)(hV:V=(v1*W+v2)*p+vl)(hvl:0≤vl)(hvl':vl<p)(hR:R=(top*W+u2)*p+rl)(hu2:0≤u2)(hrl:0≤rl)
 (ht:top=g*v1+rest)(hr:W≤rest)(hg:0≤g)(hgW:g<W):g*V≤R:=by
 have h1:g*(v2*p+vl)≤W*(W*p):=by
  have:v2*p+vl≤W*p:=by
   have:=Int.mul_le_mul_of_nonneg_right (show v2+1≤W by omega) (Int.le_of_lt hp)
   have e:(v2+1)*p=v2*p+p:=by grind
   omega
  have h0:0≤v2*p+vl:=by have:=Int.mul_nonneg hv2 (Int.le_of_lt hp);omega
  exact Int.mul_le_mul (by omega) this h0 (by omega)
 have h2:W*(W*p)≤rest*(W*p):=Int.mul_le_mul_of_nonneg_right hr (Int.mul_nonneg (by omega) (by omega))
 have h3:0≤u2*p:=Int.mul_nonneg hu2 (by omega)
 have e1:g*V=g*v1*(W*p)+g*(v2*p+vl):=by rw[hV];grind
 have e2:R=g*v1*(W*p)+rest*(W*p)+u2*p+rl:=by rw[hR,ht];grind
 omega
theorem g_end(hp:0<p)(hW:0<W)(hv1:0<v1)(hv2:0≤v2)(hV:V=(v1*W+v2)*p+vl)(hvl:0≤vl)(hvl':vl<p)(hR:R=(top*W+u2)*p+rl)(hrl:0≤rl)
 (ht:top=g*v1+rest)(hg:0≤g)(hgW:g<W)(h:g*v2≤rest*W+u2):g*V≤R+V:=by
 have h1:g*(v1*W+v2)≤top*W+u2:=by
  have e:g*(v1*W+v2)=(g*v1)*W+g*v2:=by grind
  have e2:top*W=(g*v1)*W+rest*W:=by rw[ht];grind
  omega
 have h2:=Int.mul_le_mul_of_nonneg_right h1 (Int.le_of_lt hp)
 have h3:g*vl≤W*p:=Int.mul_le_mul (by omega) (by omega) hvl (by omega)
 have h4:W*p≤v1*(W*p):=by
  have:=Int.mul_le_mul_of_nonneg_right (show 1≤v1 by omega) (show 0≤W*p from Int.mul_nonneg (by omega) (by omega))
  omega
 have h5:0≤v2*p:=Int.mul_nonneg hv2 (by omega)
 have e1:g*V=g*(v1*W+v2)*p+g*vl:=by rw[hV];grind
 have e2:V=v1*(W*p)+v2*p+vl:=by rw[hV];grind
 omega
theorem g_init(hp:0<p)(hW:0<W)(hv1:0<v1)(hv2:0≤v2)(hV:V=(v1*W+v2)*p+vl)(hvl:0≤vl)(hR:R=(top*W+u2)*p+rl)(hu2:u2<W)(hrl:rl<p)
 (ht:top=g*v1+rest)(hr:rest<v1)(hg:0≤g):R<(g+1)*V:=by
 have h1:(top+1)*(W*p)≤(g+1)*v1*(W*p):=Int.mul_le_mul_of_nonneg_right (by have e:(g+1)*v1=g*v1+v1:=(by grind);omega) (Int.mul_nonneg (by omega) (by omega))
 have h2:0≤(g+1)*(v2*p+vl):=Int.mul_nonneg (by omega) (by have:=Int.mul_nonneg hv2 (Int.le_of_lt hp);omega)
 have h3:=Int.mul_le_mul_of_nonneg_right (show u2+1≤W by omega) (Int.le_of_lt hp)
 have e1:(g+1)*V=(g+1)*v1*(W*p)+(g+1)*(v2*p+vl):=by rw[hV];grind
 have e2:R=top*(W*p)+u2*p+rl:=by rw[hR];grind
 have e3:(top+1)*(W*p)=top*(W*p)+W*p:=by grind
 have e4:(u2+1)*p=u2*p+p:=by grind
 omega
end
theorem b2_tm{b v u:List Int}{n m:Nat}{V R v1 v2 u2 top p vl rl g0 r0:Int}(hb:b.length=m)(hv:v.length=m)(hm:2≤m)(hu:n+m<u.length)(hul:u.length≤35184372088832)
 (e1:v.getD (m-1) 0=v1)(e2:v.getD (m-2) 0=v2)(e3:u.getD (n+m-2) 0=u2)(hv1:0<v1∧v1<4294967296)(hv2:0≤v2∧v2<4294967296)(hu2:0≤u2∧u2<4294967296)
 (hp:0<p)(hV:V=(v1*4294967296+v2)*p+vl)(hvl:0≤vl∧vl<p)(hR:R=(top*4294967296+u2)*p+rl)(hrl:0≤rl∧rl<p)(hRV:R<4294967296*V)
 (ht:top=g0*v1+r0)(hr0:0≤r0∧r0<v1)(hg0:0≤g0∧g0<18446744073709551616):
 Tm (fun N=>loopM (bdivide_b2 N b v u n) N (g0,r0)) (fun g=>0≤g∧g<4294967296∧R<(g+1)*V∧g*V≤R+V):=by
 have htop:=g_top hp (by decide) hv2.2 hV hvl.2 hR hu2.1 hrl.1 hRV
 have hV0:0≤V:=by
  have h1:=Int.mul_nonneg (show 0≤v1*4294967296+v2 by omega) (Int.le_of_lt hp)
  omega
 refine Tm.loop (fun t:Int×Int=>0≤t.1∧t.1<18446744073709551616∧0≤t.2∧t.2<4294967296∧top=t.1*v1+t.2∧R<(t.1+1)*V) (fun t=>t.1.toNat)
  ⟨hg0.1,hg0.2,hr0.1,by omega,ht,g_init hp (by decide) hv1.1 hv2.1 hV hvl.1 hR hu2.2 hrl.2 ht hr0.2 hg0.1⟩ ?_
 rintro⟨g,rest⟩ ⟨g1,g2,r1,r2,ht,hRg⟩
 dsimp only[bdivide_b2]at*
 have ev2:uw v2=v2:=uw_id hv2.1 (by omega)
 have eu2:uw u2=u2:=uw_id hu2.1 (by omega)
 have ev1:uw v1=v1:=uw_id (by omega) (by omega)
 refine Tm.bind (Q:=(·=decide (4294967295<g∨rest*4294967296+u2<g*v2))) (Tm.ite (fun h=>Tm.pure ?_) (fun h=>?_)) ?_
 · simp[show 4294967295<g from h]
 · refine Tm.step (idx_g (n:=m-2) (by rw[iw_eq]<;>omega) (by omega)) (Tm.step (idx_g (n:=n+m-2) (by rw[show iw ((n:Int)+(b.length:Int))=(n:Int)+m by rw[iw_eq]<;>omega,iw_eq]<;>omega) (by omega)) (Tm.pure ?_))
   rw[e2,e3,ev2,eu2,bor_hi r1 r2 hu2.1 hu2.2]
   have hgv:0≤g*v2∧g*v2≤4294967295*4294967295:=⟨Int.mul_nonneg g1 hv2.1,Int.mul_le_mul (by omega) (by omega) hv2.1 (by decide)⟩
   rw[uw_id hgv.1 (by omega)]
   have:¬4294967295<g:=h
   simp[this]
 rintro _ rfl
 refine Tm.ite (fun h=>?_) (fun h=>Tm.pure ?_)
 · have h:=of_decide_eq_true h
   have hgp:0<g:=by
    rcases h with h|h
    · omega
    · rcases Int.lt_or_le 0 g with h'|h'
      · exact h'
      · have:g=0:=by omega
        subst this
        simp at h;omega
   have hRg':R<g*V:=by
    rcases h with h|h
    · have:=Int.mul_le_mul_of_nonneg_right (show 4294967296≤g by omega) hV0
      omega
    · exact g_dec hp hV hvl.1 hR hrl.2 ht g1 h
   have ht':top=(g-1)*v1+(rest+v1):=by rw[ht];grind
   refine Tm.step (idx_g (n:=m-1) (by rw[iw_eq]<;>omega) (by omega)) ?_
   rw[e1,ev1,uw_id (show 0≤g-1 by omega) (by omega),uw_id (show 0≤rest+v1 by omega) (by omega)]
   refine Tm.ite (fun h1=>Tm.pure ?_) (fun h1=>Tm.pure ⟨⟨by dsimp only;omega,by dsimp only;omega,by dsimp only;omega,by dsimp only;omega,ht',?_⟩,?_⟩)
   · have hgW:=g_small hv1.1 ht' (show 4294967296≤rest+v1 by omega) htop
     have:=g_brk hp (by decide) hv2.1 hv2.2 hV hvl.1 hvl.2 hR hu2.1 hrl.1 ht' (show 4294967296≤rest+v1 by omega) (by omega) hgW
     refine⟨by omega,hgW,?_,by omega⟩
     rw[show g-1+1=g by omega];exact hRg'
   · show R<(g-1+1)*V
     rw[show g-1+1=g by omega];exact hRg'
   · show(g-1).toNat<g.toNat
     omega
 · have h:¬(4294967295<g∨rest*4294967296+u2<g*v2):=fun e=>h (by simpa using e)
   refine⟨g1,by omega,hRg,?_⟩
   exact g_end hp (by decide) hv1.1 hv2.1 hV hvl.1 hvl.2 hR hrl.1 ht g1 (by omega) (by omega)
open Go Go.X
theorem hi0{l:List Int}{m:Nat}(h:InB W32 l)(hv:val W32 l<W32^m):∀j,m≤j→l.getD j 0=0:=by
 intro j hj
 rcases Nat.lt_or_ge j l.length with hl|hl
 · rw[getD_ok hl]
   have h1:=h.get hl
   rcases Int.lt_or_le 0 l[j]with h2|h2
   · exfalso
     have e:=val_split (B:=W32) (l:=l) j (by omega)
     rw[List.drop_eq_getElem_cons hl,val_cons]at e
     have p0:=val_nonneg (B:=W32) (by decide) (h.take j)
     have p1:=val_nonneg (B:=W32) (by decide) (h.drop (j+1))
     have p2:=pow_pos' (B:=W32) (by decide) j
     have p3:=pow_mono (B:=W32) (by decide) hj
     have p4:W32^j*1≤W32^j*(l[j]+W32*val W32 (l.drop (j+1))):=Int.mul_le_mul_of_nonneg_left (by have:=Int.mul_nonneg (show(0:Int)≤W32 by decide) p1;omega) (by omega)
     omega
   · omega
 · exact getD_out hl
theorem val_hi{l:List Int}{m:Nat}(h:InB W32 l)(hz:∀j,m≤j→l.getD j 0=0):val W32 l<W32^m:=by
 rcases Nat.lt_or_ge m l.length with hm|hm
 · have:=val_cut (B:=W32) (l:=l) (n:=m) (by omega) (fun k hk hmk=>by have:=hz k hmk;rwa[getD_ok hk]at this)
   rw[←this]
   have h2:=val_lt (B:=W32) (by decide) (h.take m)
   rwa[List.length_take,Nat.min_eq_left (by omega)]at h2
 · have h2:=val_lt (B:=W32) (by decide) h
   have h3:=pow_mono (B:=W32) (by decide) hm
   omega
theorem getD_drop{l:List Int}{n j:Nat}:(l.drop n).getD j 0=l.getD (n+j) 0:=by
 rw[List.getD_eq_getElem?_getD,List.getD_eq_getElem?_getD,List.getElem?_drop]
theorem b3_tm{b v u:List Int}{n m:Nat}{g:Int}(hb:b.length=m)(hv:v.length=m)(hvB:InB W32 v)(huB:InB W32 u)(hu:n+m<u.length)(hul:u.length≤35184372088832)(g0:0≤g)(g1:g<4294967296):
 Tm (fun N=>loopM (bbelow_b1 N g ((n+m+1:Nat):Int) (n:Int) v) N (u,0,0,0)) (fun r=>InB W32 r.1∧r.1.length=u.length∧r.1.take n=u.take n∧(∀k,n+m<k→r.1.getD k 0=u.getD k 0)∧0≤r.2∧r.2≤1∧val W32 r.1=val W32 u-W32^n*(g*val W32 v)+W32^(n+(m+1))*r.2):=by
 refine Tm.loop (fun t:List Int×Int×Int×Int=>∃j:Nat,t.2.2.2=j∧j≤m+1∧InB W32 t.1∧t.1.length=u.length∧t.1.take n=u.take n∧(∀k,n+j≤k→t.1.getD k 0=u.getD k 0)∧0≤t.2.1∧t.2.1<4294967296∧(m<j→t.2.1=0)∧0≤t.2.2.1∧t.2.2.1≤1∧val W32 t.1=val W32 u-W32^n*(g*val W32 (v.take j))+W32^(n+j)*(t.2.1+t.2.2.1)) (fun t=>m+1-t.2.2.2.toNat)
  ⟨0,rfl,by omega,huB,rfl,rfl,fun _ _=>rfl,by simp,by simp,fun _=>rfl,by simp,by simp,by simp[val]⟩ ?_
 rintro⟨x,carry,borrow,jj⟩ ⟨j,rfl,hj,hB,hx,htk,hup,c0,c1,hc,b0,b1,hval⟩
 dsimp only[bbelow_b1]at*
 refine Tm.ite (fun h=>?_) (fun h=>Tm.pure ?_)
 · have hjm:j≤m:=by omega
   refine Tm.bind (digit_tm hvB) ?_
   rintro d rfl
   have hij:(n:Int)+(j:Int)=((n+j:Nat):Int):=by omega
   refine Tm.step (chk_ok (by omega)) (Tm.step (idx_g hij (by omega)) (Tm.step (chk_ok (by omega)) (Tm.step (idx_g hij (by omega)) (Tm.step (upd1_i hij (by omega)) (Tm.pure ?_)))))
   have hd:=hvB.getD (by decide) j
   have hvt:=val_take (B:=W32) (l:=v) (n:=j)
   have hd0:m≤j→v.getD j 0=0:=fun h=>getD_out (by omega)
   have huu:=hB.getD (by decide) (n+j)
   have hset:=fun y=>val_set (B:=W32) (l:=x) (n:=n+j) (y:=y) (by omega)
   rw[←getD_ok (l:=x) (n:=n+j) (by omega)]at hset
   generalize v.getD j 0=d at*
   generalize hUU:x.getD (n+j) 0=uu at*
   simp only[W32]at hd huu
   have hgd:0≤g*d∧g*d≤4294967295*4294967295:=⟨Int.mul_nonneg g0 hd.1,Int.mul_le_mul (by omega) (by omega) hd.1 (by decide)⟩
   rw[uw_id hgd.1 (by omega)]
   have hgd0:m≤j→g*d=0:=fun h=>by rw[hd0 h];simp
   generalize hC:g*d=gd at*
   rw[uw_id (show 0≤carry+gd by omega) (by omega),band_lo (by omega) (by omega),bshr32]
   have e1:uw (uw (uw uu-(carry+gd)%4294967296)-borrow)=(uu-(carry+gd)%4294967296-borrow)%18446744073709551616:=by
    rw[uw_mod,uw_mod,uw_mod];omega
   rw[e1,bshr63,uw32_mod]
   have hy:(uu-(carry+gd)%4294967296-borrow)%18446744073709551616%4294967296=uu-(carry+gd)%4294967296-borrow+4294967296*((uu-(carry+gd)%4294967296-borrow)%18446744073709551616/9223372036854775808):=by omega
   have hb':0≤(uu-(carry+gd)%4294967296-borrow)%18446744073709551616/9223372036854775808∧(uu-(carry+gd)%4294967296-borrow)%18446744073709551616/9223372036854775808≤1:=by omega
   have hy2:0≤(uu-(carry+gd)%4294967296-borrow)%18446744073709551616%4294967296∧(uu-(carry+gd)%4294967296-borrow)%18446744073709551616%4294967296<4294967296:=by omega
   generalize(uu-(carry+gd)%4294967296-borrow)%18446744073709551616%4294967296=y at*
   generalize(uu-(carry+gd)%4294967296-borrow)%18446744073709551616/9223372036854775808=bb at*
   have hdm:=Int.emod_add_mul_ediv (carry+gd) 4294967296
   refine⟨⟨j+1,by show iw ((j:Int)+1)=_;rw[iw_eq]<;>omega,by omega,hB.set (by simp only[W32];omega),by simp;omega,?_,?_,?_,?_,?_,hb'.1,hb'.2,?_⟩,?_⟩
   · show(x.set (n+j) y).take n=_
     rw[List.take_set_of_le (by omega)];exact htk
   · intro k hk
     show(x.set (n+j) y).getD k 0=_
     rw[getD_set (by omega),if_neg (by omega)];exact hup k (by omega)
   · show 0≤(carry+gd)/4294967296
     omega
   · show(carry+gd)/4294967296<4294967296
     omega
   · intro h1
     show(carry+gd)/4294967296=0
     have:=hgd0 (by omega)
     omega
   · show val W32 (x.set (n+j) y)=_+W32^(n+(j+1))*((carry+gd)/4294967296+bb)
     rw[hset,hval,hvt,hy]
     have hw:W32=4294967296:=rfl
     have hp:W32^(n+(j+1))=W32^n*W32^j*4294967296:=by rw[Int.pow_add,Int.pow_succ,hw];grind
     rw[hp,Int.pow_add]
     generalize W32^n=P at*
     generalize W32^j=Q at*
     have e3:g*(val W32 (v.take j)+Q*d)=g*val W32 (v.take j)+Q*gd:=by rw[←hC];grind
     rw[e3]
     generalize(carry+gd)/4294967296=cc at*
     generalize(carry+gd)%4294967296=c2 at*
     have e4:gd=c2+4294967296*cc-carry:=by omega
     rw[e4]
     grind
   · show m+1-(iw ((j:Int)+1)).toNat<m+1-((j:Int)).toNat
     rw[iw_eq]<;>omega
 · have hjm:j=m+1:=by omega
   subst hjm
   refine⟨hB,hx,htk,fun k hk=>hup k (by omega),b0,b1,?_⟩
   show val W32 x=_
   rw[hval,hc (by omega),take_all (by omega),Int.zero_add]
theorem b4_tm{v u:List Int}{n m:Nat}(hv:v.length=m)(hvB:InB W32 v)(huB:InB W32 u)(hu:n+m<u.length)(hul:u.length≤35184372088832):
 Tm (fun N=>loopM (bdivide_b3 N v n) N (u,0,0)) (fun r=>InB W32 r.1∧r.1.length=u.length∧r.1.take n=u.take n∧(∀k,n+m≤k→r.1.getD k 0=u.getD k 0)∧0≤r.2∧r.2≤1∧val W32 r.1=val W32 u+W32^n*val W32 v-W32^(n+m)*r.2):=by
 refine Tm.loop (fun t:List Int×Int×Int=>∃j:Nat,t.2.2=j∧j≤m∧InB W32 t.1∧t.1.length=u.length∧t.1.take n=u.take n∧(∀k,n+j≤k→t.1.getD k 0=u.getD k 0)∧0≤t.2.1∧t.2.1≤1∧val W32 t.1=val W32 u+W32^n*val W32 (v.take j)-W32^(n+j)*t.2.1) (fun t=>m-t.2.2.toNat)
  ⟨0,rfl,by omega,huB,rfl,rfl,fun _ _=>rfl,by simp,by simp,by simp[val]⟩ ?_
 rintro⟨x,carry,jj⟩ ⟨j,rfl,hj,hB,hx,htk,hup,c0,c1,hval⟩
 dsimp only[bdivide_b3]at*
 refine Tm.ite (fun h=>?_) (fun h=>Tm.pure ?_)
 · have hij:iw ((n:Int)+(j:Int))=((n+j:Nat):Int):=by rw[iw_eq]<;>omega
   refine Tm.step (idx_g hij (by omega)) (Tm.step (idx_g rfl (by omega)) (Tm.step (idx_g hij (by omega)) (Tm.step (upd1_i hij (by omega)) (Tm.pure ?_))))
   have hd:=hvB.getD (by decide) j
   have hvt:=val_take (B:=W32) (l:=v) (n:=j)
   have huu:=hB.getD (by decide) (n+j)
   have hset:=fun y=>val_set (B:=W32) (l:=x) (n:=n+j) (y:=y) (by omega)
   rw[←getD_ok (l:=x) (n:=n+j) (by omega)]at hset
   generalize v.getD j 0=d at*
   generalize hUU:x.getD (n+j) 0=uu at*
   simp only[W32]at hd huu
   have e1:uw (carry+uw (uw uu+uw d))=carry+uu+d:=by rw[uw_mod,uw_mod,uw_mod,uw_mod];omega
   rw[e1,bshr32,uw32_mod]
   have hdm:=Int.emod_add_mul_ediv (carry+uu+d) 4294967296
   refine⟨⟨j+1,by show iw ((j:Int)+1)=_;rw[iw_eq]<;>omega,by omega,hB.set (by simp only[W32];omega),by simp;omega,?_,?_,?_,?_,?_⟩,?_⟩
   · show(x.set (n+j) _).take n=_
     rw[List.take_set_of_le (by omega)];exact htk
   · intro k hk
     show(x.set (n+j) _).getD k 0=_
     rw[getD_set (by omega),if_neg (by omega)];exact hup k (by omega)
   · show 0≤(carry+uu+d)/4294967296
     omega
   · show(carry+uu+d)/4294967296≤1
     omega
   · show val W32 (x.set (n+j) ((carry+uu+d)%4294967296))=_-W32^(n+(j+1))*((carry+uu+d)/4294967296)
     rw[hset,hval,hvt]
     have hw:W32=4294967296:=rfl
     have hp:W32^(n+(j+1))=W32^n*W32^j*4294967296:=by rw[Int.pow_add,Int.pow_succ,hw];grind
     rw[hp,Int.pow_add]
     generalize W32^n=P at*
     generalize W32^j=Q at*
     generalize(carry+uu+d)/4294967296=cc at*
     generalize(carry+uu+d)%4294967296=c2 at*
     have e4:c2=carry+uu+d-4294967296*cc:=by omega
     rw[e4]
     grind
   · show m-(iw ((j:Int)+1)).toNat<m-((j:Int)).toNat
     rw[iw_eq]<;>omega
 · have hjm:j=m:=by omega
   subst hjm
   rw[take_all (by omega)]at hval
   exact⟨hB,hx,htk,hup,c0,c1,hval⟩
theorem val_above{u x:List Int}{n:Nat}{t:Int}(hu:n≤u.length)(hx:x.length=u.length)(htk:x.take n=u.take n)(h:val W32 x=val W32 u+W32^n*t):val W32 (x.drop n)=val W32 (u.drop n)+t:=by
 rw[val_split (B:=W32) (l:=x) n (by omega),val_split (B:=W32) (l:=u) n hu,htk]at h
 have h1:W32^n*val W32 (x.drop n)=W32^n*(val W32 (u.drop n)+t):=by rw[Int.mul_add];omega
 exact Int.eq_of_mul_eq_mul_left (by have:=pow_pos' (B:=W32) (by decide) n;omega) h1
theorem top3{l:List Int}{m:Nat}(h:InB W32 l)(hm:2≤m)(hl:m<l.length)(hv:val W32 l<W32^(m+1)):val W32 l=((l.getD m 0*W32+l.getD (m-1) 0)*W32+l.getD (m-2) 0)*W32^(m-2)+val W32 (l.take (m-2)):=by
 have h0:=val_cut (B:=W32) (l:=l) (n:=m+1) (by omega) (fun k hk hmk=>by have:=hi0 h hv k hmk;rwa[getD_ok hk]at this)
 obtain⟨k,rfl⟩:∃k,m=k+2:=⟨m-2,by omega⟩
 rw[←h0,val_take,val_take (n:=k+1),val_take (n:=k),show k+2-1=k+1 by omega,show k+2-2=k by omega,Int.pow_succ,Int.pow_succ]
 grind
theorem top2{l:List Int}{m:Nat}(hm:2≤m)(hl:l.length=m):val W32 l=(l.getD (m-1) 0*W32+l.getD (m-2) 0)*W32^(m-2)+val W32 (l.take (m-2)):=by
 obtain⟨k,rfl⟩:∃k,m=k+2:=⟨m-2,by omega⟩
 have h0:l.take (k+1+1)=l:=take_all (by omega)
 rw[←h0,val_take,val_take (n:=k),h0,show k+2-1=k+1 by omega,show k+2-2=k by omega,Int.pow_succ]
 grind
theorem b1_tm{b v u q:List Int}{m:Nat}(hb:b.length=m)(hm:2≤m)(hv:v.length=m)(hvB:InB W32 v)(huB:InB W32 u)(hqB:InB W32 q)(hu:u.length=q.length+m)(hul:u.length≤17592186044416)(hv1:0<v.getD (m-1) 0)(h0:val W32 (u.drop q.length)<val W32 v):
 Tm (fun N=>loopM (bdivide_b1 N b v) N (u,q,iw ((q.length:Int)-1))) (fun r=>InB W32 r.1∧r.1.length=u.length∧InB W32 r.2∧r.2.length=q.length∧val W32 u=val W32 r.1+val W32 v*val W32 r.2∧val W32 r.1<val W32 v):=by
 refine Tm.loop (fun t:List Int×List Int×Int=>∃k:Nat,t.2.2=(k:Int)-1∧k≤q.length∧InB W32 t.1∧t.1.length=u.length∧InB W32 t.2.1∧t.2.1.length=q.length∧val W32 u=val W32 t.1+W32^k*(val W32 v*val W32 (t.2.1.drop k))∧val W32 (t.1.drop k)<val W32 v) (fun t=>(t.2.2+1).toNat)
  ⟨q.length,by rw[iw_eq]<;>omega,Nat.le_refl _,huB,rfl,hqB,rfl,by simp[val],h0⟩ ?_
 rintro⟨x,y,ii⟩ ⟨k,rfl,hk,hxB,hx,hyB,hy,hval,hlt⟩
 dsimp only[bdivide_b1]at*
 refine Tm.ite (fun h=>?_) (fun h=>Tm.pure ?_)
 · obtain⟨n,rfl⟩:∃n,k=n+1:=⟨k-1,by omega⟩
   have hi:((n+1:Nat):Int)-1=(n:Int):=by omega
   rw[hi]
   have him:iw ((n:Int)+(b.length:Int))=((n+m:Nat):Int):=by rw[iw_eq]<;>omega
   have him1:iw (((n+m:Nat):Int)-1)=((n+m-1:Nat):Int):=by rw[iw_eq]<;>omega
   have hbm:iw ((b.length:Int)-1)=((m-1:Nat):Int):=by rw[iw_eq]<;>omega
   rw[him,him1,hbm]
   refine Tm.step (idx_g rfl (by omega)) (Tm.step (idx_g rfl (by omega)) (Tm.step (idx_g rfl (by omega)) ?_))
   have hV:=top2 hm hv
   have hVl:=val_nonneg (B:=W32) (by decide) (hvB.take (m-2))
   have hVl':=val_lt (B:=W32) (by decide) (hvB.take (m-2))
   rw[List.length_take,Nat.min_eq_left (by omega)]at hVl'
   have hVW:val W32 v<W32^m:=by have:=val_lt (B:=W32) (by decide) hvB;rwa[hv]at this
   have hxn:=hxB.getD (B:=W32) (by decide) n
   have hRe:val W32 (x.drop n)=x.getD n 0+W32*val W32 (x.drop (n+1)):=by rw[List.drop_eq_getElem_cons (by omega),val_cons,getD_ok (by omega)]
   have hR0:=val_nonneg (B:=W32) (by decide) (hxB.drop n)
   have hRV:val W32 (x.drop n)<4294967296*val W32 v:=by
    rw[hRe];simp only[W32]at*;omega
   have hR1:val W32 (x.drop n)<W32^(m+1):=by
    rw[Int.pow_succ];simp only[W32]at*;omega
   have hR:=top3 (hxB.drop n) hm (by simp;omega) hR1
   have hRl:=val_nonneg (B:=W32) (by decide) ((hxB.drop n).take (m-2))
   have hRl':=val_lt (B:=W32) (by decide) ((hxB.drop n).take (m-2))
   rw[List.length_take,List.length_drop,Nat.min_eq_left (by omega)]at hRl'
   rw[getD_drop,getD_drop,getD_drop,show n+(m-1)=n+m-1 by omega,show n+(m-2)=n+m-2 by omega]at hR
   have d1:=hvB.getD (B:=W32) (by decide) (m-1)
   have d2:=hvB.getD (B:=W32) (by decide) (m-2)
   have d3:=hxB.getD (B:=W32) (by decide) (n+m)
   have d4:=hxB.getD (B:=W32) (by decide) (n+m-1)
   have d5:=hxB.getD (B:=W32) (by decide) (n+m-2)
   have hp:=pow_pos' (B:=W32) (by decide) (m-2)
   have hV0:=val_nonneg (B:=W32) (by decide) hvB
   simp only[W32]at d1 d2 d3 d4 d5
   rw[uw_id (z:=x.getD (n+m) 0) d3.1 (by omega),uw_id (z:=x.getD (n+m-1) 0) d4.1 (by omega),uw_id (z:=v.getD (m-1) 0) d1.1 (by omega),bor_hi d3.1 d3.2 d4.1 d4.2]
   have t0:0≤x.getD (n+m) 0*4294967296+x.getD (n+m-1) 0:=by omega
   have t1:x.getD (n+m) 0*4294967296+x.getD (n+m-1) 0<18446744073709551616:=by omega
   refine Tm.step (sdiv_ok (by omega)) (Tm.step (idx_g rfl (by omega)) ?_)
   rw[uw_id (z:=v.getD (m-1) 0) d1.1 (by omega)]
   refine Tm.step (srem_ok (by omega)) ?_
   rw[tdivP t0,tmodP t0]
   have hq0:=Int.ediv_nonneg t0 (show 0≤v.getD (m-1) 0 by omega)
   have hq1:(x.getD (n+m) 0*4294967296+x.getD (n+m-1) 0)/v.getD (m-1) 0≤x.getD (n+m) 0*4294967296+x.getD (n+m-1) 0:=Int.ediv_le_self _ t0
   have hm0:=Int.emod_nonneg (x.getD (n+m) 0*4294967296+x.getD (n+m-1) 0) (show v.getD (m-1) 0≠0 by omega)
   have hm1:=Int.emod_lt_of_pos (x.getD (n+m) 0*4294967296+x.getD (n+m-1) 0) hv1
   have hdm:=Int.emod_add_mul_ediv (x.getD (n+m) 0*4294967296+x.getD (n+m-1) 0) (v.getD (m-1) 0)
   rw[show IntKind.u64.wrap ((x.getD (n+m) 0*4294967296+x.getD (n+m-1) 0)/v.getD (m-1) 0)=(x.getD (n+m) 0*4294967296+x.getD (n+m-1) 0)/v.getD (m-1) 0 from uw_id hq0 (by omega)]
   refine Tm.bind (b2_tm (b:=b) (v:=v) (u:=x) (n:=n) (m:=m) (V:=val W32 v) (R:=val W32 (x.drop n)) (top:=x.getD (n+m) 0*4294967296+x.getD (n+m-1) 0) hb hv hm (by omega) (by omega) rfl rfl rfl ⟨hv1,d1.2⟩ d2 d5 hp hV ⟨hVl,hVl'⟩ hR ⟨hRl,hRl'⟩ hRV
    (by have:=Int.mul_comm (v.getD (m-1) 0) ((x.getD (n+m) 0*4294967296+x.getD (n+m-1) 0)/v.getD (m-1) 0);omega) ⟨hm0,hm1⟩ ⟨hq0,by omega⟩) ?_
   rintro g ⟨g0,g1,hgR,hgV⟩
   clear hdm hm0 hm1 hq0 hq1
   generalize hRR:val W32 (x.drop n)=R at*
   generalize hVV:val W32 v=V at*
   have hsg:iw (((n+m:Nat):Int)+1)=((n+m+1:Nat):Int):=by rw[iw_eq]<;>omega
   rw[hsg]
   refine Tm.step (f:=seg _ _ _) (a:=()) (by unfold seg;rw[if_pos (by omega)]) ?_
   refine Tm.bind (Q:=fun r:Bool×List Int=>InB W32 r.2∧r.2.length=x.length∧r.2.take n=x.take n∧(∀k,n+m<k→r.2.getD k 0=x.getD k 0)∧((r.1=false∧val W32 (r.2.drop n)=R-g*V)∨(r.1=true∧val W32 (r.2.drop n)=R-g*V+W32^(m+1)))) ?_ ?_
   · unfold bbelow
     refine Tm.bind (b3_tm (b:=b) (v:=v) (u:=x) (n:=n) (m:=m) (g:=g) hb hv hvB hxB (by omega) (by omega) g0 g1) ?_
     rintro⟨z,bo⟩ ⟨z1,z2,z3,z4,z5,z6,z7⟩
     dsimp only at*
     refine Tm.pure ⟨z1,z2,z3,z4,?_⟩
     have hva:=val_above (u:=x) (x:=z) (n:=n) (t:=-(g*V)+W32^(m+1)*bo) (by omega) z2 z3 (by rw[z7,hVV,Int.pow_add W32 n (m+1)];grind)
     rw[hRR]at hva
     rcases(show bo=0∨bo=1 by omega)with rfl|rfl
     · exact .inl ⟨rfl,by rw[hva,Int.mul_zero];omega⟩
     · exact .inr ⟨rfl,by rw[hva,Int.mul_one];omega⟩
   rintro⟨bz,z⟩ ⟨z1,z2,z3,z4,z5⟩
   dsimp only at*
   have hzn:=val_nonneg (B:=W32) (by decide) (z1.drop n)
   have hzW:val W32 (z.drop n)<W32^(m+1):=val_hi (z1.drop n) (fun j hj=>by rw[getD_drop,z4 _ (by omega)];have:=hi0 (hxB.drop n) (by rw[hRR];exact hR1) j hj;rwa[getD_drop]at this)
   have e1:(g+1)*V=g*V+V:=by grind
   refine Tm.bind (Q:=fun r:List Int×Int=>InB W32 r.1∧r.1.length=x.length∧r.1.take n=x.take n∧0≤r.2∧r.2<4294967296∧val W32 (r.1.drop n)=R-r.2*V∧val W32 (r.1.drop n)<V) ?_ ?_
   · refine Tm.ite (fun hz=>?_) (fun hz=>Tm.pure ?_)
     · have z6:val W32 (z.drop n)=R-g*V+W32^(m+1):=by
        rcases z5 with z5|z5
        · rw[z5.1]at hz;cases hz
        · exact z5.2
       refine Tm.bind (b4_tm (v:=v) (u:=z) (n:=n) (m:=m) hv hvB z1 (by omega) (by omega)) ?_
       rintro⟨s,carry⟩ ⟨s1,s2,s3,s4,s5,s6,s7⟩
       dsimp only at*
       have hset:=fun y=>val_set (B:=W32) (l:=s) (n:=n+m) (y:=y) (by omega)
       rw[←getD_ok (l:=s) (n:=n+m) (by omega)]at hset
       have hsd:=s1.getD (B:=W32) (by decide) (n+m)
       refine Tm.step (idx_g rfl (by omega)) (Tm.step (idx_g rfl (by omega)) (Tm.step (upd1_i rfl (by omega)) (Tm.pure ?_)))
       have hsu:=fun k hk=>s4 k hk
       generalize hD:s.getD (n+m) 0=D at*
       simp only[W32]at hsd
       have ec:uw32 (D+uw32 carry)=(D+carry)%4294967296:=by rw[uw32_mod,uw32_mod];omega
       rw[ec]
       have hdm:=Int.emod_add_mul_ediv (D+carry) 4294967296
       have hdb:0≤(D+carry)%4294967296∧(D+carry)%4294967296<4294967296:=by omega
       generalize(D+carry)%4294967296=D' at*
       generalize(D+carry)/4294967296=tt at*
       have hB':InB W32 (s.set (n+m) D'):=s1.set (by simp only[W32];omega)
       have hva:=val_above (u:=z) (x:=s.set (n+m) D') (n:=n) (t:=V-W32^(m+1)*tt) (by omega) (by simp;omega) (by rw[List.take_set_of_le (by omega)];exact s3) (by
        rw[hset,s7,hVV,Int.pow_add,Int.pow_succ]
        have hw:W32=4294967296:=rfl
        have e4:D'=D+carry-4294967296*tt:=by omega
        rw[e4]
        generalize W32^n=P at*
        generalize W32^m=Q at*
        rw[hw]
        grind)
       have hlo:=val_nonneg (B:=W32) (by decide) (hB'.drop n)
       have hhi:val W32 ((s.set (n+m) D').drop n)<W32^(m+1):=val_hi (hB'.drop n) (fun j hj=>by
        rw[getD_drop,getD_set (by omega),if_neg (by omega),s4 _ (by omega),z4 _ (by omega)]
        have:=hi0 (hxB.drop n) (by rw[hRR];exact hR1) j hj;rwa[getD_drop]at this)
       have hpp:=pow_pos' (B:=W32) (by decide) (m+1)
       have hgp:0<g:=by
        rcases Int.lt_or_le 0 g with h'|h'
        · exact h'
        · have:g=0:=by omega
          subst this
          rw[Int.zero_mul]at z6;omega
       have htt:tt=1:=by
        have e3:tt=0∨tt=1:=by omega
        rcases e3 with e3|e3
        · subst e3
          rw[hva,z6,Int.mul_zero]at hhi
          omega
        · exact e3
       subst htt
       have e5:(g-1)*V=g*V-V:=by grind
       refine⟨hB',by simp;omega,by dsimp only;rw[List.take_set_of_le (by omega)];exact s3.trans z3,?_,?_,?_,?_⟩
       · show 0≤uw (g-1)
         rw[uw_id]<;>omega
       · show uw (g-1)<_
         rw[uw_id]<;>omega
       · show val W32 ((s.set (n+m) D').drop n)=R-uw (g-1)*V
         rw[uw_id (show 0≤g-1 by omega) (by omega),hva,z6,e5,Int.mul_one];omega
       · show val W32 ((s.set (n+m) D').drop n)<V
         rw[hva,z6,Int.mul_one];omega
     · have z6:val W32 (z.drop n)=R-g*V:=by
        rcases z5 with z5|z5
        · exact z5.2
        · exact absurd z5.1 hz
       exact⟨z1,z2,z3,g0,g1,z6,by dsimp only;omega⟩
   rintro⟨s,g'⟩ ⟨s1,s2,s3,s4,s5,s6,s7⟩
   dsimp only at*
   refine Tm.step (idx_g rfl (by omega)) (Tm.step (upd1_i rfl (by omega)) (Tm.pure ?_))
   have eg:uw32 g'=g':=by rw[uw32_mod];omega
   rw[eg]
   refine⟨⟨n,by show iw ((n:Int)-1)=_;rw[iw_eq]<;>omega,by omega,s1,s2.trans hx,hyB.set (by simp only[W32];omega),by simp;omega,?_,s7⟩,?_⟩
   · show val W32 u=val W32 s+W32^n*(V*val W32 ((y.set n g').drop n))
     rw[List.drop_eq_getElem_cons (by simp;omega),val_cons,List.getElem_set_self,List.drop_set_of_lt (by omega),hval,val_split (B:=W32) (l:=s) n (by omega),s6,s3,val_split (B:=W32) (l:=x) n (by omega),hRR,Int.pow_succ]
     generalize W32^n=P at*
     generalize W32=W at*
     grind
   · show(iw ((n:Int)-1)+1).toNat<((n:Int)+1).toNat
     rw[iw_eq]<;>omega
 · obtain rfl:k=0:=by omega
   simp only[List.drop_zero,Int.pow_zero,Int.one_mul]at hval hlt
   exact⟨hxB,hx,hyB,hy,hval,hlt⟩
open Go Go.X
theorem dvd_emod_of{x:Int}{s:Nat}(hs:s≤31)(z:Int)(h:x=2^s*z):x%4294967296%2^s=0:=by
 have hPQ:=pow_dvd32 hs
 rw[←hPQ,Int.emod_emod_of_dvd _ (Int.dvd_mul_right _ _),h,Int.mul_emod_right]
theorem b5_tm{u z:List Int}{n:Int}{s m:Nat}{t:Int}(hn:uw n=s)(hs:s≤31)(hz:z=List.replicate m 0)(huB:InB W32 u)(hu:m<u.length)(hul:u.length≤17592186044416)(hm:0<m)(hv:val W32 u<W32^m)(ht:val W32 u=t*2^s):
 Tm (fun N=>loopM (bdivide_b4 N n u z) N (z,0)) (fun r=>InB W32 r∧r.length=m∧val W32 r=t):=by
 subst hz
 have hPQ:=pow_dvd32 hs
 have hP:(0:Int)<2^s:=Int.pow_pos (by decide)
 have hQ:(0:Int)<2^(32-s):=Int.pow_pos (by decide)
 have hP31:(2:Int)^s≤2147483648:=pow_mono (B:=2) (by decide) hs
 have c0:u.getD 0 0%2^s=0:=by
  have h1:val W32 u%4294967296=u.getD 0 0:=by
   cases u with
   |nil=>simp at hu
   |cons x l=>
    have:=huB.head
    simp only[val,List.getD_cons_zero]
    rw[show W32*val W32 l=4294967296*val W32 l from rfl,Int.add_mul_emod_self_left]
    simp only[W32]at this;omega
  rw[←h1];exact dvd_emod_of hs t (by rw[ht,Int.mul_comm])
 refine Tm.loop (fun r:List Int×Int=>∃j:Nat,r.2=j∧j≤m∧InB W32 r.1∧r.1.length=m∧val W32 (r.1.take j)*2^s=val W32 (u.take j)+W32^j*(u.getD j 0%2^s)) (fun r=>m-r.2.toNat)
  ⟨0,rfl,by omega,InB.rep (by decide),by simp,by rw[c0];simp[val]⟩ ?_
 rintro⟨r,jj⟩ ⟨j,rfl,hj,hB,hr,hval⟩
 dsimp only[bdivide_b4]at*
 rw[List.length_replicate]
 refine Tm.ite (fun h=>?_) (fun h=>Tm.pure ?_)
 · have hj1:iw ((j:Int)+1)=((j+1:Nat):Int):=by rw[iw_eq]<;>omega
   rw[hj1,hn]
   refine Tm.step (idx_g rfl (by omega)) (Tm.step (idx_g rfl (by omega)) (Tm.step (chk_ok (by omega)) (Tm.step (idx_g rfl (by omega)) (Tm.step (upd1_i rfl (by omega)) (Tm.pure ?_)))))
   have hx:=huB.getD (B:=W32) (by decide) j
   have hy:=huB.getD (B:=W32) (by decide) (j+1)
   have hut:=val_take (B:=W32) (l:=u) (n:=j)
   have hts:=fun y=>take_set (l:=r) (n:=j) (y:=y) (by omega)
   generalize u.getD j 0=x at*
   generalize hY:u.getD (j+1) 0=y at*
   simp only[W32]at hx hy
   rw[uw_id hx.1 (by omega),uw_id hy.1 (by omega),bor_hi hy.1 hy.2 hx.1 hx.2]
   have esh:bshr .u64 (y*4294967296+x) (s:Int)=(y*4294967296+x)/2^s:=by
    unfold bshr
    rw[show min ((s:Int)).toNat IntKind.u64.bits=s by show min _ 64=s;omega]
    exact Int.fdiv_eq_ediv_of_nonneg _ (Int.le_of_lt hP)
   rw[esh]
   have hx1:=Int.emod_add_mul_ediv x (2^s)
   have hy1:=Int.emod_add_mul_ediv y (2^s)
   have hxm0:=Int.emod_nonneg x (show(2:Int)^s≠0 by omega)
   have hxm1:=Int.emod_lt_of_pos x hP
   have hym0:=Int.emod_nonneg y (show(2:Int)^s≠0 by omega)
   have hym1:=Int.emod_lt_of_pos y hP
   have hxd1:x/2^s<2^(32-s):=Int.ediv_lt_of_lt_mul hP (by rw[Int.mul_comm,hPQ];omega)
   have hxd0:0≤x/2^s:=Int.ediv_nonneg hx.1 (by omega)
   have e1:(y*4294967296+x)/2^s=y*2^(32-s)+x/2^s:=by
    rw[←hPQ,show y*(2^s*2^(32-s))+x=x+2^s*(y*2^(32-s)) by grind,Int.add_mul_ediv_left _ _ (by omega),Int.add_comm]
   have e2:uw32 (y*2^(32-s)+x/2^s)=(y%2^s)*2^(32-s)+x/2^s:=by
    have hle:(y%2^s)*2^(32-s)+2^(32-s)≤4294967296:=by
     have:=Int.mul_le_mul_of_nonneg_right (show y%2^s+1≤2^s by omega) (show(0:Int)≤2^(32-s) by omega)
     rw[hPQ]at this
     have e:(y%2^s+1)*2^(32-s)=(y%2^s)*2^(32-s)+2^(32-s):=by grind
     omega
    have hge:0≤(y%2^s)*2^(32-s):=Int.mul_nonneg hym0 (by omega)
    have e3:y*2^(32-s)+x/2^s=(y%2^s)*2^(32-s)+x/2^s+4294967296*(y/2^s):=by
     have e4:4294967296*(y/2^s)=2^s*2^(32-s)*(y/2^s):=by rw[hPQ]
     have e5:y*2^(32-s)=(y%2^s+2^s*(y/2^s))*2^(32-s):=by rw[hy1]
     rw[e4,e5];grind
    rw[uw32_mod,e3,Int.add_mul_emod_self_left,Int.emod_eq_of_lt (by omega) (by omega)]
   rw[e1,e2]
   have hdig:0≤(y%2^s)*2^(32-s)+x/2^s∧(y%2^s)*2^(32-s)+x/2^s<4294967296:=by
    rw[←e2,uw32_mod];omega
   refine⟨⟨j+1,rfl,by omega,hB.set (by simp only[W32];exact hdig),by simp;omega,?_⟩,?_⟩
   · show val W32 ((r.set j _).take (j+1))*2^s=val W32 (u.take (j+1))+W32^(j+1)*(u.getD (j+1) 0%2^s)
     rw[hY]
     rw[hts,hut,Int.pow_succ]
     have hw:W32=2^s*2^(32-s):=hPQ.symm
     have e6:W32^j*W32*(y%2^s)=W32^j*(2^s*2^(32-s))*(y%2^s):=by rw[←hw]
     rw[e6]
     have e7:W32^j*x=W32^j*(x%2^s+2^s*(x/2^s)):=by rw[hx1]
     rw[e7]
     generalize W32^j=P at*
     generalize val W32 (r.take j)=a1 at*
     generalize val W32 (u.take j)=a2 at*
     have:(a1+P*((y%2^s)*2^(32-s)+x/2^s))*2^s=a1*2^s+P*((y%2^s)*2^(32-s)+x/2^s)*2^s:=by grind
     rw[this,hval]
     grind
   · show m-(((j+1:Nat):Int)).toNat<m-((j:Int)).toNat
     omega
 · obtain rfl:j=m:=by omega
   rw[take_all (by omega),hi0 huB hv j (Nat.le_refl _)]at hval
   have h1:=val_cut (B:=W32) (l:=u) (n:=j) (by omega) (fun k hk hmk=>by have:=hi0 huB hv k hmk;rwa[getD_ok hk]at this)
   rw[h1,ht]at hval
   simp only[Int.zero_emod,Int.mul_zero,Int.add_zero]at hval
   exact⟨hB,hr,Int.eq_of_mul_eq_mul_right (by omega) hval⟩
theorem nrm_last{l:List Int}(h:InB W32 l)(hn:Nrm l)(hl:0<l.length):0<l.getD (l.length-1) 0:=by
 have h1:=h.getD (B:=W32) (by decide) (l.length-1)
 have h2:l.getD (l.length-1) 0≠0:=by
  intro e
  apply hn
  rw[List.getLast?_eq_getElem?,List.getElem?_eq_getElem (by omega)]
  rw[getD_ok (by omega)]at e
  rw[e]
 omega
theorem bdivide_tm{a b:List Int}(ha:InB W32 a)(hb:InB W32 b)(na:Nrm a)(nb:Nrm b)(hb0:0<b.length)(hl:a.length≤8796093022208)(hl':b.length≤8796093022208):
 Tm (fun N=>bdivide N a b) (fun r=>Dg W32 r.1 (val W32 a/val W32 b)∧Dg W32 r.2 (val W32 a%val W32 b)∧r.1.length≤a.length∧r.2.length≤a.length+1):=by
 unfold bdivide
 have hA0:=val_nonneg (B:=W32) (by decide) ha
 have hB0:=nrm_pos (B:=W32) (by decide) hb nb (by intro e;rw[e]at hb0;simp at hb0)
 refine Tm.bind (bcompare_tm ha hb na nb (by omega) (by omega)) ?_
 rintro _ rfl
 refine Tm.ite (fun h=>?_) (fun h=>?_)
 · have hlt:val W32 a<val W32 b:=by revert h;unfold sgn;split<;>(try split)<;>omega
   refine Tm.bind (btrim_tm ha (by omega)) ?_
   rintro r ⟨hr,hrl⟩
   refine Tm.pure ⟨?_,?_,by simp,by dsimp only;omega⟩
   · rw[Int.ediv_eq_zero_of_lt hA0 hlt];exact Dg.nil
   · rw[Int.emod_eq_of_lt hA0 hlt];exact hr
 · have hge:val W32 b≤val W32 a:=by revert h;unfold sgn;split<;>(try split)<;>omega
   have hle:b.length≤a.length:=by
    rcases Nat.lt_or_ge a.length b.length with h'|h'
    · have:=len_cmp w32_pos ha hb nb h';omega
    · exact h'
   have hlast:=nrm_last hb nb hb0
   have hlast':=hb.getD (B:=W32) (by decide) (b.length-1)
   refine Tm.ite (fun h1=>?_) (fun h1=>?_)
   · have hb1:b.length=1:=by omega
     refine Tm.step (idx_g (n:=0) rfl (by omega)) ?_
     have hbv:val W32 b=b.getD 0 0:=by
      match b,hb1 with
      |[x],_=>simp[val]
     rw[hb1]at hlast hlast'
     simp only[Nat.sub_self]at hlast hlast'
     refine Tm.bind (bshort_tm ha hlast hlast'.2 (by omega)) ?_
     rintro⟨q,r⟩ ⟨hq,hqv,hrv,hql⟩
     dsimp only at*
     refine Tm.bind (btrim_tm hq (by omega)) ?_
     rintro q' ⟨hq',hql'⟩
     have hr0:=Int.emod_nonneg (val W32 a) (show b.getD 0 0≠0 by omega)
     have hr1:=Int.emod_lt_of_pos (val W32 a) hlast
     refine Tm.bind (btrim_tm (d:=[r]) (InB.cons (by rw[hrv];omega) InB.nil) (by simp)) ?_
     rintro r' ⟨hr',hrl'⟩
     refine Tm.pure ⟨?_,?_,by dsimp only;omega,by simp at hrl';dsimp only;omega⟩
     · rw[hbv,←hqv];exact hq'
     · rw[hbv,←hrv];simpa[val]using hr'
   · have hm:2≤b.length:=by omega
     generalize hmm:b.length=m at*
     have hbm:iw ((m:Int)-1)=((m-1:Nat):Int):=by rw[iw_eq]<;>omega
     rw[hbm]
     refine Tm.step (idx_g rfl (by omega)) ?_
     generalize hx:b.getD (m-1) 0=x at*
     refine Tm.bind (lz32_tm hlast hlast'.2) ?_
     rintro _ ⟨s,rfl,hs,s1,s2⟩
     have eus:uw (s:Int)=s:=uw_id (by omega) (by omega)
     refine Tm.bind (bshift_tm eus hs ha (by omega)) ?_
     rintro u ⟨huB,huv,hul⟩
     refine Tm.bind (bshift_tm eus hs hb (by omega)) ?_
     rintro v0 ⟨hvB0,hvv0,hvl0⟩
     refine Tm.step (cut_i (m:=0) (n:=m) rfl rfl (by omega) (by omega)) ?_
     simp only[List.drop_zero]
     have hPQ:=pow_dvd32 hs
     have hP:(0:Int)<2^s:=Int.pow_pos (by decide)
     have hQ:(0:Int)<2^(32-s):=Int.pow_pos (by decide)
     have hP31:(2:Int)^s≤2147483648:=pow_mono (B:=2) (by decide) hs
     have hbt:val W32 b=val W32 (b.take (m-1))+W32^(m-1)*x:=by
      have:=val_take (B:=W32) (l:=b) (n:=m-1)
      rwa[take_all (by omega),hx]at this
     have hbl:=val_lt (B:=W32) (by decide) (hb.take (m-1))
     rw[List.length_take,Nat.min_eq_left (by omega)]at hbl
     have hbl0:=val_nonneg (B:=W32) (by decide) (hb.take (m-1))
     have pm:=pow_pos' (B:=W32) (by decide) (m-1)
     have pm1:W32^m=W32^(m-1)*W32:=by rw[←Int.pow_succ];congr 1;omega
     have hx32:(x+1)*2^s≤4294967296:=by
      have h1:x*2^s<2^(32-s)*2^s:=by rw[Int.mul_comm (2^(32-s)),hPQ];exact s2
      have h2:=Int.lt_of_mul_lt_mul_right h1 (by omega)
      have h3:=Int.mul_le_mul_of_nonneg_right (show x+1≤2^(32-s) by omega) (show(0:Int)≤2^s by omega)
      rw[Int.mul_comm (2^(32-s)),hPQ]at h3
      exact h3
     have hv0m:val W32 v0<W32^m:=by
      have h1:val W32 b<W32^(m-1)*(x+1):=by rw[Int.mul_add];omega
      have h2:=Int.mul_lt_mul_of_pos_right h1 hP
      have h3:=Int.mul_le_mul_of_nonneg_left hx32 (show 0≤W32^(m-1) by omega)
      have e:W32^(m-1)*(x+1)*2^s=W32^(m-1)*((x+1)*2^s):=by grind
      rw[hvv0,pm1]
      simp only[W32]at*;omega
     have hvv:val W32 (v0.take m)=val W32 b*2^s:=by
      rw[←hvv0]
      exact val_cut (by omega) (fun k hk hmk=>by have:=hi0 hvB0 hv0m k hmk;rwa[getD_ok hk]at this)
     have hvl:(v0.take m).length=m:=by simp;omega
     have hvB:=hvB0.take m
     generalize v0.take m=v at*
     have hvge:2147483648*W32^(m-1)≤val W32 v:=by
      rw[hvv]
      have h1:=Int.mul_le_mul_of_nonneg_right (show W32^(m-1)*x≤val W32 b by omega) (show(0:Int)≤2^s by omega)
      have h2:=Int.mul_le_mul_of_nonneg_left s1 (show 0≤W32^(m-1) by omega)
      have e:W32^(m-1)*x*2^s=W32^(m-1)*(x*2^s):=by grind
      rw[Int.mul_comm 2147483648];omega
     have hv1:0<v.getD (m-1) 0:=by
      have h1:val W32 v=val W32 (v.take (m-1))+W32^(m-1)*v.getD (m-1) 0:=by
       have:=val_take (B:=W32) (l:=v) (n:=m-1)
       rwa[take_all (by omega)]at this
      have h2:=val_lt (B:=W32) (by decide) (hvB.take (m-1))
      rw[List.length_take,Nat.min_eq_left (by omega)]at h2
      have h3:=hvB.getD (B:=W32) (by decide) (m-1)
      rcases Int.lt_or_le 0 (v.getD (m-1) 0)with h4|h4
      · exact h4
      · have h5:v.getD (m-1) 0=0:=by omega
        rw[h5]at h1
        omega
     refine Tm.step (mk1_ok (n:=a.length+1-m) (by rw[hul,iw_eq]<;>omega) (by omega) (by decide)) ?_
     have hul2:u.length=(List.replicate (a.length+1-m) (0:Int)).length+m:=by simp;omega
     refine Tm.bind (b1_tm (b:=b) (v:=v) (u:=u) (q:=List.replicate (a.length+1-m) 0) (m:=m) hmm hm hvl hvB huB (InB.rep (by decide)) hul2 (by omega) hv1 ?_) ?_
     · have h1:=val_split (B:=W32) (l:=u) (List.replicate (a.length+1-m) (0:Int)).length (by omega)
       rw[List.length_replicate]at h1⊢
       have h2:=val_nonneg (B:=W32) (by decide) (huB.take (a.length+1-m))
       have h3:=Int.mul_lt_mul_of_pos_right (val_lt (B:=W32) (by decide) ha) hP
       have p1:W32^a.length=W32^(a.length+1-m)*W32^(m-1):=by rw[←Int.pow_add];congr 1;omega
       have h4:W32^(a.length+1-m)*val W32 (u.drop (a.length+1-m))<W32^(a.length+1-m)*(W32^(m-1)*2^s):=by
        rw[←Int.mul_assoc,←p1];omega
       have h5:=Int.lt_of_mul_lt_mul_left h4 (by have:=pow_pos' (B:=W32) (by decide) (a.length+1-m);omega)
       have h6:=Int.mul_le_mul_of_nonneg_left hP31 (show 0≤W32^(m-1) by omega)
       rw[Int.mul_comm 2147483648]at hvge
       omega
     rintro⟨u',q⟩ ⟨hu'B,hu'l,hqB,hql,hAv,hlt⟩
     dsimp only at*
     refine Tm.step (mk1_ok (n:=m) rfl (by omega) (by decide)) ?_
     have hu0:=val_nonneg (B:=W32) (by decide) hu'B
     have ht:val W32 u'=(val W32 a-val W32 b*val W32 q)*2^s:=by
      rw[huv,hvv]at hAv
      have e:(val W32 a-val W32 b*val W32 q)*2^s=val W32 a*2^s-val W32 b*2^s*val W32 q:=by grind
      omega
     have hr0:0≤val W32 a-val W32 b*val W32 q:=by
      rcases Int.lt_or_le (val W32 a-val W32 b*val W32 q) 0 with h1|h1
      · have:=Int.mul_le_mul_of_nonneg_right (show val W32 a-val W32 b*val W32 q≤-1 by omega) (show(0:Int)≤2^s by omega)
        omega
      · exact h1
     have hr1:val W32 a-val W32 b*val W32 q<val W32 b:=by
      rw[ht,hvv]at hlt
      exact Int.lt_of_mul_lt_mul_right hlt (by omega)
     refine Tm.bind (b5_tm (u:=u') (n:=(s:Int)) (s:=s) (m:=m) eus hs rfl hu'B (by omega) (by omega) (by omega) (by have:=val_lt (B:=W32) (by decide) hvB;rw[hvl]at this;omega) ht) ?_
     rintro r ⟨hrB,hrl,hrv⟩
     refine Tm.bind (btrim_tm hqB (by rw[hql];simp;omega)) ?_
     rintro q' ⟨hq',hql'⟩
     refine Tm.bind (btrim_tm hrB (by omega)) ?_
     rintro r' ⟨hr',hrl'⟩
     have hdm:=(Int.ediv_emod_unique (a:=val W32 a) (b:=val W32 b) (r:=val W32 a-val W32 b*val W32 q) (q:=val W32 q) hB0).2 ⟨by omega,hr0,hr1⟩
     rw[List.length_replicate]at hql
     refine Tm.pure ⟨?_,?_,by dsimp only;omega,by dsimp only;omega⟩
     · rw[hdm.1];exact hq'
     · rw[hdm.2,←hrv];exact hr'
structure DivP (a b:Int)(r:Big×Big×Bool):Prop where
 ok:r.2.2=decide (b≠0)
 quo:Is r.1 (a.fdiv b)
 rem:Is r.2.1 (if b=0 then 0 else a.fmod b)
theorem dv_same{x y:Int}(hx:0≤x)(hy:0<y):(-x).fdiv (-y)=x/y∧(-x).fmod (-y)=-(x%y):=by
 have h1:(-x).fdiv (-y)=x.fdiv y:=Int.neg_fdiv_neg _ _
 rw[h1,Int.fdiv_eq_ediv_of_nonneg _ (by omega)]
 refine⟨rfl,?_⟩
 have h2:=Int.mul_fdiv_add_fmod (-x) (-y)
 rw[h1,Int.fdiv_eq_ediv_of_nonneg _ (by omega)]at h2
 have h3:=Int.emod_add_mul_ediv x y
 have e:-y*(x/y)=-(y*(x/y)):=by grind
 omega
theorem dv_diff{x y:Int}(hy:0<y):(-x).fdiv y=(if x%y=0 then-(x/y)else-(x/y+1))∧(-x).fmod y=(if x%y=0 then 0 else y-x%y):=by
 rw[Int.fdiv_eq_ediv_of_nonneg _ (by omega),Int.fmod_eq_emod_of_nonneg _ (by omega)]
 have h3:=Int.emod_add_mul_ediv x y
 have h4:=Int.emod_nonneg x (show y≠0 by omega)
 have h5:=Int.emod_lt_of_pos x hy
 split
 · rename_i h
   have:=(Int.ediv_emod_unique (a:=-x) (b:=y) (r:=0) (q:=-(x/y)) hy).2 ⟨by have e:y*-(x/y)=-(y*(x/y)):=(by grind);omega,by omega,by omega⟩
   exact this
 · have:=(Int.ediv_emod_unique (a:=-x) (b:=y) (r:=y-x%y) (q:=-(x/y+1)) hy).2 ⟨by have e:y*-(x/y+1)=-(y*(x/y))-y:=(by grind);omega,by omega,by omega⟩
   exact this
theorem dv_neg{x y:Int}:x.fdiv (-y)=(-x).fdiv y∧x.fmod (-y)=-((-x).fmod y):=by
 have h1:x.fdiv (-y)=(-x).fdiv y:=by rw[←Int.neg_fdiv_neg x,Int.neg_neg]
 refine⟨h1,?_⟩
 have h2:=Int.mul_fdiv_add_fmod x (-y)
 have h3:=Int.mul_fdiv_add_fmod (-x) y
 rw[h1]at h2
 have e:-y*(-x).fdiv y=-(y*(-x).fdiv y):=by grind
 omega
theorem inB1:InB W32 [1]:=InB.cons (by decide) InB.nil
theorem bDivFloor_tm{a b:Big}(ha:InB W32 a.Digits)(hb:InB W32 b.Digits)(hl:a.Digits.length≤4398046511104)(hl':b.Digits.length≤4398046511104):
 Tm (fun N=>bDivFloor N a b) (fun r=>DivP (bv a) (bv b) r∧r.1.Digits.length≤a.Digits.length+2∧r.2.1.Digits.length≤max (a.Digits.length+1) b.Digits.length):=by
 unfold bDivFloor
 refine Tm.bind (bNormal_tm ha (by omega)) ?_
 rintro x ⟨hx,hxl⟩
 refine Tm.bind (bNormal_tm hb (by omega)) ?_
 rintro y ⟨hy,hyl⟩
 have hz:=hy.dg.zero (by decide)
 refine Tm.ite (fun h=>Tm.pure ?_) (fun h=>?_)
 · have h0:bv b=0:=by have:=hz.1 (List.length_eq_zero_iff.1 (by omega));omega
   refine⟨⟨by simp[h0],?_,?_⟩,by simp,by simp⟩
   · rw[h0,Int.fdiv_zero];exact⟨Dg.nil,rfl⟩
   · rw[if_pos h0];exact⟨Dg.nil,rfl⟩
 · have h0:bv b≠0:=fun e=>h (by rw[hz.2 (by omega)];rfl)
   have hyl0:0<y.Digits.length:=by omega
   have vx:=hx.val_pos
   have vy:=hy.val_pos
   have n1:=hx.neg
   have n2:=hy.neg
   have X0:=val_nonneg (B:=W32) (by decide) hx.dg.inB
   refine Tm.bind (bdivide_tm hx.dg.inB hy.dg.inB hx.dg.nrm hy.dg.nrm hyl0 (by omega) (by omega)) ?_
   rintro⟨q,r⟩ ⟨hq,hr,hql,hrl⟩
   dsimp only at*
   generalize hX:val W32 x.Digits=X at*
   generalize hY:val W32 y.Digits=Y at*
   have Y0:0<Y:=by rw[vy];split<;>omega
   have hr0:=Int.emod_nonneg X (show Y≠0 by omega)
   have hr1:=Int.emod_lt_of_pos X Y0
   have hq0:=Int.ediv_nonneg X0 (show 0≤Y by omega)
   have hrz:=hr.zero (by decide)
   refine Tm.ite (fun hs=>?_) (fun hs=>?_)
   · 
     have hab:(bv a).fdiv (bv b)=(-X).fdiv Y∧(bv a).fmod (bv b)=if y.Negative=true then-((-X).fmod Y)else(-X).fmod Y:=by
      have hs':¬x.Negative=y.Negative:=by simpa using hs
      by_cases p:bv a<0<;>by_cases p':bv b<0<;>simp only[p,p',decide_true,decide_false,if_true,if_false]at n1 n2 vx vy
      · rw[n1,n2]at hs';exact absurd rfl hs'
      · rw[n2,show bv a=-X by omega,show bv b=Y by omega];simp
      · rw[n2,show bv a=X by omega,show bv b=-Y by omega];simpa using dv_neg
      · rw[n1,n2]at hs';exact absurd rfl hs'
     have hdd:=dv_diff (x:=X) Y0
     refine Tm.bind (Q:=fun t:List Int×List Int=>InB W32 t.1∧InB W32 t.2∧-(val W32 t.1)=(-X).fdiv Y∧val W32 t.2=(-X).fmod Y∧t.1.length≤x.Digits.length+2∧t.2.length≤max (x.Digits.length+1) y.Digits.length) (Tm.ite (fun hrp=>?_) (fun hrp=>Tm.pure ?_)) ?_
     · have hrne:X%Y≠0:=fun e=>by have:=hrz.2 e;rw[this]at hrp;simp at hrp
       rw[if_neg hrne,if_neg hrne]at hdd
       refine Tm.bind (bplus_tm hq.inB inB1 (by omega) (by simp)) ?_
       rintro q1 ⟨hq1,hq1v,hq1l⟩
       have hle:r.length≤y.Digits.length:=by
        rcases Nat.lt_or_ge y.Digits.length r.length with h'|h'
        · have:=len_cmp w32_pos hy.dg.inB hr.inB hr.nrm h';rw[hY,hr.val]at this;omega
        · exact h'
       refine Tm.bind (bminus_tm hy.dg.inB hr.inB (by omega) hle (by rw[hY,hr.val];omega)) ?_
       rintro r1 ⟨hr1B,hr1v,hr1l⟩
       refine Tm.pure ⟨hq1,hr1B,?_,?_,?_,by dsimp only;omega⟩
       · rw[hdd.1,hq1v,hq.val];simp[val]
       · rw[hdd.2,hr1v,hY,hr.val]
       · simp only[List.length_cons,List.length_nil]at hq1l;dsimp only;omega
     · have hre:r=[]:=List.length_eq_zero_iff.1 (by omega)
       have hrz':=hrz.1 hre
       rw[if_pos hrz',if_pos hrz']at hdd
       refine⟨hq.inB,hr.inB,?_,?_,by dsimp only;omega,by dsimp only;omega⟩
       · rw[hdd.1,hq.val]
       · rw[hdd.2,hr.val,hrz']
     rintro⟨q1,r1⟩ ⟨hq1,hr1B,hq1v,hr1v,hq1l,hr1l⟩
     dsimp only at*
     refine Tm.bind (bnormal_tm hq1 (by omega)) ?_
     rintro q2 ⟨hq2,hq2l⟩
     refine Tm.bind (bnormal_tm hr1B (by omega)) ?_
     rintro r2 ⟨hr2,hr2l⟩
     refine Tm.pure ⟨⟨by simp[h0],?_,?_⟩,by dsimp only;omega,by dsimp only;omega⟩
     · rw[hab.1,←hq1v];simpa using hq2
     · rw[if_neg h0,hab.2,←hr1v];exact hr2
   · 
     have hs':x.Negative=y.Negative:=by simpa using hs
     have hab:(bv a).fdiv (bv b)=X/Y∧(bv a).fmod (bv b)=if y.Negative=true then-(X%Y)else X%Y:=by
      by_cases p:bv a<0<;>by_cases p':bv b<0<;>simp only[p,p',decide_true,decide_false,if_true,if_false]at n1 n2 vx vy
      · rw[n2,show bv a=-X by omega,show bv b=-Y by omega];simpa using dv_same X0 Y0
      · rw[n1,n2]at hs';cases hs'
      · rw[n1,n2]at hs';cases hs'
      · rw[n2,show bv a=X by omega,show bv b=Y by omega,Int.fdiv_eq_ediv_of_nonneg _ (by omega),Int.fmod_eq_emod_of_nonneg _ (by omega)];simp
     refine Tm.bind (bnormal_tm hq.inB (by omega)) ?_
     rintro q2 ⟨hq2,hq2l⟩
     refine Tm.bind (bnormal_tm hr.inB (by omega)) ?_
     rintro r2 ⟨hr2,hr2l⟩
     refine Tm.pure ⟨⟨by simp[h0],?_,?_⟩,by dsimp only;omega,by dsimp only;omega⟩
     · rw[hab.1,←hq.val];simpa using hq2
     · rw[if_neg h0,hab.2,←hr.val];exact hr2
open Go Go.X
abbrev ineq0:Ineq:=⟨[],⟨false,[]⟩⟩
theorem idx_gb{xs:List Big}{i:Int}{n:Nat}(e:i=(n:Int))(h:n<xs.length):idx xs i=some (xs.getD n big0):=by
 rw[getDb h];exact idx_i e h
theorem idx_gq{xs:List Ineq}{i:Int}{n:Nat}(e:i=(n:Int))(h:n<xs.length):idx xs i=some (xs.getD n ineq0):=by
 rw[List.getD_eq_getElem?_getD,List.getElem?_eq_getElem h];exact idx_i e h
theorem getDb_set{l:List Big}{n m:Nat}{y:Big}(h:n<l.length):(l.set n y).getD m big0=if n=m then y else l.getD m big0:=by
 rw[List.getD_eq_getElem?_getD,List.getD_eq_getElem?_getD,List.getElem?_set]
 by_cases e:n=m
 · subst e;simp[h]
 · simp[e]
theorem getDq_mem{l:List Ineq}{n:Nat}(h:n<l.length):l.getD n ineq0∈l:=by
 rw[List.getD_eq_getElem?_getD,List.getElem?_eq_getElem h];exact List.getElem_mem h
theorem getDb_mem{l:List Big}{n:Nat}(h:n<l.length):l.getD n big0∈l:=by
 rw[List.getD_eq_getElem?_getD,List.getElem?_eq_getElem h];exact List.getElem_mem h
def IsF(n:Nat)(c:List Big)(f:Nat→Int):Prop:=c.length=n∧∀j,j<n→Is (c.getD j big0) (f j)
theorem IsF.uniq{n:Nat}{c c':List Big}{f:Nat→Int}(h:IsF n c f)(h':IsF n c' f):c=c':=by
 apply List.ext_getElem (h.1.trans h'.1.symm)
 intro i h1 h2
 have g1:=h.2 i (by rw[←h.1];exact h1)
 have g2:=h'.2 i (by rw[←h.1];exact h1)
 rw[getDb h1]at g1
 rw[getDb h2]at g2
 exact g1.uniq g2
theorem pw_loop{ρ:Type}{body:Nat→List Big×Int→Option (Stp (List Big×Int) ρ)}{fin:List Big→ρ}{bad:ρ}{n K K':Nat}{f g:Nat→Int}{F:Nat→Prop}{c0:List Big}(hn:n≤1073741824)(h0:IsF n c0 f)(hk0:∀j,j<n→(c0.getD j big0).Digits.length≤K)
 (step:∀k,k<n→∀c:List Big,c.length=n→Is (c.getD k big0) (f k)→(c.getD k big0).Digits.length≤K→
  Tm (fun N=>body N (c,(k:Int))) (fun s=>(∃y,s=.next (c.set k y,iw ((k:Int)+1))∧Is y (g k)∧y.Digits.length≤K'∧¬F k)∨(s=.done bad∧F k)))
 (stop:∀c:List Big,c.length=n→Tm (fun N=>body N (c,(n:Int))) (fun s=>s=.done (fin c))):
 Tm (fun N=>loopM (body N) N (c0,0)) (fun r=>(∃c,r=fin c∧IsF n c g∧(∀j,j<n→(c.getD j big0).Digits.length≤K')∧∀k,k<n→¬F k)∨(r=bad∧∃k,k<n∧F k)):=by
 refine Tm.loop (fun t:List Big×Int=>∃k:Nat,t.2=k∧k≤n∧t.1.length=n∧(∀j,j<k→Is (t.1.getD j big0) (g j)∧(t.1.getD j big0).Digits.length≤K'∧¬F j)∧∀j,k≤j→j<n→Is (t.1.getD j big0) (f j)∧(t.1.getD j big0).Digits.length≤K) (fun t=>n-t.2.toNat)
  ⟨0,rfl,Nat.zero_le _,h0.1,fun j hj=>absurd hj (by omega),fun j _ hj=>⟨h0.2 j hj,hk0 j hj⟩⟩ ?_
 rintro⟨c,kk⟩ ⟨k,rfl,hk,hc,h1,h2⟩
 dsimp only at*
 rcases Nat.lt_or_ge k n with hkn|hkn
 · refine(step k hkn c hc (h2 k (Nat.le_refl _) hkn).1 (h2 k (Nat.le_refl _) hkn).2).mono ?_
   rintro s (⟨y,rfl,hy,hyl,hF⟩|⟨rfl,hF⟩)
   · refine⟨⟨k+1,by show iw ((k:Int)+1)=_;rw[iw_eq]<;>omega,by omega,by simp;omega,fun j hj=>?_,fun j hj hjn=>?_⟩,?_⟩
     · show Is ((c.set k y).getD j big0) (g j)∧((c.set k y).getD j big0).Digits.length≤K'∧¬F j
       rw[getDb_set (by omega)]
       by_cases e:k=j
       · subst e;rw[if_pos rfl];exact⟨hy,hyl,hF⟩
       · rw[if_neg e];exact h1 j (by omega)
     · show Is ((c.set k y).getD j big0) (f j)∧((c.set k y).getD j big0).Digits.length≤K
       rw[getDb_set (by omega),if_neg (by omega)];exact h2 j (by omega) hjn
     · show n-(iw ((k:Int)+1)).toNat<n-((k:Int)).toNat
       rw[iw_eq]<;>omega
   · exact .inr ⟨rfl,k,hkn,hF⟩
 · obtain rfl:k=n:=by omega
   refine(stop c hc).mono ?_
   rintro s rfl
   exact .inl ⟨c,rfl,⟨hc,fun j hj=>(h1 j hj).1⟩,fun j hj=>(h1 j hj).2.1,fun j hj=>(h1 j hj).2.2⟩
def nV(l:List Ineq):Nat:=(l.getD 0 ineq0).Coefs.length
def evenV(l:List Ineq):Prop:=∀q∈l,q.Coefs.length=nV l
instance (l:List Ineq):Decidable (evenV l):=inferInstanceAs (Decidable (∀q∈l,q.Coefs.length=nV l))
def badU(l:List Ineq)(u:Use):Prop:=u.Index<0∨(l.length:Int)≤u.Index∨bv u.N<0
instance (l:List Ineq)(u:Use):Decidable (badU l u):=inferInstanceAs (Decidable (_∨_∨_))
def addF(l:List Ineq)(u:Use)(a:(Nat→Int)×Int):(Nat→Int)×Int:=
 (fun j=>a.1 j+bv u.N*bv ((l.getD u.Index.toNat ineq0).Coefs.getD j big0),a.2+bv u.N*bv (l.getD u.Index.toNat ineq0).Bound)
def sumF(l:List Ineq):List Use→(Nat→Int)×Int→Option ((Nat→Int)×Int)
 |[],a=>some a
 |u::us,a=>if badU l u then none else sumF l us (addF l u a)
def ApplyP(l:List Ineq)(s:Step)(r:Ineq×Bool):Prop:=
 if evenV l∧0<bv s.Divisor then
  match sumF l s.Uses (fun _=>0,0)with
  |none=>r=(ineq0,false)
  |some (f,b)=>if∀j,j<nV l→f j%bv s.Divisor=0 then r.2=true∧IsF (nV l) r.1.Coefs (fun j=>f j/bv s.Divisor)∧Is r.1.Bound (b/bv s.Divisor)else r=(ineq0,false)
 else r=(ineq0,false)
theorem ApplyP.uniq{l:List Ineq}{s:Step}{r r':Ineq×Bool}(h:ApplyP l s r)(h':ApplyP l s r'):r=r':=by
 unfold ApplyP at h h'
 split at h
 · rename_i hc
   rw[if_pos hc]at h'
   cases hs:sumF l s.Uses (fun _=>0,0)with
   |none=>rw[hs]at h h';exact h.trans h'.symm
   |some a=>
    rw[hs]at h h'
    obtain⟨f,b⟩:=a
    dsimp only at h h'
    split at h
    · rename_i hd
      rw[if_pos hd]at h'
      obtain⟨⟨c,d⟩,t⟩:=r
      obtain⟨⟨c',d'⟩,t'⟩:=r'
      have h1:c=c':=h.2.1.uniq h'.2.1
      have h2:d=d':=h.2.2.uniq h'.2.2
      have h3:t=t':=h.1.trans h'.1.symm
      subst h1;subst h2;subst h3;rfl
    · rename_i hd
      rw[if_neg hd]at h'
      exact h.trans h'.symm
 · rename_i hc
   rw[if_neg hc]at h'
   exact h.trans h'.symm
theorem sgn_pos{a:Int}:0<sgn a 0↔0<a:=by unfold sgn;(repeat' split)<;>omega
structure OkS (s:Step):Prop where
 len:s.Uses.length≤12
 use:∀u∈s.Uses,OkB 4 u.N
 div:OkB 4 s.Divisor
theorem containsIneq_tm{f:Nat→Ineq→Option Bool}{p:Ineq→Bool}{s:List Ineq}(hl:s.length≤9223372036854775807)(hf:∀q∈s,Tm (fun N=>f N q) (fun r=>r=p q)):Tm (fun N=>containsIneq N s (f N)) (fun r=>r=s.any p):=by
 unfold containsIneq
 refine Tm.bind (Q:=fun r:Int=>(0≤r↔s.any p=true)) ?_ (fun r hr=>Tm.pure ?_)
 · unfold indexIneq
   refine Tm.bind (Tm.each (body:=fun N=>indexIneq_b1 N (f N) s) s (fun q=>p q=false) (Q:=fun r=>(r=.inl ()∧s.any p=false)∨∃z:Int,r=.inr z∧0≤z∧s.any p=true) hl ?_ ?_) ?_
   · intro n hn hP
     dsimp only[indexIneq_b1]
     refine Tm.pos (by omega) (Tm.step (idx_ok hn) (Tm.bind (hf _ (List.getElem_mem hn)) ?_))
     rintro _ rfl
     refine Tm.ite (fun h=>Tm.pure (.inr ⟨_,rfl,.inr ⟨_,rfl,by omega,List.any_eq_true.2 ⟨_,List.getElem_mem hn,h⟩⟩⟩)) (fun h=>Tm.pure (.inl ⟨rfl,by simpa using h⟩))
   · intro hP
     dsimp only[indexIneq_b1]
     refine Tm.neg (by omega) (Tm.pure ⟨_,rfl,.inl ⟨rfl,?_⟩⟩)
     rw[Bool.eq_false_iff]
     intro h
     obtain⟨q,hq,h1⟩:=List.any_eq_true.1 h
     rw[hP q hq]at h1;cases h1
   · rintro _ (⟨rfl,h⟩|⟨z,rfl,hz,h⟩)
     · exact Tm.pure (by rw[h];simp)
     · exact Tm.pure (by rw[h];simpa using hz)
 · by_cases h:0≤r
   · rw[hr.1 h];simpa using h
   · have:s.any p=false:=by rw[Bool.eq_false_iff];exact fun e=>h (hr.2 e)
     rw[this];simpa using h
theorem cwidth_tm{l:List Ineq}(hl:l.length≤9223372036854775807):Tm (fun N=>cwidth N l) (fun r=>r=((nV l:Int),decide (evenV l))):=by
 unfold cwidth
 refine Tm.ite (fun h=>Tm.pure ?_) (fun h=>?_)
 · have:l=[]:=List.length_eq_zero_iff.1 (by omega)
   subst this
   simp[nV,evenV]
 · refine Tm.step (idx_gq (n:=0) rfl (by omega)) ?_
   refine Tm.bind (containsIneq_tm (p:=fun q=>decide (((q.Coefs.length:Int):Int)≠((l.getD 0 ineq0).Coefs.length:Int))) hl (fun q _=>by unfold width1;exact Tm.pure rfl)) ?_
   rintro _ rfl
   refine Tm.pure ?_
   have:(!l.any fun q=>decide (((q.Coefs.length:Int):Int)≠((l.getD 0 ineq0).Coefs.length:Int)))=decide (evenV l):=by
    by_cases he:evenV l
    · have:(l.any fun q=>decide (((q.Coefs.length:Int):Int)≠((l.getD 0 ineq0).Coefs.length:Int)))=false:=by
       rw[Bool.eq_false_iff]
       intro h
       obtain⟨q,hq,h1⟩:=List.any_eq_true.1 h
       have:=he q hq
       unfold nV at this
       simp[this]at h1
      rw[this];simp[he]
    · have:(l.any fun q=>decide (((q.Coefs.length:Int):Int)≠((l.getD 0 ineq0).Coefs.length:Int)))=true:=by
       have:∃q∈l,q.Coefs.length≠nV l:=by
        refine Classical.byContradiction fun h=>he fun q hq=>Classical.byContradiction fun h'=>h ⟨q,hq,h'⟩
       obtain⟨q,hq,h1⟩:=this
       refine List.any_eq_true.2 ⟨q,hq,?_⟩
       unfold nV at h1
       exact decide_eq_true (by omega)
      rw[this];simp[he]
   rw[this];rfl
theorem evenV.get{l:List Ineq}(h:evenV l){n:Nat}(hn:n<l.length):(l.getD n ineq0).Coefs.length=nV l:=h _ (getDq_mem hn)
theorem IsF.rep{n:Nat}:IsF n (List.replicate n big0) (fun _=>0):=⟨by simp,fun j hj=>by rw[getDb (by simpa using hj)];simpa using is0⟩
theorem drop_cons{l:List Use}{k:Nat}(h:k<l.length):l.drop k=l[k]::l.drop (k+1):=List.drop_eq_getElem_cons h
theorem cApply_tm{K:Nat}{l:List Ineq}{s:Step}(hK:K≤536870912)(hl:l.length≤1073741824)(hq:∀q∈l,OkI K q)(hs:OkS s):Tm (fun N=>cApply N l s) (fun r=>ApplyP l s r∧OkI (K+20) r.1):=by
 have ok0:OkI (K+20) ineq0:=⟨Nat.zero_le _,⟨fun b hb=>(by cases hb),OkB.nil⟩⟩
 unfold cApply
 refine Tm.bind (cwidth_tm (by omega)) ?_
 rintro _ rfl
 refine Tm.bind (Q:=(·=decide (¬(evenV l∧0<bv s.Divisor)))) (Tm.ite (fun h=>Tm.pure ?_) (fun h=>?_)) ?_
 · have:¬evenV l:=by simpa using h
   simp[this]
 · have he:evenV l:=by simpa using h
   refine Tm.bind (bSign_tm hs.div.1 (by have:=hs.div.2;omega)) ?_
   rintro _ rfl
   refine Tm.pure ?_
   have:=sgn_pos (a:=bv s.Divisor)
   by_cases h1:0<bv s.Divisor
   · have h2:=this.2 h1
     simp[he,h1];omega
   · have h2:¬0<sgn (bv s.Divisor) 0:=fun e=>h1 (this.1 e)
     simp[h1];omega
 rintro _ rfl
 refine Tm.ite (fun h=>Tm.pure ⟨?_,ok0⟩) (fun h=>?_)
 · unfold ApplyP;rw[if_neg (of_decide_eq_true h)]
 · have hc:evenV l∧0<bv s.Divisor:=by simpa using h
   obtain⟨he,hd⟩:=hc
   have hn:nV l≤K:=by
    rcases Nat.eq_zero_or_pos l.length with h0|h0
    · have:l=[]:=List.length_eq_zero_iff.1 h0
      subst this;simp[nV]
    · exact(hq _ (getDq_mem h0)).1
   refine Tm.step (mk1_ok rfl (by omega) (by decide)) ?_
   refine Tm.bind (Q:=fun r:Sum (List Big×Bool×List Int) (Ineq×Bool)=>(∃f c neg ds,r=.inl (c,neg,ds)∧sumF l s.Uses (fun _=>0,0)=some (f,bv ⟨neg,ds⟩)∧IsF (nV l) c f∧(∀j,j<nV l→(c.getD j big0).Digits.length≤K+16)∧OkB (K+16) ⟨neg,ds⟩)∨(r=.inr (ineq0,false)∧sumF l s.Uses (fun _=>0,0)=none))
    (Tm.loop (fun t:List Big×Bool×List Int×Int=>∃(k:Nat) (f:Nat→Int),t.2.2.2=k∧k≤s.Uses.length∧sumF l s.Uses (fun _=>0,0)=sumF l (s.Uses.drop k) (f,bv ⟨t.2.1,t.2.2.1⟩)∧IsF (nV l) t.1 f∧(∀j,j<nV l→(t.1.getD j big0).Digits.length≤K+4+k)∧OkB (K+4+k) ⟨t.2.1,t.2.2.1⟩) (fun t=>s.Uses.length-t.2.2.2.toNat)
     ⟨0,fun _=>0,rfl,Nat.zero_le _,by rw[List.drop_zero,bv_nil],IsF.rep,fun j hj=>by rw[getDb (by simpa using hj)];simp,.nil⟩ ?_) ?_
   · rintro⟨c,neg,ds,kk⟩ ⟨k,f,rfl,hk,hsum,hcf,hcl,hb⟩
     have hlen:=hs.len
     dsimp only[cApply_b1]at*
     refine Tm.ite (fun h1=>?_) (fun h1=>Tm.pure ?_)
     · have hku:k<s.Uses.length:=by omega
       refine Tm.step (idx_ok hku) ?_
       have hu:=hs.use _ (List.getElem_mem hku)
       rw[drop_cons hku]at hsum
       generalize s.Uses[k]=u at*
       simp only[sumF]at hsum
       refine Tm.bind (Q:=(·=decide (badU l u))) (Tm.ite (fun h2=>Tm.pure ?_) (fun h2=>Tm.ite (fun h3=>Tm.pure ?_) (fun h3=>?_))) ?_
       · have:badU l u:=.inl h2
         simp[this]
       · have:badU l u:=.inr (.inl (by omega))
         simp[this]
       · refine Tm.bind (bSign_tm hu.1 (by have:=hu.2;omega)) ?_
         rintro _ rfl
         refine Tm.pure ?_
         have:=sgn_neg (a:=bv u.N)
         unfold badU
         by_cases h4:bv u.N<0
         · simp[h4,this.2 h4]
         · have:¬sgn (bv u.N) 0<0:=fun e=>h4 (this.1 e)
           simp[h4,this];omega
       rintro _ rfl
       refine Tm.ite (fun h2=>Tm.pure ?_) (fun h2=>?_)
       · rw[if_pos (of_decide_eq_true h2)]at hsum
         exact .inr ⟨rfl,hsum⟩
       · have hbu:¬badU l u:=by simpa using h2
         rw[if_neg hbu]at hsum
         have hi:0≤u.Index∧u.Index<l.length∧0≤bv u.N:=by unfold badU at hbu;omega
         have hii:u.Index=(u.Index.toNat:Int):=by omega
         have hil:u.Index.toNat<l.length:=by omega
         refine Tm.step (idx_gq hii hil) ?_
         have hqq:=hq _ (getDq_mem hil)
         have hqn:=he.get hil
         generalize hQ:l.getD u.Index.toNat ineq0=q at*
         have hu4:=hu.2
         have hqb:=hqq.2.2.2
         have inner:=pw_loop (ρ:=List Big) (body:=fun N=>cApply_b2 N u q) (fin:=fun c=>c) (bad:=[]) (n:=nV l) (K:=K+4+k) (K':=K+4+(k+1)) (f:=f) (g:=fun j=>f j+bv u.N*bv (q.Coefs.getD j big0)) (F:=fun _=>False) (c0:=c) (by omega) hcf hcl
          (fun j hj c' hc' h3 h4=>by
           dsimp only[cApply_b2]
           have hqj:=hqq.2.1 _ (getDb_mem (l:=q.Coefs) (n:=j) (by omega))
           have:=hqj.2
           refine Tm.pos (by omega) (Tm.step (idx_gb rfl (by omega)) (Tm.step (idx_gb rfl (by omega)) (Tm.bind (bMul_tm hu.1 hqj.1 (by omega) (by omega)) ?_)))
           rintro m ⟨hm,hml⟩
           refine Tm.bind (bAdd_tm h3.dg.inB hm.dg.inB (by omega) (by omega)) ?_
           rintro a ⟨ha,hal⟩
           refine Tm.step (idx_gb rfl (by omega)) (Tm.step (upd1_i rfl (by omega)) (Tm.pure (.inl ⟨a,rfl,?_,by omega,fun e=>e⟩)))
           rw[h3.bv,hm.bv]at ha;exact ha)
          (fun c' hc'=>by dsimp only[cApply_b2];exact Tm.neg (by omega) (Tm.pure rfl))
         refine Tm.bind inner ?_
         rintro c2 (⟨_,rfl,hc2,hc2l,-⟩|⟨-,j,hj,hF⟩)
         · refine Tm.bind (bMul_tm hu.1 hqq.2.2.1 (by omega) (by omega)) ?_
           rintro m ⟨hm,hml⟩
           have hb2:ds.length≤K+4+k:=hb.2
           refine Tm.bind (bAdd_tm hb.1 hm.dg.inB (show ds.length≤_ by omega) (by omega)) ?_
           rintro a ⟨ha,hal⟩
           dsimp only at hal
           refine Tm.pure ⟨⟨k+1,_,by show iw ((k:Int)+1)=_;rw[iw_eq]<;>omega,by omega,?_,hc2,hc2l,ha.ok ?_⟩,?_⟩
           · show sumF l s.Uses (fun _=>0,0)=sumF l (s.Uses.drop (k+1)) (_,bv a)
             rw[ha.bv,hm.bv,hsum]
             unfold addF
             rw[hQ]
           · omega
           · show s.Uses.length-(iw ((k:Int)+1)).toNat<s.Uses.length-((k:Int)).toNat
             rw[iw_eq]<;>omega
         · exact hF.elim
     · have hkL:k=s.Uses.length:=by omega
       subst hkL
       rw[List.drop_length]at hsum
       exact .inl ⟨f,c,neg,ds,rfl,hsum,hcf,fun j hj=>by have:=hcl j hj;omega,hb.mono (by omega)⟩
   · rintro _ (⟨f,c,neg,ds,rfl,hsum,hcf,hcl,hb⟩|⟨rfl,hsum⟩)
     · dsimp only
       have hb2:ds.length≤K+16:=hb.2
       have hdv:=hs.div.2
       have inner:=pw_loop (ρ:=Sum (List Big) (Ineq×Bool)) (body:=fun N=>cApply_b3 N s c) (fin:=fun c=>.inl c) (bad:=.inr (ineq0,false)) (n:=nV l) (K:=K+16) (K':=K+20) (f:=f) (g:=fun j=>f j/bv s.Divisor) (F:=fun j=>¬f j%bv s.Divisor=0) (c0:=c) (by omega) hcf hcl
        (fun j hj c' hc' h3 h4=>by
         dsimp only[cApply_b3]
         refine Tm.pos (by have:=hcf.1;omega) (Tm.step (idx_gb rfl (by omega)) (Tm.bind (bDivFloor_tm h3.dg.inB hs.div.1 (by omega) (by omega)) ?_))
         rintro⟨qq,rr,oo⟩ ⟨hD,hql,hrl⟩
         have hquo:=hD.quo
         have hrem:=hD.rem
         dsimp only at hquo hrem hql hrl
         rw[h3.bv,Int.fdiv_eq_ediv_of_nonneg _ (by omega)]at hquo
         rw[h3.bv,if_neg (by omega),Int.fmod_eq_emod_of_nonneg _ (by omega)]at hrem
         refine Tm.bind (bSign_tm hrem.dg.inB (show rr.Digits.length≤_ by omega)) ?_
         rintro _ rfl
         rw[hrem.bv]
         refine Tm.ite (fun h5=>Tm.pure (.inr ⟨rfl,fun e=>h5 (sgn_zero.2 e)⟩)) (fun h5=>?_)
         refine Tm.step (idx_gb rfl (by omega)) (Tm.step (upd1_i rfl (by omega)) (Tm.pure (.inl ⟨qq,rfl,hquo,by omega,fun e=>e (sgn_zero.1 (by omega))⟩))))
        (fun c' hc'=>by dsimp only[cApply_b3];exact Tm.neg (by have:=hcf.1;omega) (Tm.pure rfl))
       refine Tm.bind inner ?_
       rintro _ (⟨c2,rfl,hc2,hc2l,hall⟩|⟨rfl,j,hj,hF⟩)
       · refine Tm.bind (bDivFloor_tm hb.1 hs.div.1 (show ds.length≤_ by omega) (by omega)) ?_
         rintro⟨qq,rr,oo⟩ ⟨hD,hql,hrl⟩
         have hquo:=hD.quo
         dsimp only at hquo hql hrl
         rw[Int.fdiv_eq_ediv_of_nonneg _ (by omega)]at hquo
         refine Tm.pure ⟨?_,⟨by dsimp only;rw[hc2.1];omega,fun b hb'=>?_,hquo.ok (by omega)⟩⟩
         · unfold ApplyP
           rw[if_pos ⟨he,hd⟩,hsum]
           dsimp only
           rw[if_pos (fun j hj=>Classical.not_not.1 (hall j hj))]
           exact⟨rfl,hc2,hquo⟩
         · obtain⟨j,hj,rfl⟩:=List.mem_iff_getElem.1 hb'
           have hj':j<nV l:=by have:=hc2.1;dsimp only at hj;omega
           have h1:=hc2.2 j hj'
           have h2:=hc2l j hj'
           rw[getDb hj]at h1 h2
           exact h1.ok h2
       · refine Tm.pure ⟨?_,ok0⟩
         unfold ApplyP
         rw[if_pos ⟨he,hd⟩,hsum]
         dsimp only
         rw[if_neg (fun h=>hF (h j hj))]
     · refine Tm.pure ⟨?_,ok0⟩
       unfold ApplyP
       rw[if_pos ⟨he,hd⟩,hsum]
open Go Go.X
def In32(x:Big):Prop:=InB W32 x.Digits
def InS(s:Step):Prop:=s.Uses.length≤9223372036854775807∧(∀u∈s.Uses,In32 u.N)∧In32 s.Divisor
theorem rSmallStep_tm{s:Step}(hs:InS s):Tm (fun N=>rSmallStep N s) (fun r=>r=true→OkS s):=by
 unfold rSmallStep
 refine Tm.bind (Tm.each (body:=fun N=>rSmallStep_b1 N s) s.Uses (fun u=>u.N.Digits.length≤4) (Q:=fun r=>r=.inr false∨(r=.inl ()∧∀u∈s.Uses,u.N.Digits.length≤4)) hs.1 ?_ ?_) ?_
 · intro n hn _
   dsimp only[rSmallStep_b1]
   refine Tm.pos (by omega) (Tm.step (idx_ok hn) (Tm.ite (fun h=>Tm.pure (.inr ⟨_,rfl,.inl rfl⟩)) (fun h=>Tm.pure (.inl ⟨rfl,by omega⟩))))
 · intro h
   dsimp only[rSmallStep_b1]
   exact Tm.neg (by omega) (Tm.pure ⟨_,rfl,.inr ⟨rfl,h⟩⟩)
 · rintro _ (rfl|⟨rfl,h⟩)
   · exact Tm.pure (fun h=>by cases h)
   · refine Tm.ite (fun h1=>Tm.pure (fun h2=>?_)) (fun h1=>Tm.pure (fun h2=>by cases h2))
     have:=of_decide_eq_true h2
     exact⟨by omega,fun u hu=>⟨hs.2.1 u hu,h u hu⟩,hs.2.2,by omega⟩
open Go Go.X
theorem IsF.snoc{n:Nat}{c:List Big}{f:Nat→Int}{y:Big}(h:IsF n c f)(hy:Is y (f n)):IsF (n+1) (c++[y]) f:=by
 refine⟨by simp[h.1],fun j hj=>?_⟩
 rcases Nat.lt_or_ge j n with h1|h1
 · have:=h.2 j h1
   rwa[List.getD_eq_getElem?_getD,List.getElem?_append_left (by rw[h.1];exact h1),←List.getD_eq_getElem?_getD]
 · obtain rfl:j=n:=by omega
   rw[List.getD_eq_getElem?_getD,List.getElem?_append_right (by rw[h.1];exact Nat.le_refl _),h.1]
   simpa using hy
theorem negated_gen{K:Nat}{l:List Big}{b:Big}(hK:K≤1073741824)(hl:l.length≤K)(hlb:∀x∈l,OkB K x)(hb:OkB K b):
 Tm (fun N=>negated N l b) (fun r=>IsF l.length r.Coefs (fun j=>-bv (l.getD j big0))∧Is r.Bound (bv b)∧OkI K r):=by
 unfold negated
 refine Tm.bind (bNormal_tm hb.1 (by have:=hb.2;omega)) ?_
 rintro b' ⟨hb',hbl⟩
 refine Tm.bind (Q:=fun c:List Big=>IsF l.length c (fun j=>-bv (l.getD j big0))∧∀x∈c,OkB K x)
  (Tm.loop (fun t:List Big×Int=>∃k:Nat,t.2=k∧k≤l.length∧IsF k t.1 (fun j=>-bv (l.getD j big0))∧∀x∈t.1,OkB K x) (fun t=>l.length-t.2.toNat)
   ⟨0,rfl,Nat.zero_le _,⟨rfl,fun j hj=>absurd hj (by omega)⟩,fun x hx=>by cases hx⟩ ?_) ?_
 · rintro⟨c,kk⟩ ⟨k,rfl,hk,hc,hcb⟩
   dsimp only[negated_b1]at*
   have hcl:=hc.1
   refine Tm.ite (fun h=>?_) (fun h=>Tm.pure ?_)
   · refine Tm.step (idx_gb rfl (by omega)) ?_
     have hx:=hlb _ (getDb_mem (l:=l) (n:=k) (by omega))
     refine Tm.bind (bNeg_tm hx.1 (by have:=hx.2;omega)) ?_
     rintro y ⟨hy,hyl⟩
     refine Tm.step (apnd_ok (by simp only[List.length_cons,List.length_nil];omega) (by decide)) (Tm.pure ⟨⟨k+1,by show iw ((k:Int)+1)=_;rw[iw_eq]<;>omega,by omega,hc.snoc hy,fun z hz=>?_⟩,?_⟩)
     · rcases List.mem_append.1 hz with h1|h1
       · exact hcb z h1
       · rcases List.mem_singleton.1 h1 with rfl
         exact hy.ok (by have:=hx.2;omega)
     · show l.length-(iw ((k:Int)+1)).toNat<l.length-((k:Int)).toNat
       rw[iw_eq]<;>omega
   · obtain rfl:k=l.length:=by omega
     exact⟨hc,hcb⟩
 · rintro c ⟨hc,hcb⟩
   exact Tm.pure ⟨hc,hb',by dsimp only;rw[hc.1];exact hl,hcb,hb'.ok (by have:=hb.2;omega)⟩
def StepsP:List Ineq→List Step→Option (List Ineq)→Prop
 |l,[],r=>r=some l
 |l,s::ss,r=>∃q,(ApplyP l s (q,true)∧StepsP (l++[q]) ss r)∨(ApplyP l s (q,false)∧r=none)
theorem StepsP.uniq:∀{ss:List Step} {l:List Ineq} {r r':Option (List Ineq)},StepsP l ss r→StepsP l ss r'→r=r'
 |[],l,r,r',h,h'=>h.trans h'.symm
 |s::ss,l,r,r',⟨q,h⟩,⟨q',h'⟩=>by
  rcases h with⟨h1,h2⟩|⟨h1,h2⟩<;>rcases h' with⟨h1',h2'⟩|⟨h1',h2'⟩
  · have:=h1.uniq h1'
    cases this
    exact h2.uniq h2'
  · have:=h1.uniq h1';cases this
  · have:=h1.uniq h1';cases this
  · exact h2.trans h2'.symm
theorem snocq{K:Nat}{e:List Ineq}{q:Ineq}(h:∀x∈e,OkI K x)(hq:OkI K q):∀x∈e++[q],OkI K x:=fun x hx=>by
 rcases List.mem_append.1 hx with h1|h1
 · exact h x h1
 · rcases List.mem_singleton.1 h1 with rfl;exact hq
theorem OkI.mono{K K':Nat}{q:Ineq}(h:OkI K q)(hK:K≤K'):OkI K' q:=⟨by have:=h.1;omega,fun b hb=>(h.2.1 b hb).mono hK,h.2.2.mono hK⟩
theorem cSteps_tm{K:Nat}{p:Proof}{l:List Ineq}(hK:K+20*p.Steps.length≤536870912)(hl:l.length+p.Steps.length≤1073741824)(hq:∀q∈l,OkI K q)(hp:∀s∈p.Steps,OkS s):
 Tm (fun N=>loopM (cCheck_b1 N p) N (l,0)) (fun t=>(∃e,t=.inl e∧StepsP l p.Steps (some e)∧(∀q∈e,OkI (K+20*p.Steps.length) q)∧e.length=l.length+p.Steps.length)∨(t=.inr false∧StepsP l p.Steps none)):=by
 refine Tm.loop (fun t:List Ineq×Int=>∃k:Nat,t.2=k∧k≤p.Steps.length∧(∀r,StepsP t.1 (p.Steps.drop k) r→StepsP l p.Steps r)∧(∀q∈t.1,OkI (K+20*k) q)∧t.1.length=l.length+k) (fun t=>p.Steps.length-t.2.toNat)
  ⟨0,rfl,Nat.zero_le _,fun r h=>h,hq,rfl⟩ ?_
 rintro⟨e,kk⟩ ⟨k,rfl,hk,hr,he,hel⟩
 dsimp only[cCheck_b1]at*
 refine Tm.ite (fun h=>?_) (fun h=>Tm.pure ?_)
 · have hks:k<p.Steps.length:=by omega
   refine Tm.step (idx_ok hks) ?_
   have hs:=hp _ (List.getElem_mem hks)
   rw[List.drop_eq_getElem_cons hks]at hr
   generalize p.Steps[k]=s at*
   refine Tm.bind (cApply_tm (K:=K+20*k) (by omega) (by omega) he hs) ?_
   rintro⟨q,ok⟩ ⟨ha,hao⟩
   refine Tm.ite (fun h1=>Tm.pure (.inr ⟨rfl,?_⟩)) (fun h1=>?_)
   · have:ok=false:=by simpa using h1
     subst this
     exact hr _ ⟨q,.inr ⟨ha,rfl⟩⟩
   · have:ok=true:=by simpa using h1
     subst this
     refine Tm.step (apnd_ok (by simp only[List.length_cons,List.length_nil];omega) (by decide)) (Tm.pure ⟨⟨k+1,by show iw ((k:Int)+1)=_;rw[iw_eq]<;>omega,by omega,fun r h2=>hr r ⟨q,.inl ⟨ha,h2⟩⟩,snocq (fun x hx=>(he x hx).mono (by omega)) (hao.mono (by omega)),by simp;omega⟩,?_⟩)
     show p.Steps.length-(iw ((k:Int)+1)).toNat<p.Steps.length-((k:Int)).toNat
     rw[iw_eq]<;>omega
 · obtain rfl:k=p.Steps.length:=by omega
   rw[List.drop_length]at hr
   exact .inl ⟨e,rfl,hr _ rfl,he,hel⟩
def dotF(f g:Nat→Int):Nat→Int
 |0=>0
 |n+1=>dotF f g n+f n*g n
def cf(q:Ineq)(j:Nat):Int:=bv (q.Coefs.getD j big0)
def Sat(n:Nat)(x:Nat→Int)(q:Ineq):Prop:=q.Coefs.length=n∧dotF (cf q) x n≤bv q.Bound
theorem dotF_congr{f f' g:Nat→Int}:∀{n:Nat},(∀j,j<n→f j=f' j)→dotF f g n=dotF f' g n
 |0,_=>rfl
 |n+1,h=>by simp only[dotF];rw[dotF_congr (n:=n) (fun j hj=>h j (by omega)),h n (by omega)]
theorem dotF_add{f h g:Nat→Int}{k:Int}:∀n,dotF (fun j=>f j+k*h j) g n=dotF f g n+k*dotF h g n
 |0=>by simp[dotF]
 |n+1=>by simp only[dotF,dotF_add n];grind
theorem dotF_mul{f g:Nat→Int}{k:Int}:∀n,dotF (fun j=>k*f j) g n=k*dotF f g n
 |0=>by simp[dotF]
 |n+1=>by simp only[dotF,dotF_mul n];grind
theorem dotF_zero{g:Nat→Int}:∀n,dotF (fun _=>0) g n=0
 |0=>rfl
 |n+1=>by simp[dotF,dotF_zero n]
theorem sum_sat{l:List Ineq}{x:Nat→Int}(hl:∀q∈l,Sat (nV l) x q):∀(us:List Use) (a r:(Nat→Int)×Int),sumF l us a=some r→dotF a.1 x (nV l)≤a.2→dotF r.1 x (nV l)≤r.2
 |[],a,r,h,ha=>by cases h;exact ha
 |u::us,a,r,h,ha=>by
  simp only[sumF]at h
  split at h
  · cases h
  · rename_i hb
    have hi:0≤u.Index∧u.Index<l.length∧0≤bv u.N:=by unfold badU at hb;omega
    have hs:=hl _ (getDq_mem (l:=l) (n:=u.Index.toNat) (by omega))
    refine sum_sat hl us _ r h ?_
    show dotF (fun j=>a.1 j+bv u.N*cf (l.getD u.Index.toNat ineq0) j) x (nV l)≤a.2+bv u.N*bv (l.getD u.Index.toNat ineq0).Bound
    rw[dotF_add]
    have:=Int.mul_le_mul_of_nonneg_left hs.2 hi.2.2
    omega
theorem apply_sat{l:List Ineq}{s:Step}{q:Ineq}{x:Nat→Int}(h:ApplyP l s (q,true))(hl:∀q∈l,Sat (nV l) x q):evenV l∧Sat (nV l) x q:=by
 unfold ApplyP at h
 split at h
 · rename_i hc
   refine⟨hc.1,?_⟩
   cases hs:sumF l s.Uses (fun _=>0,0)with
   |none=>rw[hs]at h;cases h
   |some a=>
    rw[hs]at h
    obtain⟨f,b⟩:=a
    dsimp only at h
    split at h
    · rename_i hd
      have h1:=sum_sat hl s.Uses _ _ hs (by rw[dotF_zero];exact Int.le_refl _)
      refine⟨h.2.1.1,?_⟩
      have e1:dotF (cf q) x (nV l)=dotF (fun j=>f j/bv s.Divisor) x (nV l):=dotF_congr fun j hj=>(h.2.1.2 j hj).bv
      have e2:dotF f x (nV l)=bv s.Divisor*dotF (fun j=>f j/bv s.Divisor) x (nV l):=by
       rw[←dotF_mul]
       exact dotF_congr fun j hj=>(Int.mul_ediv_cancel' (Int.dvd_of_emod_eq_zero (hd j hj))).symm
      rw[e1]
      rw[show bv q.Bound=b/bv s.Divisor from h.2.2.bv]
      rw[e2]at h1
      rw[Int.mul_comm]at h1
      exact Int.le_ediv_of_mul_le hc.2 h1
    · cases h
 · cases h
theorem nV_app{l:List Ineq}{q:Ineq}(h:l≠[]):nV (l++[q])=nV l:=by
 cases l with
 |nil=>exact absurd rfl h
 |cons a r=>rfl
theorem steps_sat{x:Nat→Int}:∀(ss:List Step) (l e:List Ineq),l≠[]→StepsP l ss (some e)→(∀q∈l,Sat (nV l) x q)→e≠[]∧nV e=nV l∧∀q∈e,Sat (nV e) x q
 |[],l,e,hn,h,hl=>by cases h;exact⟨hn,rfl,hl⟩
 |s::ss,l,e,hn,⟨q,h⟩,hl=>by
  rcases h with⟨h1,h2⟩|⟨_,h2⟩
  · have h3:=(apply_sat h1 hl).2
    have:=steps_sat ss (l++[q]) e (by simp) h2 (fun y hy=>by
     rw[nV_app hn]
     rcases List.mem_append.1 hy with h4|h4
     · exact hl y h4
     · rcases List.mem_singleton.1 h4 with rfl;exact h3)
    exact⟨this.1,this.2.1.trans (nV_app hn),this.2.2⟩
  · cases h2
theorem bad_sat{n:Nat}{x:Nat→Int}{q:Ineq}(h:badV q=true):¬Sat n x q:=by
 rintro⟨h1,h2⟩
 have h:=of_decide_eq_true h
 have:dotF (cf q) x n=dotF (fun _=>0) x n:=dotF_congr fun j hj=>h.1 _ (getDb_mem (by omega))
 rw[this,dotF_zero]at h2
 omega
def Sm:Nat→Proof→Prop
 |0,_=>False
 |n+1,p=>p.Steps.length≤n∧(∀s∈p.Steps,OkS s)∧p.Form.length≤6∧(∀b∈p.Form,OkB 4 b)∧OkB 4 p.Bound∧(∀c∈p.Children,Sm n c)∧∀c∈p.Children,c.Children.length≤9223372036854775807
end Go.D
set_option maxRecDepth 100000
namespace Go.D
open Go Go.X
theorem steps_sat0{x:Nat→Int}:∀(ss:List Step) (l e:List Ineq),StepsP l ss (some e)→(∀q∈l,Sat (nV l) x q)→∀q∈e,Sat (nV e) x q:=by
 intro ss l e h hl
 by_cases hn:l=[]
 · subst hn
   cases ss with
   |nil=>cases h;exact hl
   |cons s ss=>
    obtain⟨q,h⟩:=h
    rcases h with⟨ha,h⟩|⟨_,h⟩
    · have h1:=(apply_sat (x:=x) ha hl).2
      refine(steps_sat ss ([]++[q]) e (by simp) h fun y hy=>?_).2.2
      rcases List.mem_singleton.1 (show y∈[q] from hy)with rfl
      have e1:nV ([]++[y])=nV []:=h1.1
      rw[e1];exact h1
    · cases h
 · exact(steps_sat ss l e hn h hl).2.2
theorem ccheck_tm:∀(n:Nat) (p:Proof) (K:Nat) (l:List Ineq),Sm n p→6≤K→K+20*n*n≤536870912→l.length+(n+1)*(n+1)≤1073741824→p.Children.length≤9223372036854775807→(∀q∈l,OkI K q)→
    ∃v,Tm (fun N=>cCheck N l p) (·=v)∧(v=true→∀x:Nat→Int,¬∀q∈l,Sat (nV l) x q):=by
  intro n
  induction n with
  |zero=>intro p K l h;exact h.elim
  |succ n ih=>
    intro p K l ⟨hsl,hs,hfl,hf,hbd,hch,hcb⟩ hK6 hK hl hcl hq
    have hnn:20*(n+1)*(n+1)=20*n*n+40*n+20:=by grind
    have hnn2:(n+1+1)*(n+1+1)=(n+1)*(n+1)+2*n+3:=by grind
    have hlb:l.length≤1073741824:=by omega
    by_cases hev:evenV l
    · obtain⟨N0,ts,hts,hP⟩:=(cSteps_tm (p:=p) (l:=l) (K:=K) (by omega) (by omega) hq hs).get
      have hpn:p.Children.length=0∨p.Children.length=2∨(p.Children.length≠0∧p.Children.length≠2):=by omega
      have stepsC:=cSteps_tm (p:=p) (l:=l) (K:=K) (by omega) (by omega) hq hs
      have cbeg:∀{Q:Bool→Prop},Tm (fun N=>(loopM (cCheck_b1 N p) N (l,0)).bind fun ss=>match ss with
          |(Sum.inl e236)=>
            (if((List.length p.Children:Int):Int)=0 then
              (containsIneq N e236 (fun y344=>cContradictory N y344)).bind fun r345=>
              some r345
            else
              (if((List.length p.Children:Int):Int)=2 then
                (cwidth N e236).bind fun r358=>
                (((if((List.length e236:Int):Int)>0 then
                  some (decide (((List.length p.Form:Int):Int)≠r358.1))
                else
                  some false):Option Bool)).bind fun ss=>
                  match ss with
                  |x370=>
                    (if x370=true then
                      some false
                    else
                      (bNeg N p.Bound).bind fun r392=>
                      (bOf N 1).bind fun r397=>
                      (bSub N r392 r397).bind fun r402=>
                      (negated N p.Form r402).bind fun r407=>
                      (clipIneq N e236).bind fun r505=>
                      (apnd 56 r505 [(Ineq.mk p.Form p.Bound)]).bind fun x523=>
                      (idx p.Children 0).bind fun x538=>
                      (cCheck N x523 x538).bind fun r560=>
                      (if r560=true then
                        (apnd 56 r505 [r407]).bind fun x572=>
                        (idx p.Children 1).bind fun x587=>
                        (cCheck N x572 x587).bind fun r748=>
                        some r748
                      else
                        some false))
              else
                some false))
          |(Sum.inr z891)=>some z891) Q→Tm (fun N=>cCheck N l p) Q:=by
        intro Q h
        refine Tm.succ ?_
        show Tm (fun N=>cCheck_step N (cCheck N) l p) Q
        unfold cCheck_step
        refine Tm.bind (cwidth_tm (by omega)) ?_
        rintro _ rfl
        refine Tm.neg (by simp[hev]) ?_
        refine Tm.bind (Q:=(·=l)) (by unfold cloneIneq;exact Tm.step (apnd_ok (by simp only[List.length_nil];omega) (by decide)) (Tm.pure rfl)) ?_
        rintro _ rfl
        exact h
      rcases hP with⟨e,rfl,hse,heo,hel⟩|⟨rfl,hsn⟩
      · 
        have cst:Tm (fun N=>loopM (cCheck_b1 N p) N (l,0)) (·=.inl e):=stepsC.mono (by
          rintro t (⟨e',rfl,h1,_⟩|⟨rfl,h1⟩)
          · have:=h1.uniq hse;cases this;rfl
          · have:=h1.uniq hse;cases this)
        have hkb:K+20*p.Steps.length≤536870912:=by omega
        have heb:e.length≤1073741824:=by omega
        rcases hpn with h0|h2|⟨h0,h2⟩
        · 
          refine⟨e.any badV,cbeg (Tm.bind cst ?_),fun hv x hx=>?_⟩
          · rintro _ rfl
            refine Tm.pos (by omega) (Tm.bind (containsIneq_tm (f:=fun N y=>cContradictory N y) (p:=badV) (by omega) (fun q hq'=>cContradictory_tm (K:=K+20*p.Steps.length) (by omega) (heo q hq'))) (fun r hr=>Tm.pure hr))
          · obtain⟨q,hq',h1⟩:=List.any_eq_true.1 hv
            exact bad_sat h1 (steps_sat0 p.Steps l e hse hx q hq')
        · 
          have hcl:0<p.Children.length:=by omega
          by_cases hw:0<e.length∧p.Form.length≠nV e
          · refine⟨false,cbeg (Tm.bind cst ?_),fun hv=>by cases hv⟩
            · rintro _ rfl
              refine Tm.neg (by omega) (Tm.pos (by omega) (Tm.bind (cwidth_tm (by omega)) ?_))
              rintro _ rfl
              refine Tm.bind (Q:=(·=true)) (Tm.pos (by omega) (Tm.pure (decide_eq_true (by have:=hw.2;omega)))) ?_
              rintro _ rfl
              exact Tm.pos rfl (Tm.pure rfl)
          · have hK':K+20*(n+1)+20*n*n≤536870912:=by omega
            have he':∀q∈e,OkI (K+20*(n+1)) q:=fun q hq'=>(heo q hq').mono (by omega)
            have hb1:Tm (fun N=>bNeg N p.Bound) (fun r=>Is r (-bv p.Bound)∧r.Digits.length≤p.Bound.Digits.length):=bNeg_tm hbd.1 (by have:=hbd.2;omega)
            have hlow:OkI (K+20*(n+1)) (Ineq.mk p.Form p.Bound):=⟨by dsimp only;omega,fun b hb=>(hf b hb).mono (by omega),hbd.mono (by omega)⟩
            have highC:Tm (fun N=>(bNeg N p.Bound).bind fun a=>(bOf N 1).bind fun b=>(bSub N a b).bind fun c=>negated N p.Form c) (fun r=>IsF p.Form.length r.Coefs (fun j=>-bv (p.Form.getD j big0))∧Is r.Bound (-bv p.Bound-1)∧OkI (K+20*(n+1)) r):=by
              refine Tm.bind hb1 ?_
              rintro a ⟨ha,hal⟩
              refine Tm.bind (bOf_tm (n:=1) (by decide) (by decide)) ?_
              rintro b ⟨hb,hbl⟩
              have hal':=hbd.2
              refine Tm.bind (bSub_tm ha.dg.inB hb.dg.inB (by omega) (by omega)) ?_
              rintro c ⟨hc,hcl⟩
              rw[ha.bv,hb.bv]at hc
              refine(negated_gen (K:=K+20*(n+1)) (by omega) (by omega) (fun x hx=>(hf x hx).mono (by omega)) (hc.ok (by omega))).mono ?_
              rintro r ⟨h1,h3,h4⟩
              rw[hc.bv]at h3
              exact⟨h1,h3,h4⟩
            obtain⟨Nh,high,_,hh1,hh2,hh3⟩:=highC.get
            have hhu:∀r:Ineq,IsF p.Form.length r.Coefs (fun j=>-bv (p.Form.getD j big0))→Is r.Bound (-bv p.Bound-1)→r=high:=by
              rintro⟨c,d⟩ g1 g2
              obtain⟨c',d'⟩:=high
              have e1:c=c':=g1.uniq hh1
              have e2:d=d':=g2.uniq hh2
              rw[e1,e2]
            have hA0:p.Children[0]'(by omega)∈p.Children:=List.getElem_mem _
            have hA1:p.Children[1]'(by omega)∈p.Children:=List.getElem_mem _
            have hlen:∀q:Ineq,(e++[q]).length+(n+1)*(n+1)≤1073741824:=fun q=>by simp;omega
            have hSm0:=hch _ hA0
            have hSm1:=hch _ hA1
            have hcc:=hcb
            obtain⟨vA,cA,sA⟩:=ih _ (K+20*(n+1)) (e++[Ineq.mk p.Form p.Bound]) hSm0 (by omega) hK' (hlen _) (hcc _ hA0) (snocq he' hlow)
            obtain⟨vB,cB,sB⟩:=ih _ (K+20*(n+1)) (e++[high]) hSm1 (by omega) hK' (hlen _) (hcc _ hA1) (snocq he' hh3)
            have hwid:Tm (fun N=>cwidth N e) (fun r=>r=((nV e:Int),decide (evenV e))):=cwidth_tm (by omega)
            refine⟨vA&&vB,cbeg (Tm.bind cst ?_),fun hv x hx=>?_⟩
            · rintro _ rfl
              refine Tm.neg (by omega) (Tm.pos (by omega) (Tm.bind hwid ?_))
              rintro _ rfl
              refine Tm.bind (Q:=(·=false)) (Tm.ite (fun g=>Tm.pure (decide_eq_false (by omega))) (fun g=>Tm.pure rfl)) ?_
              rintro _ rfl
              refine Tm.neg (by simp) ?_
              refine Tm.bind hb1 ?_
              rintro a ⟨ha,hal⟩
              refine Tm.bind (bOf_tm (n:=1) (by decide) (by decide)) ?_
              rintro b ⟨hb,hbl⟩
              have hal':=hbd.2
              refine Tm.bind (bSub_tm ha.dg.inB hb.dg.inB (by omega) (by omega)) ?_
              rintro c ⟨hc,hcl⟩
              rw[ha.bv,hb.bv]at hc
              refine Tm.bind (negated_gen (K:=K+20*(n+1)) (by omega) (by omega) (fun x hx=>(hf x hx).mono (by omega)) (hc.ok (by omega))) ?_
              rintro r ⟨h1,h3,h4⟩
              rw[hc.bv]at h3
              obtain rfl:=hhu r h1 h3
              refine Tm.bind (Q:=(·=e)) (Tm.pure rfl) ?_
              rintro _ rfl
              refine Tm.step (apnd_ok (by simp only[List.length_cons,List.length_nil];omega) (by decide)) (Tm.step (idx_i (n:=0) rfl (by omega)) (Tm.bind cA ?_))
              intro t ht;rw[ht]
              refine Tm.ite (fun g=>?_) (fun g=>Tm.pure ?_)
              · refine Tm.step (apnd_ok (by simp only[List.length_cons,List.length_nil];omega) (by decide)) (Tm.step (idx_i (n:=1) rfl (by omega)) (Tm.bind cB ?_))
                rintro _ rfl
                exact Tm.pure (by simp[g])
              · have:vA=false:=by simpa using g
                simp[this]
            · rw[Bool.and_eq_true]at hv
              have g3:=steps_sat0 p.Steps l e hse hx
              have hfn:e≠[]→p.Form.length=nV e:=fun g1=>Classical.byContradiction fun h=>hw ⟨List.length_pos_iff.2 g1,h⟩
              have hnv:∀q:Ineq,q.Coefs.length=p.Form.length→nV (e++[q])=p.Form.length:=by
                intro q hq
                by_cases g1:e=[]
                · rw[g1];exact hq
                · rw[nV_app g1];exact(hfn g1).symm
              have both:∀q:Ineq,Sat p.Form.length x q→∀y∈e++[q],Sat (nV (e++[q])) x y:=fun q hq' y hy=>by
                rw[hnv q hq'.1]
                rcases List.mem_append.1 hy with h4|h4
                · have:=g3 y h4
                  rwa[←hfn (List.ne_nil_of_mem h4)]at this
                · rcases List.mem_singleton.1 h4 with rfl;exact hq'
              rcases Int.lt_or_le (bv p.Bound) (dotF (cf (Ineq.mk p.Form p.Bound)) x p.Form.length)with h4|h4
              · refine sB hv.2 x (both high ⟨hh1.1,?_⟩)
                have e1:dotF (cf high) x p.Form.length=dotF (fun j=>(-1)*cf (Ineq.mk p.Form p.Bound) j) x p.Form.length:=dotF_congr fun j hj=>by
                  have:=(hh1.2 j (by omega)).bv
                  show bv (high.Coefs.getD j big0)=-1*bv (p.Form.getD j big0)
                  rw[this]
                  show-bv (p.Form.getD j big0)=-1*bv (p.Form.getD j big0)
                  omega
                rw[e1,dotF_mul,hh2.bv]
                omega
              · exact sA hv.1 x (both _ ⟨rfl,h4⟩)
        · refine⟨false,cbeg (Tm.bind cst ?_),fun hv=>by cases hv⟩
          · rintro _ rfl
            exact Tm.neg (by omega) (Tm.neg (by omega) (Tm.pure rfl))
      · have cst:Tm (fun N=>loopM (cCheck_b1 N p) N (l,0)) (·=.inr false):=stepsC.mono (by
          rintro t (⟨e',rfl,h1,_⟩|⟨rfl,h1⟩)
          · have:=h1.uniq hsn;cases this
          · rfl)
        refine⟨false,cbeg (Tm.bind cst ?_),fun hv=>by cases hv⟩
        · rintro _ rfl;exact Tm.pure rfl
    · refine⟨false,Tm.succ ?_,fun h=>by cases h⟩
      · show Tm (fun N=>cCheck_step N (cCheck N) l p) _
        unfold cCheck_step
        refine Tm.bind (cwidth_tm (by omega)) ?_
        rintro _ rfl
        exact Tm.pos (by simp[hev]) (Tm.pure rfl)
open Go Go.X
theorem bkPs_mem:∀{l:List Proof} {c:Proof},c∈l→bkP c≤bkPs l
 |a::r,c,h=>by
  simp only[bkPs]
  rcases List.mem_cons.1 h with rfl|h
  · omega
  · have:=bkPs_mem h;omega
inductive InPr:Proof→Prop
 |mk {p:Proof} (h1:∀s∈p.Steps,InS s) (h2:p.Form.length≤9223372036854775807) (h3:∀b∈p.Form,In32 b) (h4:In32 p.Bound) (h5:p.Children.length≤9223372036854775807) (h6:∀c∈p.Children,InPr c):InPr p
theorem Sm.mono:∀{n m:Nat} {p:Proof},Sm n p→n≤m→Sm m p
 |0,_,_,h,_=>h.elim
 |n+1,0,_,_,h=>by omega
 |n+1,m+1,p,⟨h1,h2,h3,h4,h5,h6,h7⟩,h=>⟨by omega,h2,h3,h4,h5,fun c hc=>(h6 c hc).mono (by omega),h7⟩
theorem rweight_tm:∀(n:Nat) (p:Proof),bkP p≤n→n≤1048576→InPr p→Tm (fun N=>rweight N p) (fun r=>1≤r∧r≤101+101*(bkP p:Int)∧(r≤100→Sm r.toNat p)):=by
 intro n
 induction n with
 |zero=>intro p h;rw[bkP_eq]at h;omega
 |succ n ih=>
  intro p hb hn hp
  have hbe:=bkP_eq p
  cases hp with
  |mk h1 h2 h3 h4 h5 h6=>
  refine Tm.succ ?_
  show Tm (fun N=>rweight_step N (rweight N) p) _
  unfold rweight_step
  have hw:iw (1+(p.Steps.length:Int))=1+(p.Steps.length:Int):=by rw[iw_eq]<;>omega
  rw[hw]
  refine Tm.bind (Q:=fun r=>r=false→p.Form.length≤6∧(∀b∈p.Form,OkB 4 b)∧OkB 4 p.Bound) (Tm.bind (rbigs_tm h2) ?_) ?_
  · intro r hr
    refine Tm.ite (fun h=>Tm.pure (fun h=>by cases h)) (fun h=>Tm.pure (fun h'=>?_))
    have:=hr (by simpa using h)
    have h7:=of_decide_eq_false h'
    exact⟨this.1,fun b hb=>⟨h3 b hb,this.2 b hb⟩,h4,by omega⟩
  intro r hr
  refine Tm.ite (fun h=>Tm.pure ⟨by decide,by omega,fun h'=>absurd h' (by decide)⟩) (fun h=>?_)
  obtain⟨f1,f2,f3⟩:=hr (by simpa using h)
  refine Tm.bind (Q:=fun t:Sum Unit Int=>t=.inr 101∨(t=.inl ()∧(p.Steps.length≤99→∀s∈p.Steps,OkS s))) ?_ ?_
  · by_cases hl:p.Steps.length≤99
    · refine Tm.each (body:=fun N=>rweight_b1 N p) p.Steps OkS (by omega) ?_ ?_
      · intro k hk _
        dsimp only[rweight_b1]
        rw[hw]
        refine Tm.bind (Q:=(·=true)) (Tm.pos (by omega) (Tm.pure (decide_eq_true (by omega)))) ?_
        rintro _ rfl
        refine Tm.pos rfl (Tm.step (idx_ok hk) (Tm.bind (rSmallStep_tm (h1 _ (List.getElem_mem hk))) ?_))
        intro t ht
        refine Tm.ite (fun h=>Tm.pure (.inr ⟨_,rfl,.inl rfl⟩)) (fun h=>Tm.pure (.inl ⟨rfl,ht (by simpa using h)⟩))
      · intro hall
        dsimp only[rweight_b1]
        refine Tm.bind (Q:=(·=false)) (Tm.neg (by omega) (Tm.pure rfl)) ?_
        rintro _ rfl
        exact Tm.neg (by simp) (Tm.pure ⟨_,rfl,.inr ⟨rfl,fun _=>hall⟩⟩)
    · refine Tm.loop (fun _=>True) (fun _=>0) trivial ?_
      intro i _
      dsimp only[rweight_b1]
      rw[hw]
      refine Tm.bind (Q:=(·=false)) (Tm.ite (fun _=>Tm.pure (decide_eq_false (by omega))) (fun _=>Tm.pure rfl)) ?_
      rintro _ rfl
      exact Tm.neg (by simp) (Tm.pure (.inr ⟨rfl,fun h=>absurd h hl⟩))
  rintro _ (rfl|⟨rfl,hsteps⟩)
  · exact Tm.pure ⟨by decide,by omega,fun h'=>absurd h' (by decide)⟩
  refine Tm.bind (Q:=fun r=>1≤r∧r≤101+101*(bkP p:Int)∧(r≤100→Sm r.toNat p))
   (Tm.loop (fun t:Int×Int=>∃k:Nat,t.2=k∧k≤p.Children.length∧1+(p.Steps.length:Int)≤t.1∧t.1≤101+101*(bkP p:Int)∧∀j,(hj:j<p.Children.length)→j<k→∃r:Int,1≤r∧r+1≤t.1∧(r≤100→Sm r.toNat p.Children[j])) (fun t=>p.Children.length-t.2.toNat)
    ⟨0,rfl,Nat.zero_le _,Int.le_refl _,by dsimp only;omega,fun j _ h=>absurd h (by omega)⟩ ?_) (fun r h=>Tm.pure h)
  rintro⟨m,kk⟩ ⟨k,rfl,hk,hm0,hm1,hc⟩
  dsimp only[rweight_b2]at*
  refine Tm.bind (Q:=(·=decide (k<p.Children.length∧m≤100))) (Tm.ite (fun h=>Tm.pure ?_) (fun h=>Tm.pure ?_)) ?_
  · have:k<p.Children.length:=by omega
    simp[this]
  · have:¬k<p.Children.length:=by omega
    simp[this]
  rintro _ rfl
  refine Tm.ite (fun h=>?_) (fun h=>Tm.pure ?_)
  · obtain⟨g1,g2⟩:=of_decide_eq_true h
    refine Tm.step (idx_ok g1) ?_
    have hmem:=List.getElem_mem g1
    have hbk:=bkPs_mem hmem
    refine Tm.bind (ih _ (by omega) (by omega) (h6 _ hmem)) ?_
    rintro r ⟨r1,r2,r3⟩
    have e:iw (m+r)=m+r:=by rw[iw_eq]<;>omega
    refine Tm.pure ⟨⟨k+1,by show iw ((k:Int)+1)=_;rw[iw_eq]<;>omega,by omega,by dsimp only;omega,by dsimp only;omega,fun j hj hjk=>?_⟩,?_⟩
    · dsimp only
      rw[e]
      by_cases hjk':j<k
      · obtain⟨r',q1,q2,q3⟩:=hc j hj hjk'
        exact⟨r',q1,by omega,q3⟩
      · obtain rfl:j=k:=by omega
        exact⟨r,r1,by omega,r3⟩
    · show p.Children.length-(iw ((k:Int)+1)).toNat<p.Children.length-((k:Int)).toNat
      rw[iw_eq]<;>omega
  · have h:¬(k<p.Children.length∧m≤100):=by simpa using h
    refine⟨by omega,hm1,fun hm=>?_⟩
    have hkl:k=p.Children.length:=by omega
    obtain⟨q,hq⟩:∃q,m.toNat=q+1:=⟨m.toNat-1,by omega⟩
    rw[hq]
    refine⟨by omega,hsteps (by omega),f1,f2,f3,fun c hcm=>?_,fun c hcm=>?_⟩
    · obtain⟨j,hj,rfl⟩:=List.mem_iff_getElem.1 hcm
      obtain⟨r',q1,q2,q3⟩:=hc j hj (by omega)
      exact(q3 (by omega)).mono (by omega)
    · cases h6 c hcm with
      |mk _ _ _ _ g5 _=>exact g5
theorem rSmallProof_tm{p:Proof}(hb:bkP p≤1048576)(hp:InPr p):Tm (fun N=>rSmallProof N p) (fun t=>t=true→Sm 40 p):=by
 unfold rSmallProof
 refine Tm.bind (rweight_tm _ p (Nat.le_refl _) hb hp) ?_
 rintro r ⟨h1,h2,h3⟩
 refine Tm.pure (fun h=>?_)
 have:=of_decide_eq_true h
 exact(h3 (by omega)).mono (by omega)
def xv(x:List Big)(j:Nat):Int:=bv (x.getD j big0)
theorem dot_dotF{a b:List Big}:∀n,dot a b n=dotF (fun j=>bv (a.getD j big0)) (xv b) n
 |0=>rfl
 |n+1=>by simp only[dot,dotF,dot_dotF n];rfl
theorem holds_sat{q:Ineq}{x:List Big}:holdsV q x=true↔Sat x.length (xv x) q:=by
 unfold holdsV Sat
 rw[Bool.and_eq_true,decide_eq_true_eq,decide_eq_true_eq,dot_dotF];rfl
theorem nV_of{l:List Ineq}{x:List Big}(hn:l≠[])(h:∀q∈l,Sat x.length (xv x) q):nV l=x.length:=by
 cases l with
 |nil=>exact absurd rfl hn
 |cons a r=>exact(h a List.mem_cons_self).1
open Go Go.X
theorem bkRs_get:∀{l:List Refut} {k:Nat} (h:k<l.length),bkRs (l.take (k+1))=bkRs (l.take k)+bkR l[k]
 |a::r,0,_=>by simp[bkRs]
 |a::r,k+1,h=>by
  have:=bkRs_get (l:=r) (k:=k) (by simpa using h)
  simp only[List.take_succ_cons,bkRs,List.getElem_cons_succ]at this⊢
  omega
theorem bkRs_take:∀{l:List Refut} {k:Nat},bkRs (l.take k)≤bkRs l
 |[],k=>by simp
 |a::r,0=>by simp[bkRs]
 |a::r,k+1=>by
  have:=bkRs_take (l:=r) (k:=k)
  simp only[List.take_succ_cons,bkRs];omega
theorem bkRs_mem{l:List Refut}{k:Nat}(h:k<l.length):bkR l[k]≤bkRs l:=by
 have h1:=bkRs_get h
 have h2:=bkRs_take (l:=l) (k:=k+1)
 omega
inductive InRr:Refut→Prop
 |mk {r:Refut} (h1:I64 r.Var) (h2:I64 r.At) (h3:InPr r.Proof) (h4:r.Children.length≤9223372036854775807) (h5:∀c∈r.Children,InRr c):InRr r
inductive SmR:Refut→Prop
 |mk {r:Refut} (h1:Sm 40 r.Proof) (h2:r.Proof.Children.length≤9223372036854775807) (h3:∀c∈r.Children,SmR c):SmR r
theorem wparts_tm{r:Refut}(h:InRr r):bkR r≤1048576→Tm (fun N=>wparts N r) (fun v=>(1≤v∧v≤101*(bkR r:Int))∧(v≤30→SmR r)):=by
 induction h with
 |@mk r h1 h2 h3 h4 h5 ih=>
  intro hb
  have e:=bkR_eq r
  have e2:=bkP_eq r.Proof
  have hch:r.Proof.Children.length≤9223372036854775807:=by cases h3;assumption
  refine Tm.succ ?_
  show Tm (fun N=>wparts_step N (wparts N) r) _
  unfold wparts_step
  refine(rSmallProof_tm (by omega) h3).bind fun b hbb=>?_
  cases b with
  |false=>exact Tm.pos rfl (Tm.some ⟨⟨by omega,by omega⟩,fun h=>by omega⟩)
  |true=>
   have hS:=hbb rfl
   refine Tm.neg (by simp) ?_
   refine Tm.bind (Q:=fun v=>(1≤v∧v≤101*(bkR r:Int))∧(v≤30→SmR r)) ?_ fun v hv=>Tm.some hv
   refine Tm.up r.Children.length (fun k s=>s.2=(k:Int)∧(1≤s.1∧s.1≤101*(1+(bkRs (r.Children.take k):Int)))∧(s.1≤30→∀j (hj:j<r.Children.length),j<k→SmR r.Children[j])) ⟨rfl,⟨by omega,by omega⟩,fun _ j _ hj=>by omega⟩ ?_
   rintro k hk ⟨n,i⟩ ⟨hi,hn,hJ⟩
   dsimp only at hi hn hJ;subst hi
   unfold wparts_b1
   dsimp only
   have ht:=bkRs_take (l:=r.Children) (k:=k)
   have hend:101*(1+(bkRs (r.Children.take k):Int))≤101*(bkR r:Int):=by omega
   rcases Nat.lt_or_ge k r.Children.length with hlt|hge
   · by_cases g:n≤100
     · refine Tm.eq (a:=true) (Tm.pos (by omega) (Tm.some (decide_eq_true g))) (Tm.pos rfl (Tm.step (idx_n hlt) ?_))
       have hkb:=bkRs_mem hlt
       have hget:=bkRs_get hlt
       have ht1:=bkRs_take (l:=r.Children) (k:=k+1)
       refine(ih _ (List.getElem_mem hlt) (by omega)).bind fun v hv=>?_
       obtain⟨⟨v1,v2⟩,v3⟩:=hv
       have hw:iw (n+v)=n+v:=by rw[iw_eq]<;>omega
       refine Tm.some ⟨hlt,iw_n (by omega),?_,fun hle j hj hjk=>?_⟩
       · dsimp only;rw[hw];exact⟨by omega,by omega⟩
       · dsimp only at hle;rw[hw]at hle
         by_cases ejk:j=k
         · subst ejk;exact v3 (by omega)
         · exact hJ (by omega) j hj (by omega)
     · exact Tm.eq (a:=false) (Tm.pos (by omega) (Tm.some (decide_eq_false g))) (Tm.neg (by simp) (Tm.some ⟨⟨by omega,by omega⟩,fun h=>by omega⟩))
   · refine Tm.eq (a:=false) (Tm.neg (by omega) (Tm.some rfl)) (Tm.neg (by simp) (Tm.some ⟨⟨by omega,by omega⟩,fun h=>.mk hS hch fun c hc=>?_⟩))
     obtain⟨j,hj,rfl⟩:=List.getElem_of_mem hc
     exact hJ h j hj (by omega)
theorem wSmall_tm{r:Refut}(h:InRr r)(hb:bkR r≤1048576):Tm (fun N=>wSmall N r) (fun t=>t=true→SmR r):=by
 unfold wSmall
 refine(wparts_tm h hb).bind fun v hv=>Tm.some fun e=>hv.2 (of_decide_eq_true e)
open Go Go.X
section
variable {l:List RVar} {c:RClause} {rg:List Arr2Int} {R:List RVal} {a:List Int×Bool} {bs:List Int} {r:Refut}
theorem lbigs(V:List Int)(h:∀v∈V,I64 v):∃w,IsL w V∧∀b∈w,OkB 2 b:=by
 induction V with
 |nil=>exact⟨[],IsL.nil,fun b hb=>by cases hb⟩
 |cons v V ih=>
  obtain⟨w,h1,h2⟩:=ih fun x hx=>h x (List.mem_cons_of_mem _ hx)
  obtain⟨b,N0,⟨hb,hd⟩,_⟩:=lbig_tm (h v List.mem_cons_self)
  refine⟨b::w,⟨by simp[h1.1],fun j hj hj'=>?_⟩,fun x hx=>?_⟩
  · cases j with
    |zero=>exact hb
    |succ j=>exact h1.2 j (by simpa using hj) (by simpa using hj')
  · rcases List.mem_cons.1 hx with e|e
    · rw[e];exact hb.ok hd
    · exact h2 x e
theorem intsOf_okC(hd:DmOk l)(hv:ClOk c l)(hs:SmC c)(hr:RgOk l rg):∀x∈intsOf l c rg,OkC x:=by
 have hb:Bg=9223372036854775807:=rfl
 have hsx:=hs.ax;have hll:=hd.len
 intro x hx
 have hlen:=intsOf_cf hv hs hll x hx
 have one:∀(v n:Int),I64 n→∀k∈[Coef.mk v n],I64 k.N:=fun v n hn k hk=>by rw[List.mem_singleton.1 hk];exact hn
 have hbn:∀(v a b:Int),I64 a→x∈bnds v a b→OkC x:=by
  intro v a b ha hx
  unfold bnds at hx
  rcases List.mem_cons.1 hx with rfl|hx
  · exact⟨by omega,ha,one v _ (by unfold I64;omega)⟩
  · rcases List.mem_singleton.1 hx with rfl
    exact⟨by omega,I64_iw _,one v _ (by unfold I64;omega)⟩
 unfold intsOf at hx
 rcases List.mem_append.1 hx with hx|hx
 · rcases List.mem_append.1 hx with hx|hx
   · obtain⟨v,hvm,hx⟩:=List.mem_flatMap.1 hx
     unfold nnOf at hx
     split at hx
     · rename_i y hy
       split at hx
       · rename_i hty
         refine hbn _ _ _ ?_ hx
         have hm:=List.mem_of_getElem? hy
         unfold I64
         rcases hd.ty _ hm with⟨_,q1,_⟩|⟨q,_⟩<;>omega
       · cases hx
     · cases hx
   · obtain⟨i,hi,hx⟩:=List.mem_flatMap.1 hx
     have hi:=List.mem_range.1 hi
     rw[axAt_at hi]at hx
     unfold axOf at hx
     split at hx
     · refine hbn _ _ _ ?_ hx
       unfold I64
       split
       · rename_i y hy
         have:=hr.bd _ (List.mem_of_getElem? hy);omega
       · omega
     · rename_i g
       rcases hv.ax i hi with⟨g1,_⟩|⟨_,hby,_,hf⟩
       · exact absurd g1 g
       unfold quo at hx
       rcases List.mem_cons.1 hx with rfl|hx
       · refine⟨by omega,I64_iw _,fun k hk=>?_⟩
         rcases List.mem_append.1 (show k∈(c.Auxiliary[i].Of.Coefs.map fun x=>Coef.mk x.Var (iw (0-x.N)))++[Coef.mk _ _] from hk)with hk|hk
         · obtain⟨y,_,rfl⟩:=List.mem_map.1 hk
           exact I64_iw _
         · rw[List.mem_singleton.1 hk];show I64 c.Auxiliary[i].By;unfold I64;omega
       · rcases List.mem_singleton.1 hx with rfl
         refine⟨by omega,I64_iw _,fun k hk=>?_⟩
         rcases List.mem_append.1 (show k∈c.Auxiliary[i].Of.Coefs++[Coef.mk _ _] from hk)with hk|hk
         · have:=(hf.cf k hk).2.2;unfold I64;omega
         · rw[List.mem_singleton.1 hk];exact I64_iw _
 · have hf:=hv.it x hx
   have:=hf.cst
   refine⟨by omega,by unfold I64;omega,fun k hk=>?_⟩
   have:=(hf.cf k hk).2.2;unfold I64;omega
theorem nul_sound(hR:RowOk R l)(hv:ClOk c l)(hh:HoldOk c R a)(v:Int):nul c l v=false:=by
 unfold nul
 by_cases h1:v∈c.Null
 · obtain⟨k,e,hk⟩:=var_n (hv.nl.bd _ h1)
   have hkR:k<R.length:=by have:=hR.len;omega
   have hx:R[v.toNat]?=some R[k]:=by rw[e,Int.toNat_natCast];exact List.getElem?_eq_getElem hkR
   have h0:=hh.nl v h1 _ hx
   have hnn:v∉c.NotNull:=fun h2=>hh.nn v h2 _ hx h0
   have hn:nulB l v=true:=by
    unfold nulB
    rw[e,Int.toNat_natCast,List.getElem?_eq_getElem hk]
    rcases hR.at' k hkR hk with⟨_,_,_,g⟩|⟨g,_⟩|⟨g,_⟩
    · exact g
    · omega
    · omega
   rw[decide_eq_true h1,decide_eq_false hnn,hn];rfl
 · rw[decide_eq_false h1];rfl
theorem vcheck2(hk:r.Kind=2)(hS:Sm 40 r.Proof)(hC:r.Proof.Children.length≤9223372036854775807)(hR:RowOk R l)(hd:DmOk l)(hv:ClOk c l)(hs:SmC c)(hb:BdsOk c l bs)(hx:∀k∈c.Ints,∃r,FrmX k.Linear c l bs r)(hrow:∀v∈R,v.Int.natAbs≤2147483648)(hh:HoldOk c R a)(ha:AxV c R l bs a.1)(hr:RgOk l rg)
 (hok:∀k∈intsOf l c rg,OkC k):∃b,Tm (fun N=>vcheck N l c r rg) (·=b)∧(LensOk R rg→b=false):=by
 have hl:=hd.len
 have hil:=intsOf_len (rg:=rg) hv hs hl
 obtain⟨sys,K0,hsys,hK0⟩:=cSystem_tm (n:=((l.length+c.Auxiliary.length:Nat):Int)) hok hil
 have hq:=hsys.ok hok
 obtain⟨v,hc,hsat⟩:=ccheck_tm 40 r.Proof 512 sys hS (by decide) (by decide) (by omega) hC hq.2
 refine⟨v,?_,fun hlen=>?_⟩
 · refine Tm.succ ?_
   show Tm (fun N=>vcheck_step N (vcheck N) l c r rg) _
   unfold vcheck_step
   refine Tm.neg (by omega) (Tm.neg (by omega) (Tm.pos hk ((vInts_tm hv hs hr hl).eq ?_)))
   exact Tm.eq (a:=sys) ⟨sys,K0,rfl,hK0⟩ (hc.eq (Tm.some rfl))
 · cases v with
   |false=>rfl
   |true=>
    exfalso
    have hgood:=intsOf_good hR hd hv hs hr hb hx hh ha hlen
    have hVl:(vsOf R a.1).length=l.length+c.Auxiliary.length:=by
     unfold vsOf;rw[List.length_append,List.length_map];have:=hR.len;have:=ha.len;omega
    have hI:∀v∈vsOf R a.1,I64 v:=by
     intro v hm
     unfold vsOf at hm
     rcases List.mem_append.1 hm with h|h
     · obtain⟨x,hx',rfl⟩:=List.mem_map.1 h
       have:=hrow x hx'
       unfold I64;omega
     · obtain⟨k,hk',rfl⟩:=List.getElem_of_mem h
       have hal:=ha.len
       have hbk:=ha.bnd k hk'
       have hbl:=bs_le hb hv (k:=k) (by omega)
       rw[getD_n hk']at hbk
       unfold I64;omega
    obtain⟨w,hw1,hw2⟩:=lbigs _ hI
    have hwl:w.length=(vsOf R a.1).length:=hw1.1
    rcases hsys with⟨_,hSy⟩|⟨g,_⟩
    · rw[←hVl]at hSy hgood
      have hall:=sys_good hw1 hgood hSy
      refine hsat rfl (xv w) fun q hqm=>?_
      have h1:=holds_sat.1 (hall q hqm)
      have hn:sys≠[]:=List.ne_nil_of_mem hqm
      rw[nV_of hn fun y hy=>holds_sat.1 (hall y hy)]
      exact h1
    · exact absurd (fun k hk=>(hgood k hk).right) g
theorem vcheck3F(hk:r.Kind=3)(hv:ClOk c l)(hd:DmOk l)(hr:RgOk l rg):(Tm (fun N=>vcheck N l c r rg) (·=false))∨∃(k:Nat) (hkl:k<l.length) (p q:Refut),r.Var=(k:Int)∧r.Var∈c.NotNull∧l[k].Ty=2∧(rg.getD k (Arr2Int.mk 0 0)).e0≤r.At∧r.At<(rg.getD k (Arr2Int.mk 0 0)).e1∧r.Children=[p,q]:=by
 have hb:Bg=9223372036854775807:=rfl
 have n2:=hv.nn.len;have hl:=hd.len;have hrl:=hr.len
 have start:∀{g:Nat→Option Bool},Tm g (·=true)→(∀N,vcheck_step N (vcheck N) l c r rg=(g N).bind fun x=>if x=true then some false else((fun N=>(clonePair N rg).bind fun r304=>(clonePair N rg).bind fun r320=>(idx r304 r.Var).bind fun x336=>(upd1 r304 r.Var (Arr2Int.mk x336.e0 r.At)).bind fun x349=>(idx r320 r.Var).bind fun x364=>(upd1 r320 r.Var (Arr2Int.mk (iw (r.At+1)) x364.e1)).bind fun x377=>(idx r.Children 0).bind fun x392=>(vcheck N l c x392 x349).bind fun r416=>if r416=true then(idx r.Children 1).bind fun x433=>(vcheck N l c x433 x377).bind fun r457=>some r457 else some false) N))→Tm (fun N=>vcheck N l c r rg) (·=false):=by
  intro g hg he
  refine Tm.succ ?_
  show Tm (fun N=>vcheck_step N (vcheck N) l c r rg) _
  simp only[he]
  exact hg.eq (Tm.pos rfl (Tm.some rfl))
 have all:∀N,vcheck_step N (vcheck N) l c r rg=((containsOf N c.NotNull r.Var).bind fun r228=>if(!r228)=true then some true else(idx l r.Var).bind fun x240=>if(x240.Ty:Int)≠2 then some true else(idx rg r.Var).bind fun x259=>if(r.At:Int)<x259.e0 then some true else(idx rg r.Var).bind fun x278=>if(r.At:Int)≥x278.e1 then some true else some (decide (((List.length r.Children:Int):Int)≠2))).bind fun x=>if x=true then some false else((fun N=>(clonePair N rg).bind fun r304=>(clonePair N rg).bind fun r320=>(idx r304 r.Var).bind fun x336=>(upd1 r304 r.Var (Arr2Int.mk x336.e0 r.At)).bind fun x349=>(idx r320 r.Var).bind fun x364=>(upd1 r320 r.Var (Arr2Int.mk (iw (r.At+1)) x364.e1)).bind fun x377=>(idx r.Children 0).bind fun x392=>(vcheck N l c x392 x349).bind fun r416=>if r416=true then(idx r.Children 1).bind fun x433=>(vcheck N l c x433 x377).bind fun r457=>some r457 else some false) N):=by
  intro N
  unfold vcheck_step
  rw[if_neg (by omega),if_neg (by omega),if_neg (by omega),if_pos hk]
 by_cases hm:r.Var∈c.NotNull
 · obtain⟨k,ek,hkl⟩:=var_n (hv.nn.bd _ hm)
   have hkr:k<rg.length:=by omega
   by_cases h2:l[k].Ty=2
   · by_cases h3:r.At<rg[k].e0
     · left
       refine start ?_ all
       refine(containsOf_tm (by omega)).eq ?_
       rw[decide_eq_true hm,ek]
       exact Tm.neg (by simp) (Tm.step (idx_n hkl) (Tm.neg (by simp[h2]) (Tm.step (idx_n hkr) (Tm.pos h3 (Tm.some rfl)))))
     · by_cases h4:r.At≥rg[k].e1
       · left
         refine start ?_ all
         refine(containsOf_tm (by omega)).eq ?_
         rw[decide_eq_true hm,ek]
         exact Tm.neg (by simp) (Tm.step (idx_n hkl) (Tm.neg (by simp[h2]) (Tm.step (idx_n hkr) (Tm.neg h3 (Tm.step (idx_n hkr) (Tm.pos h4 (Tm.some rfl)))))))
       · by_cases h5:r.Children.length=2
         · right
           match hc:r.Children,h5 with
           |[p,q],_=>
            refine⟨k,hkl,p,q,ek,hm,h2,?_,?_,rfl⟩
            · rw[getD_n hkr];omega
            · rw[getD_n hkr];omega
         · left
           refine start ?_ all
           refine(containsOf_tm (by omega)).eq ?_
           rw[decide_eq_true hm,ek]
           exact Tm.neg (by simp) (Tm.step (idx_n hkl) (Tm.neg (by simp[h2]) (Tm.step (idx_n hkr) (Tm.neg h3 (Tm.step (idx_n hkr) (Tm.neg h4 (Tm.some (decide_eq_true (by omega)))))))))
   · left
     refine start ?_ all
     refine(containsOf_tm (by omega)).eq ?_
     rw[decide_eq_true hm,ek]
     exact Tm.neg (by simp) (Tm.step (idx_n hkl) (Tm.pos h2 (Tm.some rfl)))
 · left
   refine start ?_ all
   refine(containsOf_tm (by omega)).eq ?_
   rw[decide_eq_false hm]
   exact Tm.pos rfl (Tm.some rfl)
theorem vcheck_sound(hR:RowOk R l)(hd:DmOk l)(hv:ClOk c l)(hs:SmC c)(hb:BdsOk c l bs)(hx:∀k∈c.Ints,∃r,FrmX k.Linear c l bs r)(hrow:∀v∈R,v.Int.natAbs≤2147483648)(hh:HoldOk c R a)(ha:AxV c R l bs a.1)
 (hok:∀rg,RgOk l rg→∀k∈intsOf l c rg,OkC k){F:Refut}(hF:SmR F):∀rg,RgOk l rg→∃b,Tm (fun N=>vcheck N l c F rg) (·=b)∧(LensOk R rg→b=false):=by
 induction hF with
 |@mk r h1 h2 h3 ih=>
  intro rg hr
  by_cases k0:r.Kind=0
  · exact⟨_,vcheck0 k0 hv hd.len,fun _=>nul_sound hR hv hh _⟩
  · by_cases k1:r.Kind=1
    · obtain⟨b,K,hb',hK⟩:=vcheck1 (rg:=rg) k1 hd hv hs hr
      refine⟨b,⟨b,K,rfl,hK⟩,fun hlen=>?_⟩
      cases b with
      |false=>rfl
      |true=>
       have:=hb'.1 rfl ((tvs l c).map (textAt R))
       rw[texts_sat hR hd hv hr hh hlen]at this;cases this
    · by_cases k2:r.Kind=2
      · exact vcheck2 k2 h1 h2 hR hd hv hs hb hx hrow hh ha hr (hok rg hr)
      · by_cases k3:r.Kind=3
        · rcases vcheck3F k3 hv hd hr with h|⟨k,hkl,p,q,ek,hm,t2,a0,a1,hch⟩
          · exact⟨_,h,fun _=>rfl⟩
          · have hkr:k<rg.length:=by rw[hr.len];exact hkl
            have hbd:=hr.bd _ (List.getElem_mem hkr)
            have a0':=a0;have a1':=a1
            rw[getD_n hkr]at a0' a1'
            have hsA:=shortR_ok (k:=k) (a:=r.At) hr (by omega)
            have hsB:=longR_ok (k:=k) (a:=r.At) hr (by omega)
            obtain⟨b1,t1,f1⟩:=ih p (by rw[hch];simp) _ hsA
            obtain⟨b2,t2',f2⟩:=ih q (by rw[hch];simp) _ hsB
            refine⟨_,vcheck3 k3 hkl ek hm t2 hv hd hr a0 a1 hch t1 t2',fun hlen=>?_⟩
            have hkR:k<R.length:=by have:=hR.len;omega
            have hkind:R[k].Kind=2:=by
             have hn:=hh.nn _ hm R[k] (by rw[ek,Int.toNat_natCast];exact List.getElem?_eq_getElem hkR)
             rcases hR.at' k hkR hkl with⟨g,_⟩|⟨_,_,g,_⟩|⟨g,_⟩
             · exact absurd g hn
             · omega
             · exact g
            obtain⟨u1,u2⟩:=hlen k hkR hkr hkind
            by_cases g:(R[k].Text.length:Int)≤r.At
            · have:LensOk R (shortR rg k r.At):=by
               intro i hi hi' hki
               have hi2:i<rg.length:=by unfold shortR at hi';rw[List.length_set]at hi';exact hi'
               have:=hlen i hi hi2 hki
               simp only[shortR,List.getElem_set]
               split
               · rename_i e;subst e
                 rw[getD_n hkr];exact⟨u1,g⟩
               · exact this
              rw[f1 this];rfl
            · have:LensOk R (longR rg k r.At):=by
               intro i hi hi' hki
               have hi2:i<rg.length:=by unfold longR at hi';rw[List.length_set]at hi';exact hi'
               have:=hlen i hi hi2 hki
               simp only[longR,List.getElem_set]
               split
               · rename_i e;subst e
                 rw[getD_n hkr];exact⟨by dsimp only;omega,u2⟩
               · exact this
              rw[f2 this,Bool.and_false]
        · exact⟨_,vcheckX k0 k1 k2 k3,fun _=>rfl⟩
theorem lens0(hR:RowOk R l):LensOk R (rg0 l):=by
 intro i h h' hk
 have hi:i<l.length:=by rw[←hR.len];exact h
 rcases hR.at' i h hi with⟨g,_⟩|⟨g,_⟩|⟨_,_,g,_,_,g2⟩
 · omega
 · omega
 · rw[rg0_get hi,if_pos g]
   exact⟨by dsimp only;omega,g2⟩
theorem lawSound_tm{x:RClaim}(hl:x.L.length≤1048576)(h:LimX (RCase.mk x.L x.C (rg0 x.L) []))(hF:InRr x.F)(hb:bkR x.F≤1048576)(hRl:x.R.length≤Bg)(hRt:∀v∈x.R,v.Text.length≤Bg):Tm (fun N=>lawSound N x) (·=true):=by
 have hbg:Bg=9223372036854775807:=rfl
 unfold lawSound
 refine(wRanges_tm hl).eq ?_
 refine Tm.bind (Q:=fun b=>b=false→Tm (fun N=>vcheck N x.L x.C x.F (rg0 x.L)) (·=false)) ?_ fun b hb'=>?_
 · refine awake_tm.bind fun r1 h1=>?_
   subst h1
   refine Tm.neg (by simp) ((lright_tm h).bind fun r hr=>?_)
   cases r with
   |false=>exact Tm.pos rfl (Tm.some fun e=>by cases e)
   |true=>
    have hx:=hr rfl
    have hd:DmOk x.L:=hx.d
    have hv:ClOk x.C x.L:=hx.v
    have hs:SmC x.C:=hx.s
    have hg:RgOk x.L (rg0 x.L):=hx.r
    refine Tm.neg (by simp) ((wSmall_tm hF hb).bind fun r0 hr0=>?_)
    cases r0 with
    |false=>exact Tm.pos rfl (Tm.some fun e=>by cases e)
    |true=>
     have hS:=hr0 rfl
     refine Tm.neg (by simp) ((u16Inside_tm hRl hRt).bind fun r2 hr2=>?_)
     cases r2 with
     |false=>exact Tm.pos rfl (Tm.some fun e=>by cases e)
     |true=>
      have hR:=hr2 rfl
      have hrow:∀v∈x.R,v.Int.natAbs≤2147483648:=fun v hv=>by
       obtain⟨i,hi,rfl⟩:=List.getElem_of_mem hv
       have hi':i<x.L.length:=by rw[←hR.len];exact hi
       rcases hR.at' i hi hi' with⟨_,g,_⟩|⟨_,_,g0,g1,g2⟩|⟨_,g,_⟩
       · omega
       · rcases hd.ty _ (List.getElem_mem hi')with⟨_,q1,q2⟩|⟨q,_⟩
         · omega
         · omega
       · omega
      obtain⟨bs,hbo,hix⟩:=hv.bx
      obtain⟨a,ha,hT⟩:=Tm.fix (sAuxiliary_tm hR hv hs hd.len hrow hbo)
      refine Tm.neg (by simp) ((sHolds_tm hR hv hs hd.len hrow hbo hix hT ha).bind fun r3 hr3=>Tm.some fun e=>?_)
      have hH:=hr3 (by simpa using e)
      obtain⟨b,tb,fb⟩:=vcheck_sound hR hd hv hs hbo hix hrow hH (ha hH.ax) (fun rg hrg k hk=>intsOf_okC hd hv hs hrg k hk) hS (rg0 x.L) hg
      rw[fb (lens0 hR)]at tb
      exact tb
 · cases b with
   |true=>exact Tm.pos rfl (awake_end rfl)
   |false=>
    refine Tm.neg (by simp) ?_
    unfold vCheck
    refine Tm.bind (Q:=(·=false)) ((vfirst_tm hl).eq ((hb' rfl).eq (Tm.some rfl))) fun b e=>by subst e;exact Tm.some rfl
end
end Go.D
set_option maxRecDepth 100000
namespace Go.Proofs.YtcakdidcpoolcaaGreatDoor.Q25
open Go Go.ChangeShapes Go.WideShapes Go.ChangeAt Go.RowKit Go.X Go.D
section
variable {H:Type} {enc:TypeId×Value→H} {W:World}
def G3(x:Int):Prop:=(Lit.int .i64 x).wf=true
theorem o3:∀N,Opn enc Tryz.prog W N (rInt .i64) 3 G3:=fun N=>Opn.int Tryz.underlying3
def G2(x:Int):Prop:=(Lit.int .i64 x).wf=true
theorem o2:∀N,Opn enc Tryz.prog W N (rInt .i64) 2 G2:=fun N=>Opn.int Tryz.underlying2
def G4(_:Bool):Prop:=True
theorem o4:∀N,Opn enc Tryz.prog W N rBool 4 G4:=fun N=>Opn.bool Tryz.underlying4
def G83(x:RVar):Prop:=G3 x.Ty∧G2 x.Low∧G2 x.High∧G3 x.Max∧G4 x.Nullable∧True
theorem o83:∀N,Opn enc Tryz.prog W N rRVar 83 G83:=by
 intro N fuel hf cs x h
 obtain⟨hl,n,hn,hfs⟩:=trod_fields Tryz.underlying83 h
 have hl:cs.length=5:=hl
 match cs,hl with
 |[c0,c1,c2,c3,c4],_=>
  obtain⟨y0,h0⟩:=hfs 0 _ rfl
  obtain⟨a0,r0,g0⟩:=o3 n n (Nat.le_refl _) _ _ h0
  have r0:(rInt .i64).R (HW W) [c0] a0:=r0
  have r0:[c0]=[.int .i64 a0]:=r0
  cases r0
  obtain⟨y1,h1⟩:=hfs 1 _ rfl
  obtain⟨a1,r1,g1⟩:=o2 n n (Nat.le_refl _) _ _ h1
  have r1:(rInt .i64).R (HW W) [c1] a1:=r1
  have r1:[c1]=[.int .i64 a1]:=r1
  cases r1
  obtain⟨y2,h2⟩:=hfs 2 _ rfl
  obtain⟨a2,r2,g2⟩:=o2 n n (Nat.le_refl _) _ _ h2
  have r2:(rInt .i64).R (HW W) [c2] a2:=r2
  have r2:[c2]=[.int .i64 a2]:=r2
  cases r2
  obtain⟨y3,h3⟩:=hfs 3 _ rfl
  obtain⟨a3,r3,g3⟩:=o3 n n (Nat.le_refl _) _ _ h3
  have r3:(rInt .i64).R (HW W) [c3] a3:=r3
  have r3:[c3]=[.int .i64 a3]:=r3
  cases r3
  obtain⟨y4,h4⟩:=hfs 4 _ rfl
  obtain⟨a4,r4,g4⟩:=o4 n n (Nat.le_refl _) _ _ h4
  have r4:rBool.R (HW W) [c4] a4:=r4
  have r4:[c4]=[.bool a4]:=r4
  cases r4
  exact⟨⟨a0,a1,a2,a3,a4⟩,⟨rfl,trivial⟩,⟨g0,g1,g2,g3,g4,trivial⟩⟩
def G22(xs:(List RVar)):Prop:=xs.length≤9223372036854775807∧∀x∈xs,G83 x
def G23(xs:(List Int)):Prop:=xs.length≤9223372036854775807∧∀x∈xs,G3 x
def G87(x:Coef):Prop:=G3 x.Var∧G2 x.N∧True
theorem o87:∀N,Opn enc Tryz.prog W N rCoef 87 G87:=by
 intro N fuel hf cs x h
 obtain⟨hl,n,hn,hfs⟩:=trod_fields Tryz.underlying87 h
 have hl:cs.length=2:=hl
 match cs,hl with
 |[c0,c1],_=>
  obtain⟨y0,h0⟩:=hfs 0 _ rfl
  obtain⟨a0,r0,g0⟩:=o3 n n (Nat.le_refl _) _ _ h0
  have r0:(rInt .i64).R (HW W) [c0] a0:=r0
  have r0:[c0]=[.int .i64 a0]:=r0
  cases r0
  obtain⟨y1,h1⟩:=hfs 1 _ rfl
  obtain⟨a1,r1,g1⟩:=o2 n n (Nat.le_refl _) _ _ h1
  have r1:(rInt .i64).R (HW W) [c1] a1:=r1
  have r1:[c1]=[.int .i64 a1]:=r1
  cases r1
  exact⟨⟨a0,a1⟩,⟨rfl,trivial⟩,⟨g0,g1,trivial⟩⟩
def G88(xs:(List Coef)):Prop:=xs.length≤9223372036854775807∧∀x∈xs,G87 x
theorem o88:∀N,Opn enc Tryz.prog W N (rSl rCoef) 88 G88:=fun N=>Opn.less (Opn.slice Tryz.underlying88 (by kernel_rfl) rfl (o87 N))
def G90(x:Linear):Prop:=G2 x.Const∧G88 x.Coefs∧True
theorem o90:∀N,Opn enc Tryz.prog W N rLinear 90 G90:=by
 intro N fuel hf cs x h
 obtain⟨hl,n,hn,hfs⟩:=trod_fields Tryz.underlying90 h
 have hl:cs.length=2:=hl
 match cs,hl with
 |[c0,c1],_=>
  obtain⟨y0,h0⟩:=hfs 0 _ rfl
  obtain⟨a0,r0,g0⟩:=o2 n n (Nat.le_refl _) _ _ h0
  have r0:(rInt .i64).R (HW W) [c0] a0:=r0
  have r0:[c0]=[.int .i64 a0]:=r0
  cases r0
  obtain⟨y1,h1⟩:=hfs 1 _ rfl
  obtain⟨a1,r1,g1⟩:=o88 n n (Nat.le_refl _) _ _ h1
  have r1:(rSl rCoef).R (HW W) [c1] a1:=r1
  obtain⟨v1,e1,k1⟩:=r1
  cases e1
  exact⟨⟨a0,a1⟩,⟨_,rfl,k1,trivial⟩,⟨g0,g1,trivial⟩⟩
def G104(x:RAux):Prop:=G90 x.Of∧G2 x.By∧G3 x.Text∧True
theorem o104:∀N,Opn enc Tryz.prog W N rRAux 104 G104:=by
 intro N fuel hf cs x h
 obtain⟨hl,n,hn,hfs⟩:=trod_fields Tryz.underlying104 h
 have hl:cs.length=4:=hl
 match cs,hl with
 |[c0,c1,c2,c3],_=>
  obtain⟨y0,h0⟩:=hfs 0 _ rfl
  obtain⟨a0,r0,g0⟩:=o90 n n (Nat.le_refl _) _ _ h0
  have r0:rLinear.R (HW W) [c0,c1] a0:=r0
  obtain⟨v0_0,e0,k0_0,-⟩:=r0
  cases e0
  obtain⟨y1,h1⟩:=hfs 1 _ rfl
  obtain⟨a1,r1,g1⟩:=o2 n n (Nat.le_refl _) _ _ h1
  have r1:(rInt .i64).R (HW W) [c2] a1:=r1
  have r1:[c2]=[.int .i64 a1]:=r1
  cases r1
  obtain⟨y2,h2⟩:=hfs 2 _ rfl
  obtain⟨a2,r2,g2⟩:=o3 n n (Nat.le_refl _) _ _ h2
  have r2:(rInt .i64).R (HW W) [c3] a2:=r2
  have r2:[c3]=[.int .i64 a2]:=r2
  cases r2
  exact⟨⟨a0,a1,a2⟩,⟨_,rfl,k0_0,trivial⟩,⟨g0,g1,g2,trivial⟩⟩
def G24(xs:(List RAux)):Prop:=xs.length≤9223372036854775807∧∀x∈xs,G104 x
def G92(x:Constraint):Prop:=G90 x.Linear∧G4 x.Equal∧True
theorem o92:∀N,Opn enc Tryz.prog W N rConstraint 92 G92:=by
 intro N fuel hf cs x h
 obtain⟨hl,n,hn,hfs⟩:=trod_fields Tryz.underlying92 h
 have hl:cs.length=3:=hl
 match cs,hl with
 |[c0,c1,c2],_=>
  obtain⟨y0,h0⟩:=hfs 0 _ rfl
  obtain⟨a0,r0,g0⟩:=o90 n n (Nat.le_refl _) _ _ h0
  have r0:rLinear.R (HW W) [c0,c1] a0:=r0
  obtain⟨v0_0,e0,k0_0,-⟩:=r0
  cases e0
  obtain⟨y1,h1⟩:=hfs 1 _ rfl
  obtain⟨a1,r1,g1⟩:=o4 n n (Nat.le_refl _) _ _ h1
  have r1:rBool.R (HW W) [c2] a1:=r1
  have r1:[c2]=[.bool a1]:=r1
  cases r1
  exact⟨⟨a0,a1⟩,⟨_,rfl,k0_0,trivial⟩,⟨g0,g1,trivial⟩⟩
def G25(xs:(List Constraint)):Prop:=xs.length≤9223372036854775807∧∀x∈xs,G92 x
def G9(s:List UInt8):Prop:=s.length≤9223372036854775807
theorem o9:∀N,Opn enc Tryz.prog W N rStr 9 G9:=fun N=>Opn.strL Tryz.underlying9
def G112(x:TTest):Prop:=G3 x.Var∧G3 x.Kind∧G4 x.Negated∧G9 x.Text∧True
theorem o112:∀N,Opn enc Tryz.prog W N rTTest 112 G112:=by
 intro N fuel hf cs x h
 obtain⟨hl,n,hn,hfs⟩:=trod_fields Tryz.underlying112 h
 have hl:cs.length=4:=hl
 match cs,hl with
 |[c0,c1,c2,c3],_=>
  obtain⟨y0,h0⟩:=hfs 0 _ rfl
  obtain⟨a0,r0,g0⟩:=o3 n n (Nat.le_refl _) _ _ h0
  have r0:(rInt .i64).R (HW W) [c0] a0:=r0
  have r0:[c0]=[.int .i64 a0]:=r0
  cases r0
  obtain⟨y1,h1⟩:=hfs 1 _ rfl
  obtain⟨a1,r1,g1⟩:=o3 n n (Nat.le_refl _) _ _ h1
  have r1:(rInt .i64).R (HW W) [c1] a1:=r1
  have r1:[c1]=[.int .i64 a1]:=r1
  cases r1
  obtain⟨y2,h2⟩:=hfs 2 _ rfl
  obtain⟨a2,r2,g2⟩:=o4 n n (Nat.le_refl _) _ _ h2
  have r2:rBool.R (HW W) [c2] a2:=r2
  have r2:[c2]=[.bool a2]:=r2
  cases r2
  obtain⟨y3,h3⟩:=hfs 3 _ rfl
  obtain⟨a3,r3,g3⟩:=o9 n n (Nat.le_refl _) _ _ h3
  have r3:rStr.R (HW W) [c3] a3:=r3
  have r3:[c3]=[.string (s8 a3)]:=r3
  cases r3
  exact⟨⟨a0,a1,a2,a3⟩,⟨rfl,trivial⟩,⟨g0,g1,g2,g3,trivial⟩⟩
def G26(xs:(List TTest)):Prop:=xs.length≤9223372036854775807∧∀x∈xs,G112 x
def G54(x:Arr2Int):Prop:=G3 x.e0∧G3 x.e1∧True
theorem o54:∀N,Opn enc Tryz.prog W N rArr2Int 54 G54:=by
 intro N fuel hf cs x h
 obtain⟨hl,n,hn,hfs⟩:=trod_elems Tryz.underlying54 h
 have hl:cs.length=2:=hl
 match cs,hl with
 |[c0,c1],_=>
  obtain⟨y0,h0⟩:=hfs 0 (by decide)
  obtain⟨a0,r0,g0⟩:=o3 n n (Nat.le_refl _) _ _ h0
  have r0:(rInt .i64).R (HW W) [c0] a0:=r0
  have r0:[c0]=[.int .i64 a0]:=r0
  cases r0
  obtain⟨y1,h1⟩:=hfs 1 (by decide)
  obtain⟨a1,r1,g1⟩:=o3 n n (Nat.le_refl _) _ _ h1
  have r1:(rInt .i64).R (HW W) [c1] a1:=r1
  have r1:[c1]=[.int .i64 a1]:=r1
  cases r1
  exact⟨⟨a0,a1⟩,⟨rfl,trivial⟩,⟨g0,g1,trivial⟩⟩
def G27(xs:(List Arr2Int)):Prop:=xs.length≤9223372036854775807∧∀x∈xs,G54 x
def G29(x:RClause):Prop:=G23 x.Null∧G23 x.NotNull∧G24 x.Auxiliary∧G25 x.Ints∧G26 x.Tests∧G27 x.Same∧G27 x.Different∧True
def G177(x:Int):Prop:=(Lit.int .u32 x).wf=true
theorem o177:∀N,Opn enc Tryz.prog W N (rInt .u32) 177 G177:=fun N=>Opn.int Tryz.underlying177
def G55(xs:(List Int)):Prop:=xs.length≤9223372036854775807∧∀x∈xs,G177 x
theorem o55:∀N,Opn enc Tryz.prog W N (rSl (rInt .u32)) 55 G55:=fun N=>Opn.less (Opn.slice Tryz.underlying55 (by kernel_rfl) rfl (o177 N))
def G57(x:Big):Prop:=G4 x.Negative∧G55 x.Digits∧True
theorem o57:∀N,Opn enc Tryz.prog W N rBig 57 G57:=by
 intro N fuel hf cs x h
 obtain⟨hl,n,hn,hfs⟩:=trod_fields Tryz.underlying57 h
 have hl:cs.length=2:=hl
 match cs,hl with
 |[c0,c1],_=>
  obtain⟨y0,h0⟩:=hfs 0 _ rfl
  obtain⟨a0,r0,g0⟩:=o4 n n (Nat.le_refl _) _ _ h0
  have r0:rBool.R (HW W) [c0] a0:=r0
  have r0:[c0]=[.bool a0]:=r0
  cases r0
  obtain⟨y1,h1⟩:=hfs 1 _ rfl
  obtain⟨a1,r1,g1⟩:=o55 n n (Nat.le_refl _) _ _ h1
  have r1:(rSl (rInt .u32)).R (HW W) [c1] a1:=r1
  obtain⟨v1,e1,k1⟩:=r1
  cases e1
  exact⟨⟨a0,a1⟩,⟨_,rfl,k1,trivial⟩,⟨g0,g1,trivial⟩⟩
def G94(x:Use):Prop:=G3 x.Index∧G57 x.N∧True
theorem o94:∀N,Opn enc Tryz.prog W N rUse 94 G94:=by
 intro N fuel hf cs x h
 obtain⟨hl,n,hn,hfs⟩:=trod_fields Tryz.underlying94 h
 have hl:cs.length=3:=hl
 match cs,hl with
 |[c0,c1,c2],_=>
  obtain⟨y0,h0⟩:=hfs 0 _ rfl
  obtain⟨a0,r0,g0⟩:=o3 n n (Nat.le_refl _) _ _ h0
  have r0:(rInt .i64).R (HW W) [c0] a0:=r0
  have r0:[c0]=[.int .i64 a0]:=r0
  cases r0
  obtain⟨y1,h1⟩:=hfs 1 _ rfl
  obtain⟨a1,r1,g1⟩:=o57 n n (Nat.le_refl _) _ _ h1
  have r1:rBig.R (HW W) [c1,c2] a1:=r1
  obtain⟨v1_0,e1,k1_0,-⟩:=r1
  cases e1
  exact⟨⟨a0,a1⟩,⟨_,rfl,k1_0,trivial⟩,⟨g0,g1,trivial⟩⟩
def G95(xs:(List Use)):Prop:=xs.length≤9223372036854775807∧∀x∈xs,G94 x
theorem o95:∀N,Opn enc Tryz.prog W N (rSl rUse) 95 G95:=fun N=>Opn.less (Opn.slice Tryz.underlying95 (by kernel_rfl) rfl (o94 N))
def G97(x:Step):Prop:=G95 x.Uses∧G57 x.Divisor∧True
theorem o97:∀N,Opn enc Tryz.prog W N rStep 97 G97:=by
 intro N fuel hf cs x h
 obtain⟨hl,n,hn,hfs⟩:=trod_fields Tryz.underlying97 h
 have hl:cs.length=3:=hl
 match cs,hl with
 |[c0,c1,c2],_=>
  obtain⟨y0,h0⟩:=hfs 0 _ rfl
  obtain⟨a0,r0,g0⟩:=o95 n n (Nat.le_refl _) _ _ h0
  have r0:(rSl rUse).R (HW W) [c0] a0:=r0
  obtain⟨v0,e0,k0⟩:=r0
  cases e0
  obtain⟨y1,h1⟩:=hfs 1 _ rfl
  obtain⟨a1,r1,g1⟩:=o57 n n (Nat.le_refl _) _ _ h1
  have r1:rBig.R (HW W) [c1,c2] a1:=r1
  obtain⟨v1_0,e1,k1_0,-⟩:=r1
  cases e1
  exact⟨⟨a0,a1⟩,⟨_,_,rfl,k0,k1_0,trivial⟩,⟨g0,g1,trivial⟩⟩
def G51(xs:(List Big)):Prop:=xs.length≤9223372036854775807∧∀x∈xs,G57 x
theorem o51:∀N,Opn enc Tryz.prog W N (rSl rBig) 51 G51:=fun N=>Opn.less (Opn.slice Tryz.underlying51 (by kernel_rfl) rfl (o57 N))
def G53(x:RVal):Prop:=G3 x.Kind∧G2 x.Int∧G9 x.Text∧True
theorem o53:∀N,Opn enc Tryz.prog W N rRVal 53 G53:=by
 intro N fuel hf cs x h
 obtain⟨hl,n,hn,hfs⟩:=trod_fields Tryz.underlying53 h
 have hl:cs.length=3:=hl
 match cs,hl with
 |[c0,c1,c2],_=>
  obtain⟨y0,h0⟩:=hfs 0 _ rfl
  obtain⟨a0,r0,g0⟩:=o3 n n (Nat.le_refl _) _ _ h0
  have r0:(rInt .i64).R (HW W) [c0] a0:=r0
  have r0:[c0]=[.int .i64 a0]:=r0
  cases r0
  obtain⟨y1,h1⟩:=hfs 1 _ rfl
  obtain⟨a1,r1,g1⟩:=o2 n n (Nat.le_refl _) _ _ h1
  have r1:(rInt .i64).R (HW W) [c1] a1:=r1
  have r1:[c1]=[.int .i64 a1]:=r1
  cases r1
  obtain⟨y2,h2⟩:=hfs 2 _ rfl
  obtain⟨a2,r2,g2⟩:=o9 n n (Nat.le_refl _) _ _ h2
  have r2:rStr.R (HW W) [c2] a2:=r2
  have r2:[c2]=[.string (s8 a2)]:=r2
  cases r2
  exact⟨⟨a0,a1,a2⟩,⟨rfl,trivial⟩,⟨g0,g1,g2,trivial⟩⟩
def G31(xs:(List RVal)):Prop:=xs.length≤9223372036854775807∧∀x∈xs,G53 x
theorem o31:∀N,Opn enc Tryz.prog W N (rSl rRVal) 31 G31:=fun N=>Opn.less (Opn.slice Tryz.underlying31 (by kernel_rfl) rfl (o53 N))
theorem mem_sum:∀{l:List Nat} {x:Nat},x∈l→x≤l.sum
 |a::r,x,h=>by
  rw[List.sum_cons]
  rcases List.mem_cons.1 h with rfl|h
  · omega
  · have:=mem_sum h;omega
theorem bk_one(d:DataW H):1≤Rows.uptoBulk d:=by
 cases d with
 |lit l=>cases l<;>simp[Rows.uptoBulk]
 |_=>simp[Rows.uptoBulk]
theorem bk_all:∀l:List (DataW H),Rows.uptoBulkAll l=(l.map Rows.uptoBulk).sum
 |[]=>rfl
 |d::r=>by simp only[Rows.uptoBulkAll,bk_all r,List.map_cons,List.sum_cons]
theorem bk_len:∀l:List (DataW H),l.length≤Rows.uptoBulkAll l
 |[]=>Nat.zero_le _
 |d::r=>by have:=bk_one d;have:=bk_len r;simp only[Rows.uptoBulkAll,List.length_cons];omega
theorem slT_len{α:Type}{T:α→DataW H→Prop}{xs:List α}{d:DataW H}(h:SlT T xs d):xs.length≤Rows.uptoBulk d:=by
 rcases h with⟨_,rfl⟩|⟨es,sp,rfl,hl,_⟩
 · simp
 · have:=bk_len es
   simp only[Rows.uptoBulk];omega
theorem slT_sum{α:Type}{B:α→Nat}{xs:List α}{d:DataW H}(h:SlT (fun x y=>B x≤Rows.uptoBulk y) xs d):(xs.map B).sum≤Rows.uptoBulk d:=by
 rcases h with⟨_,rfl⟩|⟨es,sp,rfl,hl,hT⟩
 · simp
 · have:=sum_le hl hT
   rw[←bk_all]at this
   simp only[Rows.uptoBulk];omega
theorem bkPs_sum:∀l:List Proof,bkPs l=(l.map bkP).sum
 |[]=>rfl
 |c::r=>by simp only[bkPs,bkPs_sum r,List.map_cons,List.sum_cons]
theorem bkRs_sum:∀l:List Refut,bkRs l=(l.map bkR).sum
 |[]=>rfl
 |c::r=>by simp only[bkRs,bkRs_sum r,List.map_cons,List.sum_cons]
theorem bulk_at{ds:List (DataW H)}(hk:Rows.uptoSmall H ds=true){i:Nat}{d:DataW H}(h:ds[i]?=some d):Rows.uptoBulk d≤1048576:=by
 have h1:Rows.uptoBulkAll ds≤1048576:=of_decide_eq_true hk
 rw[bk_all]at h1
 have:Rows.uptoBulk d≤(ds.map Rows.uptoBulk).sum:=mem_sum (List.mem_map.2 ⟨_,List.mem_of_getElem? h,rfl⟩)
 omega
theorem inB_of{l:List Int}(h:G55 l):InB W32 l:=fun x hx=>by
 have:=bounds_u32 (h.2 x hx)
 simp only[W32];omega
theorem in32_of{x:Big}(h:G57 x):In32 x:=inB_of h.2.1
theorem inS_of{s:Step}(h:G97 s):InS s:=⟨h.1.1,fun u hu=>in32_of (h.1.2 u hu).2.1,in32_of h.2.1⟩
theorem oSteps:∀N,OpnT enc Tryz.prog W N (rSl rStep) 67 (fun xs=>xs.length≤9223372036854775807∧∀x∈xs,G97 x) (SlT fun _ _=>True):=fun N=>OpnT.less (OpnT.slice Tryz.underlying67 (by kernel_rfl) rfl (Opn.t (o97 N)))
theorem oProof:∀N,OpnT enc Tryz.prog W N rProof 70 InPr (fun p d=>bkP p≤Rows.uptoBulk d):=by
  intro N
  induction N with
  | zero => intro fuel hf cs x h; obtain rfl : fuel = 0 := by omega
            simp[DataW.trod]at h
  |succ N ih=>
    intro fuel hf cs x h
    obtain⟨hl,n,hn,ds,hx,hdl,hfs⟩:=trod_fieldsT Tryz.underlying70 h
    have hl:cs.length=5:=hl
    match cs,hl with
    |[c0,c1,c2,c3,c4],_=>
      obtain⟨y0,h0,e0⟩:=hfs 0 _ rfl
      obtain⟨a0,r0,g0,t0⟩:=oSteps n n (Nat.le_refl _) _ _ h0
      have r0:(rSl rStep).R (HW W) [c0] a0:=r0
      obtain⟨v0,q0,k0⟩:=r0
      cases q0
      obtain⟨y1,h1,e1⟩:=hfs 1 _ rfl
      obtain⟨a1,r1,g1⟩:=o51 n n (Nat.le_refl _) _ _ h1
      have r1:(rSl rBig).R (HW W) [c1] a1:=r1
      obtain⟨v1,q1,k1⟩:=r1
      cases q1
      obtain⟨y2,h2,e2⟩:=hfs 2 _ rfl
      obtain⟨a2,r2,g2⟩:=o57 n n (Nat.le_refl _) _ _ h2
      have r2:rBig.R (HW W) [c2,c3] a2:=r2
      obtain⟨v2,q2,k2,-⟩:=r2
      cases q2
      obtain⟨y3,h3,e3⟩:=hfs 3 _ rfl
      obtain⟨a3,r3,g3,t3⟩:=(OpnT.slice Tryz.underlying68 (by kernel_rfl) rfl ih) n (by omega) _ _ h3
      have r3:(rSl rProof).R (HW W) [c4] a3:=r3
      obtain⟨v3,q3,k3⟩:=r3
      cases q3
      refine⟨⟨a0,a1,a2,a3⟩,rProof_close ⟨_,_,_,_,rfl,k0,k1,k2,k3,trivial⟩,.mk (fun s hs=>inS_of (g0.2 s hs)) g1.1 (fun b hb=>in32_of (g1.2 b hb)) (in32_of g2) g3.1 g3.2,?_⟩
      show bkP _≤Rows.uptoBulk x.1
      rw[bkP_eq,hx]
      have b0:=slT_len t0
      have b3:=slT_sum t3
      rw[←bkPs_sum]at b3
      have:Rows.uptoBulk y0.1+Rows.uptoBulk y3.1≤Rows.uptoBulkAll ds:=by
        match ds,hdl with
        |[d0,d1,d2,d3],_=>
          cases e0
          cases e3
          simp only[Rows.uptoBulkAll];omega
      show a0.length+bkPs a3+1≤Rows.uptoBulk (.agg ds)
      simp only[Rows.uptoBulk];omega
theorem oRefut:∀N,OpnT enc Tryz.prog W N rRefut 73 InRr (fun p d=>bkR p≤Rows.uptoBulk d):=by
  intro N
  induction N with
  | zero => intro fuel hf cs x h; obtain rfl : fuel = 0 := by omega
            simp[DataW.trod]at h
  |succ N ih=>
    intro fuel hf cs x h
    obtain⟨hl,n,hn,ds,hx,hdl,hfs⟩:=trod_fieldsT Tryz.underlying73 h
    have hl:cs.length=9:=hl
    match cs,hl with
    |[c0,c1,c2,c3,c4,c5,c6,c7,c8],_=>
      obtain⟨y0,h0,e0⟩:=hfs 0 _ rfl
      obtain⟨a0,r0,g0⟩:=o3 n n (Nat.le_refl _) _ _ h0
      have r0:[c0]=[.int .i64 a0]:=r0
      cases r0
      obtain⟨y1,h1,e1⟩:=hfs 1 _ rfl
      obtain⟨a1,r1,g1⟩:=o3 n n (Nat.le_refl _) _ _ h1
      have r1:[c1]=[.int .i64 a1]:=r1
      cases r1
      obtain⟨y2,h2,e2⟩:=hfs 2 _ rfl
      obtain⟨a2,r2,g2⟩:=o3 n n (Nat.le_refl _) _ _ h2
      have r2:[c2]=[.int .i64 a2]:=r2
      cases r2
      obtain⟨y3,h3,e3⟩:=hfs 3 _ rfl
      obtain⟨a3,r3,g3,t3⟩:=oProof n n (Nat.le_refl _) _ _ h3
      have r3:rProof.R (HW W) [c3,c4,c5,c6,c7] a3:=r3
      obtain⟨v0,v1,v2,v3,q3,k0,k1,k2,k3,-⟩:=rProof_open r3
      cases q3
      obtain⟨y4,h4,e4⟩:=hfs 4 _ rfl
      obtain⟨a4,r4,g4,t4⟩:=(OpnT.slice Tryz.underlying71 (by kernel_rfl) rfl ih) n (by omega) _ _ h4
      have r4:(rSl rRefut).R (HW W) [c8] a4:=r4
      obtain⟨v4,q4,k4⟩:=r4
      cases q4
      refine⟨⟨a0,a1,a2,a3,a4⟩,rRefut_close ⟨_,_,_,_,_,rfl,k0,k1,k2,k3,k4,trivial⟩,.mk (bounds_i64 g1) (bounds_i64 g2) g3 g4.1 g4.2,?_⟩
      show bkR _≤Rows.uptoBulk x.1
      rw[bkR_eq,hx]
      have b4:=slT_sum t4
      rw[←bkRs_sum]at b4
      have:Rows.uptoBulk y3.1+Rows.uptoBulk y4.1≤Rows.uptoBulkAll ds:=by
        match ds,hdl with
        |[d0,d1,d2,d3,d4],_=>
          cases e3
          cases e4
          simp only[Rows.uptoBulkAll];omega
      show bkP a3+bkRs a4+1≤Rows.uptoBulk (.agg ds)
      simp only[Rows.uptoBulk];omega
theorem oCla:∀N,OpnT enc Tryz.prog W N rRClause 29 G29 (fun c d=>c.Null.length≤Rows.uptoBulk d∧c.NotNull.length≤Rows.uptoBulk d∧c.Auxiliary.length≤Rows.uptoBulk d∧c.Ints.length≤Rows.uptoBulk d∧c.Tests.length≤Rows.uptoBulk d∧c.Same.length≤Rows.uptoBulk d∧c.Different.length≤Rows.uptoBulk d):=by
 intro N fuel hf cs x h
 obtain⟨hl,n,hn,ds,hx,hdl,hfs⟩:=trod_fieldsT Tryz.underlying29 h
 have hl:cs.length=7:=hl
 match cs,hl with
 |[c0,c1,c2,c3,c4,c5,c6],_=>
  obtain⟨y0,h0,e0⟩:=hfs 0 _ rfl
  obtain⟨a0,r0,g0,t0⟩:=(OpnT.less (OpnT.slice Tryz.underlying23 (by kernel_rfl) rfl (Opn.t (o3 n)))) n (Nat.le_refl _) _ _ h0
  have r0:(rSl (rInt .i64)).R (HW W) [c0] a0:=r0
  obtain⟨v0,q0,k0⟩:=r0
  cases q0
  have b0:=slT_len t0
  obtain⟨y1,h1,e1⟩:=hfs 1 _ rfl
  obtain⟨a1,r1,g1,t1⟩:=(OpnT.less (OpnT.slice Tryz.underlying23 (by kernel_rfl) rfl (Opn.t (o3 n)))) n (Nat.le_refl _) _ _ h1
  have r1:(rSl (rInt .i64)).R (HW W) [c1] a1:=r1
  obtain⟨v1,q1,k1⟩:=r1
  cases q1
  have b1:=slT_len t1
  obtain⟨y2,h2,e2⟩:=hfs 2 _ rfl
  obtain⟨a2,r2,g2,t2⟩:=(OpnT.less (OpnT.slice Tryz.underlying24 (by kernel_rfl) rfl (Opn.t (o104 n)))) n (Nat.le_refl _) _ _ h2
  have r2:(rSl rRAux).R (HW W) [c2] a2:=r2
  obtain⟨v2,q2,k2⟩:=r2
  cases q2
  have b2:=slT_len t2
  obtain⟨y3,h3,e3⟩:=hfs 3 _ rfl
  obtain⟨a3,r3,g3,t3⟩:=(OpnT.less (OpnT.slice Tryz.underlying25 (by kernel_rfl) rfl (Opn.t (o92 n)))) n (Nat.le_refl _) _ _ h3
  have r3:(rSl rConstraint).R (HW W) [c3] a3:=r3
  obtain⟨v3,q3,k3⟩:=r3
  cases q3
  have b3:=slT_len t3
  obtain⟨y4,h4,e4⟩:=hfs 4 _ rfl
  obtain⟨a4,r4,g4,t4⟩:=(OpnT.less (OpnT.slice Tryz.underlying26 (by kernel_rfl) rfl (Opn.t (o112 n)))) n (Nat.le_refl _) _ _ h4
  have r4:(rSl rTTest).R (HW W) [c4] a4:=r4
  obtain⟨v4,q4,k4⟩:=r4
  cases q4
  have b4:=slT_len t4
  obtain⟨y5,h5,e5⟩:=hfs 5 _ rfl
  obtain⟨a5,r5,g5,t5⟩:=(OpnT.less (OpnT.slice Tryz.underlying27 (by kernel_rfl) rfl (Opn.t (o54 n)))) n (Nat.le_refl _) _ _ h5
  have r5:(rSl rArr2Int).R (HW W) [c5] a5:=r5
  obtain⟨v5,q5,k5⟩:=r5
  cases q5
  have b5:=slT_len t5
  obtain⟨y6,h6,e6⟩:=hfs 6 _ rfl
  obtain⟨a6,r6,g6,t6⟩:=(OpnT.less (OpnT.slice Tryz.underlying27 (by kernel_rfl) rfl (Opn.t (o54 n)))) n (Nat.le_refl _) _ _ h6
  have r6:(rSl rArr2Int).R (HW W) [c6] a6:=r6
  obtain⟨v6,q6,k6⟩:=r6
  cases q6
  have b6:=slT_len t6
  have hb:Rows.uptoBulk y0.1≤Rows.uptoBulkAll ds∧Rows.uptoBulk y1.1≤Rows.uptoBulkAll ds∧Rows.uptoBulk y2.1≤Rows.uptoBulkAll ds∧Rows.uptoBulk y3.1≤Rows.uptoBulkAll ds∧Rows.uptoBulk y4.1≤Rows.uptoBulkAll ds∧Rows.uptoBulk y5.1≤Rows.uptoBulkAll ds∧Rows.uptoBulk y6.1≤Rows.uptoBulkAll ds:=by
   match ds,hdl with
   |[d0,d1,d2,d3,d4,d5,d6],_=>
    cases e0
    cases e1
    cases e2
    cases e3
    cases e4
    cases e5
    cases e6
    simp only[Rows.uptoBulkAll];omega
  refine⟨⟨a0,a1,a2,a3,a4,a5,a6⟩,rRClause_close ⟨_,_,_,_,_,_,_,rfl,k0,k1,k2,k3,k4,k5,k6,trivial⟩,⟨g0,g1,g2,g3,g4,g5,g6,trivial⟩,?_⟩
  have hx2:Rows.uptoBulkAll ds≤Rows.uptoBulk x.1:=by
   rw[hx];show _≤Rows.uptoBulk (.agg ds);simp only[Rows.uptoBulk];omega
  dsimp only
  exact⟨by omega,by omega,by omega,by omega,by omega,by omega,by omega⟩
theorem oVars:∀N,OpnT enc Tryz.prog W N (rSl rRVar) 22 (fun xs=>xs.length≤9223372036854775807∧∀x∈xs,G83 x) (SlT fun _ _=>True):=fun N=>OpnT.less (OpnT.slice Tryz.underlying22 (by kernel_rfl) rfl (Opn.t (o83 N)))
theorem limc_of{c:RClause}(h:G29 c):LimC c:=⟨h.1.1,h.2.1.1,fun a ha=>(h.2.2.1.2 a ha).1.2.1.1,fun k hk=>(h.2.2.2.1.2 k hk).1.2.1.1,fun t ht=>(h.2.2.2.2.1.2 t ht).2.2.2.1⟩
theorem lwc_of{c:RClause}{d:DataW H}(hd:Rows.uptoBulk d≤1048576)(h:c.Null.length≤Rows.uptoBulk d∧c.NotNull.length≤Rows.uptoBulk d∧c.Auxiliary.length≤Rows.uptoBulk d∧c.Ints.length≤Rows.uptoBulk d∧c.Tests.length≤Rows.uptoBulk d∧c.Same.length≤Rows.uptoBulk d∧c.Different.length≤Rows.uptoBulk d):LwC c:=by
 obtain⟨h0,h1,h2,h3,h4,h5,h6⟩:=h
 exact⟨by omega,by omega,by omega,by omega,by omega,by omega,by omega⟩
theorem oClaim:∀N,OpnT enc Tryz.prog W N rRClaim 80 (fun x=>(G22 x.L∧G29 x.C)∧InRr x.F∧G31 x.R) (fun x d=>(x.L.length≤Rows.uptoBulk d∧bkR x.F≤Rows.uptoBulk d)∧x.C.Null.length≤Rows.uptoBulk d∧x.C.NotNull.length≤Rows.uptoBulk d∧x.C.Auxiliary.length≤Rows.uptoBulk d∧x.C.Ints.length≤Rows.uptoBulk d∧x.C.Tests.length≤Rows.uptoBulk d∧x.C.Same.length≤Rows.uptoBulk d∧x.C.Different.length≤Rows.uptoBulk d):=by
 intro N fuel hf cs x h
 obtain⟨hl,n,hn,ds,hx,hdl,hfs⟩:=trod_fieldsT Tryz.underlying80 h
 have hl:cs.length=18:=hl
 match cs,hl with
 |[c0,c1,c2,c3,c4,c5,c6,c7,c8,c9,c10,c11,c12,c13,c14,c15,c16,c17],_=>
  obtain⟨y0,h0,e0⟩:=hfs 0 _ rfl
  obtain⟨a0,r0,g0,t0⟩:=oVars n n (Nat.le_refl _) _ _ h0
  have r0:(rSl rRVar).R (HW W) [c0] a0:=r0
  obtain⟨w0,q0,k0⟩:=r0
  cases q0
  obtain⟨y1,h1,e1⟩:=hfs 1 _ rfl
  obtain⟨a1,r1,g1,t1⟩:=oCla n n (Nat.le_refl _) _ _ h1
  have r1:rRClause.R (HW W) [c1,c2,c3,c4,c5,c6,c7] a1:=r1
  obtain⟨u0,u1,u2,u3,u4,u5,u6,q1,m0,m1,m2,m3,m4,m5,m6,-⟩:=rRClause_open r1
  cases q1
  obtain⟨y2,h2,e2⟩:=hfs 2 _ rfl
  obtain⟨a2,r2,g2,t2⟩:=oRefut n n (Nat.le_refl _) _ _ h2
  have r2:rRefut.R (HW W) [c8,c9,c10,c11,c12,c13,c14,c15,c16] a2:=r2
  obtain⟨z0,z1,z2,z3,z4,q2,n0,n1,n2,n3,n4,-⟩:=rRefut_open r2
  cases q2
  obtain⟨y3,h3,e3⟩:=hfs 3 _ rfl
  obtain⟨a3,r3,g3⟩:=o31 n n (Nat.le_refl _) _ _ h3
  have r3:(rSl rRVal).R (HW W) [c17] a3:=r3
  obtain⟨w3,q3,k3⟩:=r3
  cases q3
  have b0:=slT_len t0
  have hb:Rows.uptoBulk y0.1≤Rows.uptoBulkAll ds∧Rows.uptoBulk y1.1≤Rows.uptoBulkAll ds∧Rows.uptoBulk y2.1≤Rows.uptoBulkAll ds:=by
   match ds,hdl with
   |[d0,d1,d2,d3],_=>
    cases e0
    cases e1
    cases e2
    simp only[Rows.uptoBulkAll];omega
  refine⟨⟨a0,a1,a2,a3⟩,rRClaim_close ⟨_,_,_,_,_,_,_,_,_,_,_,_,_,_,rfl,k0,m0,m1,m2,m3,m4,m5,m6,n0,n1,n2,n3,n4,k3,trivial⟩,⟨⟨g0,g1⟩,g2,g3⟩,?_⟩
  have hx2:Rows.uptoBulkAll ds≤Rows.uptoBulk x.1:=by
   rw[hx];show _≤Rows.uptoBulk (.agg ds);simp only[Rows.uptoBulk];omega
  obtain⟨p0,p1,p2,p3,p4,p5,p6⟩:=t1
  dsimp only
  exact⟨⟨by omega,by omega⟩,by omega,by omega,by omega,by omega,by omega,by omega,by omega⟩
end
end Go.Proofs.YtcakdidcpoolcaaGreatDoor.Q25
namespace Go.Proofs
open Go.Shelf
def Tryz.lays171_ren:Go.Shelf.Ren:=⟨fun|171=>67|243=>103|246=>142|283=>161|284=>162|285=>163|286=>164|129=>177|317=>176|318=>178|319=>179|320=>180|337=>193|338=>194|n=>n,fun|3=>3|9=>9|2=>2|4=>4|171=>221|0=>0|53=>149|37=>133|5=>5|173=>224|212=>242|51=>177|20=>20|213=>243|46=>220|232=>256|233=>257|n=>n,fun|17=>0|18=>1|19=>2|n=>n⟩
theorem Tryz.lays171:Go.Proofs.Lays.n171 Tryz.prog Tryz.lays171_ren:={
 mixed:=by kernel_rfl
 f129:=Tryz.func177.trans (congrArg some (by kernel_rfl))
 f171:=Tryz.func67.trans (congrArg some (by kernel_rfl))
 f243:=Tryz.func103.trans (congrArg some (by kernel_rfl))
 f246:=Tryz.func142.trans (congrArg some (by kernel_rfl))
 f283:=Tryz.func161.trans (congrArg some (by kernel_rfl))
 f284:=Tryz.func162.trans (congrArg some (by kernel_rfl))
 f285:=Tryz.func163.trans (congrArg some (by kernel_rfl))
 f286:=Tryz.func164.trans (congrArg some (by kernel_rfl))
 f317:=Tryz.func176.trans (congrArg some (by kernel_rfl))
 f318:=Tryz.func178.trans (congrArg some (by kernel_rfl))
 f319:=Tryz.func179.trans (congrArg some (by kernel_rfl))
 f320:=Tryz.func180.trans (congrArg some (by kernel_rfl))
 f337:=Tryz.func193.trans (congrArg some (by kernel_rfl))
 f338:=Tryz.func194.trans (congrArg some (by kernel_rfl))
 t0:=Tryz.underlying0
 a0:=Tryz.isAgg0
 z0:=Tryz.sizeOf0
 v0:=Tryz.zeroValue0
 t2:=Tryz.underlying2
 a2:=Tryz.isAgg2
 z2:=Tryz.sizeOf2
 v2:=Tryz.zeroValue2
 t3:=Tryz.underlying3
 a3:=Tryz.isAgg3
 z3:=Tryz.sizeOf3
 v3:=Tryz.zeroValue3
 t4:=Tryz.underlying4
 a4:=Tryz.isAgg4
 z4:=Tryz.sizeOf4
 v4:=Tryz.zeroValue4
 t5:=Tryz.underlying5
 a5:=Tryz.isAgg5
 z5:=Tryz.sizeOf5
 v5:=Tryz.zeroValue5
 t9:=Tryz.underlying9
 a9:=Tryz.isAgg9
 z9:=Tryz.sizeOf9
 v9:=Tryz.zeroValue9
 t20:=Tryz.underlying20
 a20:=Tryz.isAgg20
 z20:=Tryz.sizeOf20
 v20:=Tryz.zeroValue20
 t37:=Tryz.underlying133
 a37:=Tryz.isAgg133
 z37:=Tryz.sizeOf133
 v37:=Tryz.zeroValue133
 t46:=Tryz.underlying220
 a46:=Tryz.isAgg220
 z46:=Tryz.sizeOf220
 v46:=Tryz.zeroValue220
 t51:=Tryz.underlying177
 a51:=Tryz.isAgg177
 z51:=Tryz.sizeOf177
 v51:=Tryz.zeroValue177
 t53:=Tryz.underlying149
 a53:=Tryz.isAgg149
 z53:=Tryz.sizeOf149
 v53:=Tryz.zeroValue149
 t171:=Tryz.underlying221
 a171:=Tryz.isAgg221
 z171:=Tryz.sizeOf221
 v171:=Tryz.zeroValue221
 t173:=Tryz.underlying224
 a173:=Tryz.isAgg224
 z173:=Tryz.sizeOf224
 v173:=Tryz.zeroValue224
 t212:=Tryz.underlying242
 a212:=Tryz.isAgg242
 z212:=Tryz.sizeOf242
 v212:=Tryz.zeroValue242
 t213:=Tryz.underlying243
 a213:=Tryz.isAgg243
 z213:=Tryz.sizeOf243
 t232:=Tryz.underlying256
 a232:=Tryz.isAgg256
 z232:=Tryz.sizeOf256
 v232:=Tryz.zeroValue256
 t233:=Tryz.underlying257
 a233:=Tryz.isAgg257
 z233:=Tryz.sizeOf257
 v233:=Tryz.zeroValue257
 g17:=by kernel_rfl
 g18:=by kernel_rfl
 g19:=by kernel_rfl}
open Go.RowKit Go.Sort Go.Lib in
theorem Tryz.strconv_Itoa_small(i:Nat)(hi:i<100)(w:World):
 Calls Tryz.prog 67 #[.int .i64 i] w fun e w'=>e=.returned (.string ⟨(Lib.decDigits i).toArray⟩)∧w'=w:=Any.strconv_Itoa_small Tryz.lays171 i hi w
end Go.Proofs
namespace Go.Proofs.YtcakdidcpoolcaaGreatDoor.WF
open Go Go.X Go.D Go.Lib Go.Proofs
theorem fmtI_w(N:Nat)(n:Int)(w:World)(S:Nat→Prop)(r:List UInt8)(h:fmtI N n=some r):
 Calls Tryz.prog 67 #[.int .i64 n] w (Ret w (fun v w'=>Value.string (s8 r)=v∧True)):=by
 unfold fmtI at h;split at h
 · rename_i hc
   cases h
   obtain⟨k,rfl⟩:∃k:Nat,n=(k:Int):=⟨n.toNat,by omega⟩
   refine(Tryz.strconv_Itoa_small k (by omega) w).mono ?_
   rintro e w' ⟨rfl,rfl⟩
   exact⟨_,rfl,Ext.refl _,rfl,trivial⟩
 · cases h
end Go.Proofs.YtcakdidcpoolcaaGreatDoor.WF
namespace Go.Proofs.YtcakdidcpoolcaaGreatDoor.FS
open Go Go.RowKit Go.X Go.D Go.Q
theorem en67:Go.X.Enters Tryz.prog 67:=⟨Tryz.f67,Tryz.func67,by kernel_rfl,by kernel_rfl⟩
theorem fmtI_c(N:Nat)(n:Int)(r:List UInt8)(h:fmtI N n=some r):Cn Tryz.prog 67 [sI .i64 n] [] [sT r]:=by
 refine in_calls en67 fun ν H w l hl=>?_
 obtain⟨a,b,rfl,⟨h1,h2⟩,rfl⟩:=hl
 rw[h1]
 refine(WF.fmtI_w N n w (fun _=>True) r h).mono ?_
 rintro e w' ⟨v,rfl,hE,hv,_⟩
 exact⟨[v],rfl,hE,fun ν' H'=>⟨v,[],rfl,⟨hv.symm,rfl⟩,rfl⟩⟩
end Go.Proofs.YtcakdidcpoolcaaGreatDoor.FS

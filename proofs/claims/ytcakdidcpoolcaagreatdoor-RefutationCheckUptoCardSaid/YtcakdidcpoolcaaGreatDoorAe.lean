/- Plain theorems and definitions of this seat, several texts in one. -/
import Derived.Test.YtcakdidcpoolcaaGreatDoorAd
import Derived.Test.YtcakdidcpoolcaaGreatDoorAa
set_option linter.unusedVariables false
set_option linter.unusedSimpArgs false
set_option linter.unusedSectionVars false
namespace Go.D
open Go Go.X
abbrev W16:Int:=65536
theorem w16_pos:(1:Int)<W16:=by decide
theorem tmod16{x:Int}(h:0≤x):Int.tmod x 65536=x%65536:=Int.tmod_eq_emod_of_nonneg h
theorem tdiv16{x:Int}(h:0≤x):Int.tdiv x 65536=x/65536:=Int.tdiv_eq_ediv_of_nonneg h
theorem rtrim_tm{l:List Int}(hd:InB W16 l)(hl:l.length≤35184372088832):Tm (fun N=>rtrim N l) (fun r=>Dg W16 r (val W16 l)∧r.length≤l.length):=by
 unfold rtrim;refine Tm.bind (Tm.loop (fun s:List Int=>∃n:Nat,n≤l.length∧s=l.take n∧(∀j,(hj:j<l.length)→n≤j→l[j]=0)) (fun s=>s.length) (Q:=fun r=>Dg W16 r (val W16 l)∧r.length≤l.length) ⟨l.length,Nat.le_refl _,by simp,fun j h1 h2=>absurd h1 (by omega)⟩ ?_) (fun r h=>Tm.pure h);rintro _ ⟨n,hn,rfl,h0⟩;have hlen:(l.take n).length=n:=by simp;omega
 dsimp only[rtrim_b1];rcases Nat.eq_zero_or_pos n with rfl|hk0
 · refine Tm.bind (Q:=(·=false)) (Tm.neg (by simp) (Tm.pure rfl)) ?_;rintro _ rfl;exact Tm.neg (by simp) (Tm.pure ⟨dg_cut hn hd h0 (.inl rfl),by simp⟩)
 · refine Tm.bind (Q:=(·=decide (l[n-1]=0))) (Tm.pos (by omega) (Tm.step (idx_i (n:=n-1) (by rw[iw_eq]<;>omega) (by omega)) (Tm.pure ?_))) ?_
   · rw[List.getElem_take]
   rintro _ rfl;by_cases h:l[n-1]=0
   · refine Tm.pos (by simpa using h) (Tm.step (cut_i (m:=0) (n:=n-1) rfl (by rw[iw_eq]<;>omega) (by omega) (by omega)) (Tm.pure ⟨⟨n-1,by omega,?_,fun j h1 h2=>?_⟩,?_⟩))
     · simp[List.take_take]
     · rcases Nat.eq_or_lt_of_le h2 with rfl|h3
       · exact h
       · exact h0 j h1 (by omega)
     · simp;omega
   · exact Tm.neg (by simpa using h) (Tm.pure ⟨dg_cut hn hd h0 (.inr ⟨by omega,h⟩),by omega⟩)
theorem halves_tm{x:Big}(hd:InB W32 x.Digits)(hl:x.Digits.length≤8796093022208):Tm (fun N=>halves N x) (fun r=>Dg W16 r (val W32 x.Digits)∧r.length≤2*x.Digits.length):=by
 unfold halves;refine Tm.bind (Tm.loop (fun s:List Int×Int=>∃n:Nat,s.2=n∧n≤x.Digits.length∧s.1.length=2*n∧InB W16 s.1∧val W16 s.1=val W32 (x.Digits.take n)) (fun s=>x.Digits.length-s.2.toNat) (Q:=fun r=>InB W16 r∧val W16 r=val W32 x.Digits∧r.length=2*x.Digits.length) ⟨0,rfl,Nat.zero_le _,rfl,.nil,by simp[val]⟩ ?_) ?_
 · rintro⟨l,i⟩ ⟨n,rfl,hn,ho,hB,hv⟩;dsimp only[halves_b1]at*;refine Tm.ite (fun h=>?_) (fun h=>Tm.pure ?_)
   · refine Tm.step (idx_ok (by omega)) (Tm.step (idx_ok (by omega)) ?_);have hx:=hd.get (n:=n) (by omega);have ex:x.Digits.getD n 0=x.Digits[n]'(by omega):=by rw[List.getD_eq_getElem?_getD,List.getElem?_eq_getElem (by omega)];rfl
     generalize x.Digits[n]'(by omega)=y at*;simp only[W32]at hx;rw[tmod16 hx.1,tdiv16 hx.1,uw32_mod];have e1:iw (y%65536)=y%65536:=by rw[iw_eq]<;>omega
     have e2:iw (y/65536%4294967296)=y/65536:=by rw[iw_eq]<;>omega
     rw[e1,e2];refine Tm.step (apnd_ok (by simp only[List.length_cons,List.length_nil];omega) (by decide)) (Tm.pure ⟨⟨n+1,by dsimp only;rw[iw_eq]<;>omega,by omega,by simp;omega,hB.append (.cons (B:=65536) (by omega) (.cons (by omega) .nil)),?_⟩,?_⟩)
     · show val W16 (l++[y%65536,y/65536])=_;rw[val_append,val_take,ho,hv,ex,Int.pow_mul];have:val W16 [y%65536,y/65536]=y:=by simp only[val,W16];omega
       rw[this];rfl
     · dsimp only;rw[iw_eq]<;>omega
   · have hnL:n=x.Digits.length:=by omega
     subst hnL;rw[List.take_of_length_le (Nat.le_refl _)]at hv;exact⟨hB,hv,ho⟩
 · rintro r ⟨h1,h2,h3⟩;exact Tm.bind (rtrim_tm h1 (by omega)) (fun r' h=>Tm.pure ⟨h2▸h.1,by omega⟩)
theorem nrm_snoc{l:List Int}{d:Int}(h:d≠0):Nrm (l++[d]):=by simp[Nrm,h]
theorem rbig_tm{neg:Bool}{l:List Int}(hd:InB W16 l)(hl:l.length≤17592186044416):Tm (fun N=>rbig N neg l) (fun r=>Is r (if neg=true then-val W16 l else val W16 l)∧r.Digits.length≤(l.length+1)/2):=by
 unfold rbig;refine Tm.bind (rtrim_tm hd (by omega)) ?_;rintro t ⟨ht,htl⟩;have h0:=ht.nonneg (by decide);have hz:=ht.zero (by decide);refine Tm.bind (Q:=(·=(neg&&decide (val W16 l≠0)))) (Tm.ite (fun h=>Tm.pure ?_) (fun h=>Tm.pure ?_)) ?_
 · rw[h];by_cases e:t=[]
   · have:=hz.1 e;simp[e,this]
   · have:val W16 l≠0:=fun e'=>e (hz.2 e');have:=List.length_pos_iff.2 e;simp_all
 · simp at h;simp[h]
 rintro _ rfl;refine Tm.bind (Tm.loop (fun s:List Int×Int=>∃n:Nat,s.2=((2*n:Nat):Int)∧2*n≤t.length+1∧s.1.length=n∧InB W32 s.1∧val W32 s.1=val W16 (t.take (2*n))∧(t.length≤2*n→Nrm s.1)) (fun s=>t.length+2-s.2.toNat) (Q:=fun r=>Dg W32 r (val W16 t)∧r.length≤(t.length+1)/2)
  ⟨0,rfl,by omega,rfl,.nil,by simp[val],fun _=>nrm_nil⟩ ?_) ?_
 · rintro⟨ds,i⟩ ⟨n,rfl,hn,ho,hB,hv,hN⟩;dsimp only[rbig_b1]at*;refine Tm.ite (fun h=>?_) (fun h=>Tm.pure ?_)
   · refine Tm.step (idx_ok (by omega)) ?_;have hx:=ht.inB.get (n:=2*n) (by omega);have ex:t.getD (2*n) 0=t[2*n]'(by omega):=by rw[List.getD_eq_getElem?_getD,List.getElem?_eq_getElem (by omega)];rfl
     have hlast:t.length=2*n+1→t[2*n]'(by omega)≠0:=fun e h'=>ht.nrm (by rw[List.getLast?_eq_getElem?,e,Nat.add_sub_cancel,List.getElem?_eq_getElem (by omega),h']);generalize t[2*n]'(by omega)=x at*;have hi:iw (((2*n:Nat):Int)+1)=((2*n+1:Nat):Int):=by rw[iw_eq]<;>omega
     refine Tm.bind (Q:=fun d=>d=x+65536*t.getD (2*n+1) 0∧(t.length≤2*n+2→d≠0)) ?_ ?_
     · refine Tm.ite (fun h1=>?_) (fun h1=>Tm.pure ?_)
       · refine Tm.step (idx_i hi (by omega)) (Tm.pure ?_);have hy:=ht.inB.get (n:=2*n+1) (by omega);have ey:t.getD (2*n+1) 0=t[2*n+1]'(by omega):=by rw[List.getD_eq_getElem?_getD,List.getElem?_eq_getElem (by omega)];rfl
         have hlast':t.length=2*n+2→t[2*n+1]'(by omega)≠0:=fun e h'=>ht.nrm (by rw[List.getLast?_eq_getElem?,e,show 2*n+2-1=2*n+1 by omega,List.getElem?_eq_getElem (by omega),h']);rw[ey];generalize t[2*n+1]'(by omega)=y at*;simp only[W16]at hx hy;have e1:uw32 (uw32 x+uw32 (65536*uw32 y))=x+65536*y:=by
          rw[uw32_mod,uw32_mod,uw32_mod,uw32_mod];omega
         rw[e1];exact⟨rfl,fun h'=>by have:=hlast' (by omega);omega⟩
       · have ey:t.getD (2*n+1) 0=0:=by rw[List.getD_eq_getElem?_getD,List.getElem?_eq_none (by omega)];rfl
         rw[ey];simp only[W16]at hx;have:=hlast (by omega);rw[uw32_mod];exact⟨by omega,fun _=>by omega⟩
     · rintro _ ⟨rfl,hd0⟩;have hy:=ht.inB.getD (by decide) (2*n+1);have et:val W16 (t.take (2*(n+1)))=val W16 (t.take (2*n))+W16^(2*n)*(x+65536*t.getD (2*n+1) 0):=by
        rw[show 2*(n+1)=2*n+1+1 by omega,val_take,val_take,ex,Int.pow_succ];have hw:W16=65536:=rfl;grind
       generalize t.getD (2*n+1) 0=y at*;simp only[W16]at hx hy;refine Tm.step (apnd_ok (by simp only[List.length_cons,List.length_nil];omega) (by decide)) (Tm.pure ⟨⟨n+1,by dsimp only;rw[iw_eq]<;>omega,by omega,by simp;omega,hB.append (.cons (B:=4294967296) (by omega) .nil),?_,fun h'=>nrm_snoc (hd0 (by omega))⟩,?_⟩)
       · show val W32 (ds++[x+65536*y])=_;rw[val_append,et,ho,hv,Int.pow_mul];have hw:W16^2=W32:=by decide
         rw[hw];simp only[val];simp
       · dsimp only;rw[iw_eq]<;>omega
   · rw[List.take_of_length_le (by omega)]at hv;exact⟨⟨hB,hN (by omega),hv⟩,by omega⟩
 · rintro r ⟨hr,hrl⟩;refine Tm.pure ⟨⟨?_,?_⟩,Nat.le_trans (show r.length≤_ from hrl) (Nat.div_le_div_right (by omega))⟩
   · have e:(((if neg=true then-val W16 l else val W16 l):Int).natAbs:Int)=val W16 t:=by rw[ht.val];cases neg<;>simp<;>omega
     rw[e];exact hr
   · show(neg&&decide (val W16 l≠0))=_;by_cases e:val W16 l=0
     · cases neg<;>simp[e]
     · cases neg
       · simp;omega
       · have:-val W16 l<0:=by omega
         simp[e,this];omega
theorem rNormal_tm{x:Big}(hd:InB W32 x.Digits)(hl:x.Digits.length≤8796093022208):Tm (fun N=>rNormal N x) (fun r=>Is r (bv x)∧r.Digits.length≤x.Digits.length):=by
 unfold rNormal;refine Tm.bind (halves_tm hd hl) ?_;rintro h ⟨hh,hhl⟩;refine Tm.bind (rbig_tm hh.inB (by omega)) (fun r hr=>Tm.pure ⟨?_,by omega⟩);have:=hr.1;rw[hh.val]at this;exact this
theorem rNeg_tm{x:Big}(hd:InB W32 x.Digits)(hl:x.Digits.length≤8796093022208):Tm (fun N=>rNeg N x) (fun r=>Is r (-bv x)∧r.Digits.length≤x.Digits.length):=by
 unfold rNeg;refine Tm.bind (halves_tm hd hl) ?_;rintro h ⟨hh,hhl⟩;refine Tm.bind (rbig_tm hh.inB (by omega)) (fun r hr=>Tm.pure ⟨?_,by omega⟩);have:=hr.1;rw[hh.val]at this;unfold bv;cases hx:x.Negative<;>rw[hx]at this<;>simpa using this
theorem rSign_tm{x:Big}(hd:InB W32 x.Digits)(hl:x.Digits.length≤8796093022208):Tm (fun N=>rSign N x) (fun r=>r=sgn (bv x) 0):=by
 unfold rSign;refine Tm.bind (halves_tm hd hl) ?_;rintro h ⟨hh,-⟩;have hz:=hh.zero (by decide);have h0:=hh.nonneg (by decide);unfold bv;refine Tm.ite (fun h1=>Tm.pure ?_) (fun h1=>?_)
 · have:=hz.1 (List.length_eq_zero_iff.1 (by omega));unfold sgn;rw[this];simp
 · have:val W32 x.Digits≠0:=fun e=>h1 (by rw[hz.2 e];rfl);refine Tm.ite (fun h'=>Tm.pure ?_) (fun h'=>Tm.pure ?_)
   · rw[if_pos h'];unfold sgn;rw[if_pos (by omega)]
   · rw[if_neg h'];unfold sgn;rw[if_neg (by omega),if_pos (by omega)]
theorem rorder_tm{a b:List Int}(ha:InB W16 a)(hb:InB W16 b)(na:Nrm a)(nb:Nrm b)(hl:a.length≤35184372088832)(hl':b.length≤35184372088832):Tm (fun N=>rorder N a b) (fun r=>r=sgn (val W16 a) (val W16 b)):=by
 unfold rorder;refine Tm.ite (fun h=>?_) (fun h=>?_)
 · refine Tm.ite (fun h'=>Tm.pure ?_) (fun h'=>Tm.pure ?_)
   · have:=len_cmp w16_pos ha hb nb (by omega);unfold sgn;rw[if_pos this]
   · have:=len_cmp w16_pos hb ha na (by omega);unfold sgn;rw[if_neg (by omega),if_pos this]
 · have hle:a.length=b.length:=by omega
   refine Tm.bind (Q:=fun r:Sum Unit Int=>(match r with|.inl _=>0|.inr z=>z)=sgn (val W16 a) (val W16 b))
    (Tm.loop (fun i:Int=>∃n:Nat,i=(n:Int)-1∧n≤a.length∧a.drop n=b.drop n) (fun i=>(i+1).toNat) ⟨a.length,by rw[iw_eq]<;>omega,Nat.le_refl _,by rw[List.drop_of_length_le (Nat.le_refl _),List.drop_of_length_le (by omega)]⟩ ?_) ?_
   · rintro _ ⟨n,rfl,hn,hd⟩;dsimp only[rorder_b1];refine Tm.ite (fun h1=>?_) (fun h1=>?_)
     · have hna:n-1<a.length:=by omega
       have hnb:n-1<b.length:=by omega
       refine Tm.step (idx_i (n:=n-1) (by omega) hna) (Tm.step (idx_i (n:=n-1) (by omega) hnb) (Tm.ite (fun h2=>?_) (fun h2=>?_)))
       · have:=val_cmp w16_pos ha hb hle hna (by rw[show n-1+1=n by omega];exact hd) h2;refine Tm.pure ?_;show(-1:Int)=_;unfold sgn;rw[if_pos this]
       · refine Tm.step (idx_i (n:=n-1) (by omega) hna) (Tm.step (idx_i (n:=n-1) (by omega) hnb) (Tm.ite (fun h3=>?_) (fun h3=>?_)))
         · have:=val_cmp w16_pos hb ha hle.symm hnb (by rw[show n-1+1=n by omega];exact hd.symm) h3;refine Tm.pure ?_;show(1:Int)=_;unfold sgn;rw[if_neg (by omega),if_pos this]
         · refine Tm.pure ⟨⟨n-1,by rw[iw_eq]<;>omega,by omega,?_⟩,?_⟩
           · rw[List.drop_eq_getElem_cons hna,List.drop_eq_getElem_cons hnb,show n-1+1=n by omega,hd,show a[n-1]=b[n-1] by omega]
           · show(iw ((n:Int)-1-1)+1).toNat<((n:Int)-1+1).toNat;rw[iw_eq]<;>omega
     · have:n=0:=by omega
       subst this;refine Tm.pure ?_;show(0:Int)=_;have:a=b:=by simpa using hd
       rw[this];unfold sgn;rw[if_neg (by omega),if_neg (by omega)]
   · rintro(_|z) h<;>exact Tm.pure h
theorem getD_ok{l:List Int}{n:Nat}(h:n<l.length):l.getD n 0=l[n]:=by rw[List.getD_eq_getElem?_getD,List.getElem?_eq_getElem h];rfl
theorem getD_out{l:List Int}{n:Nat}(h:l.length≤n):l.getD n 0=0:=by rw[List.getD_eq_getElem?_getD,List.getElem?_eq_none h];rfl
theorem take_all{l:List Int}{n:Nat}(h:l.length≤n):l.take n=l:=List.take_of_length_le h
theorem rplus_tm{a b:List Int}(ha:InB W16 a)(hb:InB W16 b)(hl:a.length≤8796093022208)(hl':b.length≤8796093022208):Tm (fun N=>rplus N a b) (fun r=>Dg W16 r (val W16 a+val W16 b)∧r.length≤max a.length b.length+1):=by
 unfold rplus;generalize hL:max a.length b.length=L;refine Tm.bind (Q:=fun r=>InB W16 r∧val W16 r=val W16 a+val W16 b∧r.length≤L+1)
  (Tm.loop (fun s:List Int×Int×Int=>∃n:Nat,s.2.2=n∧n≤L+1∧s.1.length=n∧InB W16 s.1∧0≤s.2.1∧s.2.1≤1∧(L<n→s.2.1=0)∧val W16 s.1+W16^n*s.2.1=val W16 (a.take n)+val W16 (b.take n)) (fun s=>L+1-s.2.2.toNat)
   ⟨0,rfl,Nat.zero_le _,rfl,.nil,by simp,by simp,fun _=>rfl,by simp[val]⟩ ?_) ?_
 · rintro⟨out,carry,i⟩ ⟨n,rfl,hn,ho,hB,h0,h1,hc,hv⟩;dsimp only[rplus_b1]at*;refine Tm.bind (Q:=(·=decide (n<L∨0<carry))) (Tm.ite (fun h=>Tm.pure ?_) (fun h=>Tm.ite (fun h'=>Tm.pure ?_) (fun h'=>Tm.pure ?_))) ?_
   · have:n<L:=by omega
     simp[this]
   · have:n<L:=by omega
     simp[this]
   · have:¬n<L:=by omega
     simp[this]
   rintro _ rfl;refine Tm.ite (fun h=>?_) (fun h=>Tm.pure ?_)
   · have h:=of_decide_eq_true h;have hx:=ha.getD (by decide) n;have hy:=hb.getD (by decide) n;simp only[W16]at hx hy;refine Tm.bind (Q:=(·=carry+a.getD n 0)) (Tm.ite (fun h2=>?_) (fun h2=>Tm.pure ?_)) ?_
     · rw[getD_ok (l:=a) (by omega)]at*;refine Tm.step (idx_ok (by omega)) (Tm.pure ?_);rw[iw_eq]<;>omega
     · rw[getD_out (by omega)];omega
     rintro _ rfl;refine Tm.bind (Q:=(·=carry+a.getD n 0+b.getD n 0)) (Tm.ite (fun h2=>?_) (fun h2=>Tm.pure ?_)) ?_
     · rw[getD_ok (l:=b) (by omega)]at*;refine Tm.step (idx_ok (by omega)) (Tm.pure ?_);rw[iw_eq]<;>omega
     · rw[getD_out (l:=b) (by omega)];omega
     rintro _ rfl;have hz:L≤n→a.getD n 0=0∧b.getD n 0=0:=fun h=>⟨getD_out (by omega),getD_out (by omega)⟩;generalize ex:a.getD n 0=x at*;generalize ey:b.getD n 0=y at*;rw[tmod16 (by omega),tdiv16 (by omega)];refine Tm.step (apnd_ok (by simp only[List.length_cons,List.length_nil];omega) (by decide)) (Tm.pure ⟨⟨n+1,?_,by omega,by simp;omega,hB.append (.cons (B:=65536) (by omega) .nil),?_,?_,?_,?_⟩,?_⟩)
     · show iw ((n:Int)+1)=_;rw[iw_eq]<;>omega
     · show 0≤iw ((carry+x+y)/65536);rw[iw_eq]<;>omega
     · show iw ((carry+x+y)/65536)≤1;rw[iw_eq]<;>omega
     · intro h';show iw ((carry+x+y)/65536)=0;have:=hz (by omega);rw[iw_eq]<;>omega
     · show val W16 (out++[(carry+x+y)%65536])+W16^(n+1)*iw ((carry+x+y)/65536)=_;rw[iw_eq (by omega) (by omega),val_append,val_take,val_take,ex,ey,ho,Int.pow_succ];have:=Int.emod_add_mul_ediv (carry+x+y) 65536;have hw:W16=65536:=rfl;simp only[val];grind
     · show L+1-(iw ((n:Int)+1)).toNat<L+1-((n:Int)).toNat;rw[iw_eq]<;>omega
   · have h:¬(n<L∨0<carry):=fun e=>h (decide_eq_true e);rw[take_all (by omega),take_all (by omega),show carry=0 by omega]at hv;exact⟨hB,by show val W16 out=_;omega,by show out.length≤_;omega⟩
 · rintro r ⟨h1,h2,h3⟩;exact Tm.bind (rtrim_tm h1 (by omega)) (fun r' h=>Tm.pure ⟨h2▸h.1,by omega⟩)
theorem rminus_tm{a b:List Int}(ha:InB W16 a)(hb:InB W16 b)(hl:a.length≤8796093022208)(hl':b.length≤a.length)(hv:val W16 b≤val W16 a):Tm (fun N=>rminus N a b) (fun r=>Dg W16 r (val W16 a-val W16 b)∧r.length≤a.length):=by
 unfold rminus;generalize hL:a.length=L at*;refine Tm.bind (Q:=fun r=>InB W16 r∧val W16 r=val W16 a-val W16 b∧r.length=L)
  (Tm.loop (fun s:List Int×Int×Int=>∃n:Nat,s.2.2=n∧n≤L∧s.1.length=n∧InB W16 s.1∧0≤s.2.1∧s.2.1≤1∧val W16 s.1=val W16 (a.take n)-val W16 (b.take n)+W16^n*s.2.1) (fun s=>L-s.2.2.toNat)
   ⟨0,rfl,Nat.zero_le _,rfl,.nil,by simp,by simp,by simp[val]⟩ ?_) ?_
 · rintro⟨out,borrow,i⟩ ⟨n,rfl,hn,ho,hB,h0,h1,hv'⟩;dsimp only[rminus_b1]at*;refine Tm.ite (fun h=>?_) (fun h=>Tm.pure ?_)
   · have hx:=ha.getD (by decide) n;have hy:=hb.getD (by decide) n;simp only[W16]at hx hy;refine Tm.step (idx_ok (by omega)) ?_;rw[←getD_ok (by omega)];refine Tm.bind (Q:=(·=a.getD n 0-borrow-b.getD n 0)) (Tm.ite (fun h2=>?_) (fun h2=>Tm.pure ?_)) ?_
     · rw[getD_ok (l:=b) (by omega)]at*;refine Tm.step (idx_ok (by omega)) (Tm.pure ?_);rw[iw_eq,iw_eq]<;>(try rw[iw_eq])<;>omega
     · rw[getD_out (l:=b) (by omega),iw_eq]<;>omega
     rintro _ rfl;generalize ex:a.getD n 0=x at*;generalize ey:b.getD n 0=y at*;refine Tm.bind (Q:=fun p:Int×Int=>0≤p.1∧p.1≤1∧0≤p.2∧p.2<65536∧p.2=x-borrow-y+65536*p.1) (Tm.ite (fun h2=>Tm.pure ?_) (fun h2=>Tm.pure ?_)) ?_
     · dsimp only;rw[iw_eq]<;>omega
     · dsimp only;omega
     rintro⟨bo,d⟩ ⟨g1,g2,g3,g4,g5⟩;dsimp only at*;refine Tm.step (apnd_ok (by simp only[List.length_cons,List.length_nil];omega) (by decide)) (Tm.pure ⟨⟨n+1,?_,by omega,by simp;omega,hB.append (.cons (B:=65536) (by omega) .nil),g1,g2,?_⟩,?_⟩)
     · show iw ((n:Int)+1)=_;rw[iw_eq]<;>omega
     · show val W16 (out++[d])=_;rw[val_append,val_take,val_take,ex,ey,ho,Int.pow_succ];have hw:W16=65536:=rfl;simp only[val];grind
     · show L-(iw ((n:Int)+1)).toNat<L-((n:Int)).toNat;rw[iw_eq]<;>omega
   · have hnL:n=L:=by omega
     subst hnL;rw[take_all (by omega),take_all (by omega)]at hv';refine⟨hB,?_,ho⟩;show val W16 out=_;have l1:=val_lt (by decide) hB;rw[ho]at l1;have hc:borrow=0∨borrow=1:=by omega
     rcases hc with rfl|rfl
     · omega
     · simp only[W16]at*;omega
 · rintro r ⟨h1,h2,h3⟩;exact Tm.bind (rtrim_tm h1 (by omega)) (fun r' h=>Tm.pure ⟨h2▸h.1,by omega⟩)
theorem sgn_ge{a b:Int}:sgn a b≥0↔b≤a:=by unfold sgn;(repeat' split)<;>omega
theorem rAdd_tm{a b:Big}(ha:InB W32 a.Digits)(hb:InB W32 b.Digits)(hl:a.Digits.length≤2199023255552)(hl':b.Digits.length≤2199023255552):
 Tm (fun N=>rAdd N a b) (fun r=>Is r (bv a+bv b)∧r.Digits.length≤max a.Digits.length b.Digits.length+1):=by
 unfold rAdd;refine Tm.bind (halves_tm ha (by omega)) ?_;rintro x ⟨hx,hxl⟩;refine Tm.bind (halves_tm hb (by omega)) ?_;rintro y ⟨hy,hyl⟩;refine Tm.ite (fun h=>?_) (fun h=>?_)
 · have hn:a.Negative=b.Negative:=by simpa using h
   refine Tm.bind (rplus_tm hx.inB hy.inB (by omega) (by omega)) ?_;rintro s ⟨hs,sl⟩;refine Tm.bind (rbig_tm hs.inB (by omega)) (fun r hr=>Tm.pure ⟨?_,by omega⟩);have hr:=hr.1;rw[hs.val,hx.val,hy.val]at hr;unfold bv;rw[←hn];cases e:a.Negative<;>rw[e]at hr
   · simpa using hr
   · simp only[if_true]at hr⊢;rwa[show-(val W32 a.Digits+val W32 b.Digits)=-val W32 a.Digits+-val W32 b.Digits by omega]at hr
 · have hn:¬a.Negative=b.Negative:=by simpa using h
   refine Tm.bind (rorder_tm hx.inB hy.inB hx.nrm hy.nrm (by omega) (by omega)) ?_;rintro c rfl;refine Tm.ite (fun hc=>?_) (fun hc=>?_)
   · have hge:=sgn_ge.1 hc;have hle:y.length≤x.length:=by
      rcases Nat.lt_or_ge x.length y.length with h'|h'
      · have:=len_cmp w16_pos hx.inB hy.inB hy.nrm h';omega
      · exact h'
     refine Tm.bind (rminus_tm hx.inB hy.inB (by omega) hle hge) ?_;rintro s ⟨hs,sl⟩;refine Tm.bind (rbig_tm hs.inB (by omega)) (fun r hr=>Tm.pure ⟨?_,by omega⟩);have hr:=hr.1;rw[hs.val,hx.val,hy.val]at hr;unfold bv;cases e:a.Negative<;>cases e':b.Negative<;>rw[e]at hr hn<;>rw[e']at hn
     · exact absurd rfl hn
     · simpa[Int.sub_eq_add_neg]using hr
     · simp only[if_true,Bool.false_eq_true,if_false]at hr⊢;rwa[show-(val W32 a.Digits-val W32 b.Digits)=-val W32 a.Digits+val W32 b.Digits by omega]at hr
     · exact absurd rfl hn
   · have hlt:¬val W16 y≤val W16 x:=fun e=>hc (sgn_ge.2 e);have hle:x.length≤y.length:=by
      rcases Nat.lt_or_ge y.length x.length with h'|h'
      · have:=len_cmp w16_pos hy.inB hx.inB hx.nrm h';omega
      · exact h'
     refine Tm.bind (rminus_tm hy.inB hx.inB (by omega) hle (by omega)) ?_;rintro s ⟨hs,sl⟩;refine Tm.bind (rbig_tm hs.inB (by omega)) (fun r hr=>Tm.pure ⟨?_,by omega⟩);have hr:=hr.1;rw[hs.val,hx.val,hy.val]at hr;unfold bv;cases e:a.Negative<;>cases e':b.Negative<;>rw[e']at hr hn<;>rw[e]at hn
     · exact absurd rfl hn
     · simp only[if_true,Bool.false_eq_true,if_false]at hr⊢;rwa[show-(val W32 b.Digits-val W32 a.Digits)=val W32 a.Digits+-val W32 b.Digits by omega]at hr
     · simp only[if_true,Bool.false_eq_true,if_false]at hr⊢;rwa[show val W32 b.Digits-val W32 a.Digits=-val W32 a.Digits+val W32 b.Digits by omega]at hr
     · exact absurd rfl hn
theorem rSub_tm{a b:Big}(ha:InB W32 a.Digits)(hb:InB W32 b.Digits)(hl:a.Digits.length≤2199023255552)(hl':b.Digits.length≤2199023255552):
 Tm (fun N=>rSub N a b) (fun r=>Is r (bv a-bv b)∧r.Digits.length≤max a.Digits.length b.Digits.length+1):=by
 unfold rSub;refine Tm.bind (rNeg_tm hb (by omega)) ?_;rintro y ⟨hy,hyl⟩;refine Tm.bind (rAdd_tm ha hy.dg.inB (by omega) (by omega)) (fun r h=>Tm.pure ⟨?_,by omega⟩);have:=h.1;rwa[hy.bv,←Int.sub_eq_add_neg]at this
theorem rtimes_tm{a:List Int}{d:Int}(ha:InB W16 a)(h0:0≤d)(h1:d<W16)(hl:a.length≤8796093022208):Tm (fun N=>rtimes N a d) (fun r=>Dg W16 r (val W16 a*d)∧r.length≤a.length+1):=by
 unfold rtimes;refine Tm.bind (Q:=fun r=>InB W16 r∧val W16 r=val W16 a*d∧r.length≤a.length+1)
  (Tm.loop (fun s:List Int×Int×Int=>∃n:Nat,s.2.2=n∧n≤a.length+1∧s.1.length=n∧InB W16 s.1∧0≤s.2.1∧s.2.1<W16∧(a.length<n→s.2.1=0)∧val W16 s.1+W16^n*s.2.1=val W16 (a.take n)*d) (fun s=>a.length+1-s.2.2.toNat)
   ⟨0,rfl,Nat.zero_le _,rfl,.nil,by simp,(by decide:(0:Int)<W16),fun _=>rfl,by simp[val]⟩ ?_) ?_
 · rintro⟨out,carry,i⟩ ⟨n,rfl,hn,ho,hB,c0,c1,hc,hv⟩;dsimp only[rtimes_b1]at*;refine Tm.bind (Q:=(·=decide (n<a.length∨0<carry))) (Tm.ite (fun h=>Tm.pure ?_) (fun h=>Tm.pure ?_)) ?_
   · have:n<a.length:=by omega
     simp[this]
   · have:¬n<a.length:=by omega
     simp[this]
   rintro _ rfl;refine Tm.ite (fun h=>?_) (fun h=>Tm.pure ?_)
   · have h:=of_decide_eq_true h;have hx:=ha.getD (by decide) n;simp only[W16]at hx h1 c1;have hm:0≤a.getD n 0*d∧a.getD n 0*d≤65535*65535:=⟨Int.mul_nonneg hx.1 h0,Int.mul_le_mul (by omega) (by omega) h0 (by decide)⟩;refine Tm.bind (Q:=(·=carry+a.getD n 0*d)) (Tm.ite (fun h2=>?_) (fun h2=>Tm.pure ?_)) ?_
     · rw[getD_ok (l:=a) (by omega)]at*;refine Tm.step (idx_ok (by omega)) (Tm.pure ?_);rw[iw_eq (z:=_*_) (by omega) (by omega),iw_eq (by omega) (by omega)]
     · rw[getD_out (by omega)];simp
     rintro _ rfl;have hz:a.length≤n→a.getD n 0=0:=fun h=>getD_out (by omega);have hz':a.length≤n→a.getD n 0*d=0:=fun h=>by rw[hz h];simp
     generalize exd:a.getD n 0*d=xd at*;rw[tmod16 (by omega),tdiv16 (by omega)];refine Tm.step (apnd_ok (by simp only[List.length_cons,List.length_nil];omega) (by decide)) (Tm.pure ⟨⟨n+1,?_,by omega,by simp;omega,hB.append (.cons (B:=65536) (by omega) .nil),?_,?_,?_,?_⟩,?_⟩)
     · show iw ((n:Int)+1)=_;rw[iw_eq]<;>omega
     · show 0≤iw ((carry+xd)/65536);rw[iw_eq]<;>omega
     · show iw ((carry+xd)/65536)<65536;rw[iw_eq]<;>omega
     · intro h';show iw ((carry+xd)/65536)=0;have:=hz' (by omega);rw[iw_eq]<;>omega
     · show val W16 (out++[(carry+xd)%65536])+W16^(n+1)*iw ((carry+xd)/65536)=_;rw[iw_eq (by omega) (by omega),val_append,val_take,ho,Int.pow_succ];have:=Int.emod_add_mul_ediv (carry+xd) 65536;have hw:W16=65536:=rfl;simp only[val];grind
     · show a.length+1-(iw ((n:Int)+1)).toNat<a.length+1-((n:Int)).toNat;rw[iw_eq]<;>omega
   · have h:¬(n<a.length∨0<carry):=fun e=>h (decide_eq_true e);rw[take_all (by omega),show carry=0 by omega]at hv;exact⟨hB,by show val W16 out=_;omega,by show out.length≤_;omega⟩
 · rintro r ⟨h1,h2,h3⟩;exact Tm.bind (rtrim_tm h1 (by omega)) (fun r' h=>Tm.pure ⟨h2▸h.1,by omega⟩)
theorem rMul_tm{a b:Big}(ha:InB W32 a.Digits)(hb:InB W32 b.Digits)(hl:a.Digits.length≤1099511627776)(hl':b.Digits.length≤1099511627776):
 Tm (fun N=>rMul N a b) (fun r=>Is r (bv a*bv b)∧r.Digits.length≤a.Digits.length+b.Digits.length):=by
 unfold rMul;refine Tm.bind (halves_tm ha (by omega)) ?_;rintro x ⟨hx,hxl⟩;refine Tm.bind (halves_tm hb (by omega)) ?_;rintro y ⟨hy,hyl⟩;refine Tm.bind (Tm.loop (fun s:List Int×Int=>∃n:Nat,s.2=(n:Int)-1∧n≤y.length∧Dg W16 s.1 (val W16 x*val W16 (y.drop n))∧s.1.length≤x.length+(y.length-n)) (fun s=>(s.2+1).toNat) (Q:=fun r=>Dg W16 r (val W16 x*val W16 y)∧r.length≤x.length+y.length)
  ⟨y.length,by dsimp only;rw[iw_eq]<;>omega,Nat.le_refl _,by simpa[val]using Dg.nil,by simp⟩ ?_) ?_
 · rintro⟨sum,i⟩ ⟨n,rfl,hn,hs,hsl⟩;dsimp only[rMul_b1]at*;refine Tm.ite (fun h=>?_) (fun h=>Tm.pure ?_)
   · refine Tm.step (apnd_ok (by simp only[List.length_cons,List.length_nil];omega) (by decide)) ?_;have hny:n-1<y.length:=by omega
     refine Tm.step (idx_i (n:=n-1) (by omega) hny) ?_;have hd:=hy.inB.get hny;refine Tm.bind (rtimes_tm hx.inB hd.1 hd.2 (by omega)) ?_;rintro t ⟨ht,htl⟩;refine Tm.bind (rplus_tm (a:=[0]++sum) (.append (.cons (by decide) .nil) hs.inB) ht.inB (by simp;omega) (by omega)) ?_;rintro r ⟨hr,hrl⟩;refine Tm.pure ⟨⟨n-1,by dsimp only;rw[iw_eq]<;>omega,by omega,?_,?_⟩,?_⟩
     · have e:val W16 ([0]++sum)+val W16 t=val W16 x*val W16 (y.drop (n-1)):=by
        rw[ht.val,List.drop_eq_getElem_cons hny,show n-1+1=n by omega];simp only[List.singleton_append,val,hs.val];grind
       show Dg W16 r _;rw[←e];exact hr
     · show r.length≤_;have hb:val W16 ([0]++sum)+val W16 t<W16^(x.length+(y.length-(n-1))):=by
        have e:val W16 ([0]++sum)+val W16 t=val W16 x*val W16 (y.drop (n-1)):=by
         rw[ht.val,List.drop_eq_getElem_cons hny,show n-1+1=n by omega];simp only[List.singleton_append,val,hs.val];grind
        rw[e,Int.pow_add];have l1:=val_lt (by decide) hx.inB;have l2:=val_lt (by decide) (hy.inB.drop (n-1));have l3:=val_nonneg (by decide) hx.inB;have l4:=val_nonneg (by decide) (hy.inB.drop (n-1));rw[List.length_drop]at l2;exact Int.mul_lt_mul' (by omega) l2 l4 (pow_pos' (by decide) _)
       exact nrm_len w16_pos hr.inB hr.nrm (by rw[hr.val];exact hb)
     · show(iw ((n:Int)-1-1)+1).toNat<((n:Int)-1+1).toNat;rw[iw_eq]<;>omega
   · have:n=0:=by omega
     subst this;exact⟨by simpa using hs,by simpa using hsl⟩
 · rintro s ⟨hs,hsl⟩;refine Tm.bind (rbig_tm hs.inB (by omega)) (fun r hr=>Tm.pure ⟨?_,by omega⟩);have hr:=hr.1;rw[hs.val,hx.val,hy.val]at hr;rw[bv_mul];exact hr
theorem rOf_tm{n:Int}(h1:-9223372036854775808≤n)(h2:n≤9223372036854775807):Tm (fun N=>rOf N n) (fun r=>Is r n∧r.Digits.length≤2):=by
 unfold rOf;refine Tm.bind (Q:=(·=(n.natAbs:Int))) (Tm.ite (fun h=>Tm.pure ?_) (fun h=>Tm.pure ?_)) ?_
 · rw[iw_eq (z:=n+1) (by omega) (by omega),iw_eq (by omega) (by omega),uw_mod,uw_mod];omega
 · rw[uw_mod];omega
 rintro _ rfl;refine Tm.bind (Tm.loop (fun s:Int×List Int=>∃m:Nat,m≤4∧s.2.length=m∧InB W16 s.2∧0≤s.1∧s.1<W16^(4-m)∧val W16 s.2+W16^m*s.1=n.natAbs) (fun s=>s.1.toNat) (Q:=fun r=>InB W16 r∧val W16 r=n.natAbs∧r.length≤4)
  ⟨0,by omega,rfl,.nil,by simp,by simp only[W16];omega,by simp[val]⟩ ?_) ?_
 · rintro⟨u,l⟩ ⟨m,hm,hl,hB,u0,u1,hv⟩;dsimp only[rOf_b1]at*;refine Tm.ite (fun h=>?_) (fun h=>Tm.pure ?_)
   · have hm':m≠4:=by rintro rfl;simp at u1;omega
     have hu:u<18446744073709551616:=by
      have:W16^(4-m)≤W16^4:=pow_mono (by decide) (by omega);have e:W16^4=18446744073709551616:=by decide
      omega
     rw[tmod16 u0,tdiv16 u0];have e1:iw (u%65536)=u%65536:=by rw[iw_eq]<;>omega
     have e2:uw (u/65536)=u/65536:=by rw[uw_mod];omega
     rw[e1,e2];refine Tm.step (apnd_ok (by simp only[List.length_cons,List.length_nil];omega) (by decide)) (Tm.pure ⟨⟨m+1,by omega,by simp;omega,hB.append (.cons (B:=65536) (by omega) .nil),?_,?_,?_⟩,?_⟩)
     · show 0≤u/65536;omega
     · show u/65536<W16^(4-(m+1));have e:W16^(4-m)=W16^(4-(m+1))*65536:=by rw[show 4-m=4-(m+1)+1 by omega,Int.pow_succ]
       rw[e]at u1;exact Int.ediv_lt_of_lt_mul (by decide) u1
     · show val W16 (l++[u%65536])+W16^(m+1)*(u/65536)=_;rw[val_append,hl,Int.pow_succ];have:=Int.emod_add_mul_ediv u 65536;have hw:W16=65536:=rfl;simp only[val];grind
     · show(u/65536).toNat<u.toNat;omega
   · have:u=0:=by omega
     subst this;exact⟨hB,by show val W16 l=_;simpa using hv,by show l.length≤4;omega⟩
 · rintro l ⟨hB,hv,hl⟩;refine Tm.bind (rbig_tm hB (by omega)) (fun r hr=>Tm.pure ⟨?_,by omega⟩);have hr:=hr.1;rw[hv]at hr;by_cases hn:n<0
   · simp only[hn,decide_true,if_true]at hr;rwa[show-(n.natAbs:Int)=n by omega]at hr
   · simp only[hn,decide_false,Bool.false_eq_true,if_false]at hr;rwa[show(n.natAbs:Int)=n by omega]at hr
open Go Go.X
def OkB(K:Nat)(x:Big):Prop:=InB W32 x.Digits∧x.Digits.length≤K
def OkI(K:Nat)(q:Ineq):Prop:=q.Coefs.length≤K∧(∀b∈q.Coefs,OkB K b)∧OkB K q.Bound
theorem OkB.mono{K K':Nat}{x:Big}(h:OkB K x)(hK:K≤K'):OkB K' x:=⟨h.1,by have:=h.2;omega⟩
theorem OkB.nil{K:Nat}{b:Bool}:OkB K ⟨b,[]⟩:=⟨.nil,Nat.zero_le _⟩
abbrev big0:Big:=⟨false,[]⟩
theorem bv_nil{b:Bool}:bv ⟨b,[]⟩=0:=by cases b<;>rfl
theorem Is.ok{x:Big}{v:Int}{K:Nat}(h:Is x v)(hl:x.Digits.length≤K):OkB K x:=⟨h.dg.inB,hl⟩
theorem Tm.each{α β:Type}{body:Nat→Int→Option (Stp Int (Sum Unit β))}(xs:List α)(P:α→Prop){Q:Sum Unit β→Prop}(hl:xs.length≤9223372036854775807)
 (step:∀(n:Nat) (hn:n<xs.length),(∀j,(hj:j<xs.length)→j<n→P xs[j])→Tm (fun N=>body N (n:Int)) (fun t=>(t=.next (iw ((n:Int)+1))∧P xs[n])∨(∃b,t=.done (.inr b)∧Q (.inr b))))
 (fin:(∀x∈xs,P x)→Tm (fun N=>body N (xs.length:Int)) (fun t=>∃r,t=.done r∧Q r)):Tm (fun N=>loopM (body N) N 0) Q:=by
 refine Tm.loop (fun i:Int=>∃n:Nat,i=n∧n≤xs.length∧∀j,(hj:j<xs.length)→j<n→P xs[j]) (fun i:Int=>xs.length-i.toNat) ⟨0,rfl,Nat.zero_le _,fun _ _ h=>absurd h (by omega)⟩ ?_;rintro _ ⟨n,rfl,hn,hP⟩;rcases Nat.lt_or_ge n xs.length with h|h
 · refine(step n h hP).mono ?_;rintro t (⟨rfl,hp⟩|⟨b,rfl,hq⟩)
   · refine⟨⟨n+1,by rw[iw_eq]<;>omega,by omega,fun j hj hlt=>?_⟩,?_⟩
     · rcases Nat.lt_or_ge j n with h'|h'
       · exact hP j hj h'
       · obtain rfl:j=n:=by omega
         exact hp
     · show xs.length-(iw ((n:Int)+1)).toNat<xs.length-((n:Int)).toNat;rw[iw_eq]<;>omega
   · exact hq
 · obtain rfl:n=xs.length:=by omega
   refine(fin fun x hx=>?_).mono ?_
   · obtain⟨j,hj,rfl⟩:=List.mem_iff_getElem.1 hx;exact hP j hj hj
   · rintro t ⟨r,rfl,hq⟩;exact hq
theorem rbigs_tm{l:List Big}(hl:l.length≤9223372036854775807):Tm (fun N=>rbigs N l) (fun r=>r=true→l.length≤6∧∀b∈l,b.Digits.length≤4):=by
 unfold rbigs;refine Tm.bind (Tm.each (body:=fun N=>rbigs_b1 N l) l (fun b=>b.Digits.length≤4) (Q:=fun r=>r=.inr false∨(r=.inl ()∧∀b∈l,b.Digits.length≤4)) hl ?_ ?_) ?_
 · intro n hn _;unfold rbigs_b1;refine Tm.pos (by omega) (Tm.step (idx_ok hn) (Tm.ite (fun h=>Tm.pure (.inr ⟨_,rfl,.inl rfl⟩)) (fun h=>Tm.pure (.inl ⟨rfl,by omega⟩))))
 · intro h;unfold rbigs_b1;exact Tm.neg (by omega) (Tm.pure ⟨_,rfl,.inr ⟨rfl,h⟩⟩)
 · rintro _ (rfl|⟨rfl,h⟩)
   · exact Tm.pure (fun h=>by cases h)
   · exact Tm.pure (fun h'=>⟨by have:=of_decide_eq_true h';omega,h⟩)
theorem getDb{l:List Big}{n:Nat}(h:n<l.length):l.getD n big0=l[n]:=by rw[List.getD_eq_getElem?_getD,List.getElem?_eq_getElem h];rfl
def badV(q:Ineq):Bool:=decide ((∀b∈q.Coefs,bv b=0)∧bv q.Bound<0)
theorem sgn_zero{a:Int}:sgn a 0=0↔a=0:=by unfold sgn;(repeat' split)<;>omega
theorem sgn_neg{a:Int}:sgn a 0<0↔a<0:=by unfold sgn;(repeat' split)<;>omega
theorem cContradictory_tm{K:Nat}{q:Ineq}(hK:K≤1073741824)(hq:OkI K q):Tm (fun N=>cContradictory N q) (fun r=>r=badV q):=by
 unfold cContradictory badV;have hlK:=hq.1;refine Tm.bind (Tm.each (body:=fun N=>cContradictory_b1 N q) q.Coefs (fun b=>bv b=0) (Q:=fun r=>(r=.inr false∧¬∀b∈q.Coefs,bv b=0)∨(r=.inl ()∧∀b∈q.Coefs,bv b=0)) (by omega) ?_ ?_) ?_
 · intro n hn _;unfold cContradictory_b1;have h1:=hq.2.1 _ (List.getElem_mem hn);refine Tm.pos (by omega) (Tm.step (idx_ok hn) (Tm.bind (bSign_tm h1.1 (by have:=h1.2;omega)) ?_));rintro _ rfl;refine Tm.ite (fun h=>Tm.pure (.inr ⟨_,rfl,.inl ⟨rfl,fun h'=>h (sgn_zero.2 (h' _ (List.getElem_mem hn)))⟩⟩)) (fun h=>Tm.pure (.inl ⟨rfl,sgn_zero.1 (by omega)⟩))
 · intro h;unfold cContradictory_b1;exact Tm.neg (by omega) (Tm.pure ⟨_,rfl,.inr ⟨rfl,h⟩⟩)
 · rintro _ (⟨rfl,h⟩|⟨rfl,h⟩)
   · refine Tm.pure ?_;simp only[h,false_and,decide_false]
   · refine Tm.bind (bSign_tm hq.2.2.1 (by have:=hq.2.2.2;omega)) ?_;rintro _ rfl;refine Tm.pure ?_;simp only[sgn_neg];exact decide_eq_decide.2 ⟨fun h'=>⟨h,h'⟩,fun h'=>h'.2⟩
theorem rBad_tm{K:Nat}{q:Ineq}(hK:K≤1073741824)(hq:OkI K q):Tm (fun N=>rBad N q) (fun r=>r=badV q):=by
 unfold rBad badV;have hlK:=hq.1;refine Tm.bind (Tm.each (body:=fun N=>rBad_b1 N q) q.Coefs (fun b=>bv b=0) (Q:=fun r=>(r=.inr false∧¬∀b∈q.Coefs,bv b=0)∨(r=.inl ()∧∀b∈q.Coefs,bv b=0)) (by omega) ?_ ?_) ?_
 · intro n hn _;unfold rBad_b1;have h1:=hq.2.1 _ (List.getElem_mem hn);refine Tm.pos (by omega) (Tm.step (idx_ok hn) (Tm.bind (rSign_tm h1.1 (by have:=h1.2;omega)) ?_));rintro _ rfl;refine Tm.ite (fun h=>Tm.pure (.inr ⟨_,rfl,.inl ⟨rfl,fun h'=>h (sgn_zero.2 (h' _ (List.getElem_mem hn)))⟩⟩)) (fun h=>Tm.pure (.inl ⟨rfl,sgn_zero.1 (by omega)⟩))
 · intro h;unfold rBad_b1;exact Tm.neg (by omega) (Tm.pure ⟨_,rfl,.inr ⟨rfl,h⟩⟩)
 · rintro _ (⟨rfl,h⟩|⟨rfl,h⟩)
   · refine Tm.pure ?_;simp only[h,false_and,decide_false]
   · refine Tm.bind (rSign_tm hq.2.2.1 (by have:=hq.2.2.2;omega)) ?_;rintro _ rfl;refine Tm.pure ?_;simp only[sgn_neg];exact decide_eq_decide.2 ⟨fun h'=>⟨h,h'⟩,fun h'=>h'.2⟩
open Go Go.X
def RightP(c:Constraint)(n:Int):Prop:=(∀i,(h:i<c.Linear.Coefs.length)→0≤c.Linear.Coefs[i].Var∧c.Linear.Coefs[i].Var<n∧(∀(_:0<i),(c.Linear.Coefs[i-1]'(by omega)).Var<c.Linear.Coefs[i].Var))∧0≤n∧n≤512
theorem cvalid_tm{c:Constraint}{n:Int}(hl:c.Linear.Coefs.length≤9223372036854775807):Tm (fun N=>cvalid N c n) (fun r=>r=true↔RightP c n):=by
 unfold cvalid;generalize hcs:c.Linear.Coefs=cs at hl;have hR:RightP c n↔((∀i,(h:i<cs.length)→0≤cs[i].Var∧cs[i].Var<n∧(∀(_:0<i),(cs[i-1]'(by omega)).Var<cs[i].Var))∧0≤n∧n≤512):=by subst hcs;rfl
 refine Tm.bind (Tm.loop (fun s:Int×Int=>∃k:Nat,s.2=k∧k≤cs.length∧(k=0→s.1=-1)∧(∀h:0<k∧k-1<cs.length,s.1=cs[k-1].Var)∧∀i,(h:i<cs.length)→i<k→0≤cs[i].Var∧cs[i].Var<n∧(∀(_:0<i),(cs[i-1]'(by omega)).Var<cs[i].Var)) (fun s=>cs.length-s.2.toNat)
  (Q:=fun r=>(r=.inl ()∧∀i,(h:i<cs.length)→0≤cs[i].Var∧cs[i].Var<n∧(∀(_:0<i),(cs[i-1]'(by omega)).Var<cs[i].Var))∨(r=.inr false∧¬RightP c n)) ⟨0,rfl,Nat.zero_le _,fun _=>rfl,fun h=>absurd h.1 (by omega),fun i _ h=>absurd h (by omega)⟩ ?_) ?_
 · rintro⟨last,i⟩ ⟨k,rfl,hk,h0,h1,hP⟩;dsimp only[cvalid_b1]at*;rw[hcs];refine Tm.ite (fun h=>?_) (fun h=>Tm.pure (.inl ⟨rfl,fun i hi=>hP i hi (by omega)⟩));have hkl:k<cs.length:=by omega
   refine Tm.step (idx_ok hkl) (Tm.bind (Q:=(·=decide (cs[k].Var≤last∨cs[k].Var≥n))) (Tm.ite (fun h=>Tm.pure ?_) (fun h=>Tm.pure ?_)) ?_)
   · simp[h]
   · simp[h]
   rintro _ rfl;refine Tm.ite (fun h=>Tm.pure (.inr ⟨rfl,fun hr=>?_⟩)) (fun h=>Tm.pure ⟨⟨k+1,by dsimp only;rw[iw_eq]<;>omega,by omega,fun h=>by omega,fun _=>rfl,fun i hi hik=>?_⟩,?_⟩)
   · have h:=of_decide_eq_true h;have:=(hR.1 hr).1 k hkl;rcases Nat.eq_zero_or_pos k with h'|h'
     · have:=h0 h';omega
     · have h2:=this.2.2 h';have h3:=h1 ⟨h',by omega⟩;omega
   · have h:¬(cs[k].Var≤last∨cs[k].Var≥n):=fun e=>h (decide_eq_true e);rcases Nat.lt_or_ge i k with h'|h'
     · exact hP i hi h'
     · obtain rfl:i=k:=by omega
       rcases Nat.eq_zero_or_pos i with h'|h'
       · have:=h0 h';exact⟨by omega,by omega,fun e=>by omega⟩
       · have h3:=h1 ⟨h',by omega⟩;have h4:=hP (i-1) (by omega) (by omega);exact⟨by omega,by omega,fun _=>by omega⟩
   · show cs.length-(iw ((k:Int)+1)).toNat<cs.length-((k:Int)).toNat;rw[iw_eq]<;>omega
 · rintro _ (⟨rfl,h⟩|⟨rfl,h⟩)
   · refine Tm.ite (fun h1=>Tm.pure ?_) (fun h1=>Tm.pure ?_)
     · rw[hR];simp only[decide_eq_true_eq];exact⟨fun h2=>⟨h,by omega,h2⟩,fun h2=>h2.2.2⟩
     · rw[hR];exact⟨fun h2=>(by cases h2),fun h2=>absurd h2.2.1 (by omega)⟩
   · exact Tm.pure ⟨fun h'=>(by cases h'),fun h'=>absurd h' h⟩
theorem rRight_tm{c:Constraint}{n:Int}(hl:c.Linear.Coefs.length≤9223372036854775807):Tm (fun N=>rRight N c n) (fun r=>r=true↔RightP c n):=by
 unfold rRight;generalize hcs:c.Linear.Coefs=cs at hl;have hR:RightP c n↔((∀i,(h:i<cs.length)→0≤cs[i].Var∧cs[i].Var<n∧(∀(_:0<i),(cs[i-1]'(by omega)).Var<cs[i].Var))∧0≤n∧n≤512):=by subst hcs;rfl
 refine Tm.bind (Tm.loop (fun s:Int=>∃k:Nat,s=k∧k≤cs.length∧∀i,(h:i<cs.length)→i<k→0≤cs[i].Var∧cs[i].Var<n∧(∀(_:0<i),(cs[i-1]'(by omega)).Var<cs[i].Var)) (fun s=>cs.length-s.toNat)
  (Q:=fun r=>(r=.inl ()∧∀i,(h:i<cs.length)→0≤cs[i].Var∧cs[i].Var<n∧(∀(_:0<i),(cs[i-1]'(by omega)).Var<cs[i].Var))∨(r=.inr false∧¬RightP c n)) ⟨0,rfl,Nat.zero_le _,fun i _ h=>absurd h (by omega)⟩ ?_) ?_
 · rintro _ ⟨k,rfl,hk,hP⟩;dsimp only[rRight_b1]at*;rw[hcs];refine Tm.ite (fun h=>?_) (fun h=>Tm.pure (.inl ⟨rfl,fun i hi=>hP i hi (by omega)⟩));have hkl:k<cs.length:=by omega
   refine Tm.step (idx_ok hkl) (Tm.bind (Q:=fun r=>r=true↔¬(0≤cs[k].Var∧cs[k].Var<n∧(∀(_:0<k),(cs[k-1]'(by omega)).Var<cs[k].Var))) (Tm.ite (fun h=>Tm.pure ?_) (fun h=>Tm.ite (fun h'=>Tm.pure ?_) (fun h'=>Tm.ite (fun h2=>?_) (fun h2=>Tm.pure ?_)))) ?_)
   · exact⟨fun _ e=>by omega,fun _=>rfl⟩
   · exact⟨fun _ e=>by omega,fun _=>rfl⟩
   · refine Tm.step (idx_i (n:=k-1) (by rw[iw_eq]<;>omega) (by omega)) (Tm.pure ?_);simp only[decide_eq_true_eq];exact⟨fun e e'=>by have:=e'.2.2 (by omega);omega,fun e=>by
      rcases Int.lt_or_le (cs[k-1]'(by omega)).Var cs[k].Var with e'|e'
      · exact absurd ⟨by omega,by omega,fun _=>e'⟩ e
      · exact e'⟩
   · exact⟨fun e=>(by cases e),fun e=>absurd ⟨by omega,by omega,fun e'=>absurd e' (by omega)⟩ e⟩
   intro r hr;refine Tm.ite (fun h=>Tm.pure (.inr ⟨rfl,fun hr'=>hr.1 h ((hR.1 hr').1 k hkl)⟩)) (fun hf=>Tm.pure ⟨⟨k+1,by rw[iw_eq]<;>omega,by omega,fun i hi hik=>?_⟩,?_⟩)
   · rcases Nat.lt_or_ge i k with h'|h'
     · exact hP i hi h'
     · obtain rfl:i=k:=by omega
       exact Classical.byContradiction fun e=>hf (hr.2 e)
   · show cs.length-(iw ((k:Int)+1)).toNat<cs.length-((k:Int)).toNat;rw[iw_eq]<;>omega
 · rintro _ (⟨rfl,h⟩|⟨rfl,h⟩)
   · refine Tm.ite (fun h1=>Tm.pure ?_) (fun h1=>Tm.pure ?_)
     · rw[hR];simp only[decide_eq_true_eq];exact⟨fun h2=>⟨h,by omega,h2⟩,fun h2=>h2.2.2⟩
     · rw[hR];exact⟨fun h2=>(by cases h2),fun h2=>absurd h2.2.1 (by omega)⟩
   · exact Tm.pure ⟨fun h'=>(by cases h'),fun h'=>absurd h' h⟩
def IsL(xs:List Big)(vs:List Int):Prop:=xs.length=vs.length∧∀j,(h:j<xs.length)→(h':j<vs.length)→Is xs[j] vs[j]
theorem IsL.uniq{xs ys:List Big}{vs:List Int}(h:IsL xs vs)(h':IsL ys vs):xs=ys:=by
 apply List.ext_getElem (h.1.trans h'.1.symm);intro i h1 h2;exact(h.2 i h1 (by rw[←h.1];exact h1)).uniq (h'.2 i h2 (by rw[←h.1];exact h1))
theorem IsL.nil:IsL [] []:=⟨rfl,fun j h=>absurd h (by simp)⟩
theorem is0:Is big0 0:=⟨Dg.nil,rfl⟩
theorem IsL.rep{n:Nat}:IsL (List.replicate n big0) (List.replicate n 0):=⟨by simp,fun j h h'=>by simpa using is0⟩
theorem IsL.set{xs:List Big}{vs:List Int}(h:IsL xs vs){k:Nat}{x:Big}{v:Int}(hx:Is x v):IsL (xs.set k x) (vs.set k v):=by
 refine⟨by simpa using h.1,fun j h1 h2=>?_⟩;by_cases hj:k=j
 · subst hj;simpa using hx
 · rw[List.getElem_set_ne hj,List.getElem_set_ne hj];exact h.2 j (by simpa using h1) (by simpa using h2)
theorem IsL.snoc{xs:List Big}{vs:List Int}(h:IsL xs vs){x:Big}{v:Int}(hx:Is x v):IsL (xs++[x]) (vs++[v]):=by
 refine⟨by simp[h.1],fun j h1 h2=>?_⟩;rcases Nat.lt_or_ge j xs.length with hj|hj
 · rw[List.getElem_append_left hj,List.getElem_append_left (by rw[←h.1];exact hj)];exact h.2 j hj _
 · simp only[List.length_append,List.length_singleton]at h1 h2;have hj':j=xs.length:=by omega
   have hj2:j=vs.length:=by rw[←h.1];exact hj'
   have e1:(xs++[x])[j]?=some x:=by rw[hj'];simp
   have e2:(vs++[v])[j]?=some v:=by rw[hj2];simp
   rw[(List.getElem?_eq_some_iff.1 e1).2,(List.getElem?_eq_some_iff.1 e2).2];exact hx
theorem Is.len{x:Big}{v:Int}(h:Is x v){k:Nat}(hv:(v.natAbs:Int)<W32^k):x.Digits.length≤k:=nrm_len w32_pos h.dg.inB h.dg.nrm (by rw[h.dg.val];exact hv)
def IsI(q:Ineq)(vs:List Int)(b:Int):Prop:=IsL q.Coefs vs∧Is q.Bound b
theorem IsI.uniq{p q:Ineq}{vs:List Int}{b:Int}(h:IsI p vs b)(h':IsI q vs b):p=q:=by
 have h1:=h.1.uniq h'.1;have h2:=h.2.uniq h'.2;cases p;cases q;simp_all
def I64(z:Int):Prop:=-9223372036854775808≤z∧z≤9223372036854775807
structure OkC (c:Constraint):Prop where
 len:c.Linear.Coefs.length≤9223372036854775807
 const:I64 c.Linear.Const
 coef:∀k∈c.Linear.Coefs,I64 k.N
def setv(l:List Int)(k:Coef):List Int:=l.set k.Var.toNat k.N
def vals(c:Constraint)(n:Int)(k:Nat):List Int:=(c.Linear.Coefs.take k).foldl setv (List.replicate n.toNat 0)
theorem vals_succ{c:Constraint}{n:Int}{k:Nat}(h:k<c.Linear.Coefs.length):vals c n (k+1)=setv (vals c n k) c.Linear.Coefs[k]:=by
 unfold vals;rw[List.take_succ_eq_append_getElem h,List.foldl_append];rfl
theorem vals_len{c:Constraint}{n:Int}{k:Nat}:(vals c n k).length=n.toNat:=by
 unfold vals;generalize c.Linear.Coefs.take k=l;have:∀(l:List Coef) (v:List Int),(l.foldl setv v).length=v.length:=by
  intro l
  induction l with
  |nil=>intro v;rfl
  |cons x l ih=>intro v;rw[List.foldl_cons,ih];simp[setv]
 rw[this];simp
def OfP(c:Constraint)(n:Int)(r:List Ineq):Prop:=(¬RightP c n∧r=[])∨(RightP c n∧∃q,IsI q (vals c n c.Linear.Coefs.length) (-c.Linear.Const)∧((c.Equal=false∧r=[q])∨(c.Equal=true∧∃q',IsI q' ((vals c n c.Linear.Coefs.length).map (fun v=>-v)) c.Linear.Const∧r=[q,q'])))
theorem OfP.uniq{c:Constraint}{n:Int}{r s:List Ineq}(h:OfP c n r)(h':OfP c n s):r=s:=by
 rcases h with⟨h1,rfl⟩|⟨h1,q,hq,h2⟩<;>rcases h' with⟨g1,rfl⟩|⟨g1,q',gq,g2⟩
 · rfl
 · exact absurd g1 h1
 · exact absurd h1 g1
 · have e:=hq.uniq gq;subst e;rcases h2 with⟨h3,rfl⟩|⟨h3,p,hp,rfl⟩<;>rcases g2 with⟨g3,rfl⟩|⟨g3,p',gp,rfl⟩
   · rfl
   · rw[h3]at g3;cases g3
   · rw[h3]at g3;cases g3
   · rw[hp.uniq gp]
theorem negI64{z:Int}{x:Big}(h:Is x z)(hz:I64 z):InB W32 x.Digits∧x.Digits.length≤2:=⟨h.dg.inB,h.len (by unfold I64 at hz;have e:W32^2=18446744073709551616:=(by decide);omega)⟩
theorem negated_tm{l:List Big}{vs:List Int}{bound:Big}{z:Int}(hl:IsL l vs)(hv:∀v∈vs,I64 v)(hb:Is bound z)(hz:I64 z)(hn:l.length≤512):Tm (fun N=>negated N l bound) (fun r=>IsI r (vs.map (fun v=>-v)) z):=by
 unfold negated;refine Tm.bind (bNormal_tm hb.dg.inB (by have:=(negI64 hb hz).2;omega)) ?_;rintro b ⟨hb',-⟩;rw[hb.bv]at hb';refine Tm.bind (Tm.loop (fun s:List Big×Int=>∃k:Nat,s.2=k∧k≤l.length∧IsL s.1 ((vs.take k).map (fun v=>-v))) (fun s=>l.length-s.2.toNat) (Q:=fun r=>IsL r (vs.map (fun v=>-v))) ⟨0,rfl,Nat.zero_le _,by simpa using IsL.nil⟩ ?_) (fun r h=>Tm.pure ⟨h,hb'⟩);rintro⟨cs,i⟩ ⟨k,rfl,hk,h⟩;have hlv:=hl.1;dsimp only[negated_b1]at*;refine Tm.ite (fun h1=>?_) (fun h1=>Tm.pure ?_)
 · have hkl:k<l.length:=by omega
   have hx:=hl.2 k hkl (by omega);have hxv:=hv _ (List.getElem_mem (show k<vs.length by omega));refine Tm.step (idx_ok hkl) (Tm.bind (bNeg_tm hx.dg.inB (by have:=(negI64 hx hxv).2;omega)) ?_);rintro m ⟨hm,-⟩;rw[hx.bv]at hm;have hcl:=h.1;simp only[List.length_map,List.length_take]at hcl;refine Tm.step (apnd_ok (by simp only[List.length_cons,List.length_nil];omega) (by decide)) (Tm.pure ⟨⟨k+1,by dsimp only;rw[iw_eq]<;>omega,by omega,?_⟩,?_⟩)
   · rw[List.take_succ_eq_append_getElem (by omega),List.map_append];exact h.snoc hm
   · show l.length-(iw ((k:Int)+1)).toNat<l.length-((k:Int)).toNat;rw[iw_eq]<;>omega
 · show IsL cs _;rwa[List.take_of_length_le (by omega)]at h
theorem rflip_tm{q:Ineq}{vs:List Int}{bound:Big}{z:Int}(hl:IsL q.Coefs vs)(hv:∀v∈vs,I64 v)(hb:Is bound z)(hz:I64 z)(hn:q.Coefs.length≤512):Tm (fun N=>rflip N q bound) (fun r=>IsI r (vs.map (fun v=>-v)) z):=by
 unfold rflip;refine Tm.bind (rNormal_tm hb.dg.inB (by have:=(negI64 hb hz).2;omega)) ?_;rintro b ⟨hb',-⟩;rw[hb.bv]at hb';refine Tm.bind (Tm.loop (fun s:List Big×Int=>∃k:Nat,s.2=k∧k≤q.Coefs.length∧IsL s.1 ((vs.take k).map (fun v=>-v))) (fun s=>q.Coefs.length-s.2.toNat) (Q:=fun r=>IsL r (vs.map (fun v=>-v))) ⟨0,rfl,Nat.zero_le _,by simpa using IsL.nil⟩ ?_) (fun r h=>Tm.pure ⟨h,hb'⟩);rintro⟨cs,i⟩ ⟨k,rfl,hk,h⟩;have hlv:=hl.1;dsimp only[rflip_b1]at*;refine Tm.ite (fun h1=>?_) (fun h1=>Tm.pure ?_)
 · have hkl:k<q.Coefs.length:=by omega
   have hx:=hl.2 k hkl (by omega);have hxv:=hv _ (List.getElem_mem (show k<vs.length by omega));refine Tm.step (idx_ok hkl) (Tm.bind (rNeg_tm hx.dg.inB (by have:=(negI64 hx hxv).2;omega)) ?_);rintro m ⟨hm,-⟩;rw[hx.bv]at hm;have hcl:=h.1;simp only[List.length_map,List.length_take]at hcl;refine Tm.step (apnd_ok (by simp only[List.length_cons,List.length_nil];omega) (by decide)) (Tm.pure ⟨⟨k+1,by dsimp only;rw[iw_eq]<;>omega,by omega,?_⟩,?_⟩)
   · rw[List.take_succ_eq_append_getElem (by omega),List.map_append];exact h.snoc hm
   · show q.Coefs.length-(iw ((k:Int)+1)).toNat<q.Coefs.length-((k:Int)).toNat;rw[iw_eq]<;>omega
 · show IsL cs _;rwa[List.take_of_length_le (by omega)]at h
theorem vals_I64{c:Constraint}{n:Int}{k:Nat}(hc:OkC c):∀v∈vals c n k,I64 v:=by
 induction k with
 |zero=>
  intro v hv;simp only[vals,List.take_zero,List.foldl_nil]at hv;rw[(List.mem_replicate.1 hv).2];unfold I64;omega
 |succ k ih=>
  rcases Nat.lt_or_ge k c.Linear.Coefs.length with h|h
  · rw[vals_succ h];intro v hv;rcases List.mem_or_eq_of_mem_set hv with hv|rfl
    · exact ih v hv
    · exact hc.coef _ (List.getElem_mem h)
  · have e:vals c n (k+1)=vals c n k:=by
     unfold vals;rw[List.take_of_length_le (by omega),List.take_of_length_le h]
    rw[e];exact ih
theorem cOf_tm{c:Constraint}{n:Int}(hc:OkC c):Tm (fun N=>cOf N c n) (OfP c n):=by
 unfold cOf;refine Tm.bind (cvalid_tm hc.len) ?_;intro r hr;refine Tm.ite (fun h=>Tm.pure (.inl ⟨fun e=>(by rw[hr.2 e]at h;cases h),rfl⟩)) (fun h=>?_);have hR:RightP c n:=hr.1 (by simpa using h);refine Tm.step (mk1_ok (n:=n.toNat) (by have:=hR.2;omega) (by have:=hR.2;omega) (by decide)) ?_;have hn:n.toNat≤512:=by have:=hR.2;omega
 refine Tm.bind (bOf_tm hc.const.1 hc.const.2) ?_;rintro k0 ⟨hk0,hk0l⟩;refine Tm.bind (bNeg_tm hk0.dg.inB (by omega)) ?_;rintro b ⟨hb,-⟩;rw[hk0.bv]at hb;refine Tm.bind (Tm.loop (fun s:List Big×Int=>∃k:Nat,s.2=k∧k≤c.Linear.Coefs.length∧IsL s.1 (vals c n k)) (fun s=>c.Linear.Coefs.length-s.2.toNat) (Q:=fun r=>IsL r (vals c n c.Linear.Coefs.length)) ⟨0,rfl,Nat.zero_le _,by simpa[vals]using IsL.rep⟩ ?_) ?_
 · rintro⟨cs,i⟩ ⟨k,rfl,hk,h⟩;dsimp only[cOf_b1]at*;refine Tm.ite (fun h1=>?_) (fun h1=>Tm.pure ?_)
   · have hkl:k<c.Linear.Coefs.length:=by omega
     have hv:=hR.1 k hkl;have hx:=hc.coef _ (List.getElem_mem hkl);have hcl:=h.1;rw[vals_len]at hcl;refine Tm.step (idx_ok hkl) (Tm.bind (bOf_tm hx.1 hx.2) ?_);rintro m ⟨hm,-⟩;refine Tm.step (idx_i (n:=c.Linear.Coefs[k].Var.toNat) (by omega) (by omega)) (Tm.step (upd1_i (n:=c.Linear.Coefs[k].Var.toNat) (by omega) (by omega)) (Tm.pure ⟨⟨k+1,by have:=hc.len;dsimp only;rw[iw_eq]<;>omega,by omega,?_⟩,?_⟩))
     · rw[vals_succ hkl];exact h.set hm
     · show c.Linear.Coefs.length-(iw ((k:Int)+1)).toNat<c.Linear.Coefs.length-((k:Int)).toNat;have:=hc.len;rw[iw_eq]<;>omega
   · obtain rfl:k=c.Linear.Coefs.length:=by omega
     exact h
 · rintro cs hcs;refine Tm.ite (fun h1=>Tm.pure (.inr ⟨hR,_,⟨hcs,hb⟩,.inl ⟨by simpa using h1,rfl⟩⟩)) (fun h1=>?_);refine Tm.bind (bOf_tm hc.const.1 hc.const.2) ?_;rintro k1 ⟨hk1,-⟩;refine Tm.bind (negated_tm hcs (vals_I64 hc) hk1 hc.const (by rw[hcs.1,vals_len];exact hn)) ?_;rintro q' hq';exact Tm.pure (.inr ⟨hR,_,⟨hcs,hb⟩,.inr ⟨by simpa using h1,q',hq',rfl⟩⟩)
theorem rIOf_tm{c:Constraint}{n:Int}(hc:OkC c):Tm (fun N=>rIOf N c n) (OfP c n):=by
 unfold rIOf;refine Tm.bind (rRight_tm hc.len) ?_;intro r hr;refine Tm.ite (fun h=>Tm.pure (.inl ⟨fun e=>(by rw[hr.2 e]at h;cases h),rfl⟩)) (fun h=>?_);have hR:RightP c n:=hr.1 (by simpa using h);have hn:n.toNat≤512:=by have:=hR.2;omega
 refine Tm.bind (Q:=(·=Ineq.mk (List.replicate n.toNat big0) big0)) ?_ ?_
 · unfold rzero;exact Tm.step (mk1_ok (n:=n.toNat) (by have:=hR.2;omega) (by omega) (by decide)) (Tm.pure rfl)
 rintro _ rfl;dsimp only;refine Tm.bind (Tm.loop (fun s:List Big×Int=>∃k:Nat,s.2=k∧k≤c.Linear.Coefs.length∧IsL s.1 (vals c n k)) (fun s=>c.Linear.Coefs.length-s.2.toNat) (Q:=fun r=>IsL r (vals c n c.Linear.Coefs.length)) ⟨0,rfl,Nat.zero_le _,by simpa[vals]using IsL.rep⟩ ?_) ?_
 · rintro⟨cs,i⟩ ⟨k,rfl,hk,h⟩;dsimp only[rIOf_b1]at*;refine Tm.ite (fun h1=>?_) (fun h1=>Tm.pure ?_)
   · have hkl:k<c.Linear.Coefs.length:=by omega
     have hv:=hR.1 k hkl;have hx:=hc.coef _ (List.getElem_mem hkl);have hcl:=h.1;rw[vals_len]at hcl;refine Tm.step (idx_ok hkl) (Tm.step (idx_ok hkl) (Tm.bind (rOf_tm hx.1 hx.2) ?_));rintro m ⟨hm,-⟩;refine Tm.step (idx_i (n:=c.Linear.Coefs[k].Var.toNat) (by omega) (by omega)) (Tm.step (upd1_i (n:=c.Linear.Coefs[k].Var.toNat) (by omega) (by omega)) (Tm.pure ⟨⟨k+1,by have:=hc.len;dsimp only;rw[iw_eq]<;>omega,by omega,?_⟩,?_⟩))
     · rw[vals_succ hkl];exact h.set hm
     · show c.Linear.Coefs.length-(iw ((k:Int)+1)).toNat<c.Linear.Coefs.length-((k:Int)).toNat;have:=hc.len;rw[iw_eq]<;>omega
   · obtain rfl:k=c.Linear.Coefs.length:=by omega
     exact h
 · rintro cs hcs;refine Tm.bind (rOf_tm hc.const.1 hc.const.2) ?_;rintro k0 ⟨hk0,hk0l⟩;refine Tm.bind (rNeg_tm hk0.dg.inB (by omega)) ?_;rintro b ⟨hb,-⟩;rw[hk0.bv]at hb;refine Tm.ite (fun h1=>Tm.pure (.inr ⟨hR,_,⟨hcs,hb⟩,.inl ⟨by simpa using h1,rfl⟩⟩)) (fun h1=>?_);refine Tm.bind (rflip_tm (q:=⟨cs,b⟩) hcs (vals_I64 hc) hk0 hc.const (by show cs.length≤_;rw[hcs.1,vals_len];exact hn)) ?_;rintro q' hq';exact Tm.pure (.inr ⟨hR,_,⟨hcs,hb⟩,.inr ⟨by simpa using h1,q',hq',rfl⟩⟩)
open Go Go.X
theorem IsI.same{q:Ineq}{vs:List Int}{b:Int}(h:IsI q vs b)(hv:∀v∈vs,(v.natAbs:Int)<W32^2)(hb:(b.natAbs:Int)<W32^2)(hl:vs.length≤512):OkI 512 q:=by
 refine⟨by rw[h.1.1];exact hl,fun x hx=>?_,h.2.dg.inB,by have:=h.2.len hb;omega⟩;obtain⟨j,hj,rfl⟩:=List.mem_iff_getElem.1 hx;have:=h.1.2 j hj (by rw[←h.1.1];exact hj);exact⟨this.dg.inB,by have:=this.len (hv _ (List.getElem_mem _));omega⟩
theorem abs64{z:Int}(h:I64 z):(z.natAbs:Int)<W32^2:=by unfold I64 at h;have e:W32^2=18446744073709551616:=(by decide);omega
theorem abs64'{z:Int}(h:I64 z):((-z).natAbs:Int)<W32^2:=by unfold I64 at h;have e:W32^2=18446744073709551616:=(by decide);omega
theorem OfP.ok{c:Constraint}{n:Int}{r:List Ineq}(hc:OkC c)(h:OfP c n r):r.length≤2∧∀q∈r,OkI 512 q:=by
 rcases h with⟨_,rfl⟩|⟨hR,q,hq,h⟩
 · exact⟨by simp,fun q hq=>by cases hq⟩
 · have hn:(vals c n c.Linear.Coefs.length).length≤512:=by rw[vals_len];have:=hR.2;omega
   have h1:OkI 512 q:=hq.same (fun v hv=>abs64 (vals_I64 hc v hv)) (abs64' hc.const) hn;rcases h with⟨_,rfl⟩|⟨_,q',hq',rfl⟩
   · exact⟨by simp,fun p hp=>by simp at hp;exact hp▸h1⟩
   · have h2:OkI 512 q':=hq'.same (fun v hv=>by obtain⟨u,hu,rfl⟩:=List.mem_map.1 hv;exact abs64' (vals_I64 hc u hu)) (abs64 hc.const) (by simpa using hn);refine⟨by simp,fun p hp=>?_⟩;simp only[List.mem_cons,List.not_mem_nil,or_false]at hp;rcases hp with rfl|rfl
     · exact h1
     · exact h2
def SysL(n:Int):List Constraint→List Ineq→Prop
 |[],r=>r=[]
 |c::l,r=>∃a b,OfP c n a∧SysL n l b∧r=a++b
theorem SysL.uniq{n:Int}:∀{l:List Constraint} {r s:List Ineq},SysL n l r→SysL n l s→r=s
 |[],_,_,h,h'=>h.trans h'.symm
 |_::_,_,_,⟨a,b,h1,h2,h3⟩,⟨a',b',g1,g2,g3⟩=>by rw[h3,g3,h1.uniq g1,SysL.uniq h2 g2]
theorem SysL.snoc{n:Int}:∀{l:List Constraint} {c:Constraint} {r a:List Ineq},SysL n l r→OfP c n a→SysL n (l++[c]) (r++a)
 |[],_,_,a,h,h'=>⟨a,[],h',rfl,by rw[show _=[] from h];simp⟩
 |_::_,_,_,_,⟨x,y,h1,h2,h3⟩,h'=>⟨x,_,h1,h2.snoc h',by rw[h3];simp⟩
theorem SysL.ok{n:Int}:∀{l:List Constraint} {r:List Ineq},(∀c∈l,OkC c)→SysL n l r→r.length≤2*l.length∧∀q∈r,OkI 512 q
 |[],_,_,h=>by rw[show _=[] from h];exact⟨by simp,fun q hq=>by cases hq⟩
 |c::l,_,hc,⟨a,b,h1,h2,h3⟩=>by
  have e1:=h1.ok (hc c List.mem_cons_self);have e2:=h2.ok (fun c h=>hc c (List.mem_cons_of_mem _ h));subst h3;refine⟨by simp;omega,fun q hq=>?_⟩;rcases List.mem_append.1 hq with h|h
  · exact e1.2 q h
  · exact e2.2 q h
def SysP(l:List Constraint)(n:Int)(r:List Ineq):Prop:=((∀c∈l,RightP c n)∧SysL n l r)∨(¬(∀c∈l,RightP c n)∧r=[])
theorem SysP.uniq{l:List Constraint}{n:Int}{r s:List Ineq}(h:SysP l n r)(h':SysP l n s):r=s:=by
 rcases h with⟨h1,h2⟩|⟨h1,rfl⟩<;>rcases h' with⟨g1,g2⟩|⟨g1,rfl⟩
 · exact h2.uniq g2
 · exact absurd h1 g1
 · exact absurd g1 h1
 · rfl
theorem SysP.ok{l:List Constraint}{n:Int}{r:List Ineq}(hc:∀c∈l,OkC c)(h:SysP l n r):r.length≤2*l.length∧∀q∈r,OkI 512 q:=by
 rcases h with⟨_,h⟩|⟨_,rfl⟩
 · exact h.ok hc
 · exact⟨by simp,fun q hq=>by cases hq⟩
theorem cSystem_tm{l:List Constraint}{n:Int}(hc:∀c∈l,OkC c)(hl:l.length≤1000):Tm (fun N=>cSystem N l n) (SysP l n):=by
 unfold cSystem;refine Tm.bind (Tm.loop (fun s:List Ineq×Int=>∃k:Nat,s.2=k∧k≤l.length∧(∀c∈l.take k,RightP c n)∧SysL n (l.take k) s.1) (fun s=>l.length-s.2.toNat)
  (Q:=fun r=>SysP l n (match r with|.inl a=>a|.inr a=>a)) ⟨0,rfl,Nat.zero_le _,by simp,rfl⟩ ?_) (fun r h=>by cases r<;>exact Tm.pure h)
 rintro⟨out,i⟩ ⟨k,rfl,hk,hR,hS⟩;dsimp only[cSystem_b1]at*;refine Tm.ite (fun h1=>?_) (fun h1=>Tm.pure ?_)
 · have hkl:k<l.length:=by omega
   have hck:=hc _ (List.getElem_mem hkl);refine Tm.step (idx_ok hkl) (Tm.bind (cvalid_tm hck.len) ?_);intro r hr;refine Tm.ite (fun h=>Tm.pure (.inr ⟨fun e=>?_,rfl⟩)) (fun h=>Tm.bind (cOf_tm hck) ?_)
   · rw[hr.2 (e _ (List.getElem_mem hkl))]at h;cases h
   · intro a ha;have h2:=hS.ok (fun c h=>hc c (List.mem_of_mem_take h));have h3:=ha.ok hck;have h4:(l.take k).length≤1000:=by simp;omega
     refine Tm.step (apnd_ok (by omega) (by decide)) (Tm.pure ⟨⟨k+1,by dsimp only;rw[iw_eq]<;>omega,by omega,?_,?_⟩,?_⟩)
     · rw[List.take_succ_eq_append_getElem hkl];intro c hc';rcases List.mem_append.1 hc' with h'|h'
       · exact hR c h'
       · rw[List.mem_singleton.1 h'];exact hr.1 (by simpa using h)
     · rw[List.take_succ_eq_append_getElem hkl];exact hS.snoc ha
     · show l.length-(iw ((k:Int)+1)).toNat<l.length-((k:Int)).toNat;rw[iw_eq]<;>omega
 · rw[List.take_of_length_le (by omega)]at hR hS;exact .inl ⟨hR,hS⟩
theorem rSystem_tm{l:List Constraint}{n:Int}(hc:∀c∈l,OkC c)(hl:l.length≤1000):Tm (fun N=>rSystem N l n) (SysP l n):=by
 unfold rSystem;refine Tm.bind (Tm.loop (fun s:List Ineq×Int=>∃k:Nat,s.2=k∧k≤l.length∧(∀c∈l.take k,RightP c n)∧SysL n (l.take k) s.1) (fun s=>l.length-s.2.toNat)
  (Q:=fun r=>SysP l n (match r with|.inl a=>a|.inr a=>a)) ⟨0,rfl,Nat.zero_le _,by simp,rfl⟩ ?_) (fun r h=>by cases r<;>exact Tm.pure h)
 rintro⟨out,i⟩ ⟨k,rfl,hk,hR,hS⟩;dsimp only[rSystem_b1]at*;refine Tm.ite (fun h1=>?_) (fun h1=>Tm.pure ?_)
 · have hkl:k<l.length:=by omega
   have hck:=hc _ (List.getElem_mem hkl);refine Tm.step (idx_ok hkl) (Tm.bind (rRight_tm hck.len) ?_);intro r hr;refine Tm.ite (fun h=>Tm.pure (.inr ⟨fun e=>?_,rfl⟩)) (fun h=>Tm.step (idx_ok hkl) (Tm.bind (rIOf_tm hck) ?_))
   · rw[hr.2 (e _ (List.getElem_mem hkl))]at h;cases h
   · intro a ha;have h2:=hS.ok (fun c h=>hc c (List.mem_of_mem_take h));have h3:=ha.ok hck;have h4:(l.take k).length≤1000:=by simp;omega
     refine Tm.step (apnd_ok (by omega) (by decide)) (Tm.pure ⟨⟨k+1,by dsimp only;rw[iw_eq]<;>omega,by omega,?_,?_⟩,?_⟩)
     · rw[List.take_succ_eq_append_getElem hkl];intro c hc';rcases List.mem_append.1 hc' with h'|h'
       · exact hR c h'
       · rw[List.mem_singleton.1 h'];exact hr.1 (by simpa using h)
     · rw[List.take_succ_eq_append_getElem hkl];exact hS.snoc ha
     · show l.length-(iw ((k:Int)+1)).toNat<l.length-((k:Int)).toNat;rw[iw_eq]<;>omega
 · rw[List.take_of_length_le (by omega)]at hR hS;exact .inl ⟨hR,hS⟩
open Go Go.X
theorem IsL.getD{cs:List Big}{vs:List Int}(h:IsL cs vs)(n:Nat):bv (cs.getD n big0)=vs.getD n 0:=by
 rcases Nat.lt_or_ge n cs.length with hn|hn
 · rw[getDb hn,getD_ok (by rw[←h.1];exact hn)];exact(h.2 n hn _).bv
 · rw[getD_out (by rw[←h.1];exact hn),List.getD_eq_getElem?_getD,List.getElem?_eq_none hn];rfl
open Go Go.X
def vsOf(R:List RVal)(aux:List Int):List Int:=R.map RVal.Int++aux
def lin(cs:List Coef)(V:List Int):Int:=(cs.map fun x=>x.N*V.getD x.Var.toNat 0).sum
structure Bnds (R:List RVal)(l:List RVar)(bs aux:List Int):Prop where
 row:∀v∈R,v.Int.natAbs≤2147483648
 nn:∀b∈bs,0≤b
 len:R.length=l.length
 aux:∀k,k<aux.length→((aux.getD k 0).natAbs:Int)≤bs.getD k 0
variable {R:List RVal} {l:List RVar} {bs aux:List Int} {c:RClause} {f:Linear}
structure AxV (c:RClause)(R:List RVal)(l:List RVar)(bs aux:List Int):Prop where
 len:aux.length=c.Auxiliary.length
 at':∀i (hi:i<c.Auxiliary.length),(c.Auxiliary[i].By=0∧(∃v,R[c.Auxiliary[i].Text.toNat]?=some v∧v.Kind=2∧aux.getD i 0=(v.Text.length:Int)))∨(c.Auxiliary[i].By≠0∧aux.getD i 0=(c.Auxiliary[i].Of.Const+lin c.Auxiliary[i].Of.Coefs (vsOf R (aux.take i)))/c.Auxiliary[i].By)
 bnd:∀k,k<aux.length→((aux.getD k 0).natAbs:Int)≤bs.getD k 0
open Go Go.X
structure HoldOk (c:RClause)(R:List RVal)(a:List Int×Bool):Prop where
 nl:∀v∈c.Null,∀x,R[v.toNat]?=some x→x.Kind=0
 nn:∀v∈c.NotNull,∀x,R[v.toNat]?=some x→x.Kind≠0
 ax:a.2=true
 it:∀k∈c.Ints,k.Linear.Const+lin k.Linear.Coefs (vsOf R a.1)≤0∧(k.Equal=true→k.Linear.Const+lin k.Linear.Coefs (vsOf R a.1)=0)
 ts:∀t∈c.Tests,∃x,R[t.Var.toNat]?=some x∧mean t x.Text=true
 sm:∀e∈c.Same,∃x y,R[e.e0.toNat]?=some x∧R[e.e1.toNat]?=some y∧x.Text=y.Text
 df:∀e∈c.Different,∃x y,R[e.e0.toNat]?=some x∧R[e.e1.toNat]?=some y∧x.Text≠y.Text
variable {R:List RVal} {l:List RVar} {bs:List Int} {c:RClause}
open Go Go.X
def bnds(v low high:Int):List Constraint:=[Constraint.mk (Linear.mk low [Coef.mk v (-1)]) false,Constraint.mk (Linear.mk (iw (0-high)) [Coef.mk v 1]) false]
def nnOf(l:List RVar)(v:Int):List Constraint:=match l[v.toNat]?with
 |some x=>if x.Ty=1 then bnds v x.Low x.High else[]
 |none=>[]
def quo(q:Int)(f:Linear)(b:Int):List Constraint:=[Constraint.mk (Linear.mk (iw (0-f.Const)) ((f.Coefs.map fun x=>Coef.mk x.Var (iw (0-x.N)))++[Coef.mk q b])) false,Constraint.mk (Linear.mk (iw (f.Const-iw (b-1))) (f.Coefs++[Coef.mk q (iw (0-b))])) false]
def hiOf(l:List RVar)(rg:List Arr2Int)(v:Nat):Int:=match rg[v]?,l[v]?with
 |some r,some x=>imin r.e1 x.Max
 |_,_=>0
def axOf(l:List RVar)(rg:List Arr2Int)(i:Nat)(a:RAux):List Constraint:= if a.By=0 then bnds ((l.length+i:Nat):Int) (match rg[a.Text.toNat]?with|some r=>r.e0|none=>0) (hiOf l rg a.Text.toNat)else quo ((l.length+i:Nat):Int) a.Of a.By
def axAt(l:List RVar)(rg:List Arr2Int)(ax:List RAux)(i:Nat):List Constraint:=match ax[i]?with
 |some a=>axOf l rg i a
 |none=>[]
def intsOf(l:List RVar)(c:RClause)(rg:List Arr2Int):List Constraint:=c.NotNull.flatMap (nnOf l)++(List.range c.Auxiliary.length).flatMap (axAt l rg c.Auxiliary)++c.Ints
theorem len2{α β:Type}{f:α→List β}(h:∀x,(f x).length≤2):∀l:List α,(l.flatMap f).length≤2*l.length
 |[]=>Nat.zero_le _
 |x::l=>by
  have:=len2 h l;have:=h x;rw[List.flatMap_cons,List.length_append,List.length_cons];omega
theorem nnOf_len{l:List RVar}(v:Int):(nnOf l v).length≤2:=by
 unfold nnOf;split
 · split
   · exact Nat.le_refl _
   · exact Nat.zero_le _
 · exact Nat.zero_le _
theorem axAt_len{l:List RVar}{rg:List Arr2Int}{ax:List RAux}(i:Nat):(axAt l rg ax i).length≤2:=by
 unfold axAt;split
 · unfold axOf;split
   · exact Nat.le_refl _
   · exact Nat.le_refl _
 · exact Nat.zero_le _
section
variable {l:List RVar} {c:RClause} {rg:List Arr2Int}
structure RgOk (l:List RVar)(rg:List Arr2Int):Prop where
 len:rg.length=l.length
 bd:∀r∈rg,(0≤r.e0∧r.e0≤16)∧0≤r.e1∧r.e1≤16
theorem vhigh_tm(hr:RgOk l rg){k:Nat}(hk:k<l.length):Tm (fun N=>vhigh N l rg (k:Int)) (·=hiOf l rg k):=by
 unfold vhigh;have hk2:k<rg.length:=by rw[hr.len];exact hk
 refine Tm.step (idx_n hk2) (Tm.step (idx_n hk) (Tm.some ?_));unfold hiOf;rw[List.getElem?_eq_getElem hk,List.getElem?_eq_getElem hk2]
theorem whigh_tm(hr:RgOk l rg){k:Nat}(hk:k<l.length):Tm (fun N=>whigh N l rg (k:Int)) (·=hiOf l rg k):=by
 unfold whigh;have hk2:k<rg.length:=by rw[hr.len];exact hk
 refine Tm.step (idx_n hk2) (Tm.step (idx_n hk) ?_);have e:hiOf l rg k=imin rg[k].e1 l[k].Max:=by
  unfold hiOf;rw[List.getElem?_eq_getElem hk,List.getElem?_eq_getElem hk2]
 rw[e];by_cases g:rg[k].e1<l[k].Max
 · exact Tm.pos g (Tm.step (idx_n hk2) (Tm.some (by unfold imin;rw[if_neg (by omega)])))
 · refine Tm.neg g (Tm.step (idx_n hk) (Tm.some ?_));unfold imin;split<;>omega
theorem vInts_b1_tm(hc:AscOk c.NotNull l.length)(hl:l.length≤10):Tm (fun N=>loopM (vInts_b1 N c l) N (([]:List Constraint),0)) (·=c.NotNull.flatMap (nnOf l)):=by
 have hcl:=hc.len;refine Tm.up c.NotNull.length (fun k s=>s.2=(k:Int)∧s.1=(c.NotNull.take k).flatMap (nnOf l)) ⟨rfl,rfl⟩ ?_;rintro k hk ⟨s,i⟩ ⟨hi,hs⟩;dsimp only at hi hs;subst hi;unfold vInts_b1;dsimp only;rcases Nat.lt_or_ge k c.NotNull.length with hlt|hge
 · obtain⟨q,eq,hq⟩:=var_n (hc.bd _ (List.getElem_mem hlt));have hsl:s.length≤2*k:=by rw[hs];have:=len2 (nnOf_len (l:=l)) (c.NotNull.take k);rw[List.length_take]at this;omega
   have hst:(c.NotNull.take (k+1)).flatMap (nnOf l)=s++nnOf l (q:Int):=by
    rw[List.take_succ_eq_append_getElem hlt,List.flatMap_append,←hs,eq];simp
   have en:nnOf l (q:Int)=if l[q].Ty=1 then bnds (q:Int) l[q].Low l[q].High else[]:=by
    unfold nnOf;rw[Int.toNat_natCast,List.getElem?_eq_getElem hq]
   refine Tm.pos (by omega) (Tm.step (idx_n hlt) ?_);rw[eq];refine Tm.step (idx_n hq) ?_;by_cases g:l[q].Ty=1
   · refine Tm.pos g (Tm.step (idx_n hq) (Tm.step (idx_n hq) ?_));show Tm (fun N=>(apnd 40 s (bnds (q:Int) l[q].Low l[q].High)).bind _) _;rw[apnd_ok (by show(_+2)*40≤_;omega) (by decide)];refine Tm.some ⟨hlt,iw_n (by omega),?_⟩;rw[hst,en,if_pos g]
   · refine Tm.neg g (Tm.some ⟨hlt,iw_n (by omega),?_⟩);rw[hst,en,if_neg g,List.append_nil]
 · refine Tm.neg (by omega) (Tm.some ?_);show s=_;rw[hs,List.take_of_length_le hge]
theorem wInts_b1_tm(hc:AscOk c.NotNull l.length)(hl:l.length≤10):Tm (fun N=>loopM (wInts_b1 N c l) N (([]:List Constraint),0)) (·=c.NotNull.flatMap (nnOf l)):=by
 have hcl:=hc.len;refine Tm.up c.NotNull.length (fun k s=>s.2=(k:Int)∧s.1=(c.NotNull.take k).flatMap (nnOf l)) ⟨rfl,rfl⟩ ?_;rintro k hk ⟨s,i⟩ ⟨hi,hs⟩;dsimp only at hi hs;subst hi;unfold wInts_b1;dsimp only;rcases Nat.lt_or_ge k c.NotNull.length with hlt|hge
 · obtain⟨q,eq,hq⟩:=var_n (hc.bd _ (List.getElem_mem hlt));have hsl:s.length≤2*k:=by rw[hs];have:=len2 (nnOf_len (l:=l)) (c.NotNull.take k);rw[List.length_take]at this;omega
   have hst:(c.NotNull.take (k+1)).flatMap (nnOf l)=s++nnOf l (q:Int):=by
    rw[List.take_succ_eq_append_getElem hlt,List.flatMap_append,←hs,eq];simp
   have en:nnOf l (q:Int)=if l[q].Ty=1 then bnds (q:Int) l[q].Low l[q].High else[]:=by
    unfold nnOf;rw[Int.toNat_natCast,List.getElem?_eq_getElem hq]
   refine Tm.pos (by omega) (Tm.step (idx_n hlt) ?_);rw[eq];refine Tm.step (idx_n hq) ?_;by_cases g:l[q].Ty=1
   · refine Tm.pos g (Tm.step (idx_n hq) (Tm.step rfl (Tm.step (idx_n hq) (Tm.step rfl ?_))));rw[apnd_ok (by show(_+2)*40≤_;omega) (by decide)];refine Tm.some ⟨hlt,iw_n (by omega),?_⟩;rw[hst,en,if_pos g];rfl
   · refine Tm.neg g (Tm.some ⟨hlt,iw_n (by omega),?_⟩);rw[hst,en,if_neg g,List.append_nil]
 · refine Tm.neg (by omega) (Tm.some ?_);show s=_;rw[hs,List.take_of_length_le hge]
theorem vquotient_tm{q b:Int}{f:Linear}(hf:f.Coefs.length≤1000):Tm (fun N=>vquotient N q f b) (·=quo q f b):=by
 unfold vquotient;refine Tm.bind (Q:=fun r=>r=(f.Coefs.map fun x=>Coef.mk x.Var (iw (0-x.N)),f.Coefs)) ?_ fun r hr=>?_
 · refine Tm.up f.Coefs.length (fun k s=>s.2.2=(k:Int)∧s.1=((f.Coefs.take k).map fun x=>Coef.mk x.Var (iw (0-x.N)))∧s.2.1=f.Coefs.take k) ⟨rfl,rfl,rfl⟩ ?_;rintro k hk ⟨s,t,i⟩ ⟨hi,hs,ht⟩;dsimp only at hi hs ht;subst hi;subst hs;subst ht;unfold vquotient_b1;dsimp only;rcases Nat.lt_or_ge k f.Coefs.length with hlt|hge
   · refine Tm.pos (by omega) (Tm.step (idx_n hlt) ?_);rw[apnd_ok (by rw[List.length_map,List.length_take,List.length_singleton];omega) (by decide)];simp only[Option.bind_some];rw[apnd_ok (by rw[List.length_take,List.length_singleton];omega) (by decide)];refine Tm.some ⟨hlt,iw_n (by omega),?_,?_⟩
     · rw[List.take_succ_eq_append_getElem hlt,List.map_append];rfl
     · rw[List.take_succ_eq_append_getElem hlt]
   · refine Tm.neg (by omega) (Tm.some ?_);rw[List.take_of_length_le hge]
 · subst hr;dsimp only;rw[apnd_ok (by rw[List.length_map,List.length_singleton];omega) (by decide)];simp only[Option.bind_some];rw[apnd_ok (by rw[List.length_singleton];omega) (by decide)];exact Tm.some rfl
theorem wscaled_tm{n:Int}{f:Linear}{more:Coef}(hf:f.Coefs.length≤1000):Tm (fun N=>wscaled N f n more) (·=(f.Coefs.map fun x=>Coef.mk x.Var (iw (n*x.N)))++[more]):=by
 unfold wscaled;refine Tm.bind (Q:=fun r=>r=f.Coefs.map fun x=>Coef.mk x.Var (iw (n*x.N))) ?_ fun r hr=>?_
 · refine Tm.up f.Coefs.length (fun k s=>s.2=(k:Int)∧s.1=(f.Coefs.take k).map fun x=>Coef.mk x.Var (iw (n*x.N))) ⟨rfl,rfl⟩ ?_;rintro k hk ⟨s,i⟩ ⟨hi,hs⟩;dsimp only at hi hs;subst hi;subst hs;unfold wscaled_b1;dsimp only;rcases Nat.lt_or_ge k f.Coefs.length with hlt|hge
   · refine Tm.pos (by omega) (Tm.step (idx_n hlt) (Tm.step (idx_n hlt) ?_));rw[apnd_ok (by rw[List.length_map,List.length_take,List.length_singleton];omega) (by decide)];refine Tm.some ⟨hlt,iw_n (by omega),?_⟩;rw[List.take_succ_eq_append_getElem hlt,List.map_append];rfl
   · refine Tm.neg (by omega) (Tm.some ?_);show List.map _ _=_;rw[List.take_of_length_le hge]
 · subst hr;dsimp only;rw[apnd_ok (by rw[List.length_map,List.length_singleton];omega) (by decide)];exact Tm.some rfl
theorem axAt_at{i:Nat}(hi:i<c.Auxiliary.length):axAt l rg c.Auxiliary i=axOf l rg i c.Auxiliary[i]:=by
 unfold axAt;rw[List.getElem?_eq_getElem hi]
theorem range_flat{f:Nat→List Constraint}{k:Nat}:(List.range (k+1)).flatMap f=(List.range k).flatMap f++f k:=by
 rw[List.range_succ,List.flatMap_append];simp
theorem vInts_b2_tm(hv:ClOk c l)(hs:SmC c)(hr:RgOk l rg)(hl:l.length≤10){o:List Constraint}(ho:o.length≤1000):Tm (fun N=>loopM (vInts_b2 N c l rg) N (o,0)) (·=o++(List.range c.Auxiliary.length).flatMap (axAt l rg c.Auxiliary)):=by
 have hsx:=hs.ax;refine Tm.up c.Auxiliary.length (fun k s=>s.2=(k:Int)∧s.1=o++(List.range k).flatMap (axAt l rg c.Auxiliary)) ⟨rfl,by simp⟩ ?_;rintro k hk ⟨s,i⟩ ⟨hi,hs⟩;dsimp only at hi hs;subst hi;unfold vInts_b2;dsimp only;rcases Nat.lt_or_ge k c.Auxiliary.length with hlt|hge
 · have hsl:s.length≤1000+2*k:=by rw[hs,List.length_append];have:=len2 (axAt_len (l:=l) (rg:=rg) (ax:=c.Auxiliary)) (List.range k);rw[List.length_range]at this;omega
   have e1:iw ((l.length:Int)+(k:Int))=((l.length+k:Nat):Int):=by rw[iw_eq]<;>omega
   refine Tm.pos (by omega) (Tm.step (idx_n hlt) ?_);rw[range_flat,axAt_at hlt,←List.append_assoc,←hs,e1];rcases hv.ax k hlt with⟨g1,_,_,t,et,⟨x,ex,_⟩,_⟩|⟨g1,g2,_,hf⟩
   · have ht:t<l.length:=(List.getElem?_eq_some_iff.1 ex).1;have ht2:t<rg.length:=by rw[hr.len];exact ht
     refine Tm.pos g1 ?_;rw[et];refine Tm.step (idx_n ht2) ((vhigh_tm hr ht).eq ?_);show Tm (fun N=>(apnd 40 s (bnds ((l.length+k:Nat):Int) rg[t].e0 (hiOf l rg t))).bind _) _;rw[apnd_ok (by show(_+2)*40≤_;omega) (by decide)];refine Tm.some ⟨hlt,iw_n (by omega),?_⟩;unfold axOf;rw[if_pos g1,et,Int.toNat_natCast,List.getElem?_eq_getElem ht2]
   · have hfl:=hf.len;refine Tm.neg g1 ((vquotient_tm (by omega)).eq ?_);rw[apnd_ok (by show(_+2)*40≤_;omega) (by decide)];refine Tm.some ⟨hlt,iw_n (by omega),?_⟩;unfold axOf;rw[if_neg g1]
 · have:k=c.Auxiliary.length:=by omega
   subst this;exact Tm.neg (by omega) (Tm.some hs)
theorem wInts_b2_tm(hv:ClOk c l)(hs:SmC c)(hr:RgOk l rg)(hl:l.length≤10){o:List Constraint}(ho:o.length≤1000):Tm (fun N=>loopM (wInts_b2 N c l rg) N (o,0)) (·=o++(List.range c.Auxiliary.length).flatMap (axAt l rg c.Auxiliary)):=by
 have hsx:=hs.ax;refine Tm.up c.Auxiliary.length (fun k s=>s.2=(k:Int)∧s.1=o++(List.range k).flatMap (axAt l rg c.Auxiliary)) ⟨rfl,by simp⟩ ?_;rintro k hk ⟨s,i⟩ ⟨hi,hs⟩;dsimp only at hi hs;subst hi;unfold wInts_b2;dsimp only;rcases Nat.lt_or_ge k c.Auxiliary.length with hlt|hge
 · have hsl:s.length≤1000+2*k:=by rw[hs,List.length_append];have:=len2 (axAt_len (l:=l) (rg:=rg) (ax:=c.Auxiliary)) (List.range k);rw[List.length_range]at this;omega
   have e1:iw ((l.length:Int)+(k:Int))=((l.length+k:Nat):Int):=by rw[iw_eq]<;>omega
   refine Tm.pos (by omega) (Tm.step (idx_n hlt) ?_);rw[range_flat,axAt_at hlt,←List.append_assoc,←hs,e1];rcases hv.ax k hlt with⟨g1,_,_,t,et,⟨x,ex,_⟩,_⟩|⟨g1,g2,_,hf⟩
   · have ht:t<l.length:=(List.getElem?_eq_some_iff.1 ex).1;have ht2:t<rg.length:=by rw[hr.len];exact ht
     refine Tm.pos g1 ?_;rw[et];refine Tm.step (idx_n ht2) (Tm.step rfl ((whigh_tm hr ht).eq (Tm.step rfl ?_)));rw[apnd_ok (by show(_+2)*40≤_;omega) (by decide)];refine Tm.some ⟨hlt,iw_n (by omega),?_⟩;unfold axOf;rw[if_pos g1,et,Int.toNat_natCast,List.getElem?_eq_getElem ht2];rfl
   · have hfl:=hf.len;have hcst:=hf.cst;refine Tm.neg g1 ((wscaled_tm (by omega)).eq ?_);rw[apnd_ok (by rw[List.length_singleton];omega) (by decide)];simp only[Option.bind_some];refine(wscaled_tm (by omega)).eq ?_;rw[apnd_ok (by rw[List.length_append,List.length_singleton,List.length_singleton];omega) (by decide)];refine Tm.some ⟨hlt,iw_n (by omega),?_⟩;unfold axOf;rw[if_neg g1,List.append_assoc];have m1:(c.Auxiliary[k].Of.Coefs.map fun x=>Coef.mk x.Var (iw (-1*x.N)))=c.Auxiliary[k].Of.Coefs.map fun x=>Coef.mk x.Var (iw (0-x.N)):=List.map_congr_left fun x _=>by rw[show-1*x.N=0-x.N by omega]
     have m2:(c.Auxiliary[k].Of.Coefs.map fun x=>Coef.mk x.Var (iw (1*x.N)))=c.Auxiliary[k].Of.Coefs:=by
      have:∀x∈c.Auxiliary[k].Of.Coefs,(fun x=>Coef.mk x.Var (iw (1*x.N))) x=id x:=fun x hx=>by
       have:=(hf.cf x hx).2.2;dsimp only;rw[show 1*x.N=x.N by omega,iw_eq (by omega) (by omega)];rfl
      rw[List.map_congr_left this,List.map_id]
     have m3:iw (iw (c.Auxiliary[k].Of.Const-c.Auxiliary[k].By)+1)=iw (c.Auxiliary[k].Of.Const-iw (c.Auxiliary[k].By-1)):=by
      rw[iw_eq (z:=c.Auxiliary[k].Of.Const-c.Auxiliary[k].By) (by omega) (by omega),iw_eq (z:=c.Auxiliary[k].By-1) (by omega) (by omega)];congr 1;omega
     dsimp only;rw[m1,m2,m3];rfl
 · have:k=c.Auxiliary.length:=by omega
   subst this;exact Tm.neg (by omega) (Tm.some hs)
theorem vInts_tm(hv:ClOk c l)(hs:SmC c)(hr:RgOk l rg)(hl:l.length≤10):Tm (fun N=>vInts N l c rg) (·=(((l.length+c.Auxiliary.length:Nat):Int),intsOf l c rg)):=by
 have h1:=hs.ax;have h2:=hs.it;have hnl:=hv.nn.len;have hn2:=len2 (nnOf_len (l:=l)) c.NotNull;unfold vInts;refine(vInts_b1_tm hv.nn hl).eq ((vInts_b2_tm hv hs hr hl (by omega)).eq ?_);have ha2:=len2 (axAt_len (l:=l) (rg:=rg) (ax:=c.Auxiliary)) (List.range c.Auxiliary.length);rw[List.length_range]at ha2;refine Tm.bind (Q:=fun r=>r=intsOf l c rg) ?_ fun r hr'=>Tm.some (by rw[hr'];rw[iw_eq]<;>first|rfl|omega);refine Tm.up c.Ints.length (fun k s=>s.2=(k:Int)∧s.1=c.NotNull.flatMap (nnOf l)++(List.range c.Auxiliary.length).flatMap (axAt l rg c.Auxiliary)++c.Ints.take k) ⟨rfl,by simp⟩ ?_;rintro k hk ⟨s,i⟩ ⟨hi,hs'⟩;dsimp only at hi hs';subst hi;subst hs';unfold vInts_b3;dsimp only;rcases Nat.lt_or_ge k c.Ints.length with hlt|hge
 · have hf:=hv.it _ (List.getElem_mem hlt);have hfl:=hf.len;refine Tm.pos (by omega) (Tm.step (idx_n hlt) ?_);have hcl:Tm (fun N=>cloneCoef N c.Ints[k].Linear.Coefs) (·=c.Ints[k].Linear.Coefs):=by
    unfold cloneCoef;rw[apnd_ok (by simp only[List.length_nil];omega) (by decide)];exact Tm.some rfl
   refine hcl.eq ?_;rw[apnd_ok (by rw[List.length_append,List.length_append,List.length_take,List.length_singleton];omega) (by decide)];refine Tm.some ⟨hlt,iw_n (by omega),?_⟩;rw[List.take_succ_eq_append_getElem hlt,←List.append_assoc]
 · refine Tm.neg (by omega) (Tm.some ?_);show _=_;rw[List.take_of_length_le hge];rfl
theorem wInts_tm(hv:ClOk c l)(hs:SmC c)(hr:RgOk l rg)(hl:l.length≤10):Tm (fun N=>wInts N l c rg) (·=intsOf l c rg):=by
 have h1:=hs.ax;have h2:=hs.it;have hnl:=hv.nn.len;have hn2:=len2 (nnOf_len (l:=l)) c.NotNull;unfold wInts;refine(wInts_b1_tm hv.nn hl).eq ((wInts_b2_tm hv hs hr hl (by omega)).eq ?_);have ha2:=len2 (axAt_len (l:=l) (rg:=rg) (ax:=c.Auxiliary)) (List.range c.Auxiliary.length);rw[List.length_range]at ha2;dsimp only;rw[apnd_ok (by rw[List.length_append];omega) (by decide)];exact Tm.some rfl
theorem intsOf_len(hv:ClOk c l)(hs:SmC c)(hl:l.length≤10):(intsOf l c rg).length≤1000:=by
 have h1:=hs.ax;have h2:=hs.it;have hnl:=hv.nn.len;have hn2:=len2 (nnOf_len (l:=l)) c.NotNull;have ha2:=len2 (axAt_len (l:=l) (rg:=rg) (ax:=c.Auxiliary)) (List.range c.Auxiliary.length);rw[List.length_range]at ha2;unfold intsOf;rw[List.length_append,List.length_append];omega
end
open Go Go.X
def isT(l:List RVar)(v:Int):Bool:=match l[v.toNat]?with
 |some x=>decide (x.Ty=2)
 |none=>false
def e0Of(rg:List Arr2Int)(v:Int):Int:=match rg[v.toNat]?with
 |some r=>r.e0
 |none=>0
def pos(vs:List Int)(v:Int):Int:=((vs.idxOf v:Nat):Int)
def tvs(l:List RVar)(c:RClause):List Int:=c.NotNull.filter (isT l)
def txtsOf(l:List RVar)(c:RClause)(rg:List Arr2Int):TProb:= TProb.mk ((tvs l c).map (e0Of rg)) ((tvs l c).map fun v=>hiOf l rg v.toNat) (c.Tests.map fun t=>TTest.mk (pos (tvs l c) t.Var) t.Kind t.Negated t.Text) (c.Same.map fun e=>Arr2Int.mk (pos (tvs l c) e.e0) (pos (tvs l c) e.e1)) (c.Different.map fun e=>Arr2Int.mk (pos (tvs l c) e.e0) (pos (tvs l c) e.e1))
theorem mget_mput1{K V:Type}[DecidableEq K]{m:List (K×V)}{k k':K}{v z:V}:(mget (mput m k v) k' z).1=if k'=k then v else(mget m k' z).1:=by
 induction m with
 |nil=>
  simp only[mput,mget];by_cases h:k=k'
  · rw[if_pos h,if_pos h.symm]
  · rw[if_neg h,if_neg (fun e=>h e.symm)]
 |cons p m ih=>
  simp only[mput];by_cases h:p.1=k
  · rw[if_pos h];simp only[mget];by_cases h2:k=k'
    · rw[if_pos h2,if_pos h2.symm]
    · rw[if_neg h2,if_neg (fun e=>h2 e.symm),if_neg (by rw[h];exact h2)]
  · rw[if_neg h];simp only[mget];by_cases h2:p.1=k'
    · rw[if_pos h2,if_neg (by rw[←h2];exact h),if_pos h2]
    · rw[if_neg h2,if_neg h2];exact ih
section
variable {l:List RVar} {c:RClause} {rg:List Arr2Int}
theorem asc_nodup{l:List Int}{n:Nat}(h:AscOk l n):l.Nodup:=by
 rw[List.Nodup,List.pairwise_iff_getElem];intro i j hi hj hij;have:=h.asc i j hi hj hij;omega
theorem tvs_nodup(h:AscOk c.NotNull l.length):(tvs l c).Nodup:=(asc_nodup h).sublist List.filter_sublist
theorem tvs_len:(tvs l c).length≤c.NotNull.length:=List.length_filter_le _ _
theorem txt_mem{v:Int}(h:TxtOk c l v):v∈tvs l c:=by
 obtain⟨k,rfl,⟨x,ex,hx⟩,hm⟩:=h;refine List.mem_filter.2 ⟨hm,?_⟩;unfold isT;rw[Int.toNat_natCast,ex];exact decide_eq_true hx
def MOk(m:List (Int×Int))(vs:List Int):Prop:=∀i (h:i<vs.length),(mget m vs[i] 0).1=(i:Int)
theorem MOk.pos{m:List (Int×Int)}{vs:List Int}(h:MOk m vs)(hn:vs.Nodup){v:Int}(hv:v∈vs):(mget m v 0).1=Go.D.pos vs v:=by
 obtain⟨i,hi,rfl⟩:=List.getElem_of_mem hv;rw[h i hi];unfold Go.D.pos;rw[List.Nodup.idxOf_getElem hn i hi]
theorem take_asc(h:AscOk c.NotNull l.length){k:Nat}(hk:k<c.NotNull.length):c.NotNull[k]∉c.NotNull.take k:=by
 intro hm;obtain⟨j,hj,e⟩:=List.getElem_of_mem hm;rw[List.length_take]at hj;rw[List.getElem_take]at e;have:=h.asc j k (by omega) hk (by omega);omega
theorem vTexts_b1_tm(h:AscOk c.NotNull l.length)(hr:RgOk l rg)(hl:l.length≤10):Tm (fun N=>loopM (vTexts_b1 N c l rg) N (([]:List Int),([]:List Int),([]:List Int),([]:List (Int×Int)),0)) (fun r=>r.1=(tvs l c).map (e0Of rg)∧r.2.1=((tvs l c).map fun v=>hiOf l rg v.toNat)∧r.2.2.1=tvs l c∧MOk r.2.2.2 (tvs l c)):=by
 have hcl:=h.len;refine Tm.up c.NotNull.length (fun k s=>s.2.2.2.2=(k:Int)∧s.1=((c.NotNull.take k).filter (isT l)).map (e0Of rg)∧s.2.1=(((c.NotNull.take k).filter (isT l)).map fun v=>hiOf l rg v.toNat)∧s.2.2.1=(c.NotNull.take k).filter (isT l)∧MOk s.2.2.2.1 ((c.NotNull.take k).filter (isT l))) ⟨rfl,rfl,rfl,rfl,fun i hi=>by simp at hi⟩ ?_;rintro k hk ⟨a,b,vs,m,i⟩ ⟨hi,h1,h2,h3,h4⟩;dsimp only at hi h1 h2 h3 h4;subst hi;unfold vTexts_b1;dsimp only;rcases Nat.lt_or_ge k c.NotNull.length with hlt|hge
 · obtain⟨q,eq,hq⟩:=var_n (h.bd _ (List.getElem_mem hlt));have hq2:q<rg.length:=by rw[hr.len];exact hq
   have hta:=take_asc h hlt;have hfl:((c.NotNull.take k).filter (isT l)).length≤k:=by
    have:=List.length_filter_le (isT l) (c.NotNull.take k);rw[List.length_take]at this;omega
   refine Tm.pos (by omega) (Tm.step (idx_n hlt) ?_);rw[eq];refine Tm.step (idx_n hq) ?_;rw[List.take_succ_eq_append_getElem hlt,List.filter_append];rw[eq]at hta⊢;have eT:isT l (q:Int)=decide (l[q].Ty=2):=by unfold isT;rw[Int.toNat_natCast,List.getElem?_eq_getElem hq]
   by_cases g:l[q].Ty=2
   · refine Tm.pos g ?_;rw[List.filter_cons_of_pos (by rw[eT];exact decide_eq_true g),List.filter_nil];rw[h1,h2,h3]at*;rw[apnd_ok (by rw[List.length_singleton];omega) (by decide)];simp only[Option.bind_some];refine Tm.step (idx_n hq2) ?_;rw[apnd_ok (by rw[List.length_map,List.length_singleton];omega) (by decide)];simp only[Option.bind_some];refine(vhigh_tm hr hq).eq ?_;rw[apnd_ok (by rw[List.length_map,List.length_singleton];omega) (by decide)];refine Tm.some ⟨hlt,iw_n (by omega),?_,?_,rfl,fun i hi=>?_⟩
     · dsimp only;rw[List.map_append];congr 1;unfold e0Of;simp[List.getElem?_eq_getElem hq2]
     · dsimp only;rw[List.map_append];rfl
     · dsimp only;rw[mget_mput1];rw[List.length_append,List.length_singleton]at hi;by_cases hlast:i=((c.NotNull.take k).filter (isT l)).length
       · subst hlast;rw[List.getElem_append_right (Nat.le_refl _)];simp
       · have hi2:i<((c.NotNull.take k).filter (isT l)).length:=by omega
         rw[List.getElem_append_left hi2,if_neg]
         · exact h4 i hi2
         · intro e;apply hta;rw[←e];exact(List.mem_filter.1 (List.getElem_mem hi2)).1
   · refine Tm.neg g ?_;rw[List.filter_cons_of_neg (by rw[eT];simp[g]),List.filter_nil,List.append_nil];exact Tm.some ⟨hlt,iw_n (by omega),h1,h2,h3,h4⟩
 · rw[List.take_of_length_le hge]at h1 h2 h3 h4;exact Tm.neg (by omega) (Tm.some ⟨h1,h2,h3,h4⟩)
theorem wTexts_b1_tm(h:AscOk c.NotNull l.length)(hr:RgOk l rg)(hl:l.length≤10):Tm (fun N=>loopM (wTexts_b1 N c l rg) N (([]:List Int),([]:List Int),([]:List Int),0)) (·=((tvs l c).map (e0Of rg),((tvs l c).map fun v=>hiOf l rg v.toNat),tvs l c)):=by
 have hcl:=h.len;refine Tm.up c.NotNull.length (fun k s=>s.2.2.2=(k:Int)∧s.1=((c.NotNull.take k).filter (isT l)).map (e0Of rg)∧s.2.1=(((c.NotNull.take k).filter (isT l)).map fun v=>hiOf l rg v.toNat)∧s.2.2.1=(c.NotNull.take k).filter (isT l)) ⟨rfl,rfl,rfl,rfl⟩ ?_;rintro k hk ⟨a,b,vs,i⟩ ⟨hi,h1,h2,h3⟩;dsimp only at hi h1 h2 h3;subst hi;unfold wTexts_b1;dsimp only;rcases Nat.lt_or_ge k c.NotNull.length with hlt|hge
 · obtain⟨q,eq,hq⟩:=var_n (h.bd _ (List.getElem_mem hlt));have hq2:q<rg.length:=by rw[hr.len];exact hq
   have hfl:((c.NotNull.take k).filter (isT l)).length≤k:=by
    have:=List.length_filter_le (isT l) (c.NotNull.take k);rw[List.length_take]at this;omega
   refine Tm.pos (by omega) (Tm.step (idx_n hlt) ?_);rw[eq];refine Tm.step (idx_n hq) ?_;rw[List.take_succ_eq_append_getElem hlt,List.filter_append];rw[eq];have eT:isT l (q:Int)=decide (l[q].Ty=2):=by unfold isT;rw[Int.toNat_natCast,List.getElem?_eq_getElem hq]
   by_cases g:l[q].Ty=2
   · refine Tm.pos g ?_;rw[List.filter_cons_of_pos (by rw[eT];exact decide_eq_true g),List.filter_nil];rw[h1,h2,h3]at*;rw[apnd_ok (by rw[List.length_singleton];omega) (by decide)];simp only[Option.bind_some];refine Tm.step (idx_n hq2) ?_;rw[apnd_ok (by rw[List.length_map,List.length_singleton];omega) (by decide)];simp only[Option.bind_some];refine(whigh_tm hr hq).eq ?_;rw[apnd_ok (by rw[List.length_map,List.length_singleton];omega) (by decide)];refine Tm.some ⟨hlt,iw_n (by omega),?_,?_,rfl⟩
     · dsimp only;rw[List.map_append];congr 1;unfold e0Of;simp[List.getElem?_eq_getElem hq2]
     · dsimp only;rw[List.map_append];rfl
   · refine Tm.neg g ?_;rw[List.filter_cons_of_neg (by rw[eT];simp[g]),List.filter_nil,List.append_nil];exact Tm.some ⟨hlt,iw_n (by omega),h1,h2,h3⟩
 · rw[List.take_of_length_le hge]at h1 h2 h3;refine Tm.neg (by omega) (Tm.some ?_);rw[h1,h2,h3];rfl
theorem wplace_tm{vs:List Int}(hn:vs.Nodup)(hl:vs.length≤1000){v:Int}(hv:v∈vs):Tm (fun N=>wplace N vs v) (·=pos vs v):=by
 obtain⟨i,hi,rfl⟩:=List.getElem_of_mem hv;unfold wplace;refine(Tm.findL (b:=fun N=>wplace_b1 N vs vs[i]) vs (fun y=>decide (y=vs[i])) (fun k=>(k:Int)) (by omega) (fun k hk=>?_) ?_).bind fun o ho=>?_
 · unfold wplace_b1;refine Tm.pos (by omega) (Tm.step (idx_n hk) ?_);by_cases e:vs[k]=vs[i]
   · rw[decide_eq_true e];exact Tm.pos e (Tm.some rfl)
   · rw[decide_eq_false e];exact Tm.neg e (Tm.some rfl)
 · unfold wplace_b1;exact Tm.neg (by omega) (Tm.some rfl)
 · rcases ho with⟨h1,rfl⟩|⟨k,hk,h1,_,rfl⟩
   · exfalso;have:=List.any_eq_false.1 h1 vs[i] (List.getElem_mem hi);simp at this
   · refine Tm.some ?_;have e:=of_decide_eq_true h1;unfold pos;rw[←e,List.Nodup.idxOf_getElem hn k hk]
theorem vTexts_tm(hv:ClOk c l)(hs:SmC c)(hr:RgOk l rg)(hl:l.length≤10):Tm (fun N=>vTexts N l c rg) (·=(txtsOf l c rg,tvs l c)):=by
 have h1:=hs.ts;have h2:=hs.sm;have h3:=hs.df;have hn:=tvs_nodup hv.nn;unfold vTexts;refine(vTexts_b1_tm hv.nn hr hl).bind fun r hr'=>?_;obtain⟨a,b,vs,m⟩:=r;obtain⟨e1,e2,e3,hm⟩:=hr';dsimp only at e1 e2 e3 hm;subst e1;subst e2;subst e3;dsimp only;refine Tm.bind (Q:=fun r=>r=c.Tests.map fun t=>TTest.mk (pos (tvs l c) t.Var) t.Kind t.Negated t.Text) ?_ fun r hr1=>?_
 · refine Tm.up c.Tests.length (fun k s=>s.2=(k:Int)∧s.1=(c.Tests.take k).map fun t=>TTest.mk (pos (tvs l c) t.Var) t.Kind t.Negated t.Text) ⟨rfl,rfl⟩ ?_;rintro k hk ⟨s,i⟩ ⟨hi,hs⟩;dsimp only at hi hs;subst hi;subst hs;unfold vTexts_b2
   try dsimp only
   rcases Nat.lt_or_ge k c.Tests.length with hlt|hge
   · refine Tm.pos (by omega) (Tm.step (idx_n hlt) ?_);rw[apnd_ok (by rw[List.length_map,List.length_take,List.length_singleton];omega) (by decide)];refine Tm.some ⟨hlt,iw_n (by omega),?_⟩;rw[List.take_succ_eq_append_getElem hlt,List.map_append,hm.pos hn (txt_mem (hv.ts _ (List.getElem_mem hlt)).2)];rfl
   · refine Tm.neg (by omega) (Tm.some ?_);show List.map _ _=_;rw[List.take_of_length_le hge]
 · subst hr1
   try dsimp only
   refine Tm.bind (Q:=fun r=>r=c.Same.map fun e=>Arr2Int.mk (pos (tvs l c) e.e0) (pos (tvs l c) e.e1)) ?_ fun r hr1=>?_
   · refine Tm.up c.Same.length (fun k s=>s.2=(k:Int)∧s.1=(c.Same.take k).map fun e=>Arr2Int.mk (pos (tvs l c) e.e0) (pos (tvs l c) e.e1)) ⟨rfl,rfl⟩ ?_;rintro k hk ⟨s,i⟩ ⟨hi,hs⟩;dsimp only at hi hs;subst hi;subst hs;unfold vTexts_b3
     try dsimp only
     rcases Nat.lt_or_ge k c.Same.length with hlt|hge
     · have hsm:=hv.sm _ (List.getElem_mem hlt);refine Tm.pos (by omega) (Tm.step (idx_n hlt) ?_);rw[apnd_ok (by rw[List.length_map,List.length_take,List.length_singleton];omega) (by decide)];refine Tm.some ⟨hlt,iw_n (by omega),?_⟩;rw[List.take_succ_eq_append_getElem hlt,List.map_append,hm.pos hn (txt_mem hsm.1),hm.pos hn (txt_mem hsm.2.1)];rfl
     · refine Tm.neg (by omega) (Tm.some ?_);show List.map _ _=_;rw[List.take_of_length_le hge]
   · subst hr1
     try dsimp only
     refine Tm.bind (Q:=fun r=>r=c.Different.map fun e=>Arr2Int.mk (pos (tvs l c) e.e0) (pos (tvs l c) e.e1)) ?_ fun r hr1=>?_
     · refine Tm.up c.Different.length (fun k s=>s.2=(k:Int)∧s.1=(c.Different.take k).map fun e=>Arr2Int.mk (pos (tvs l c) e.e0) (pos (tvs l c) e.e1)) ⟨rfl,rfl⟩ ?_;rintro k hk ⟨s,i⟩ ⟨hi,hs⟩;dsimp only at hi hs;subst hi;subst hs;unfold vTexts_b4;dsimp only;rcases Nat.lt_or_ge k c.Different.length with hlt|hge
       · have hsm:=hv.df _ (List.getElem_mem hlt);refine Tm.pos (by omega) (Tm.step (idx_n hlt) ?_);rw[apnd_ok (by rw[List.length_map,List.length_take,List.length_singleton];omega) (by decide)];refine Tm.some ⟨hlt,iw_n (by omega),?_⟩;rw[List.take_succ_eq_append_getElem hlt,List.map_append,hm.pos hn (txt_mem hsm.1),hm.pos hn (txt_mem hsm.2.1)];rfl
       · refine Tm.neg (by omega) (Tm.some ?_);show List.map _ _=_;rw[List.take_of_length_le hge]
     · subst hr1;exact Tm.some rfl
theorem wpairs_tm{p:List Arr2Int}{vs:List Int}(hn:vs.Nodup)(hl:vs.length≤1000)(hp:p.length≤1000)(hm:∀e∈p,e.e0∈vs∧e.e1∈vs):Tm (fun N=>wpairs N p vs) (·=p.map fun e=>Arr2Int.mk (pos vs e.e0) (pos vs e.e1)):=by
 unfold wpairs;refine Tm.bind (Q:=fun r=>r=p.map fun e=>Arr2Int.mk (pos vs e.e0) (pos vs e.e1)) ?_ fun r hr=>Tm.some hr;refine Tm.up p.length (fun k s=>s.2=(k:Int)∧s.1=(p.take k).map fun e=>Arr2Int.mk (pos vs e.e0) (pos vs e.e1)) ⟨rfl,rfl⟩ ?_;rintro k hk ⟨s,i⟩ ⟨hi,hs⟩;dsimp only at hi hs;subst hi;subst hs;unfold wpairs_b1;dsimp only;rcases Nat.lt_or_ge k p.length with hlt|hge
 · have hsm:=hm _ (List.getElem_mem hlt);refine Tm.pos (by omega) (Tm.step (idx_n hlt) ((wplace_tm hn hl hsm.1).eq (Tm.step (idx_n hlt) ((wplace_tm hn hl hsm.2).eq ?_))));rw[apnd_ok (by rw[List.length_map,List.length_take,List.length_singleton];omega) (by decide)];refine Tm.some ⟨hlt,iw_n (by omega),?_⟩;rw[List.take_succ_eq_append_getElem hlt,List.map_append];rfl
 · refine Tm.neg (by omega) (Tm.some ?_);show List.map _ _=_;rw[List.take_of_length_le hge]
theorem wTexts_tm(hv:ClOk c l)(hs:SmC c)(hr:RgOk l rg)(hl:l.length≤10):Tm (fun N=>wTexts N l c rg) (·=(txtsOf l c rg,tvs l c)):=by
 have h1:=hs.ts;have h2:=hs.sm;have h3:=hs.df;have hn:=tvs_nodup hv.nn;have htl:=tvs_len (l:=l) (c:=c);have hnl:=hv.nn.len;unfold wTexts;refine(wTexts_b1_tm hv.nn hr hl).eq ?_;dsimp only;refine Tm.bind (Q:=fun r=>r=c.Tests.map fun t=>TTest.mk (pos (tvs l c) t.Var) t.Kind t.Negated t.Text) ?_ fun r hr1=>?_
 · refine Tm.up c.Tests.length (fun k s=>s.2=(k:Int)∧s.1=(c.Tests.take k).map fun t=>TTest.mk (pos (tvs l c) t.Var) t.Kind t.Negated t.Text) ⟨rfl,rfl⟩ ?_;rintro k hk ⟨s,i⟩ ⟨hi,hs⟩;dsimp only at hi hs;subst hi;subst hs;unfold wTexts_b2
   try dsimp only
   rcases Nat.lt_or_ge k c.Tests.length with hlt|hge
   · refine Tm.pos (by omega) (Tm.step (idx_n hlt) ((wplace_tm hn (by omega) (txt_mem (hv.ts _ (List.getElem_mem hlt)).2)).eq ?_));rw[apnd_ok (by rw[List.length_map,List.length_take,List.length_singleton];omega) (by decide)];refine Tm.some ⟨hlt,iw_n (by omega),?_⟩;rw[List.take_succ_eq_append_getElem hlt,List.map_append];rfl
   · refine Tm.neg (by omega) (Tm.some ?_);show List.map _ _=_;rw[List.take_of_length_le hge]
 · subst hr1
   try dsimp only
   refine(wpairs_tm hn (by omega) (by omega) fun e he=>?_).eq ((wpairs_tm hn (by omega) (by omega) fun e he=>?_).eq (Tm.some rfl))
   · have:=hv.sm e he;exact⟨txt_mem this.1,txt_mem this.2.1⟩
   · have:=hv.df e he;exact⟨txt_mem this.1,txt_mem this.2.1⟩
end
end Go.D
set_option maxRecDepth 100000
namespace Go.D
open Go Go.X
theorem awake_at(N:Nat):awake (N+100)=some true:=by kernel_rfl
theorem awake_tm:Tm (fun N=>awake N) (fun r=>r=true):=⟨true,100,rfl,fun N hN=>by rw[show N=(N-100)+100 by omega];exact awake_at _⟩
open Go Go.X
theorem awake_end{Q:Bool→Prop}(h:Q true):Tm (fun N=>(awake N).bind fun r=>some r) Q:=
 awake_tm.bind fun r hr=>by subst hr;exact Tm.some h
theorem wRight_tm{l:List RVar}{rg:List Arr2Int}(h:rg.length≤Bg):Tm (fun N=>wRight N l rg) (fun r=>r=true→RgOk l rg):=by
 have hb:Bg=9223372036854775807:=rfl;unfold wRight;by_cases h0:rg.length=l.length
 · refine Tm.neg (by simp[h0]) ?_;refine Tm.bind (Q:=fun o=>match o with|.inl _=>∀r∈rg,(0≤r.e0∧r.e0≤16)∧0≤r.e1∧r.e1≤16|.inr z=>z=false) ?_ fun o ho=>?_
   · refine Tm.up rg.length (fun k s=>s=(k:Int)∧∀j (hj:j<rg.length),j<k→(0≤rg[j].e0∧rg[j].e0≤16)∧0≤rg[j].e1∧rg[j].e1≤16) ⟨rfl,fun j _ hj=>by omega⟩ ?_;rintro k hk i ⟨rfl,hJ⟩;unfold wRight_b1;rcases Nat.lt_or_ge k rg.length with hlt|hge
     · refine Tm.pos (by omega) ?_;simp only[idx_n hlt,Option.bind_some];refine Tm.bind (Q:=fun b=>b=false→(0≤rg[k].e0∧rg[k].e0≤16)∧0≤rg[k].e1∧rg[k].e1≤16) ?_ fun b hb'=>?_
       · by_cases g1:rg[k].e0<0
         · exact Tm.pos g1 (Tm.some fun e=>by simp at e)
         · refine Tm.neg g1 ?_;by_cases g2:rg[k].e0>16
           · exact Tm.pos g2 (Tm.some fun e=>by simp at e)
           · refine Tm.neg g2 ?_;by_cases g3:rg[k].e1<0
             · exact Tm.pos g3 (Tm.some fun e=>by simp at e)
             · refine Tm.neg g3 (Tm.some fun e=>?_);have e:=of_decide_eq_false e;omega
       · cases b with
         |true=>exact Tm.pos rfl (Tm.some rfl)
         |false=>
          refine Tm.neg (by simp) (Tm.some ⟨hlt,iw_n (by omega),fun j hj hjk=>?_⟩);by_cases ejk:j=k
          · subst ejk;exact hb' rfl
          · exact hJ j hj (by omega)
     · refine Tm.neg (by omega) (Tm.some fun x hx=>?_);obtain⟨j,hj,rfl⟩:=List.getElem_of_mem hx;exact hJ j hj (by omega)
   · cases o with
     |inl _=>exact Tm.some fun _=>⟨h0,ho⟩
     |inr z=>
      have ho:z=false:=ho;subst ho;exact Tm.some fun h=>by simp at h
 · exact Tm.pos (by omega) (Tm.some fun e=>by simp at e)
structure DmOk (l:List RVar):Prop where
 len:l.length≤10
 ty:∀x∈l,(x.Ty=1∧(-2147483648≤x.Low∧x.Low≤2147483647)∧-2147483648≤x.High∧x.High≤2147483647)∨(x.Ty=2∧0≤x.Max∧x.Max≤16)
theorem wDomains_tm{l:List RVar}(h:l.length≤Bg):Tm (fun N=>wDomains N l) (fun r=>r=true→DmOk l):=by
 have hb:Bg=9223372036854775807:=rfl;unfold wDomains;refine Tm.bind (Q:=fun o=>match o with|.inl _=>∀x∈l,(x.Ty=1∧(-2147483648≤x.Low∧x.Low≤2147483647)∧-2147483648≤x.High∧x.High≤2147483647)∨(x.Ty=2∧0≤x.Max∧x.Max≤16)|.inr z=>z=false) ?_ fun o ho=>?_
 · refine Tm.up l.length (fun k s=>s=(k:Int)∧∀j (hj:j<l.length),j<k→(l[j].Ty=1∧(-2147483648≤l[j].Low∧l[j].Low≤2147483647)∧-2147483648≤l[j].High∧l[j].High≤2147483647)∨(l[j].Ty=2∧0≤l[j].Max∧l[j].Max≤16)) ⟨rfl,fun j _ hj=>by omega⟩ ?_;rintro k hk i ⟨rfl,hJ⟩;unfold wDomains_b1;rcases Nat.lt_or_ge k l.length with hlt|hge
   · refine Tm.pos (by omega) (Tm.step (idx_n hlt) ?_);refine Tm.bind (Q:=fun b=>b=false→l[k].Ty=1→(-2147483648≤l[k].Low∧l[k].Low≤2147483647)∧-2147483648≤l[k].High∧l[k].High≤2147483647) ?_ fun b hb'=>?_
     · by_cases g0:l[k].Ty=1
       · refine Tm.pos g0 ?_;by_cases g1:l[k].Low< -2147483648
         · exact Tm.pos g1 (Tm.some fun e=>by simp at e)
         · refine Tm.neg g1 ?_;by_cases g2:l[k].Low>2147483647
           · exact Tm.pos g2 (Tm.some fun e=>by simp at e)
           · refine Tm.neg g2 ?_;by_cases g3:l[k].High< -2147483648
             · exact Tm.pos g3 (Tm.some fun e=>by simp at e)
             · refine Tm.neg g3 (Tm.some fun e _=>?_);have e:=of_decide_eq_false e;omega
       · exact Tm.neg g0 (Tm.some fun _ h=>absurd h g0)
     · cases b with
       |true=>exact Tm.pos rfl (Tm.some rfl)
       |false=>
        refine Tm.neg (by simp) ?_;refine Tm.bind (Q:=fun b=>b=false→(l[k].Ty=1∨l[k].Ty=2)∧(l[k].Ty=2→0≤l[k].Max∧l[k].Max≤16)) ?_ fun b2 hb2=>?_
        · have hty:Tm (fun N=>(if l[k].Ty≠1 then some (decide (l[k].Ty≠2))else some false:Option Bool)) (fun b=>b=false→l[k].Ty=1∨l[k].Ty=2):=by
           by_cases g:l[k].Ty≠1
           · exact Tm.pos g (Tm.some fun e=>.inr (by have e:=of_decide_eq_false e;omega))
           · exact Tm.neg g (Tm.some fun _=>.inl (by omega))
          by_cases g0:l[k].Ty=2
          · refine Tm.pos g0 ?_;by_cases g1:l[k].Max<0
            · exact Tm.pos g1 (Tm.some fun e=>by simp at e)
            · refine Tm.neg g1 ?_;by_cases g2:l[k].Max>16
              · exact Tm.pos g2 (Tm.some fun e=>by simp at e)
              · exact Tm.neg g2 (hty.mono fun b hb e=>⟨hb e,fun _=>by omega⟩)
          · exact Tm.neg g0 (hty.mono fun b hb e=>⟨hb e,fun h=>absurd h g0⟩)
        · cases b2 with
          |true=>exact Tm.pos rfl (Tm.some rfl)
          |false=>
           refine Tm.neg (by simp) (Tm.some ⟨hlt,iw_n (by omega),fun j hj hjk=>?_⟩);by_cases ejk:j=k
           · subst ejk;obtain⟨p1,p2⟩:=hb2 rfl;rcases p1 with p1|p1
             · exact .inl ⟨p1,hb' rfl p1⟩
             · exact .inr ⟨p1,p2 p1⟩
           · exact hJ j hj (by omega)
   · refine Tm.neg (by omega) (Tm.some fun x hx=>?_);obtain⟨j,hj,rfl⟩:=List.getElem_of_mem hx;exact hJ j hj (by omega)
 · cases o with
   |inl _=>exact Tm.some fun e=>⟨by have:=of_decide_eq_true e;omega,ho⟩
   |inr z=>
    have ho:z=false:=ho;subst ho;exact Tm.some fun h=>by simp at h
structure LimX (x:RCase):Prop where
 l:x.L.length≤Bg
 rg:x.Ranges.length≤Bg
 c:LimC x.C
 w:LwC x.C
structure Rgt (x:RCase):Prop where
 d:DmOk x.L
 s:SmC x.C
 v:ClOk x.C x.L
 r:RgOk x.L x.Ranges
theorem lright_tm{x:RCase}(h:LimX x):Tm (fun N=>lright N x) (fun r=>r=true→Rgt x):=by
 unfold lright;refine(wDomains_tm h.l).bind fun r1 h1=>?_;cases r1 with
 |false=>exact Tm.neg (by simp) (Tm.some fun e=>by simp at e)
 |true=>
  refine Tm.pos rfl ((sFew_tm h.w).bind fun r2 h2=>?_);cases r2 with
  |false=>exact Tm.neg (by simp) (Tm.some fun e=>by simp at e)
  |true=>
   refine Tm.pos rfl ((sValid_tm h.c (h2 rfl) (h1 rfl).len).bind fun r3 h3=>?_);cases r3 with
   |false=>exact Tm.neg (by simp) (Tm.some fun e=>by simp at e)
   |true=>exact Tm.pos rfl ((wRight_tm h.rg).bind fun r4 h4=>Tm.some fun e=>⟨h1 rfl,h2 rfl,h3 rfl,h4 e⟩)
theorem intsOf_cf{l:List RVar}{c:RClause}{rg:List Arr2Int}(hv:ClOk c l)(hs:SmC c)(hl:l.length≤10):∀x∈intsOf l c rg,x.Linear.Coefs.length≤Bg:=by
 have hb:Bg=9223372036854775807:=rfl;have hsx:=hs.ax;have hbn:∀(v a b:Int),∀x∈bnds v a b,x.Linear.Coefs.length≤Bg:=by
  intro v a b x hx;unfold bnds at hx;rcases List.mem_cons.1 hx with rfl|hx
  · show(1:Nat)≤Bg;omega
  · rw[List.mem_singleton.1 hx];show(1:Nat)≤Bg;omega
 intro x hx;unfold intsOf at hx;rcases List.mem_append.1 hx with hx|hx
 · rcases List.mem_append.1 hx with hx|hx
   · obtain⟨v,_,hx⟩:=List.mem_flatMap.1 hx;unfold nnOf at hx;split at hx
     · split at hx
       · exact hbn _ _ _ x hx
       · cases hx
     · cases hx
   · obtain⟨i,hi,hx⟩:=List.mem_flatMap.1 hx;have hi:=List.mem_range.1 hi;rw[axAt_at hi]at hx;unfold axOf at hx;split at hx
     · exact hbn _ _ _ x hx
     · rename_i g;have hf:c.Auxiliary[i].Of.Coefs.length≤l.length+i:=by
        rcases hv.ax i hi with⟨g1,_⟩|⟨_,_,_,hf⟩
        · exact absurd g1 g
        · exact hf.len
       unfold quo at hx;rcases List.mem_cons.1 hx with rfl|hx
       · show(List.length (_++_))≤Bg;rw[List.length_append,List.length_map,List.length_singleton];omega
       · rw[List.mem_singleton.1 hx];show(List.length (_++_))≤Bg;rw[List.length_append,List.length_singleton];omega
 · have:=(hv.it x hx).len;omega
open Go Go.X
theorem I64_iw(n:Int):I64 (iw n):=by
 unfold I64 X.iw;simp[IntKind.wrap,IntKind.signed,IntKind.bits];omega
variable {R:List RVal} {l:List RVar} {bs aux:List Int} {c:RClause} {f:Linear} {rg:List Arr2Int}
open Go Go.X
variable {R:List RVal} {l:List RVar} {c:RClause} {rg:List Arr2Int}
theorem pos_at{vs:List Int}{v:Int}(hn:vs.Nodup)(hv:v∈vs):∃i:Nat,∃hi:i<vs.length,vs[i]=v∧pos vs v=(i:Int):=by
 obtain⟨i,hi,rfl⟩:=List.getElem_of_mem hv;exact⟨i,hi,rfl,by unfold pos;rw[List.Nodup.idxOf_getElem hn i hi]⟩
theorem tvs_at(hv:ClOk c l){v:Int}(h:v∈tvs l c):∃k:Nat,∃hk:k<l.length,v=(k:Int)∧l[k].Ty=2∧TxtOk c l v:=by
 obtain⟨h1,h2⟩:=List.mem_filter.1 h;obtain⟨k,rfl,hk⟩:=var_n (n:=l.length) (hv.nn.bd v h1);unfold isT at h2;rw[Int.toNat_natCast,List.getElem?_eq_getElem hk]at h2;have h2:=of_decide_eq_true h2;exact⟨k,hk,rfl,h2,k,rfl,⟨_,List.getElem?_eq_getElem hk,h2⟩,h1⟩
theorem hiOf_at(hr:RgOk l rg){k:Nat}(hk:k<l.length):hiOf l rg k=imin (rg[k]'(by rw[hr.len];exact hk)).e1 l[k].Max:=by
 unfold hiOf;rw[List.getElem?_eq_getElem hk,List.getElem?_eq_getElem (by rw[hr.len];exact hk)]
theorem e0Of_at(hr:RgOk l rg){k:Nat}(hk:k<l.length):e0Of rg (k:Int)=(rg[k]'(by rw[hr.len];exact hk)).e0:=by
 unfold e0Of;rw[Int.toNat_natCast,List.getElem?_eq_getElem (by rw[hr.len];exact hk)]
theorem txts_okP(hd:DmOk l)(hv:ClOk c l)(hr:RgOk l rg):OkP (txtsOf l c rg):=by
 have hn:=tvs_nodup hv.nn;have hl:=hd.len;have h1:=tvs_len (l:=l) (c:=c);have h2:=hv.nn.len;have two:∀{v:Int},TxtOk c l v→0≤pos (tvs l c) v∧pos (tvs l c) v<(((tvs l c).map (e0Of rg)).length:Int):=fun h=>by
  obtain⟨i,hi,_,e⟩:=pos_at hn (txt_mem h);rw[e,List.length_map];omega
 refine⟨?_,?_,fun k hk=>?_,fun k hk=>?_,fun t ht=>?_,fun e he=>?_,fun e he=>?_⟩
 · show(List.map _ _).length=(List.map _ _).length;rw[List.length_map,List.length_map]
 · show(List.map _ _).length≤_;rw[List.length_map];omega
 · obtain⟨v,hvm,rfl⟩:=List.mem_map.1 hk;obtain⟨q,hq,rfl,_⟩:=tvs_at hv hvm;rw[e0Of_at hr hq];exact(hr.bd _ (List.getElem_mem _)).1
 · obtain⟨v,hvm,rfl⟩:=List.mem_map.1 hk;obtain⟨q,hq,rfl,hty,_⟩:=tvs_at hv hvm;rw[Int.toNat_natCast,hiOf_at hr hq];have g1:=(hr.bd _ (List.getElem_mem (show q<rg.length by rw[hr.len];exact hq))).2;rcases hd.ty _ (List.getElem_mem hq)with⟨g,_⟩|⟨_,g2,g3⟩
   · omega
   · unfold imin;split<;>omega
 · obtain⟨t0,ht0,rfl⟩:=List.mem_map.1 ht;obtain⟨h3,h4⟩:=hv.ts t0 ht0;exact⟨h3,(two h4).1,(two h4).2⟩
 · obtain⟨e0,he0,rfl⟩:=List.mem_map.1 he;obtain⟨h3,h4,_⟩:=hv.sm e0 he0;exact⟨two h3,two h4⟩
 · obtain⟨e0,he0,rfl⟩:=List.mem_map.1 he;obtain⟨h3,h4,_⟩:=hv.df e0 he0;exact⟨two h3,two h4⟩
theorem txts_lim(hd:DmOk l)(hv:ClOk c l)(hs:SmC c):Lim (txtsOf l c rg):=by
 have hb:Bg=9223372036854775807:=rfl;have hl:=hd.len;have h1:=tvs_len (l:=l) (c:=c);have h2:=hv.nn.len;have h3:=hs.ts;have h4:=hs.sm;have h5:=hs.df;refine⟨?_,?_,?_,?_,?_,fun t ht=>?_⟩
 · show(List.map _ _).length≤_;rw[List.length_map];omega
 · show(List.map _ _).length≤_;rw[List.length_map];omega
 · show(List.map _ _).length≤_;rw[List.length_map];omega
 · show(List.map _ _).length≤_;rw[List.length_map];omega
 · show(List.map _ _).length≤_;rw[List.length_map];omega
 · obtain⟨t0,ht0,rfl⟩:=List.mem_map.1 ht;have:=(okT_len (hv.ts t0 ht0).1).2.2;show t0.Text.length≤_;omega
open Go Go.X
def kb(s:Int):List Int:=[s%256,s/256%256,s/65536%256]
def keyI(l:List Int)(n:Nat):List UInt8:=bstr ((n:Int)::l.flatMap kb)
theorem pKey_tm{l:List Int}{n:Nat}(hn:n≤255)(hl:l.length≤1000)(h:∀s∈l,0≤s):Tm (fun N=>pKey N l (n:Int)) (·=keyI l n):=by
 unfold pKey;have e0:uw8 (n:Int)=(n:Int):=uw8_eq (by omega) (by omega);rw[e0];refine Tm.eq (a:=(n:Int)::l.flatMap kb) ?_ (Tm.some rfl);have hlen:∀m:List Int,(m.flatMap kb).length=3*m.length:=fun m=>by
  induction m with
  |nil=>rfl
  |cons a m ih=>rw[List.flatMap_cons,List.length_append,ih,List.length_cons];simp[kb];omega
 refine Tm.up l.length (fun k s=>s.2=(k:Int)∧s.1=(n:Int)::(l.take k).flatMap kb) ⟨rfl,rfl⟩ ?_;rintro k hk ⟨s,i⟩ ⟨hi,hs⟩;dsimp only at hi hs;subst hi;subst hs;unfold pKey_b1;rcases Nat.lt_or_ge k l.length with hlt|hge
 · refine Tm.pos (by omega) (Tm.step (idx_n hlt) ?_);have h0:=h _ (List.getElem_mem hlt);have e1:bshr .u32 l[k] 8=l[k]/256:=bshr_u32 (n:=8) (by decide);have e2:bshr .u32 l[k] 16=l[k]/65536:=bshr_u32 (n:=16) (by decide);rw[e1,e2,uw8_mod,uw8_mod,uw8_mod];rw[apnd_ok (by simp only[List.length_cons,hlen,List.length_take,List.length_nil];omega) (by decide)];refine Tm.some ⟨hlt,iw_n (by omega),?_⟩;rw[←List.take_append_getElem hlt,List.flatMap_append];simp[kb]
 · refine Tm.neg (by omega) (Tm.some ?_);show _=_;rw[List.take_of_length_le (by omega)]
theorem u8_inj{a b:Int}(ha:0≤a∧a<256)(hb:0≤b∧b<256)(h:UInt8.ofNat a.toNat=UInt8.ofNat b.toNat):a=b:=by
 have h1:=congrArg UInt8.toNat h;rw[UInt8.toNat_ofNat',UInt8.toNat_ofNat',Nat.mod_eq_of_lt (by omega),Nat.mod_eq_of_lt (by omega)]at h1;omega
theorem kb_inj:∀{l l':List Int},l.length=l'.length→(∀s∈l,0≤s∧s<16777216)→(∀s∈l',0≤s∧s<16777216)→bstr (l.flatMap kb)=bstr (l'.flatMap kb)→l=l'
 |[],[],_,_,_,_=>rfl
 |a::l,b::l',hl,h1,h2,h=>by
  simp only[List.flatMap_cons,kb,bstr,List.cons_append,List.nil_append,List.map_cons,List.cons.injEq]at h;obtain⟨g1,g2,g3,g4⟩:=h;have ha:=h1 a List.mem_cons_self;have hb:=h2 b List.mem_cons_self;have e1:=u8_inj (by omega) (by omega) g1;have e2:=u8_inj (by omega) (by omega) g2;have e3:=u8_inj (by omega) (by omega) g3;have:a=b:=by omega
  rw[this,kb_inj (by simpa using hl) (fun s hs=>h1 s (List.mem_cons_of_mem _ hs)) (fun s hs=>h2 s (List.mem_cons_of_mem _ hs)) g4]
 |[],_::_,hl,_,_,_=>by simp at hl
 |_::_,[],hl,_,_,_=>by simp at hl
theorem keyI_inj{l l':List Int}{n n':Nat}(hl:l.length=l'.length)(h1:∀s∈l,0≤s∧s<16777216)(h2:∀s∈l',0≤s∧s<16777216)(hn:n≤255)(hn':n'≤255)(h:keyI l n=keyI l' n'):l=l'∧n=n':=by
 unfold keyI bstr at h;rw[List.map_cons,List.map_cons,List.cons.injEq]at h;have:=u8_inj (a:=(n:Int)) (b:=(n':Int)) (by omega) (by omega) h.1;exact⟨kb_inj hl h1 h2 h.2,by omega⟩
def allI:Nat→List (List Int)
 |0=>[[]]
 |n+1=>(List.range 95).flatMap fun(c:Nat)=>(allI n).map fun x=>((c:Int)+32)::x
def accT(ts:List TTest)(l:List Int)(x:List Int):Bool:=(ts.zip l).all fun q=>spF q.1 (run q.1 q.2 x)
def nextL(ts:List TTest)(l:List Int)(c:Int):List Int:=List.zipWith (fun t s=>spN t s c) ts l
def Rr(ts:List TTest)(l:List Int)(n:Nat)(text:List Int):List (List UInt8):=((allI n).filter (accT ts l)).map fun x=>bstr (text++x)
structure Sts (ts:List TTest)(l:List Int):Prop where
 len:l.length=ts.length
 ok:∀q∈ts.zip l,StOk q.1 q.2
theorem acc_cons:∀{ts:List TTest} {l:List Int} {c:Int} {x:List Int},accT ts l (c::x)=accT ts (nextL ts l c) x
 |[],_,_,_=>rfl
 |_::_,[],_,_=>rfl
 |t::ts,s::l,c,x=>by
  have:=acc_cons (ts:=ts) (l:=l) (c:=c) (x:=x);unfold accT nextL at*;rw[List.zip_cons_cons,List.all_cons,List.zipWith_cons_cons,List.zip_cons_cons,List.all_cons,this];rfl
theorem nextL_ok:∀{ts:List TTest} {l:List Int} {c:Int},(∀t∈ts,okT t=true)→Sts ts l→Sts ts (nextL ts l c)
 |[],l,c,_,h=>⟨by simp[nextL],fun q hq=>by simp[nextL]at hq⟩
 |t::ts,[],c,_,h=>by have:=h.len;simp at this
 |t::ts,s::l,c,ho,h=>by
  have hs:Sts ts l:=⟨by have:=h.len;simpa using this,fun q hq=>h.ok q (by rw[List.zip_cons_cons];exact List.mem_cons_of_mem _ hq)⟩;have ih:=nextL_ok (c:=c) (fun t ht=>ho t (List.mem_cons_of_mem _ ht)) hs;refine⟨?_,fun q hq=>?_⟩
  · unfold nextL at*;rw[List.zipWith_cons_cons,List.length_cons,List.length_cons,ih.len]
  · unfold nextL at*;rw[List.zipWith_cons_cons,List.zip_cons_cons]at hq;rcases List.mem_cons.1 hq with e|e
    · subst e;exact stN_ok c (ho t List.mem_cons_self) (h.ok (t,s) (by rw[List.zip_cons_cons];exact List.mem_cons_self))
    · exact ih.ok q e
theorem Sts.bnd{ts:List TTest}{l:List Int}(h:Sts ts l)(ho:∀t∈ts,okT t=true):∀s∈l,0≤s∧s<16777216:=by
 intro s hs;obtain⟨i,hi,rfl⟩:=List.getElem_of_mem hs;have hi':i<ts.length:=by rw[←h.len];exact hi
 have hz:i<(ts.zip l).length:=by rw[List.length_zip];omega
 have:=h.ok _ (List.getElem_mem hz);rw[List.getElem_zip]at this;have h16:=(okT_len (ho _ (List.getElem_mem hi'))).2.2;by_cases hk:ts[i].Kind=1
 · obtain⟨m,e,hm⟩:=this.lk hk;have h17:2^(ts[i].Text.length+1)≤2^17:=Nat.pow_le_pow_right (by decide) (by omega);dsimp only at e hm;omega
 · rcases this.cm hk with e|e|e<;>dsimp only at e<;>omega
theorem Rr_succ{ts:List TTest}{l:List Int}{n:Nat}{text:List Int}:Rr ts l (n+1) text=(List.range 95).flatMap fun(c:Nat)=>Rr ts (nextL ts l ((c:Int)+32)) n (text++[(c:Int)+32]):=by
 unfold Rr;rw[show allI (n+1)=(List.range 95).flatMap fun(c:Nat)=>(allI n).map fun x=>((c:Int)+32)::x from rfl,List.filter_flatMap,List.map_flatMap];congr 1;funext c;rw[List.filter_map,List.map_map];have:(accT ts l∘fun x=>((c:Int)+32)::x)=accT ts (nextL ts l ((c:Int)+32)):=by funext x;exact acc_cons
 rw[this];congr 1;funext x;simp
def DOk(ts:List TTest)(dead:List (List UInt8×Bool)):Prop:=∀k,(mget dead k false).1=true→∃l n,Sts ts l∧n≤255∧keyI l n=k∧Rr ts l n []=[]
theorem Rr_nil{ts:List TTest}{l:List Int}{n:Nat}{text:List Int}:Rr ts l n text=[]↔Rr ts l n []=[]:=by
 unfold Rr;rw[List.map_eq_nil_iff,List.map_eq_nil_iff]
theorem pFind_b1_tm{f:TFinder}{l:List Int}(ho:∀t∈f.tests,okT t=true)(hs:Sts f.tests l)(hl:f.tests.length≤1000):
 Tm (fun N=>loopM (pFind_b1 N f l) N 0) (fun o=>o=if accT f.tests l []then Sum.inl ()else Sum.inr (false,f.out,f.dead)):=by
 have hz:(f.tests.zip l).length=f.tests.length:=by rw[List.length_zip,hs.len,Nat.min_self]
 refine(Tm.findL (b:=fun N=>pFind_b1 N f l) (f.tests.zip l) (fun q=>!spF q.1 q.2) (fun _=>(false,f.out,f.dead)) (by omega) (fun k hk=>?_) ?_).mono fun o h=>?_
 · unfold pFind_b1;have h1:k<f.tests.length:=by omega
   have h2:k<l.length:=by rw[hs.len];exact h1
   have hq:(f.tests.zip l)[k]=(f.tests[k],l[k]):=List.getElem_zip;have hok:=hs.ok _ (List.getElem_mem hk);rw[hq]at hok⊢;refine Tm.pos (by omega) (Tm.step (idx_n h1) (Tm.step (idx_n h2) ((pPassed_tm (ho _ (List.getElem_mem h1)) hok).eq ?_)));cases spF f.tests[k] l[k]<;>exact Tm.some rfl
 · unfold pFind_b1;exact Tm.neg (by rw[hz];omega) (Tm.some rfl)
 · have e:accT f.tests l []=!((f.tests.zip l).any fun q=>!spF q.1 q.2):=by rw[not_any_not];rfl
   rcases h with⟨h1,rfl⟩|⟨k,hk,h1,_,rfl⟩
   · rw[e,h1];rfl
   · rw[e,List.any_eq_true.2 ⟨_,List.getElem_mem hk,h1⟩];rfl
theorem pFind_b3_tm{f:TFinder}{l:List Int}{c:Nat}(hc:32≤c∧c≤126)(ho:∀t∈f.tests,okT t=true)(hs:Sts f.tests l)(hl:f.tests.length≤1000):
 Tm (fun N=>loopM (pFind_b3 N f l (c:Int)) N (List.replicate l.length 0,0)) (·=nextL f.tests l (c:Int)):=by
 have hlen:=hs.len;have hn:(nextL f.tests l (c:Int)).length=f.tests.length:=by unfold nextL;rw[List.length_zipWith];omega
 refine Tm.up f.tests.length (fun k s=>s.2=(k:Int)∧s.1.length=f.tests.length∧∀j,j<k→s.1[j]?=(nextL f.tests l (c:Int))[j]?) ⟨rfl,by simp[hlen],fun j hj=>by omega⟩ ?_;rintro k hk ⟨s,i⟩ ⟨hi,hsl,hsj⟩;dsimp only at hi hsl hsj;subst hi;unfold pFind_b3;rcases Nat.lt_or_ge k f.tests.length with hlt|hge
 · have h2:k<l.length:=by omega
   have hz:k<(f.tests.zip l).length:=by rw[List.length_zip];omega
   have hok:=hs.ok _ (List.getElem_mem hz);rw[List.getElem_zip]at hok;have e8:uw8 (c:Int)=(c:Int):=uw8_eq (by omega) (by omega);refine Tm.pos (by omega) (Tm.step (idx_n hlt) (Tm.step (idx_n h2) ?_));rw[e8];refine(pNext_tm (ho _ (List.getElem_mem hlt)) hok).eq ?_;refine Tm.step (idx_n (by omega)) ?_;rw[upd1_i (n:=k) rfl (by omega)];refine Tm.some ⟨hlt,iw_n (by omega),by rw[List.length_set];exact hsl,fun j hj=>?_⟩;rw[List.getElem?_set];by_cases e:k=j
   · subst e;rw[if_pos rfl,if_pos (by omega)];unfold nextL;rw[List.getElem?_zipWith,List.getElem?_eq_getElem hlt,List.getElem?_eq_getElem h2]
   · rw[if_neg e];exact hsj j (by omega)
 · refine Tm.neg (by omega) (Tm.some ?_);show s=_;apply List.ext_getElem?;intro j;by_cases hj:j<k
   · exact hsj j hj
   · rw[List.getElem?_eq_none (by omega),List.getElem?_eq_none (by omega)]
theorem take_lt{α:Type}{a b:List α}{n:Nat}(h:((a++b).take n).length<n):(a++b).take n=a++b:=by
 rw[List.length_take]at h;exact List.take_of_length_le (by omega)
theorem pFind_tm{ts:List TTest}(ho:∀t∈ts,okT t=true)(hl:ts.length≤1000):∀(n:Nat) (f:TFinder) (l text:List Int),f.tests=ts→Sts ts l→n≤255→text.length+n≤1000→(∃m:Nat,f.most=(m:Int)∧m≤100000∧f.out.length<m)→DOk ts f.dead→
 Tm (fun N=>pFind N f l text (n:Int)) (fun r=>r.2.1=(f.out++Rr ts l n text).take f.most.toNat∧r.1=decide (Rr ts l n text≠[])∧DOk ts r.2.2)
 |0,f,l,text,hf,hs,hn,hx,⟨m,hm,hml,hout⟩,hd=>by
  apply Tm.succ;show Tm (fun N=>pFind_step N (pFind N) f l text ((0:Nat):Int)) _;unfold pFind_step;refine Tm.pos rfl ?_;refine(pFind_b1_tm (by rw[hf];exact ho) (by rw[hf];exact hs) (by rw[hf];exact hl)).eq ?_;rw[hf,hm,Int.toNat_natCast];have e:Rr ts l 0 text=if accT ts l []then[bstr text]else[]:=by
   unfold Rr allI;cases h:accT ts l []<;>simp[h]
  cases ha:accT ts l []with
  |true=>
   rw[ha]at e;simp only[if_true]at e⊢;rw[apnd_ok (by simp;omega) (by decide),e];refine Tm.some ⟨?_,by simp,hd⟩;show f.out++[bstr text]=_;rw[List.take_of_length_le (by simp;omega)]
  |false=>
   rw[ha]at e;simp only[Bool.false_eq_true,if_false]at e⊢;rw[e];refine Tm.some ⟨?_,by simp,hd⟩;show f.out=_;rw[List.append_nil,List.take_of_length_le (by omega)]
 |n+1,f,l,text,hf,hs,hn,hx,⟨m,hm,hml,hout⟩,hd=>by
  apply Tm.succ;show Tm (fun N=>pFind_step N (pFind N) f l text ((n+1:Nat):Int)) _;unfold pFind_step;have hbn:=hs.bnd ho;refine Tm.neg (by omega) ?_;have hlen:=hs.len;refine(pKey_tm hn (by omega) fun s h=>(hbn s h).1).eq ?_;by_cases hg:(mget f.dead (keyI l (n+1)) false).1=true
  · refine Tm.pos hg (Tm.some ?_);obtain⟨l',n',h1,h2,h3,h4⟩:=hd _ hg;obtain⟨rfl,rfl⟩:=keyI_inj (by rw[h1.len,hlen]) (h1.bnd ho) hbn h2 hn h3;have e:=(Rr_nil (text:=text)).2 h4;rw[e];refine⟨?_,by simp,hd⟩;rw[List.append_nil,hm,Int.toNat_natCast,List.take_of_length_le (by omega)]
  · refine Tm.neg hg ?_;rw[hm,Int.toNat_natCast];have key:Tm (fun N=>loopM (pFind_b2 N (pFind N) f l ((n+1:Nat):Int) text) N (f.out,f.dead,false,32)) (fun s=>s.1=(f.out++Rr ts l (n+1) text).take m∧s.2.2=decide (Rr ts l (n+1) text≠[])∧DOk ts s.2.1):=by
     have RR:=Rr_succ (ts:=ts) (l:=l) (n:=n) (text:=text);refine Tm.up 95 (fun k s=>s.2.2.2=((k+32:Nat):Int)∧s.1=(f.out++(List.range k).flatMap fun(c:Nat)=>Rr ts (nextL ts l ((c:Int)+32)) n (text++[(c:Int)+32])).take m∧s.2.2.1=decide ((List.range k).flatMap (fun(c:Nat)=>Rr ts (nextL ts l ((c:Int)+32)) n (text++[(c:Int)+32]))≠[])∧DOk ts s.2.1) ⟨rfl,?_,rfl,hd⟩ ?_
     · show f.out=_;simp only[List.range_zero,List.flatMap_nil,List.append_nil];rw[List.take_of_length_le (by omega)]
     rintro k hk ⟨out,dead,found,c⟩ ⟨hc,hou,hfo,hde⟩;dsimp only at hc hou hfo hde;subst hc;unfold pFind_b2;dsimp only;have hlm:out.length≤m:=by rw[hou,List.length_take];omega
     have pre:∃rest,Rr ts l (n+1) text=(List.range k).flatMap (fun(c:Nat)=>Rr ts (nextL ts l ((c:Int)+32)) n (text++[(c:Int)+32]))++rest:=by
      rw[RR];refine⟨((List.range 95).drop k).flatMap fun(c:Nat)=>Rr ts (nextL ts l ((c:Int)+32)) n (text++[(c:Int)+32]),?_⟩;rw[←List.flatMap_append];congr 1
      conv=>lhs;rw[←List.take_append_drop k (List.range 95)]
      rw[List.take_range,Nat.min_eq_left hk]
     generalize hRk:(List.range k).flatMap (fun(c:Nat)=>Rr ts (nextL ts l ((c:Int)+32)) n (text++[(c:Int)+32]))=Rk at*;by_cases hgo:k<95∧out.length<m
     · have e1:(if((k+32:Nat):Int)≤126 then some (decide ((out.length:Int)<f.most))else some false)=some true:=by
        rw[if_pos (by omega),hm,decide_eq_true (by omega)]
       rw[e1];simp only[Option.bind_some,if_true];rw[mk1_ok (n:=l.length) rfl (by omega) (by decide)];simp only[Option.bind_some];have hs':Sts f.tests l:=by rw[hf];exact hs
       refine(pFind_b3_tm (c:=k+32) (by omega) (by rw[hf];exact ho) hs' (by rw[hf];exact hl)).eq ?_;have e8:uw8 ((k+32:Nat):Int)=((k+32:Nat):Int):=uw8_eq (by omega) (by omega);rw[e8,apnd_ok (by simp;omega) (by decide)];simp only[Option.bind_some];have e9:iw (((n+1:Nat):Int)-1)=(n:Int):=by rw[iw_eq]<;>omega
       rw[e9];have hoe:out=f.out++Rk:=by rw[hou];exact take_lt (by rw[←hou];exact hgo.2)
       refine(pFind_tm ho hl n (TFinder.mk f.tests f.most out dead) (nextL f.tests l ((k+32:Nat):Int)) (text++[((k+32:Nat):Int)]) hf (by rw[hf];exact nextL_ok ho hs) (by omega) (by simp;omega) ⟨m,hm,hml,hgo.2⟩ hde).bind fun r hr=>?_;obtain⟨r1,r2,r3⟩:=hr;dsimp only at r1;rw[hm,Int.toNat_natCast,hf]at r1;rw[hf]at r2;have ek:((k+32:Nat):Int)=(k:Int)+32:=by omega
       rw[ek]at r1 r2;have eR:(List.range (k+1)).flatMap (fun(c:Nat)=>Rr ts (nextL ts l ((c:Int)+32)) n (text++[(c:Int)+32]))=Rk++Rr ts (nextL ts l ((k:Int)+32)) n (text++[(k:Int)+32]):=by
        rw[List.range_succ,List.flatMap_append,hRk];simp
       have e32:iw32 (((k+32:Nat):Int)+1)=((k+1+32:Nat):Int):=by
        have:iw32 (((k+32:Nat):Int)+1)=((k+32:Nat):Int)+1:=by
         unfold iw32 IntKind.wrap;simp[IntKind.signed,IntKind.bits];split<;>omega
        rw[this];omega
       rw[hoe,List.append_assoc]at r1;have fin:∀b,b=decide (Rk++Rr ts (nextL ts l ((k:Int)+32)) n (text++[(k:Int)+32])≠[])→(k<95∧(iw32 (((k+32:Nat):Int)+1)=((k+1+32:Nat):Int)∧r.2.1=(f.out++(List.range (k+1)).flatMap (fun(c:Nat)=>Rr ts (nextL ts l ((c:Int)+32)) n (text++[(c:Int)+32]))).take m∧b=decide ((List.range (k+1)).flatMap (fun(c:Nat)=>Rr ts (nextL ts l ((c:Int)+32)) n (text++[(c:Int)+32]))≠[])∧DOk ts r.2.2)):=fun b hb=>by
        rw[eR];exact⟨hgo.1,e32,r1,hb,r3⟩
       cases hr1:r.1 with
       |true=>
        rw[hr1]at r2;have hne:=of_decide_eq_true r2.symm;refine Tm.pos rfl (Tm.some (fin true ?_));rw[decide_eq_true];intro h;exact hne (List.append_eq_nil_iff.1 h).2
       |false=>
        rw[hr1]at r2;have hne:=of_decide_eq_false r2.symm;refine Tm.neg (by simp) (Tm.some (fin found ?_));rw[hfo];have:Rr ts (nextL ts l ((k:Int)+32)) n (text++[(k:Int)+32])=[]:=Classical.not_not.1 hne;rw[this,List.append_nil]
     · have e1:(if((k+32:Nat):Int)≤126 then some (decide ((out.length:Int)<f.most))else some false)=some false:=by
        by_cases h95:k<95
        · rw[if_pos (by omega),hm,decide_eq_false (by omega)]
        · rw[if_neg (by omega)]
       rw[e1];simp only[Option.bind_some,Bool.false_eq_true,if_false];refine Tm.some ?_;obtain⟨rest,hrest⟩:=pre;by_cases h95:k<95
       · have hom:out.length=m:=by omega
         have hbig:m≤(f.out++Rk).length:=by rw[←hom,hou,List.length_take];omega
         have hne:Rk≠[]:=by
          intro h;rw[h,List.append_nil]at hbig;omega
         refine⟨?_,?_,hde⟩
         · show out=_;rw[hou,hrest,←List.append_assoc,List.take_append_of_le_length hbig]
         · show found=_;rw[hfo,decide_eq_true hne,decide_eq_true];rw[hrest];intro h;exact hne (List.append_eq_nil_iff.1 h).1
       · have hk95:k=95:=by omega
         subst hk95;have:Rk=Rr ts l (n+1) text:=by rw[RR,←hRk]
         rw[←this];exact⟨hou,hfo,hde⟩
    refine key.bind fun s hs1=>?_;obtain⟨out,dead,found⟩:=s;obtain⟨h1,h2,h3⟩:=hs1;dsimp only at h1 h2 h3⊢;cases found with
    |true=>exact Tm.some ⟨h1,h2,h3⟩
    |false=>
     refine Tm.some ⟨h1,h2,fun k hk=>?_⟩;rw[mget_mput1]at hk;by_cases e:k=keyI l (n+1)
     · exact⟨l,n+1,hs,hn,e.symm,Rr_nil.1 (Classical.not_not.1 (of_decide_eq_false h2.symm))⟩
     · rw[if_neg e]at hk;exact h3 k hk
open Go Go.X
theorem mem_allI:∀{n:Nat} {x:List Int},x∈allI n↔x.length=n∧∀c∈x,32≤c∧c≤126
 |0,x=>by
  rw[show allI 0=[[]] from rfl,List.mem_singleton];constructor
  · rintro rfl;exact⟨rfl,fun _ h=>by cases h⟩
  · rintro⟨h,_⟩;exact List.eq_nil_of_length_eq_zero h
 |n+1,x=>by
  rw[show allI (n+1)=(List.range 95).flatMap fun(c:Nat)=>(allI n).map fun x=>((c:Int)+32)::x from rfl,List.mem_flatMap];constructor
  · rintro⟨c,hc,h⟩;obtain⟨y,hy,rfl⟩:=List.mem_map.1 h;obtain⟨h1,h2⟩:=mem_allI.1 hy;have:=List.mem_range.1 hc;refine⟨by rw[List.length_cons,h1],fun d hd=>?_⟩;rcases List.mem_cons.1 hd with e|e
    · subst e;omega
    · exact h2 d e
  · rintro⟨h1,h2⟩;cases x with
    |nil=>simp at h1
    |cons c y=>
     have hc:=h2 c List.mem_cons_self;refine⟨(c-32).toNat,List.mem_range.2 (by omega),List.mem_map.2 ⟨y,mem_allI.2 ⟨by simpa using h1,fun d hd=>h2 d (List.mem_cons_of_mem _ hd)⟩,?_⟩⟩;congr 1;omega
theorem sby_bstr{x:List Int}(h:∀c∈x,0≤c∧c≤255):sby (bstr x)=x:=by
 unfold sby bstr;rw[List.map_map]
 conv=>rhs;rw[←List.map_id x]
 apply List.map_congr_left;intro c hc;have:=h c hc;show((UInt8.ofNat c.toNat).toNat:Int)=c;rw[UInt8.toNat_ofNat',Nat.mod_eq_of_lt (by omega)];omega
theorem bstr_sby{s:List UInt8}:bstr (sby s)=s:=by
 unfold sby bstr;rw[List.map_map]
 conv=>rhs;rw[←List.map_id s]
 apply List.map_congr_left;intro c _;apply UInt8.toNat_inj.1;show(UInt8.ofNat ((c.toNat:Int)).toNat).toNat=c.toNat;rw[UInt8.toNat_ofNat',Int.toNat_natCast,Nat.mod_eq_of_lt (UInt8.toNat_lt c)]
theorem nodup_flatMap{α β:Type}{f:α→List β}:∀{l:List α},l.Nodup→(∀a∈l,(f a).Nodup)→(∀a b,a∈l→b∈l→a≠b→∀x,x∈f a→x∉f b)→(l.flatMap f).Nodup
 |[],_,_,_=>by simp
 |a::l,h,h1,h2=>by
  rw[List.flatMap_cons,List.nodup_append];have h':=List.nodup_cons.1 h;refine⟨h1 a List.mem_cons_self,nodup_flatMap h'.2 (fun b hb=>h1 b (List.mem_cons_of_mem _ hb)) (fun b c hb hc=>h2 b c (List.mem_cons_of_mem _ hb) (List.mem_cons_of_mem _ hc)),fun x hx y hy e=>?_⟩;subst e;obtain⟨b,hb,hxb⟩:=List.mem_flatMap.1 hy;exact h2 a b List.mem_cons_self (List.mem_cons_of_mem _ hb) (fun e=>h'.1 (e▸hb)) x hx hxb
theorem nodup_map{α β:Type}{f:α→β}:∀{l:List α},l.Nodup→(∀a b,a∈l→b∈l→f a=f b→a=b)→(l.map f).Nodup
 |[],_,_=>by simp
 |a::l,h,h1=>by
  have h':=List.nodup_cons.1 h;rw[List.map_cons,List.nodup_cons];refine⟨fun hm=>?_,nodup_map h'.2 fun b c hb hc=>h1 b c (List.mem_cons_of_mem _ hb) (List.mem_cons_of_mem _ hc)⟩;obtain⟨b,hb,e⟩:=List.mem_map.1 hm;exact h'.1 (h1 b a (List.mem_cons_of_mem _ hb) List.mem_cons_self e▸hb)
theorem allI_nodup:∀n,(allI n).Nodup
 |0=>by simp[allI]
 |n+1=>by
  rw[show allI (n+1)=(List.range 95).flatMap fun(c:Nat)=>(allI n).map fun x=>((c:Int)+32)::x from rfl];refine nodup_flatMap List.nodup_range (fun c _=>nodup_map (allI_nodup n) fun a b _ _ e=>(List.cons.inj e).2) fun a b _ _ hab x hx hx'=>?_;obtain⟨y,_,rfl⟩:=List.mem_map.1 hx;obtain⟨z,_,e⟩:=List.mem_map.1 hx';have:=(List.cons.inj e).1;exact hab (by omega)
def wordsOf(ts:List TTest)(n:Nat):List (List UInt8):=Rr ts (ts.map sp0) n []
theorem acc_start:∀{ts:List TTest} {x:List Int},accT ts (ts.map sp0) x=ts.all fun t=>spF t (run t (sp0 t) x)
 |[],_=>rfl
 |t::ts,x=>by
  have:=acc_start (ts:=ts) (x:=x);unfold accT at*;rw[List.map_cons,List.zip_cons_cons,List.all_cons,this,List.all_cons]
theorem prn_sby{s:List UInt8}:s.all prn=true↔∀c∈sby s,32≤c∧c≤126:=by
 rw[List.all_eq_true];unfold sby;constructor
 · intro h c hc;obtain⟨b,hb,rfl⟩:=List.mem_map.1 hc;have:=of_decide_eq_true (h b hb);omega
 · intro h b hb;have:=h _ (List.mem_map.2 ⟨b,hb,rfl⟩);exact decide_eq_true (by omega)
theorem mem_wordsOf{ts:List TTest}{n:Nat}{s:List UInt8}:s∈wordsOf ts n↔s.length=n∧s.all prn=true∧ts.all (fun t=>pas t s)=true:=by
 unfold wordsOf Rr;rw[List.mem_map];constructor
 · rintro⟨x,hx,rfl⟩;obtain⟨h1,h2⟩:=List.mem_filter.1 hx;obtain⟨h3,h4⟩:=mem_allI.1 h1;have e:sby (bstr x)=x:=sby_bstr fun c hc=>by have:=h4 c hc;omega
   rw[List.nil_append];refine⟨by rw[←h3];simp[bstr],prn_sby.2 (by rw[e];exact h4),?_⟩;rw[acc_start]at h2;unfold pas;rw[e];exact h2
 · rintro⟨h1,h2,h3⟩;refine⟨sby s,List.mem_filter.2 ⟨mem_allI.2 ⟨by rw[sby_len];exact h1,prn_sby.1 h2⟩,?_⟩,by rw[List.nil_append];exact bstr_sby⟩;rw[acc_start];exact h3
theorem wordsOf_nodup{ts:List TTest}{n:Nat}:(wordsOf ts n).Nodup:=by
 unfold wordsOf Rr;refine nodup_map ((allI_nodup n).sublist List.filter_sublist) fun a b ha hb e=>?_;have ha:=(mem_allI.1 (List.mem_filter.1 ha).1).2;have hb:=(mem_allI.1 (List.mem_filter.1 hb).1).2;have e':=congrArg sby e;rw[List.nil_append,List.nil_append,sby_bstr (fun c hc=>by have:=ha c hc;omega),sby_bstr (fun c hc=>by have:=hb c hc;omega)]at e';exact e'
theorem pFBegin_tm{f:TFinder}(ho:∀t∈f.tests,okT t=true)(hl:f.tests.length≤1000):Tm (fun N=>pFBegin N f) (·=(f.tests.map sp0,f.out,f.dead)):=by
 unfold pFBegin;refine Tm.eq (a:=f.tests.map sp0) ?_ (Tm.some rfl);refine Tm.up f.tests.length (fun k s=>s.2=(k:Int)∧s.1=(f.tests.take k).map sp0) ⟨rfl,rfl⟩ ?_;rintro k hk ⟨s,i⟩ ⟨hi,hs⟩;dsimp only at hi hs;subst hi;subst hs;unfold pFBegin_b1;rcases Nat.lt_or_ge k f.tests.length with hlt|hge
 · refine Tm.pos (by omega) (Tm.step (idx_n hlt) ((pBegin_tm (ho _ (List.getElem_mem hlt))).eq ?_));rw[apnd_ok (by simp;omega) (by decide)];refine Tm.some ⟨hlt,iw_n (by omega),?_⟩;show _=(f.tests.take (k+1)).map sp0;rw[←List.take_append_getElem hlt,List.map_append];rfl
 · refine Tm.neg (by omega) (Tm.some ?_);show _=_;rw[List.take_of_length_le (by omega)]
theorem pWords_tm{ts:List TTest}{n m:Nat}(ho:∀t∈ts,okT t=true)(hl:ts.length≤1000)(hn:n≤255)(hm:0<m∧m≤100000):Tm (fun N=>pWords N ts (n:Int) (m:Int)) (·=(wordsOf ts n).take m):=by
 unfold pWords;have e1:(if(n:Int)<0 then some true else some (decide ((m:Int)≤0)))=some false:=by
  rw[if_neg (by omega),decide_eq_false (by omega)]
 rw[e1];simp only[Option.bind_some,Bool.false_eq_true,if_false];refine(pFBegin_tm (f:=TFinder.mk ts (m:Int) [] []) ho hl).eq ?_;have hs:Sts ts (ts.map sp0):=by
  refine⟨by simp,fun q hq=>?_⟩;obtain⟨i,hi,rfl⟩:=List.getElem_of_mem hq;have hi':i<ts.length:=by rw[List.length_zip]at hi;omega
  rw[List.getElem_zip,List.getElem_map];exact st0_ok (ho _ (List.getElem_mem hi'))
 refine(pFind_tm ho hl n (TFinder.mk ts (m:Int) [] []) (ts.map sp0) [] rfl hs hn (by simp;omega) ⟨m,rfl,hm.2,hm.1⟩ (fun k hk=>by cases hk)).bind fun r hr=>Tm.some ?_;rw[hr.1,Int.toNat_natCast,List.nil_append];rfl
open Go Go.X
inductive Cn (p:TProb):Nat→Nat→Prop
 |refl (a:Nat):Cn p a a
 |edge {e:Arr2Int}:e∈p.Same→Cn p e.e0.toNat e.e1.toNat
 |symm {a b:Nat}:Cn p a b→Cn p b a
 |trans {a b c:Nat}:Cn p a b→Cn p b c→Cn p a c
structure Lb (p:TProb)(L:List Int):Prop where
 len:L.length=p.Min.length
 ok:∀v,v<p.Min.length→∃k:Nat,L[v]?=some (k:Int)∧k≤v∧Cn p v k
def Fx(p:TProb)(L:List Int):Prop:=∀e∈p.Same,L[e.e0.toNat]?=L[e.e1.toNat]?
section
variable {p:TProb} {L L':List Int}
theorem Fx.cn(h:Fx p L){a b:Nat}(hc:Cn p a b):L[a]?=L[b]?:=by
 induction hc with
 |refl a=>rfl
 |edge he=>exact h _ he
 |symm _ ih=>exact ih.symm
 |trans _ _ i1 i2=>exact i1.trans i2
theorem Lb.le(h:Lb p L)(h':Lb p L')(hf:Fx p L){v k k':Nat}(hv:v<p.Min.length)(e:L[v]?=some (k:Int))(e':L'[v]?=some (k':Int)):k≤k':=by
 obtain⟨q,g1,g2,g3⟩:=h'.ok v hv;rw[e']at g1;have:k'=q:=by have:=Option.some.inj g1;omega
 subst this;obtain⟨q2,f1,f2,f3⟩:=h.ok k' (by omega);rw[←hf.cn g3,e]at f1;have:=Option.some.inj f1;omega
theorem Lb.uniq(h:Lb p L)(h':Lb p L')(hf:Fx p L)(hf':Fx p L'):L=L':=by
 apply List.ext_getElem?;intro v;by_cases hv:v<p.Min.length
 · obtain⟨k,e,_,_⟩:=h.ok v hv;obtain⟨k',e',_,_⟩:=h'.ok v hv;have h1:=h.le h' hf hv e e';have h2:=h'.le h hf' hv e' e;rw[e,e'];congr 2;omega
 · rw[List.getElem?_eq_none (by rw[h.len];omega),List.getElem?_eq_none (by rw[h'.len];omega)]
theorem imin_n{x y:Nat}:imin (x:Int) (y:Int)=((min x y:Nat):Int):=by
 unfold imin;by_cases h:y<x
 · rw[if_pos (by omega),Nat.min_eq_right (by omega)]
 · rw[if_neg (by omega),Nat.min_eq_left (by omega)]
theorem Lb.step(h:Lb p L){e:Arr2Int}(he:e∈p.Same){x y:Nat}(h0:e.e0.toNat<p.Min.length)(h1:e.e1.toNat<p.Min.length)(hx:L[e.e0.toNat]?=some (x:Int))(hy:L[e.e1.toNat]?=some (y:Int)):
 Lb p ((L.set e.e0.toNat ((min x y:Nat):Int)).set e.e1.toNat ((min x y:Nat):Int)):=by
 refine⟨by rw[List.length_set,List.length_set];exact h.len,fun v hv=>?_⟩;have hl:=h.len;obtain⟨x',gx,hxl,hxc⟩:=h.ok _ h0;obtain⟨y',gy,hyl,hyc⟩:=h.ok _ h1;rw[hx]at gx;rw[hy]at gy;have ex:x=x':=by have:=Option.some.inj gx;omega
 have ey:y=y':=by have:=Option.some.inj gy;omega
 subst ex;subst ey;have hab:Cn p e.e0.toNat e.e1.toNat:=.edge he;have ha:Cn p e.e0.toNat (min x y):=by
  rcases Nat.le_total x y with g|g
  · rw[Nat.min_eq_left g];exact hxc
  · rw[Nat.min_eq_right g];exact hab.trans hyc
 have hb:Cn p e.e1.toNat (min x y):=hab.symm.trans ha;rw[List.getElem?_set];by_cases g1:e.e1.toNat=v
 · rw[if_pos g1,if_pos (by rw[List.length_set];omega)];exact⟨min x y,rfl,by omega,g1▸hb⟩
 · rw[if_neg g1,List.getElem?_set];by_cases g0:e.e0.toNat=v
   · rw[if_pos g0,if_pos (by omega)];exact⟨min x y,rfl,by omega,g0▸ha⟩
   · rw[if_neg g0];exact h.ok v hv
def tot:List Int→Int
 |[]=>0
 |x::l=>x+tot l
theorem tot_set:∀{l:List Int} {i:Nat} {x y:Int},l[i]?=some x→tot (l.set i y)+x=tot l+y
 |[],i,x,y,h=>by simp at h
 |z::l,0,x,y,h=>by
  simp only[List.getElem?_cons_zero,Option.some.injEq]at h;subst h;simp only[List.set_cons_zero,tot];omega
 |z::l,i+1,x,y,h=>by
  have:=tot_set (l:=l) (i:=i) (x:=x) (y:=y) (by simpa using h);simp only[List.set_cons_succ,tot];omega
theorem tot_nonneg:∀{l:List Int},(∀x∈l,0≤x)→0≤tot l
 |[],_=>Int.le_refl _
 |x::l,h=>by
  have:=tot_nonneg (l:=l) fun y hy=>h y (List.mem_cons_of_mem _ hy);have:=h x List.mem_cons_self;simp only[tot];omega
theorem Lb.nn(h:Lb p L):∀x∈L,0≤x:=by
 intro x hx;obtain⟨i,hi,rfl⟩:=List.getElem_of_mem hx;obtain⟨k,e,_,_⟩:=h.ok i (by rw[←h.len];exact hi);rw[List.getElem?_eq_getElem hi]at e;have:=Option.some.inj e;omega
theorem lb_ids(h:L.length=p.Min.length)(hi:∀v,v<p.Min.length→L[v]?=some (v:Int)):Lb p L:=⟨h,fun v hv=>⟨v,hi v hv,Nat.le_refl _,.refl v⟩⟩
theorem tclasses_b1_tm{m:Nat}(hm:m≤200){x8:List Int}(h8:x8.length=m):Tm (fun N=>loopM (tclasses_b1 N x8) N (x8,0)) (fun L=>L.length=m∧∀v,v<m→L[v]?=some (v:Int)):=by
 refine Tm.up m (fun k s=>s.2=(k:Int)∧s.1.length=m∧∀v,v<k→s.1[v]?=some (v:Int)) ⟨rfl,h8,fun v hv=>by omega⟩ ?_;rintro k hk ⟨s,i⟩ ⟨hi,hsl,hsv⟩;dsimp only at hi hsl hsv;subst hi;unfold tclasses_b1;rcases Nat.lt_or_ge k m with hlt|hge
 · refine Tm.pos (by omega) (Tm.step (idx_n (by omega)) ?_);rw[upd1_i (n:=k) rfl (by omega)];refine Tm.some ⟨hlt,iw_n (by omega),by rw[List.length_set];exact hsl,fun v hv=>?_⟩;rw[List.getElem?_set];by_cases e:k=v
   · subst e;rw[if_pos rfl,if_pos (by omega)]
   · rw[if_neg e];exact hsv v (by omega)
 · refine Tm.neg (by omega) (Tm.some ⟨hsl,fun v hv=>hsv v (by omega)⟩)
theorem same_get(hp:OkP p){k:Nat}(hk:k<p.Same.length):∃a b:Nat,p.Same[k].e0=(a:Int)∧p.Same[k].e1=(b:Int)∧a<p.Min.length∧b<p.Min.length:=by
 obtain⟨h1,h2⟩:=hp.sm _ (List.getElem_mem hk);obtain⟨a,e1,ha⟩:=var_n h1;obtain⟨b,e2,hb⟩:=var_n h2;exact⟨a,b,e1,e2,ha,hb⟩
theorem tclasses_b3_tm(hp:OkP p)(hs:p.Same.length≤1000)(h:Lb p L):Tm (fun N=>loopM (tclasses_b3 N p) N (L,false,0)) (fun r=>Lb p r.1∧(r.2=true→tot r.1<tot L)∧(r.2=false→r.1=L∧Fx p L)):=by
 refine Tm.up p.Same.length (fun k s=>s.2.2=(k:Int)∧Lb p s.1∧(s.2.1=true→tot s.1<tot L)∧(s.2.1=false→s.1=L∧∀j (hj:j<p.Same.length),j<k→L[p.Same[j].e0.toNat]?=L[p.Same[j].e1.toNat]?)) ⟨rfl,h,fun e=>by simp at e,fun _=>⟨rfl,fun j _ hj=>by omega⟩⟩ ?_;rintro k hk ⟨s,ch,i⟩ ⟨hi,hL,h1,h2⟩;dsimp only at hi hL h1 h2;subst hi;unfold tclasses_b3;dsimp only;rcases Nat.lt_or_ge k p.Same.length with hlt|hge
 · obtain⟨a,b,ea,eb,ha,hb⟩:=same_get hp hlt;have hl:=hL.len;obtain⟨x,ex,hx,_⟩:=hL.ok a ha;obtain⟨y,ey,hy,_⟩:=hL.ok b hb;have ea':p.Same[k].e0.toNat=a:=by omega
   have eb':p.Same[k].e1.toNat=b:=by omega
   refine Tm.pos (by omega) (Tm.step (idx_n hlt) ?_);rw[ea,eb];refine Tm.step (idx_get ex) (Tm.step (idx_get ey) ?_);by_cases hxy:(x:Int)≠y
   · refine Tm.pos hxy (Tm.step (idx_get ex) ?_);rw[imin_n,upd1_i (n:=a) rfl (by omega)];simp only[Option.bind_some];refine Tm.step (idx_n (by rw[List.length_set];omega)) ?_;rw[upd1_i (n:=b) rfl (by rw[List.length_set];omega)];have hst:=hL.step (List.getElem_mem hlt) (x:=x) (y:=y) (by rw[ea'];exact ha) (by rw[eb'];exact hb) (by rw[ea'];exact ex) (by rw[eb'];exact ey);rw[ea',eb']at hst;refine Tm.some ⟨hlt,iw_n (by omega),hst,fun _=>?_,fun e=>by simp at e⟩;have hab:a≠b:=by
      rintro rfl;rw[ex]at ey;exact hxy (Option.some.inj ey)
     have t1:=tot_set (y:=((min x y:Nat):Int)) ex;have t2:=tot_set (l:=s.set a ((min x y:Nat):Int)) (i:=b) (x:=(y:Int)) (y:=((min x y:Nat):Int)) (by rw[List.getElem?_set_ne hab];exact ey);show tot ((s.set a ((min x y:Nat):Int)).set b ((min x y:Nat):Int))<tot L;have:tot ((s.set a ((min x y:Nat):Int)).set b ((min x y:Nat):Int))<tot s:=by omega
     cases ch with
     |true=>have:=h1 rfl;omega
     |false=>rw[(h2 rfl).1]at this⊢;exact this
   · refine Tm.neg hxy (Tm.some ⟨hlt,iw_n (by omega),hL,h1,fun e=>?_⟩);obtain⟨g1,g2⟩:=h2 e;refine⟨g1,fun j hj hjk=>?_⟩;by_cases ejk:j=k
     · subst ejk;rw[ea',eb',←g1];show s[a]?=s[b]?;rw[ex,ey];exact congrArg some (Classical.not_not.1 hxy)
     · exact g2 j hj (by omega)
 · refine Tm.neg (by omega) (Tm.some ⟨hL,h1,fun e=>?_⟩);obtain⟨g1,g2⟩:=h2 e;refine⟨g1,fun e he=>?_⟩;obtain⟨j,hj,rfl⟩:=List.getElem_of_mem he;exact g2 j hj (by omega)
theorem tclasses_b2_tm(hp:OkP p)(hs:p.Same.length≤1000)(h:Lb p L):Tm (fun N=>loopM (tclasses_b2 N p) N (L,true)) (fun r=>Lb p r∧Fx p r):=by
 refine Tm.loopG (fun(m:Nat) s=>Lb p s.1∧(s.2=false→Fx p s.1)∧m=2*(tot s.1).toNat+(if s.2 then 1 else 0)) (fun m=>m) _ ⟨h,fun e=>by simp at e,rfl⟩ ?_;rintro m ⟨s,ch⟩ ⟨hL,hF,hm⟩;dsimp only at hL hF hm;unfold tclasses_b2;dsimp only;cases ch with
 |true=>
  refine Tm.pos rfl ((tclasses_b3_tm hp hs hL).bind fun r hr=>?_);obtain⟨r,c⟩:=r;obtain⟨h1,h2,h3⟩:=hr;refine Tm.some ⟨_,⟨h1,fun e=>?_,rfl⟩,?_⟩
  · have:=h3 e;dsimp only at this⊢;rw[this.1];exact this.2
  · subst hm;have n1:=tot_nonneg h1.nn;have n2:=tot_nonneg hL.nn;dsimp only at n1 h2 h3⊢;cases c with
    |true=>have:=h2 rfl;simp;omega
    |false=>rw[(h3 rfl).1];simp
 |false=>exact Tm.neg (by simp) (Tm.some ⟨hL,hF rfl⟩)
def isL(L:List Int)(v:Nat):Bool:=decide (L[v]?=some (v:Int))
def rk(L:List Int)(k:Nat):Nat:=((List.range k).filter (isL L)).length
theorem rk_succ{k:Nat}:rk L (k+1)=rk L k+(if isL L k then 1 else 0):=by
 unfold rk;rw[List.range_succ,List.filter_append,List.length_append];cases h:isL L k<;>simp[h]
theorem rk_le{k:Nat}:rk L k≤k:=by
 unfold rk;have:=List.length_filter_le (isL L) (List.range k);simpa using this
def numOf(L:List Int):List Int:=L.map fun k=>((rk L k.toNat:Nat):Int)
theorem numOf_get{v:Nat}:(numOf L)[v]?=(L[v]?).map fun k=>((rk L k.toNat:Nat):Int):=by simp[numOf]
theorem Lb.leads(h:Lb p L)(hf:Fx p L){v k:Nat}(hv:v<p.Min.length)(e:L[v]?=some (k:Int)):L[k]?=some (k:Int)∧k≤v:=by
 obtain⟨q,g1,g2,g3⟩:=h.ok v hv;rw[e]at g1;have:k=q:=by have:=Option.some.inj g1;omega
 subst this;exact⟨(hf.cn g3).symm.trans e,g2⟩
theorem tclasses_b4_tm(hp:OkP p)(h:Lb p L)(hf:Fx p L):Tm (fun N=>loopM (tclasses_b4 N L) N (List.replicate L.length 0,0,0)) (fun r=>r.1=numOf L∧r.2=((rk L L.length:Nat):Int)):=by
 have hle:=hp.le;have hlen:=h.len;refine Tm.up L.length (fun k s=>s.2.2=(k:Int)∧s.2.1=((rk L k:Nat):Int)∧s.1.length=L.length∧∀v,v<k→s.1[v]?=(numOf L)[v]?) ⟨rfl,rfl,by simp,fun v hv=>by omega⟩ ?_;rintro k hk ⟨s,n,i⟩ ⟨hi,hn,hsl,hsv⟩;dsimp only at hi hn hsl hsv;subst hi;subst hn;unfold tclasses_b4;dsimp only;rcases Nat.lt_or_ge k L.length with hlt|hge
 · obtain⟨q,eq,hq,_⟩:=h.ok k (by omega);refine Tm.pos (by omega) (Tm.step (idx_get eq) ?_);have hrk:=rk_le (L:=L) (k:=k);by_cases hqk:(q:Int)=(k:Int)
   · have e1:isL L k=true:=decide_eq_true (by rw[eq,hqk]);refine Tm.pos hqk (Tm.step (idx_n (by omega)) ?_);rw[upd1_i (n:=k) rfl (by omega)];refine Tm.some ⟨hlt,iw_n (by omega),?_,by rw[List.length_set];exact hsl,fun v hv=>?_⟩
     · show iw ((rk L k:Int)+1)=_;rw[rk_succ,e1,iw_n (by omega)];rfl
     · rw[List.getElem?_set];by_cases e:k=v
       · subst e;rw[if_pos rfl,if_pos (by omega),numOf_get,eq,hqk];rfl
       · rw[if_neg e];exact hsv v (by omega)
   · have e1:isL L k=false:=decide_eq_false (by rw[eq];intro hh;exact hqk (Option.some.inj hh));obtain⟨g1,g2⟩:=h.leads hf (by omega) eq;have hqk':q<k:=by omega
     refine Tm.neg hqk ?_;have e2:s[q]?=some ((rk L q:Nat):Int):=by rw[hsv q hqk',numOf_get,g1];rfl
     refine Tm.step (idx_get e2) (Tm.step (idx_n (by omega)) ?_);rw[upd1_i (n:=k) rfl (by omega)];refine Tm.some ⟨hlt,iw_n (by omega),?_,by rw[List.length_set];exact hsl,fun v hv=>?_⟩
     · show((rk L k:Nat):Int)=_;rw[rk_succ,e1];rfl
     · rw[List.getElem?_set];by_cases e:k=v
       · subst e;rw[if_pos rfl,if_pos (by omega),numOf_get,eq];rfl
       · rw[if_neg e];exact hsv v (by omega)
 · have hk':k=L.length:=by omega
   subst hk';refine Tm.neg (by omega) (Tm.some ⟨?_,rfl⟩);show s=numOf L;apply List.ext_getElem?;intro v;by_cases hv:v<L.length
   · exact hsv v hv
   · rw[List.getElem?_eq_none (by omega),List.getElem?_eq_none (by simp[numOf];omega)]
theorem tclasses_tm(hp:OkP p)(hs:p.Same.length≤1000):Tm (fun N=>tclasses N p) (fun r=>∃L,Lb p L∧Fx p L∧r.1=numOf L∧r.2=((rk L L.length:Nat):Int)):=by
 have hle:=hp.le;unfold tclasses;rw[mk1_ok (n:=p.Min.length) rfl (by omega) (by decide)];simp only[Option.bind_some];refine(tclasses_b1_tm (m:=p.Min.length) (by omega) (by simp)).bind fun L0 h0=>?_;refine(tclasses_b2_tm hp hs (lb_ids h0.1 h0.2)).bind fun L hL=>?_;have hl:=hL.1.len;rw[mk1_ok (n:=L.length) rfl (by omega) (by decide)];simp only[Option.bind_some];refine(tclasses_b4_tm hp hL.1 hL.2).bind fun r hr=>?_;obtain⟨a,b⟩:=r;exact Tm.some ⟨L,hL.1,hL.2,hr.1,hr.2⟩
theorem lab_ex(hp:OkP p)(hs:p.Same.length≤1000):∃L,Lb p L∧Fx p L:=by
 obtain⟨_,_,_,L,h1,h2,_⟩:=(tclasses_tm hp hs).get;exact⟨L,h1,h2⟩
end
open Go Go.X
section
variable {p:TProb} {L:List Int}
theorem rk_range:∀n,((List.range n).filter (isL L)).map (rk L)=List.range (rk L n)
 |0=>rfl
 |n+1=>by
  rw[List.range_succ,List.filter_append,List.map_append,rk_range n,rk_succ];cases h:isL L n with
  |true=>simp[h,List.range_succ]
  |false=>simp[h]
def cls(L:List Int)(v:Nat):Nat:=rk L (L.getD v 0).toNat
theorem cls_of{v k:Nat}(e:L[v]?=some (k:Int)):cls L v=rk L k:=by
 unfold cls;rw[List.getD_eq_getElem?_getD,e];rfl
theorem num_get(h:Lb p L){v:Nat}(hv:v<p.Min.length):(numOf L)[v]?=some ((cls L v:Nat):Int):=by
 obtain⟨k,e,_,_⟩:=h.ok v hv;rw[numOf_get,e,cls_of e];rfl
theorem num_len:(numOf L).length=L.length:=by simp[numOf]
theorem rk_mono{a b:Nat}(h:a≤b):rk L a≤rk L b:=by
 induction h with
 |refl=>exact Nat.le_refl _
 |step _ ih=>rw[rk_succ];omega
theorem rk_lt{a b:Nat}(ha:isL L a=true)(h:a<b):rk L a<rk L b:=by
 have h1:=rk_mono (L:=L) (show a+1≤b from h);rw[rk_succ,ha]at h1;simp at h1;omega
theorem cls_lt(h:Lb p L)(hf:Fx p L){v:Nat}(hv:v<p.Min.length):cls L v<rk L L.length:=by
 obtain⟨k,e,hk,_⟩:=h.ok v hv;rw[cls_of e];exact rk_lt (decide_eq_true (h.leads hf hv e).1) (by rw[h.len];omega)
theorem cls_eq(h:Lb p L)(hf:Fx p L){v i:Nat}(hv:v<p.Min.length)(hi:isL L i=true):cls L v=rk L i↔L[v]?=some (i:Int):=by
 obtain⟨k,e,hk,_⟩:=h.ok v hv;have hl:isL L k=true:=decide_eq_true (h.leads hf hv e).1;rw[cls_of e,e];constructor
 · intro g;rcases Nat.lt_trichotomy k i with g1|g1|g1
   · have:=rk_lt (L:=L) hl g1;omega
   · rw[g1]
   · have:=rk_lt (L:=L) hi g1;omega
 · intro g;have:=Option.some.inj g;rw[show k=i by omega]
theorem cls_cn(hf:Fx p L){a b:Nat}(hc:Cn p a b):cls L a=cls L b:=by
 unfold cls;rw[List.getD_eq_getElem?_getD,List.getD_eq_getElem?_getD,hf.cn hc]
theorem cn_cls(h:Lb p L)(hf:Fx p L){a b:Nat}(ha:a<p.Min.length)(hb:b<p.Min.length)(e:cls L a=cls L b):Cn p a b:=by
 obtain⟨k,ek,_,ck⟩:=h.ok b hb;have hl:isL L k=true:=decide_eq_true (h.leads hf hb ek).1;rw[cls_of ek,cls_eq h hf ha hl]at e;obtain⟨k',ek',_,ck'⟩:=h.ok a ha;rw[ek']at e;have:k'=k:=by have:=Option.some.inj e;omega
 subst this;exact ck'.trans ck.symm
theorem cls_surj(h:Lb p L){k:Nat}(hk:k<rk L L.length):∃v,v<p.Min.length∧cls L v=k:=by
 have h1:k∈((List.range L.length).filter (isL L)).map (rk L):=by rw[rk_range];exact List.mem_range.2 hk
 obtain⟨i,hi,rfl⟩:=List.mem_map.1 h1;obtain⟨h2,h3⟩:=List.mem_filter.1 hi;exact⟨i,by rw[←h.len];exact List.mem_range.1 h2,cls_of (of_decide_eq_true h3)⟩
def fl(P:Nat→Bool)(n:Nat):List Int:=((List.range n).filter P).map fun(v:Nat)=>(v:Int)
theorem fl_succ{P:Nat→Bool}{n:Nat}:fl P (n+1)=fl P n++(if P n then[(n:Int)]else[]):=by
 unfold fl;rw[List.range_succ,List.filter_append,List.map_append];cases h:P n<;>simp[h]
theorem fl_len{P:Nat→Bool}{n:Nat}:(fl P n).length≤n:=by
 unfold fl;rw[List.length_map];have:=List.length_filter_le P (List.range n);simpa using this
theorem fl_mem{P:Nat→Bool}{n:Nat}{x:Int}:x∈fl P n↔∃v:Nat,x=(v:Int)∧v<n∧P v=true:=by
 unfold fl;simp only[List.mem_map,List.mem_filter,List.mem_range];constructor
 · rintro⟨v,⟨h1,h2⟩,rfl⟩;exact⟨v,rfl,h1,h2⟩
 · rintro⟨v,rfl,h1,h2⟩;exact⟨v,⟨h1,h2⟩,rfl⟩
def memb(L:List Int)(k:Nat):List Int:=fl (fun v=>decide (cls L v=k)) L.length
def classesOf(L:List Int):List (List Int):=(List.range (rk L L.length)).map (memb L)
theorem rk_le':rk L L.length≤L.length:=rk_le
theorem filter_le{α:Type}{P Q:α→Bool}:∀{l:List α},(∀x∈l,P x=true→Q x=true)→(l.filter P).length≤(l.filter Q).length
 |[],_=>Nat.le_refl _
 |x::l,h=>by
  have ih:=filter_le (l:=l) fun y hy=>h y (List.mem_cons_of_mem _ hy);have hx:=h x List.mem_cons_self;cases hP:P x<;>cases hQ:Q x<;>simp[List.filter_cons,hP,hQ]<;>first|omega|(rw[hP,hQ]at hx;simp at hx)
theorem filter_lt{α:Type}{P Q:α→Bool}:∀{l:List α},(∀x∈l,P x=true→Q x=true)→(∃x∈l,Q x=true∧P x=false)→(l.filter P).length<(l.filter Q).length
 |[],_,h=>by obtain⟨x,hx,_⟩:=h;cases hx
 |x::l,h,h'=>by
  have hl:∀y∈l,P y=true→Q y=true:=fun y hy=>h y (List.mem_cons_of_mem _ hy);have hx:=h x List.mem_cons_self;obtain⟨y,hy,h1,h2⟩:=h';rcases List.mem_cons.1 hy with rfl|hy
  · have:=filter_le hl;simp[List.filter_cons,h1,h2];omega
  · have ih:=filter_lt hl ⟨y,hy,h1,h2⟩;cases hP:P x<;>cases hQ:Q x<;>simp[List.filter_cons,hP,hQ]<;>first|omega|(rw[hP,hQ]at hx;simp at hx)
def bad(L s:List Int)(n:Nat):Nat:=((List.range n).filter fun v=>decide (s[v]?≠L[v]?)).length
structure Rnd (p:TProb)(L s s':List Int):Prop where
 lb:Lb p s'
 keep:∀v:Nat,s[v]?=L[v]?→s'[v]?=L[v]?
 edge:∀e∈p.Same,(s[e.e0.toNat]?=L[e.e0.toNat]?∨s[e.e1.toNat]?=L[e.e1.toNat]?)→s'[e.e0.toNat]?=L[e.e0.toNat]?∧s'[e.e1.toNat]?=L[e.e1.toNat]?
theorem rnd_bad(h:Lb p L)(hf:Fx p L)(hp:OkP p){s s':List Int}(hs:Lb p s)(hr:Rnd p L s s'):bad L s' p.Min.length≤bad L s p.Min.length∧(0<bad L s p.Min.length→bad L s' p.Min.length<bad L s p.Min.length):=by
 have key:∀v∈List.range p.Min.length,decide (s'[v]?≠L[v]?)=true→decide (s[v]?≠L[v]?)=true:=fun v _ g=>by
  have g:=of_decide_eq_true g;exact decide_eq_true fun e=>g (hr.keep v e)
 refine⟨filter_le key,fun hb=>filter_lt key ?_⟩;apply Classical.byContradiction;intro hno;have hed:∀e∈p.Same,(s[e.e0.toNat]?=L[e.e0.toNat]?↔s[e.e1.toNat]?=L[e.e1.toNat]?):=by
  intro e he;have hk:=hr.edge e he;have h0:e.e0.toNat<p.Min.length:=by have:=(hp.sm e he).1;omega
  have h1:e.e1.toNat<p.Min.length:=by have:=(hp.sm e he).2;omega
  constructor
  · intro g;apply Classical.byContradiction;intro g';exact hno ⟨e.e1.toNat,List.mem_range.2 h1,decide_eq_true g',decide_eq_false fun q=>q (hk (.inl g)).2⟩
  · intro g;apply Classical.byContradiction;intro g';exact hno ⟨e.e0.toNat,List.mem_range.2 h0,decide_eq_true g',decide_eq_false fun q=>q (hk (.inr g)).1⟩
 have hcn:∀{a b:Nat},Cn p a b→(s[a]?=L[a]?↔s[b]?=L[b]?):=by
  intro a b hc
  induction hc with
  |refl a=>exact Iff.rfl
  |edge he=>exact hed _ he
  |symm _ ih=>exact ih.symm
  |trans _ _ i1 i2=>exact i1.trans i2
 have hall:∀v:Nat,v<p.Min.length→s[v]?=L[v]?:=by
  intro v hv;obtain⟨k,e,hk,hc⟩:=h.ok v hv;have hlk:=(h.leads hf hv e).1;obtain⟨q,eq,hq,_⟩:=hs.ok k (by omega);have hle:=h.le hs hf (show k<p.Min.length by omega) hlk eq;refine(hcn hc).2 ?_;rw[eq,hlk,show q=k by omega]
 unfold bad at hb;rw[List.filter_eq_nil_iff.2 fun v hv=>by simp[hall v (List.mem_range.1 hv)]]at hb;simp at hb
end
open Go Go.X
theorem imin_or(a b:Int):(imin a b=a∧a≤b)∨(imin a b=b∧b≤a):=by
 unfold imin;by_cases h:b<a
 · rw[if_pos h];exact .inr ⟨rfl,by omega⟩
 · rw[if_neg h];exact .inl ⟨rfl,by omega⟩
theorem imax_or(a b:Int):(imax a b=a∧b≤a)∨(imax a b=b∧a≤b):=by
 unfold imax;by_cases h:b>a
 · rw[if_pos h];exact .inr ⟨rfl,by omega⟩
 · rw[if_neg h];exact .inl ⟨rfl,by omega⟩
structure ClR (p:TProb)(L:List Int)(i j k:Nat)(c:TClass):Prop where
 lo0:0≤c.low∧c.low≤16
 hi0:0≤c.high∧c.high≤16
 lo1:∀v,v<i→cls L v=k→p.Min.getD v 0≤c.low
 lo2:c.low=0∨∃v,v<i∧cls L v=k∧p.Min.getD v 0=c.low
 hi1:∀v,v<i→cls L v=k→c.high≤p.Max.getD v 0
 hi2:c.high=16∨∃v,v<i∧cls L v=k∧p.Max.getD v 0=c.high
 ts:c.tests=(p.Tests.take j).filter fun t=>decide (cls L t.Var.toNat=k)
 ws:c.words=[]
theorem set_get{α:Type}{l:List α}{a k:Nat}{y:α}(h:a<l.length):(l.set a y)[k]?=if a=k then some y else l[k]?:=by
 rw[List.getElem?_set];by_cases e:a=k
 · rw[if_pos e,if_pos e,if_pos h]
 · rw[if_neg e,if_neg e]
section
variable {p:TProb} {L:List Int}
theorem diff_get(hp:OkP p){k:Nat}(hk:k<p.Different.length):∃a b:Nat,p.Different[k].e0=(a:Int)∧p.Different[k].e1=(b:Int)∧a<p.Min.length∧b<p.Min.length:=by
 obtain⟨h1,h2⟩:=hp.df _ (List.getElem_mem hk);obtain⟨a,e1,ha⟩:=var_n h1;obtain⟨b,e2,hb⟩:=var_n h2;exact⟨a,b,e1,e2,ha,hb⟩
theorem tgathered_b1_tm{m:Nat}(hm:m≤1000){x27:List TClass}(h27:x27=List.replicate m (TClass.mk 0 0 [] [] [])):Tm (fun N=>loopM (tgathered_b1 N x27) N (x27,0)) (fun r=>r.length=m∧∀k,k<m→r[k]?=some (TClass.mk 0 16 [] [] [])):=by
 have hxl:x27.length=m:=by rw[h27];simp
 refine Tm.up m (fun k s=>s.2=(k:Int)∧s.1.length=m∧(∀j,j<k→s.1[j]?=some (TClass.mk 0 16 [] [] []))∧∀j,k≤j→j<m→s.1[j]?=some (TClass.mk 0 0 [] [] [])) ⟨rfl,hxl,fun j hj=>by omega,fun j _ hj=>by subst h27;rw[List.getElem?_replicate,if_pos hj]⟩ ?_;rintro k hk ⟨s,i⟩ ⟨hi,hsl,h1,h2⟩;dsimp only at hi hsl h1 h2;subst hi;unfold tgathered_b1;dsimp only;rcases Nat.lt_or_ge k m with hlt|hge
 · refine Tm.pos (by omega) (Tm.step (idx_get (h2 k (Nat.le_refl _) hlt)) ?_);rw[upd1_i (n:=k) rfl (by omega)];refine Tm.some ⟨hlt,iw_n (by omega),by rw[List.length_set];exact hsl,fun j hj=>?_,fun j hj hj'=>?_⟩
   · show(s.set k _)[j]?=_;rw[set_get (by omega)];by_cases e:k=j
     · rw[if_pos e]
     · rw[if_neg e];exact h1 j (by omega)
   · show(s.set k _)[j]?=_;rw[set_get (by omega),if_neg (by omega)];exact h2 j (by omega) hj'
 · exact Tm.neg (by omega) (Tm.some ⟨hsl,fun k hk=>h1 k (by omega)⟩)
structure Gt (p:TProb)(L:List Int)(i j:Nat)(l:List TClass):Prop where
 len:l.length=rk L L.length
 ok:∀k,k<rk L L.length→∃c,l[k]?=some c∧ClR p L i j k c
theorem tgathered_b2_tm(hp:OkP p)(h:Lb p L)(hf:Fx p L){m:Int}{l:List TClass}(hl:Gt p L 0 0 l)(ha:∀(k:Nat) (c:TClass),l[k]?=some c→c.apart=[]):Tm (fun N=>loopM (tgathered_b2 N p (numOf L,m)) N (l,0)) (fun r=>Gt p L p.Min.length 0 r∧∀(k:Nat) (c:TClass),r[k]?=some c→c.apart=[]):=by
 have hle:=hp.le;have hll:=h.len;refine Tm.up p.Min.length (fun k s=>s.2=(k:Int)∧Gt p L k 0 s.1∧∀(k:Nat) (c:TClass),s.1[k]?=some c→c.apart=[]) ⟨rfl,hl,ha⟩ ?_;rintro v hv ⟨s,i⟩ ⟨hi,hG,hA⟩;dsimp only at hi hG hA;subst hi;unfold tgathered_b2;dsimp only;rcases Nat.lt_or_ge v p.Min.length with hlt|hge
 · have hc:=cls_lt h hf hlt;have hsl:=hG.len;obtain⟨c,ec,hC⟩:=hG.ok _ hc;have hmx:v<p.Max.length:=by rw[hp.len];exact hlt
   have emn:p.Min[v]=p.Min.getD v 0:=(getD_n hlt).symm;have emx:p.Max[v]=p.Max.getD v 0:=(getD_n hmx).symm;have bmn:=hp.mn _ (List.getElem_mem hlt);have bmx:=hp.mx _ (List.getElem_mem hmx);refine Tm.pos (by rw[num_len];omega) (Tm.step (idx_get (num_get h hlt)) (Tm.step (idx_get ec) (Tm.step (idx_n hlt) (Tm.step (idx_get ec) (Tm.step (idx_n hmx) (Tm.step (idx_get ec) ?_))))));rw[upd1_i (n:=cls L v) rfl (by omega)];simp only[Option.bind_some];refine Tm.step (idx_get (by rw[set_get (by omega),if_pos rfl])) ?_;rw[upd1_i (n:=cls L v) rfl (by rw[List.length_set];omega),List.set_set];simp only[Option.bind_some];have hl0:=hC.lo0;have hh0:=hC.hi0;have hmax:=imax_or c.low p.Min[v];have hmin:=imin_or c.high p.Max[v];refine Tm.some ⟨hlt,iw_n (by omega),⟨by rw[List.length_set];exact hsl,fun k hk=>?_⟩,fun k c' e=>?_⟩
   · show∃c',(s.set _ _)[k]?=some c'∧_;rw[set_get (by omega)];by_cases e:cls L v=k
     · rw[if_pos e];subst e;refine⟨_,rfl,⟨by dsimp only;omega,by dsimp only;omega,fun u hu e=>?_,?_,fun u hu e=>?_,?_,hC.ts,hC.ws⟩⟩
       · dsimp only;by_cases euv:u=v
         · subst euv;rw[←emn];omega
         · have:=hC.lo1 u (by omega) e;omega
       · dsimp only;rcases hmax with⟨g,_⟩|⟨g,_⟩
         · rw[g];rcases hC.lo2 with g2|⟨u,hu,g2⟩
           · exact .inl g2
           · exact .inr ⟨u,by omega,g2⟩
         · exact .inr ⟨v,by omega,rfl,by rw[g,emn]⟩
       · dsimp only;by_cases euv:u=v
         · subst euv;rw[←emx];omega
         · have:=hC.hi1 u (by omega) e;omega
       · dsimp only;rcases hmin with⟨g,_⟩|⟨g,_⟩
         · rw[g];rcases hC.hi2 with g2|⟨u,hu,g2⟩
           · exact .inl g2
           · exact .inr ⟨u,by omega,g2⟩
         · exact .inr ⟨v,by omega,rfl,by rw[g,emx]⟩
     · rw[if_neg e];obtain⟨c',ec',hC'⟩:=hG.ok k hk;refine⟨c',ec',⟨hC'.lo0,hC'.hi0,fun u hu g=>?_,?_,fun u hu g=>?_,?_,hC'.ts,hC'.ws⟩⟩
       · by_cases euv:u=v
         · subst euv;exact absurd g e
         · exact hC'.lo1 u (by omega) g
       · rcases hC'.lo2 with g2|⟨u,hu,g2⟩
         · exact .inl g2
         · exact .inr ⟨u,by omega,g2⟩
       · by_cases euv:u=v
         · subst euv;exact absurd g e
         · exact hC'.hi1 u (by omega) g
       · rcases hC'.hi2 with g2|⟨u,hu,g2⟩
         · exact .inl g2
         · exact .inr ⟨u,by omega,g2⟩
   · have e:(s.set (cls L v) _)[k]?=some c':=e;rw[set_get (by omega)]at e;by_cases g:cls L v=k
     · rw[if_pos g]at e;rw[←Option.some.inj e];exact hA _ c ec
     · rw[if_neg g]at e;exact hA k c' e
 · have:v=p.Min.length:=by omega
   subst this;exact Tm.neg (by rw[num_len];omega) (Tm.some ⟨hG,hA⟩)
theorem test_get(hp:OkP p){k:Nat}(hk:k<p.Tests.length):∃a:Nat,p.Tests[k].Var=(a:Int)∧a<p.Min.length:=by
 obtain⟨_,h2⟩:=hp.ts _ (List.getElem_mem hk);obtain⟨a,e1,ha⟩:=var_n h2;exact⟨a,e1,ha⟩
theorem tgathered_b3_tm(hp:OkP p)(h:Lb p L)(hf:Fx p L)(ht:p.Tests.length≤1000){m:Int}{i0:Nat}{l:List TClass}(hl:Gt p L i0 0 l)(ha:∀(k:Nat) (c:TClass),l[k]?=some c→c.apart=[]):Tm (fun N=>loopM (tgathered_b3 N p (numOf L,m)) N (l,0)) (fun r=>Gt p L i0 p.Tests.length r∧∀(k:Nat) (c:TClass),r[k]?=some c→c.apart=[]):=by
 have hle:=hp.le;have hll:=h.len;refine Tm.up p.Tests.length (fun k s=>s.2=(k:Int)∧Gt p L i0 k s.1∧∀(k:Nat) (c:TClass),s.1[k]?=some c→c.apart=[]) ⟨rfl,hl,ha⟩ ?_;rintro j hj ⟨s,i⟩ ⟨hi,hG,hA⟩;dsimp only at hi hG hA;subst hi;unfold tgathered_b3;dsimp only;rcases Nat.lt_or_ge j p.Tests.length with hlt|hge
 · obtain⟨v,ev,hv⟩:=test_get hp hlt;have ev':p.Tests[j].Var.toNat=v:=by omega
   have hc:=cls_lt h hf hv;have hsl:=hG.len;obtain⟨c,ec,hC⟩:=hG.ok _ hc;refine Tm.pos (by omega) (Tm.step (idx_n hlt) ?_);rw[ev];refine Tm.step (idx_get (num_get h hv)) (Tm.step (idx_get ec) (Tm.step (idx_get ec) ?_));have htl:c.tests.length≤j:=by
    rw[hC.ts];have:=List.length_filter_le (fun t=>decide (cls L t.Var.toNat=cls L v)) (p.Tests.take j);rw[List.length_take]at this;omega
   rw[apnd_ok (by simp only[List.length_singleton];omega) (by decide)];simp only[Option.bind_some];refine Tm.step (idx_get ec) ?_;rw[upd1_i (n:=cls L v) rfl (by omega)];have htk:p.Tests.take (j+1)=p.Tests.take j++[p.Tests[j]]:=List.take_succ_eq_append_getElem hlt;refine Tm.some ⟨hlt,iw_n (by omega),⟨by rw[List.length_set];exact hsl,fun k hk=>?_⟩,fun k c' e=>?_⟩
   · show∃c',(s.set _ _)[k]?=some c'∧_;rw[set_get (by omega)];by_cases e:cls L v=k
     · rw[if_pos e];subst e;refine⟨_,rfl,⟨hC.lo0,hC.hi0,hC.lo1,hC.lo2,hC.hi1,hC.hi2,?_,hC.ws⟩⟩;show c.tests++[p.Tests[j]]=_;rw[htk,List.filter_append,←hC.ts];congr 1;simp[ev']
     · rw[if_neg e];obtain⟨c',ec',hC'⟩:=hG.ok k hk;refine⟨c',ec',⟨hC'.lo0,hC'.hi0,hC'.lo1,hC'.lo2,hC'.hi1,hC'.hi2,?_,hC'.ws⟩⟩;rw[htk,List.filter_append,←hC'.ts,List.filter_cons_of_neg (by simp[ev',e]),List.filter_nil,List.append_nil]
   · have e:(s.set (cls L v) _)[k]?=some c':=e;rw[set_get (by omega)]at e;by_cases g:cls L v=k
     · rw[if_pos g]at e;rw[←Option.some.inj e];exact hA _ c ec
     · rw[if_neg g]at e;exact hA k c' e
 · have:j=p.Tests.length:=by omega
   subst this;exact Tm.neg (by omega) (Tm.some ⟨hG,hA⟩)
def Df(p:TProb)(L:List Int)(i:Nat)(a b:Nat):Prop:=∃e∈p.Different.take i,(cls L e.e0.toNat=a∧cls L e.e1.toNat=b)∨(cls L e.e1.toNat=a∧cls L e.e0.toNat=b)
theorem Df.symm{i a b:Nat}(h:Df p L i a b):Df p L i b a:=by
 obtain⟨e,he,h⟩:=h;exact⟨e,he,h.elim (fun h=>.inr ⟨h.2,h.1⟩) (fun h=>.inl ⟨h.2,h.1⟩)⟩
structure Ap (p:TProb)(L:List Int)(i:Nat)(l:List TClass):Prop where
 mem:∀(k:Nat) (c:TClass),l[k]?=some c→∀o,o∈c.apart↔∃q:Nat,o=(q:Int)∧Df p L i k q
 le:∀(k:Nat) (c:TClass),l[k]?=some c→c.apart.length≤i
 ne:∀e∈p.Different.take i,cls L e.e0.toNat≠cls L e.e1.toNat
theorem indexOf_tm{s:List Int}{x:Int}(hn:s.length≤Bg):Tm (fun N=>indexOf N s x) (fun r=>decide (r≥0)=decide (x∈s)):=by
 have hb:Bg=9223372036854775807:=rfl;unfold indexOf;refine(Tm.findL (b:=fun N=>indexOf_b1 N x s) s (fun y=>decide (x=y)) (fun k=>(k:Int)) (by omega) (fun k hk=>?_) ?_).bind fun o ho=>?_
 · unfold indexOf_b1;refine Tm.pos (by omega) (Tm.step (idx_n hk) ?_);by_cases e:x=s[k]
   · rw[if_pos e,decide_eq_true e];exact Tm.some rfl
   · rw[if_neg e,decide_eq_false e];exact Tm.some rfl
 · unfold indexOf_b1;exact Tm.neg (by omega) (Tm.some rfl)
 · rcases ho with⟨h1,rfl⟩|⟨k,hk,h1,_,rfl⟩
   · refine Tm.some ?_;have:x∉s:=fun h=>by
      have:=List.any_eq_false.1 h1 x h;simp at this
     rw[decide_eq_false this];rfl
   · refine Tm.some ?_;have:x∈s:=by
      have e:=of_decide_eq_true h1;rw[e];exact List.getElem_mem hk
     rw[decide_eq_true this];exact decide_eq_true (by omega)
theorem containsOf_tm{s:List Int}{x:Int}(hn:s.length≤Bg):Tm (fun N=>containsOf N s x) (·=decide (x∈s)):=by
 unfold containsOf;exact(indexOf_tm hn).bind fun r hr=>Tm.some hr
theorem tgathered_b4_tm(hp:OkP p)(h:Lb p L)(hf:Fx p L)(hd:p.Different.length≤1000){m:Int}{i0 j0:Nat}{l:List TClass}(hl:Gt p L i0 j0 l)(ha:∀(k:Nat) (c:TClass),l[k]?=some c→c.apart=[]):
 Tm (fun N=>loopM (tgathered_b4 N p (numOf L,m)) N (l,0)) (fun o=>match o with|.inl r=>Gt p L i0 j0 r∧Ap p L p.Different.length r|.inr z=>Gt p L i0 j0 z.1∧z.2.1=numOf L∧z.2.2=false∧∃e∈p.Different,cls L e.e0.toNat=cls L e.e1.toNat):=by
 have hle:=hp.le;have hll:=h.len;have hb:Bg=9223372036854775807:=rfl;refine Tm.up p.Different.length (fun k s=>s.2=(k:Int)∧Gt p L i0 j0 s.1∧Ap p L k s.1) ⟨rfl,hl,⟨fun k c e o=>?_,fun k c e=>by rw[ha k c e];exact Nat.zero_le _,fun e he=>by simp at he⟩⟩ ?_
 · rw[ha k c e];constructor
   · intro g;cases g
   · rintro⟨q,_,e,he,_⟩;simp at he
 rintro j hj ⟨s,i⟩ ⟨hi,hG,hA⟩;dsimp only at hi hG hA;subst hi;unfold tgathered_b4;dsimp only;rcases Nat.lt_or_ge j p.Different.length with hlt|hge
 · obtain⟨a,b,ea,eb,hav,hbv⟩:=diff_get hp hlt;have ea':p.Different[j].e0.toNat=a:=by omega
   have eb':p.Different[j].e1.toNat=b:=by omega
   have hca:=cls_lt h hf hav;have hcb:=cls_lt h hf hbv;have hsl:=hG.len;obtain⟨c,ec,hC⟩:=hG.ok _ hca;obtain⟨d,ed,hD⟩:=hG.ok _ hcb;have htk:p.Different.take (j+1)=p.Different.take j++[p.Different[j]]:=List.take_succ_eq_append_getElem hlt;have hDf:∀x y,Df p L (j+1) x y↔Df p L j x y∨(cls L a=x∧cls L b=y)∨(cls L b=x∧cls L a=y):=by
    intro x y;unfold Df;rw[htk];constructor
    · rintro⟨e,he,g⟩;rcases List.mem_append.1 he with he|he
      · exact .inl ⟨e,he,g⟩
      · rw[List.mem_singleton.1 he,ea',eb']at g;exact .inr g
    · rintro(⟨e,he,g⟩|g)
      · exact⟨e,List.mem_append_left _ he,g⟩
      · exact⟨_,List.mem_append_right _ (List.mem_singleton.2 rfl),by rw[ea',eb'];exact g⟩
   refine Tm.pos (by omega) (Tm.step (idx_n hlt) ?_);rw[ea,eb];refine Tm.step (idx_get (num_get h hav)) (Tm.step (idx_get (num_get h hbv)) ?_);by_cases hab:cls L a=cls L b
   · refine Tm.pos (by rw[hab]) (Tm.some ⟨hG,rfl,rfl,_,List.getElem_mem hlt,by rw[ea',eb'];exact hab⟩)
   · have hne:∀e∈p.Different.take (j+1),cls L e.e0.toNat≠cls L e.e1.toNat:=by
      intro e he;rw[htk]at he;rcases List.mem_append.1 he with he|he
      · exact hA.ne e he
      · rw[List.mem_singleton.1 he,ea',eb'];exact hab
     have lc:=hA.le _ _ ec;have ld:=hA.le _ _ ed;refine Tm.neg (by omega) (Tm.step (idx_get ec) (Tm.step (idx_get ec) ((containsOf_tm (by omega)).eq ?_)));by_cases hin:((cls L b:Nat):Int)∈c.apart
     · rw[decide_eq_true hin];refine Tm.neg (by simp) (Tm.some ⟨hlt,iw_n (by omega),hG,⟨fun k c' e o=>?_,fun k c' e=>by have:=hA.le k c' e;omega,hne⟩⟩);obtain⟨q,eq,hq⟩:=(hA.mem _ _ ec _).1 hin;have eq':cls L b=q:=by omega
       rw[hA.mem k c' e o];constructor
       · rintro⟨q,e1,e2⟩;exact⟨q,e1,(hDf _ _).2 (.inl e2)⟩
       · rintro⟨q',e1,e2⟩;rcases(hDf _ _).1 e2 with g|⟨g1,g2⟩|⟨g1,g2⟩
         · exact⟨q',e1,g⟩
         · refine⟨q',e1,?_⟩;rw[←g1,←g2,eq'];exact hq
         · refine⟨q',e1,?_⟩;rw[←g1,←g2,eq'];exact hq.symm
     · rw[decide_eq_false hin];refine Tm.pos (by simp) (Tm.step (idx_get ec) (Tm.step (idx_get ed) (Tm.step (idx_get ec) ?_)));rw[apnd_ok (by simp only[List.length_singleton];omega) (by decide)];simp only[Option.bind_some];refine Tm.step (idx_get ed) ?_;rw[apnd_ok (by simp only[List.length_singleton];omega) (by decide)];simp only[Option.bind_some];refine Tm.step (idx_get ec) ?_;rw[upd1_i (n:=cls L a) rfl (by omega)];simp only[Option.bind_some];refine Tm.step (idx_get (by rw[set_get (by omega),if_neg hab];exact ed)) ?_;rw[upd1_i (n:=cls L b) rfl (by rw[List.length_set];omega)];have hget:∀k,((s.set (cls L a) (TClass.mk c.low c.high c.tests c.words (c.apart++[((cls L b:Nat):Int)]))).set (cls L b) (TClass.mk d.low d.high d.tests d.words (d.apart++[((cls L a:Nat):Int)])))[k]?=if cls L b=k then some (TClass.mk d.low d.high d.tests d.words (d.apart++[((cls L a:Nat):Int)]))else if cls L a=k then some (TClass.mk c.low c.high c.tests c.words (c.apart++[((cls L b:Nat):Int)]))else s[k]?:=by
        intro k;rw[set_get (by rw[List.length_set];omega),set_get (by omega)]
       refine Tm.some ⟨hlt,iw_n (by omega),⟨by rw[List.length_set,List.length_set];exact hsl,fun k hk=>?_⟩,⟨fun k c' e o=>?_,fun k c' e=>?_,hne⟩⟩
       · show∃c',(List.set _ _ _)[k]?=some c'∧_;rw[hget];by_cases e1:cls L b=k
         · rw[if_pos e1];subst e1;exact⟨_,rfl,⟨hD.lo0,hD.hi0,hD.lo1,hD.lo2,hD.hi1,hD.hi2,hD.ts,hD.ws⟩⟩
         · rw[if_neg e1];by_cases e2:cls L a=k
           · rw[if_pos e2];subst e2;exact⟨_,rfl,⟨hC.lo0,hC.hi0,hC.lo1,hC.lo2,hC.hi1,hC.hi2,hC.ts,hC.ws⟩⟩
           · rw[if_neg e2];exact hG.ok k hk
       · have e:(List.set _ _ _)[k]?=some c':=e;rw[hget]at e;by_cases e1:cls L b=k
         · rw[if_pos e1]at e;rw[←Option.some.inj e];subst e1;show o∈d.apart++[_]↔_;rw[List.mem_append,hA.mem _ _ ed o,List.mem_singleton];constructor
           · rintro(⟨q,g1,g2⟩|g)
             · exact⟨q,g1,(hDf _ _).2 (.inl g2)⟩
             · exact⟨cls L a,g,(hDf _ _).2 (.inr (.inr ⟨rfl,rfl⟩))⟩
           · rintro⟨q,g1,g2⟩;rcases(hDf _ _).1 g2 with g|⟨g3,g4⟩|⟨g3,g4⟩
             · exact .inl ⟨q,g1,g⟩
             · exact absurd g3 hab
             · exact .inr (by rw[g1,←g4])
         · rw[if_neg e1]at e;by_cases e2:cls L a=k
           · rw[if_pos e2]at e;rw[←Option.some.inj e];subst e2;show o∈c.apart++[_]↔_;rw[List.mem_append,hA.mem _ _ ec o,List.mem_singleton];constructor
             · rintro(⟨q,g1,g2⟩|g)
               · exact⟨q,g1,(hDf _ _).2 (.inl g2)⟩
               · exact⟨cls L b,g,(hDf _ _).2 (.inr (.inl ⟨rfl,rfl⟩))⟩
             · rintro⟨q,g1,g2⟩;rcases(hDf _ _).1 g2 with g|⟨g3,g4⟩|⟨g3,g4⟩
               · exact .inl ⟨q,g1,g⟩
               · exact .inr (by rw[g1,←g4])
               · exact absurd g3 e1
           · rw[if_neg e2]at e;rw[hA.mem k c' e o];constructor
             · rintro⟨q,g1,g2⟩;exact⟨q,g1,(hDf _ _).2 (.inl g2)⟩
             · rintro⟨q,g1,g2⟩;rcases(hDf _ _).1 g2 with g|⟨g3,g4⟩|⟨g3,g4⟩
               · exact⟨q,g1,g⟩
               · exact absurd g3 e2
               · exact absurd g3 e1
       · have e:(List.set _ _ _)[k]?=some c':=e;rw[hget]at e;by_cases e1:cls L b=k
         · rw[if_pos e1]at e;rw[←Option.some.inj e];show(d.apart++[_]).length≤_;rw[List.length_append,List.length_singleton];omega
         · rw[if_neg e1]at e;by_cases e2:cls L a=k
           · rw[if_pos e2]at e;rw[←Option.some.inj e];show(c.apart++[_]).length≤_;rw[List.length_append,List.length_singleton];omega
           · rw[if_neg e2]at e;have:=hA.le k c' e;omega
 · have:j=p.Different.length:=by omega
   subst this;exact Tm.neg (by omega) (Tm.some ⟨hG,hA⟩)
abbrev Gat(p:TProb)(L:List Int)(l:List TClass):Prop:=Gt p L p.Min.length p.Tests.length l
theorem tgathered_tm(hp:OkP p)(hm:Lms p):Tm (fun N=>tgathered N p) (fun r=>∃L,Lb p L∧Fx p L∧r.2.1=numOf L∧Gat p L r.1∧(r.2.2=true→Ap p L p.Different.length r.1)∧(r.2.2=false→∃e∈p.Different,cls L e.e0.toNat=cls L e.e1.toNat)):=by
 have hle:=hp.le;unfold tgathered;refine(tclasses_tm hp hm.d).bind fun r6 h6=>?_;obtain⟨num,m⟩:=r6;obtain⟨L,hL,hF,e1,e2⟩:=h6;dsimp only at e1 e2;subst e1;subst e2;have hl:=hL.len;have hmm:=rk_le' (L:=L);rw[mk1_ok (n:=rk L L.length) rfl (by omega) (by decide)];simp only[Option.bind_some];refine(tgathered_b1_tm (m:=rk L L.length) (by omega) rfl).bind fun l1 h1=>?_;have hap1:∀(k:Nat) (c:TClass),l1[k]?=some c→c.apart=[]:=by
  intro k c e;have hk:k<rk L L.length:=by rw[←h1.1];exact(List.getElem?_eq_some_iff.1 e).1
  rw[h1.2 k hk]at e;rw[←Option.some.inj e]
 have hg1:Gt p L 0 0 l1:=⟨h1.1,fun k hk=>⟨_,h1.2 k hk,⟨by decide,by decide,fun v hv=>by omega,.inl rfl,fun v hv=>by omega,.inl rfl,rfl,rfl⟩⟩⟩;refine(tgathered_b2_tm hp hL hF hg1 hap1).bind fun l2 h2=>?_;refine(tgathered_b3_tm hp hL hF hm.c h2.1 h2.2).bind fun l3 h3=>?_;refine(tgathered_b4_tm hp hL hF hm.e h3.1 h3.2).bind fun o ho=>?_;cases o with
 |inl r=>exact Tm.some ⟨L,hL,hF,rfl,ho.1,fun _=>ho.2,fun g=>by simp at g⟩
 |inr z=>
  refine Tm.some ⟨L,hL,hF,ho.2.1,ho.1,fun g=>?_,fun _=>ho.2.2.2⟩;rw[ho.2.2.1]at g;simp at g
end
open Go Go.X
def wds(c:TClass)(i:Nat):List (List UInt8):=(List.range i).flatMap fun j=>wordsOf c.tests (c.low.toNat+j)
def span(c:TClass):Nat:=(c.high+1-c.low).toNat
def allw(c:TClass):List (List UInt8):=wds c (span c)
theorem wds_succ{c:TClass}{i:Nat}:wds c (i+1)=wds c i++wordsOf c.tests (c.low.toNat+i):=by
 unfold wds;rw[List.range_succ,List.flatMap_append];simp
theorem wds_le{c:TClass}{i k:Nat}(h:i≤k):∃r,wds c k=wds c i++r:=by
 induction h with
 |refl=>exact⟨[],by simp⟩
 |step _ ih=>
  obtain⟨r,e⟩:=ih;exact⟨r++wordsOf c.tests (c.low.toNat+_),by rw[wds_succ,e,List.append_assoc]⟩
structure Cok (c:TClass):Prop where
 lo:0≤c.low∧c.low≤16
 hi:0≤c.high∧c.high≤16
 ts:∀t∈c.tests,okT t=true
 tl:c.tests.length≤1000
theorem cloneTest_tm{s:List TTest}(h:s.length≤1000):Tm (fun N=>cloneTest N s) (·=s):=by
 unfold cloneTest;rw[apnd_ok (by simp;omega) (by decide)];exact Tm.some rfl
theorem tfirst_b2_tm{c:TClass}(hc:Cok c){m k:Nat}(hm:m≤99)(hk:k≤20){out:List (List UInt8)}(ho:out.length<m):
 Tm (fun N=>loopM (tfirst_b2 N c (m:Int) ((c.low.toNat+k:Nat):Int)) N (out,c.tests)) (·=out++(wordsOf c.tests (c.low.toNat+k)).take (m-out.length)):=by
 have hlo:=hc.lo;refine Tm.up 0 (fun j s=>s=(out,c.tests)) rfl ?_;rintro j hj s rfl;unfold tfirst_b2;dsimp only;have e1:iw ((m:Int)-(out.length:Int))=((m-out.length:Nat):Int):=by rw[iw_eq]<;>omega
 have e2:imin 100 ((m-out.length:Nat):Int)=((m-out.length:Nat):Int):=by unfold imin;rw[if_pos (by omega)]
 rw[e1,e2];refine Tm.pos (by omega) ((pWords_tm hc.ts hc.tl (by omega) (by omega)).eq ?_);have hl:((wordsOf c.tests (c.low.toNat+k)).take (m-out.length)).length≤99:=by rw[List.length_take];omega
 rw[apnd_ok (by omega) (by decide)];simp only[Option.bind_some];exact Tm.pos (by omega) (Tm.some rfl)
theorem tfirst_tm{c:TClass}(hc:Cok c){m:Nat}(hm:0<m∧m≤99):Tm (fun N=>tfirst N c (m:Int)) (·=(allw c).take m):=by
 have hlo:=hc.lo;have hhi:=hc.hi;unfold tfirst;refine Tm.bind (Q:=fun r=>r=(allw c).take m) ?_ fun r hr=>Tm.some hr;have hsp:span c≤17:=by unfold span;omega
 refine Tm.up (span c) (fun k s=>s.2=((c.low.toNat+k:Nat):Int)∧s.1=(wds c k).take m) ⟨by dsimp only;omega,by simp[wds]⟩ ?_;rintro k hk ⟨s,n⟩ ⟨hn,hs⟩;dsimp only at hn hs;subst hn;unfold tfirst_b1;dsimp only;have hsl:s.length≤m:=by rw[hs,List.length_take];omega
 rcases Nat.lt_or_ge k (span c)with hlt|hge
 · have hle:((c.low.toNat+k:Nat):Int)≤c.high:=by unfold span at hlt;omega
   rw[if_pos hle];simp only[Option.bind_some];rcases Nat.lt_or_ge s.length m with h1|h1
   · refine Tm.pos (decide_eq_true (by omega)) ((cloneTest_tm hc.tl).eq ((tfirst_b2_tm hc hm.2 (by omega) h1).eq (Tm.some ⟨hlt,by dsimp only;rw[iw_eq]<;>omega,?_⟩)));dsimp only;have h2:(wds c k).length<m:=by rw[hs,List.length_take]at h1;omega
     have h3:s=wds c k:=by rw[hs,List.take_of_length_le (by omega)]
     rw[wds_succ,List.take_append,List.take_of_length_le (i:=m) (l:=wds c k) (by omega),h3]
   · refine Tm.neg (by rw[decide_eq_false (by omega)];simp) (Tm.some ?_);show s=_;obtain⟨r,e⟩:=wds_le (c:=c) hk;unfold allw;have h2:m≤(wds c k).length:=by rw[hs,List.length_take]at h1;omega
     rw[e,List.take_append_of_le_length h2,hs]
 · have hgt:¬((c.low.toNat+k:Nat):Int)≤c.high:=by unfold span at hge;omega
   rw[if_neg hgt];simp only[Option.bind_some];refine Tm.neg (by simp) (Tm.some ?_);have:k=span c:=by omega
   subst this;exact hs
theorem mem_allw{c:TClass}(hc:Cok c){s:List UInt8}:s∈allw c↔c.low≤(s.length:Int)∧(s.length:Int)≤c.high∧s.all prn=true∧c.tests.all (fun t=>pas t s)=true:=by
 have hlo:=hc.lo;have hhi:=hc.hi;unfold allw wds;rw[List.mem_flatMap];constructor
 · rintro⟨j,hj,h⟩;rw[List.mem_range]at hj;obtain⟨h1,h2,h3⟩:=mem_wordsOf.1 h;unfold span at hj;exact⟨by omega,by omega,h2,h3⟩
 · rintro⟨h1,h2,h3,h4⟩;refine⟨s.length-c.low.toNat,List.mem_range.2 (by unfold span;omega),mem_wordsOf.2 ⟨by omega,h3,h4⟩⟩
theorem allw_nodup{c:TClass}:(allw c).Nodup:=by
 unfold allw wds;refine nodup_flatMap List.nodup_range (fun a _=>wordsOf_nodup) fun a b _ _ hab x hx hx'=>?_;have h1:=(mem_wordsOf.1 hx).1;have h2:=(mem_wordsOf.1 hx').1;omega
section
variable {p:TProb} {L:List Int}
theorem ClR.cok(hp:OkP p)(hm:Lms p){i k:Nat}{c:TClass}(h:ClR p L i p.Tests.length k c):Cok c:=by
 refine⟨h.lo0,h.hi0,fun t ht=>?_,?_⟩
 · rw[h.ts,List.take_length]at ht;exact(hp.ts t (List.mem_filter.1 ht).1).1
 · rw[h.ts,List.take_length];have:=List.length_filter_le (fun t=>decide (cls L t.Var.toNat=k)) p.Tests;have:=hm.c;omega
end
open Go Go.X
structure Adj (l:List TClass):Prop where
 lt:∀(k:Nat) (c:TClass),l[k]?=some c→∀o∈c.apart,∃q:Nat,o=(q:Int)∧q<l.length∧q≠k
 symm:∀(k:Nat) c (q:Nat) d,l[k]?=some c→l[q]?=some d→(q:Int)∈c.apart→(k:Int)∈d.apart
def nI(ns:List Nat):List Int:=ns.map fun(n:Nat)=>(n:Int)
def Ext(l:List TClass)(ns:List Nat)(words:List (List UInt8))(known:List Bool)(g:Nat→List UInt8):Prop:= ∀k∈ns,∃c,l[k]?=some c∧g k∈c.words∧∀q:Nat,(q:Int)∈c.apart→(q∈ns→g k≠g q)∧(known[q]?=some true→words[q]?≠some (g k))
structure Chosen (l:List TClass)(ns:List Nat)(words:List (List UInt8))(known:List Bool)(r:Bool×Bool×List (List UInt8)×List Bool):Prop where
 len:r.2.2.1.length=l.length
 out:∀o,o∉ns→r.2.2.1[o]?=words[o]?
 yes:r.2.1=true→r.1=true∧∀k∈ns,∃c w,l[k]?=some c∧r.2.2.1[k]?=some w∧w∈c.words∧∀q:Nat,(q:Int)∈c.apart→(q∈ns∨known[q]?=some true)→r.2.2.1[q]?≠some w
 no:r.2.1=false→r.2.2.2=known∧∀g,¬Ext l ns words known g
theorem tchoose1_tm{q:Nat}{ca:List Bool}{cb:List (List UInt8)}{cc:List UInt8}(h:q<ca.length)(h':q<cb.length):Tm (fun N=>tchoose1 N (q:Int) ca cb cc) (·=(ca.getD q false&&decide (cb.getD q []=cc))):=by
 unfold tchoose1;refine Tm.step (idx_n h) ?_;rw[getD_n h,getD_n h'];cases ca[q]with
 |true=>exact Tm.pos rfl (Tm.step (idx_n h') (Tm.some (by simp)))
 |false=>exact Tm.neg (by simp) (Tm.some (by simp))
section
variable {l:List TClass}
theorem tchoose_tm(hA:Adj l)(hl:l.length≤1000)(hw:∀c∈l,c.words.length≤1000∧c.apart.length≤1000):∀(ns:List Nat) (words:List (List UInt8)) (known:List Bool),ns.Nodup→(∀k∈ns,k<l.length∧known[k]?=some false)→words.length=l.length→known.length=l.length→ns.length≤1000→
 Tm (fun N=>tchoose N l (nI ns) words known) (Chosen l ns words known):=by
 have hb:Bg=9223372036854775807:=rfl;intro ns
 induction ns with
 |nil=>
  intro words known _ _ hwl hkl _;refine Tm.succ (f:=fun N=>tchoose N l (nI []) words known) ?_;show Tm (fun N=>tchoose_step N (tchoose N) l (nI []) words known) _;unfold tchoose_step;exact Tm.pos rfl (Tm.some ⟨hwl,fun _ _=>rfl,fun _=>⟨rfl,fun k hk=>by cases hk⟩,fun h=>by simp at h⟩)
 |cons k rest ih=>
  intro words known hnd hns hwl hkl hlen;obtain⟨hkl0,hkf⟩:=hns k List.mem_cons_self;obtain⟨hkr,hrn⟩:=List.nodup_cons.1 hnd;have hlen':rest.length+1≤1000:=by simpa using hlen
  obtain⟨c,ec⟩:∃c,l[k]?=some c:=⟨_,List.getElem?_eq_getElem hkl0⟩;obtain⟨hcw,hca⟩:=hw c (List.mem_of_getElem? ec);refine Tm.succ (f:=fun N=>tchoose N l (nI (k::rest)) words known) ?_;show Tm (fun N=>tchoose_step N (tchoose N) l (nI (k::rest)) words known) _;unfold tchoose_step;have e0:idx (nI (k::rest)) 0=some (k:Int):=by simp[idx,nI]
  have eln:(List.length (nI (k::rest)):Int)=((rest.length+1:Nat):Int):=by simp[nI]
  rw[eln];refine Tm.neg (by omega) (Tm.step e0 (Tm.step (idx_n (by omega)) ?_));rw[upd1_i (n:=k) rfl (by omega)];simp only[Option.bind_some];refine Tm.step (idx_get ec) ?_;have hk1:∀q,(known.set k true)[q]?=if k=q then some true else known[q]?:=fun q=>set_get (by omega);refine Tm.bind (Q:=fun o=>match o with|.inl s=>s.2=known.set k true∧s.1.length=l.length∧(∀o,o∉k::rest→s.1[o]?=words[o]?)∧∀g,¬Ext l (k::rest) words known g|.inr z=>Chosen l (k::rest) words known z) ?_ fun o ho=>?_
  · refine Tm.up c.words.length (fun i s=>s.2.2=(i:Int)∧s.2.1=known.set k true∧s.1.length=l.length∧(∀o,o∉k::rest→s.1[o]?=words[o]?)∧∀g,Ext l (k::rest) words known g→∀j,j<i→c.words[j]?≠some (g k)) ⟨rfl,rfl,hwl,fun _ _=>rfl,fun g _ j hj=>by omega⟩ ?_;rintro i hi ⟨s,kn,ii⟩ ⟨h1,h2,h3,h4,h5⟩;dsimp only at h1 h2 h3 h4 h5;subst h1;subst h2;unfold tchoose_b1;dsimp only;rcases Nat.lt_or_ge i c.words.length with hlt|hge
    · refine Tm.pos (by omega) (Tm.step (idx_n hlt) (Tm.step (idx_get ec) ?_));obtain⟨w,hwe⟩:∃w,w=c.words[i]:=⟨_,rfl⟩;rw[←hwe];have ewi:c.words[i]?=some w:=by rw[List.getElem?_eq_getElem hlt,hwe]
      have hct:Tm (fun N=>containsInt N c.apart (fun y=>tchoose1 N y (known.set k true) s w)) (·=c.apart.any fun o=>(known.set k true).getD o.toNat false&&decide (s.getD o.toNat []=w)):=by
       refine containsInt_tm (f:=fun N y=>tchoose1 N y (known.set k true) s w) (by omega) fun o ho=>?_;obtain⟨q,rfl,hq,_⟩:=hA.lt _ _ ec o ho;exact tchoose1_tm (by rw[List.length_set];omega) (by omega)
      refine hct.eq ?_;cases hany:c.apart.any fun o=>(known.set k true).getD o.toNat false&&decide (s.getD o.toNat []=w)with
      |true=>
       refine Tm.pos rfl (Tm.some ⟨hlt,iw_n (by omega),rfl,h3,h4,fun g hg j hj=>?_⟩);by_cases ej:j=i
       · subst ej;rw[ewi];intro e;have e:=Option.some.inj e;obtain⟨o,ho,h6⟩:=List.any_eq_true.1 hany;obtain⟨q,rfl,hq,hqk⟩:=hA.lt _ _ ec o ho;rw[Bool.and_eq_true,Int.toNat_natCast]at h6;obtain⟨h6,h7⟩:=h6;have h7:=of_decide_eq_true h7;have h8:known[q]?=some true:=by
          have:(known.set k true)[q]?=some true:=by
           rw[List.getD_eq_getElem?_getD]at h6;rw[List.getElem?_eq_getElem (by rw[List.length_set];omega)]at h6⊢;simpa using h6
          rw[hk1,if_neg (by omega)]at this;exact this
         have h9:q∉k::rest:=fun hm=>by
          have:=(hns q hm).2;rw[h8]at this;simp at this
         have h10:words[q]?=some w:=by
          rw[←h4 q h9];rw[getD_n (by omega)]at h7;rw[List.getElem?_eq_getElem (by omega),h7]
         obtain⟨c',ec',_,h11⟩:=hg k List.mem_cons_self;rw[ec]at ec';have:c=c':=Option.some.inj ec';subst this;exact(h11 q ho).2 h8 (by rw[h10,e])
       · exact h5 g hg j (by omega)
      |false=>
       refine Tm.neg (by simp) (Tm.step (idx_n (by omega)) ?_);rw[upd1_i (n:=k) rfl (by omega)];simp only[Option.bind_some];have ecut:cut (nI (k::rest)) 1 ((rest.length+1:Nat):Int)=some (nI rest):=by
        refine(cut_i (xs:=nI (k::rest)) (i:=1) (m:=1) (n:=rest.length+1) rfl rfl (by omega) (by simp[nI])).trans ?_;simp[nI];exact List.take_of_length_le (by simp)
       rw[eln,ecut];simp only[Option.bind_some];have hself:=ih (s.set k w) (known.set k true) hrn (fun q hq=>⟨(hns q (List.mem_cons_of_mem _ hq)).1,by
        rw[hk1,if_neg (fun e=>hkr (by rw[e];exact hq))];exact(hns q (List.mem_cons_of_mem _ hq)).2⟩) (by rw[List.length_set];omega) (by rw[List.length_set];omega) (by omega)
       refine hself.bind fun r hr=>?_;have hsk:∀q,(s.set k w)[q]?=if k=q then some w else s[q]?:=fun q=>set_get (by omega);obtain⟨al,okk,rw',rk'⟩:=r;cases okk with
       |true=>
        obtain⟨y1,y2⟩:=hr.yes rfl;have y3:=hr.out;have y4:=hr.len;dsimp only at y1 y2 y3 y4;subst y1;refine Tm.pos rfl (Tm.some ?_);have hkw:rw'[k]?=some w:=by rw[y3 k hkr,hsk,if_pos rfl]
        have hout:∀o,o∉k::rest→rw'[o]?=words[o]?:=by
         intro o ho;rw[y3 o (fun h=>ho (List.mem_cons_of_mem _ h)),hsk,if_neg (fun e=>ho (by rw[e];exact List.mem_cons_self))];exact h4 o ho
        refine⟨y4,hout,fun _=>⟨rfl,fun x hx=>?_⟩,fun h=>by simp at h⟩;rcases List.mem_cons.1 hx with rfl|hx
        · refine⟨c,w,ec,hkw,by rw[hwe];exact List.getElem_mem _,fun q hq hor=>?_⟩;obtain⟨q',eq',hql,hqk⟩:=hA.lt _ _ ec _ hq;have:q=q':=by omega
          subst this;show rw'[q]?≠some w;rcases hor with hin|hkn
          · rcases List.mem_cons.1 hin with e|hin
            · exact absurd e hqk
            · obtain⟨c',w',ec',ew',_,h12⟩:=y2 q hin;have h13:=h12 x (hA.symm _ _ _ _ ec ec' hq) (.inr (by rw[hk1,if_pos rfl]));rw[ew'];intro e;rw[←e]at hkw;exact h13 hkw
          · have h9:q∉x::rest:=fun hm=>by
             have:=(hns q hm).2;rw[hkn]at this;simp at this
            rw[hout q h9,←h4 q h9];intro e;have hq1:(known.set x true).getD q false=true:=by
             rw[List.getD_eq_getElem?_getD,hk1,if_neg (by omega),hkn];rfl
            have:=List.any_eq_false.1 hany _ hq;rw[Int.toNat_natCast,hq1,List.getD_eq_getElem?_getD,e]at this;simp at this
        · obtain⟨c',w',ec',ew',hm',h12⟩:=y2 x hx;refine⟨c',w',ec',ew',hm',fun q hq hor=>h12 q hq ?_⟩;rcases hor with hin|hkn
          · rcases List.mem_cons.1 hin with rfl|hin
            · exact .inr (by rw[hk1,if_pos rfl])
            · exact .inl hin
          · refine .inr ?_;rw[hk1];by_cases e:k=q
            · rw[if_pos e]
            · rw[if_neg e];exact hkn
       |false=>
        obtain⟨n1,n2⟩:=hr.no rfl;have y3:=hr.out;have y4:=hr.len;dsimp only at n1 n2 y3 y4;subst n1;refine Tm.neg (by simp) (Tm.some ⟨hlt,iw_n (by omega),rfl,y4,fun o ho=>?_,fun g hg j hj=>?_⟩)
        · show rw'[o]?=_;rw[y3 o (fun h=>ho (List.mem_cons_of_mem _ h)),hsk,if_neg (fun e=>ho (by rw[e];exact List.mem_cons_self))];exact h4 o ho
        · by_cases ej:j=i
          · subst ej;rw[ewi];intro e;have e:=Option.some.inj e;refine n2 g fun x hx=>?_;obtain⟨c',ec',hm',h12⟩:=hg x (List.mem_cons_of_mem _ hx);refine⟨c',ec',hm',fun q hq=>⟨fun hin=>(h12 q hq).1 (List.mem_cons_of_mem _ hin),fun hkn=>?_⟩⟩;rw[hk1]at hkn;rw[hsk];by_cases ekq:k=q
            · subst ekq;rw[if_pos rfl];intro e';exact(h12 k hq).1 List.mem_cons_self (by rw[←e];exact(Option.some.inj e').symm)
            · rw[if_neg ekq]at hkn⊢;have h9:q∉k::rest:=fun hm=>by
               have:=(hns q hm).2;rw[hkn]at this;simp at this
              rw[h4 q h9];exact(h12 q hq).2 hkn
          · exact h5 g hg j (by omega)
    · have:i=c.words.length:=by omega
      subst this;refine Tm.neg (by omega) (Tm.some ⟨rfl,h3,h4,fun g hg=>?_⟩);obtain⟨c',ec',hm',_⟩:=hg k List.mem_cons_self;rw[ec]at ec';have:c=c':=Option.some.inj ec';subst this;obtain⟨j,hj,e⟩:=List.getElem_of_mem hm';exact h5 g hg j hj (by rw[List.getElem?_eq_getElem hj,e])
  · cases o with
    |inl s=>
     obtain⟨s,kn⟩:=s;obtain⟨g1,g2,g3,g4⟩:=ho;dsimp only at g1 g2 g3 g4⊢;subst g1;refine Tm.step (idx_n (by rw[List.length_set];omega)) ?_;rw[upd1_i (n:=k) rfl (by rw[List.length_set];omega)];refine Tm.some ⟨g2,g3,fun h=>by simp at h,fun _=>⟨?_,g4⟩⟩;show(known.set k true).set k false=known;apply List.ext_getElem?;intro q;rw[List.set_set,set_get (by omega)];by_cases e:k=q
     · subst e;rw[if_pos rfl,hkf]
     · rw[if_neg e]
    |inr z=>exact Tm.some ho
end
open Go Go.X
theorem mem_get{α:Type}{l m:List α}(h:l.Perm m){i:Nat}(hi:i<l.length):l[i]∈m:=h.mem_iff.1 (List.getElem_mem hi)
theorem insSort_tm{data:List Int}{cmp:Nat→Int→Int→Option Int}(hn:data.length≤1000)(hc:∀x∈data,∀y∈data,Tm (fun N=>cmp N x y) (fun _=>True)):
 Tm (fun N=>insSort N data 0 (data.length:Int) (cmp N)) (fun r=>r.Perm data):=by
 unfold insSort;refine Tm.bind (Q:=fun r=>r.Perm data) ?_ fun r hr=>Tm.some hr;refine Tm.loopG (fun(m:Nat) s=>s.1.Perm data∧∃i:Nat,s.2=(i:Int)∧1≤i∧i≤data.length+1∧m=data.length+1-i) (fun m=>m) (data.length+1-1) ⟨.refl _,1,rfl,by omega,by omega,rfl⟩ ?_;rintro m ⟨s,ii⟩ ⟨hp,i,hi,h1,h2,hm⟩;dsimp only at hp hi;subst hi;subst hm;unfold insSort_b1;dsimp only;have hl:=hp.length_eq;by_cases hlt:i<data.length
 · refine Tm.pos (by omega) ?_;refine Tm.bind (Q:=fun r=>r.Perm data) ?_ fun r hr=>Tm.some ⟨_,⟨hr,i+1,iw_n (by omega),by omega,by omega,rfl⟩,by omega⟩;refine Tm.loopG (fun(m:Nat) s=>s.1.Perm data∧s.2=(m:Int)∧m<data.length) (fun m=>m) i ⟨hp,rfl,hlt⟩ ?_;rintro j ⟨s,jj⟩ ⟨hp,hj,hjl⟩;dsimp only at hp hj hjl;subst hj;have hl:=hp.length_eq;unfold insSort_b2;dsimp only;by_cases hj0:0<j
   · have e1:iw ((j:Int)-1)=((j-1:Nat):Int):=by rw[iw_eq]<;>omega
     rw[e1];have g1:(fun N=>(((if(j:Int)>0 then(idx s (j:Int)).bind fun x4617=>(idx s ((j-1:Nat):Int)).bind fun x4629=>(cmp N x4617 x4629).bind fun r4735=>some (decide ((r4735:Int)<0))else some false):Option Bool)))=fun N=>(cmp N (s[j]'(by omega)) (s[j-1]'(by omega))).bind fun r4735=>some (decide ((r4735:Int)<0)):=by
      funext N;rw[if_pos (by omega),idx_n (by omega),idx_n (by omega)];rfl
     have g2:Tm (fun N=>(((if(j:Int)>0 then(idx s (j:Int)).bind fun x4617=>(idx s ((j-1:Nat):Int)).bind fun x4629=>(cmp N x4617 x4629).bind fun r4735=>some (decide ((r4735:Int)<0))else some false):Option Bool))) (fun _=>True):=by
      rw[g1];exact(hc _ (mem_get hp _) _ (mem_get hp _)).bind fun _ _=>Tm.some trivial
     refine g2.bind fun b _=>?_;cases b with
     |true=>
      refine Tm.pos rfl (Tm.step (idx_n (by omega)) (Tm.step (idx_n (by omega)) (Tm.step (idx_n (by omega)) ?_)));rw[upd1_i (n:=j) rfl (by omega)];simp only[Option.bind_some];refine Tm.step (idx_n (by rw[List.length_set];omega)) ?_;rw[upd1_i (n:=j-1) rfl (by rw[List.length_set];omega)];exact Tm.some ⟨j-1,⟨(@List.set_set_perm _ s (j) (j-1) (by omega) (by omega)).trans hp,rfl,by omega⟩,by omega⟩
     |false=>exact Tm.neg (by simp) (Tm.some hp)
   · refine Tm.bind (Q:=fun b=>b=false) (Tm.neg (by omega) (Tm.some rfl)) fun b hb=>?_;subst hb;exact Tm.neg (by simp) (Tm.some hp)
 · exact Tm.neg (by omega) (Tm.some hp)
theorem sortStable_tm{data:List Int}{cmp:Nat→Int→Int→Option Int}(hn:data.length≤19)(hc:∀x∈data,∀y∈data,Tm (fun N=>cmp N x y) (fun _=>True)):
 Tm (fun N=>sortStable N data (cmp N)) (fun r=>r.Perm data):=by
 unfold sortStable;refine Tm.bind (Q:=fun r=>r.Perm data) ?_ fun r hr=>Tm.some hr;unfold stableSort;refine Tm.bind (Q:=fun r=>r=(data,0)) ?_ fun r hr=>?_
 · refine Tm.up 0 (fun _ s=>s=(data,0,20)) rfl ?_;rintro k _ s rfl;unfold stableSort_b1;exact Tm.neg (by omega) (Tm.some rfl)
 · subst hr;refine(insSort_tm (by omega) hc).bind fun r hr=>?_;refine Tm.bind (Q:=fun _=>True) ?_ fun _ _=>Tm.some hr;refine Tm.up 0 (fun _ s=>s=20) rfl ?_;rintro k _ s rfl;unfold stableSort_b2;exact Tm.neg (by omega) (Tm.some trivial)
theorem revInt_tm{s:List Int}(hn:s.length≤1000):Tm (fun N=>revInt N s) (fun r=>r.Perm s):=by
 unfold revInt;refine Tm.bind (Q:=fun r=>r.Perm s) ?_ fun r hr=>Tm.some hr;refine Tm.loopG (fun(m:Nat) (t:List Int×Int×Int)=>t.1.Perm s∧0≤t.2.1∧-1≤t.2.2∧t.2.2<(s.length:Int)∧m=(t.2.2-t.2.1+2).toNat) (fun m=>m) _ ⟨.refl _,Int.le_refl _,by dsimp only;rw[iw_eq]<;>omega,by dsimp only;rw[iw_eq]<;>omega,rfl⟩ ?_;rintro m ⟨t,i,j⟩ ⟨hp,h1,h2,h3,hm⟩;dsimp only at hp h1 h2 h3 hm;subst hm;have hl:=hp.length_eq;unfold revInt_b1;dsimp only;by_cases hij:i<j
 · obtain⟨a,rfl⟩:∃a:Nat,i=(a:Int):=⟨i.toNat,by omega⟩;obtain⟨b,rfl⟩:∃b:Nat,j=(b:Int):=⟨j.toNat,by omega⟩;refine Tm.pos hij (Tm.step (idx_n (by omega)) (Tm.step (idx_n (by omega)) (Tm.step (idx_n (by omega)) ?_)));rw[upd1_i (n:=a) rfl (by omega)];simp only[Option.bind_some];refine Tm.step (idx_n (by rw[List.length_set];omega)) ?_;rw[upd1_i (n:=b) rfl (by rw[List.length_set];omega)];refine Tm.some ⟨_,⟨(@List.set_set_perm _ t (a) (b) (by omega) (by omega)).trans hp,?_,?_,?_,rfl⟩,?_⟩
   · dsimp only;rw[iw_eq]<;>omega
   · dsimp only;rw[iw_eq]<;>omega
   · dsimp only;rw[iw_eq]<;>omega
   · dsimp only;rw[iw_eq (z:=(a:Int)+1) (by omega) (by omega),iw_eq (z:=(b:Int)-1) (by omega) (by omega)];omega
 · exact Tm.neg hij (Tm.some hp)
theorem nI_perm{l:List Int}{ns:List Nat}(h:l.Perm (nI ns)):∃os:List Nat,l=nI os∧os.Perm ns:=by
 refine⟨l.map Int.toNat,?_,?_⟩
 · unfold nI;rw[List.map_map];have:∀x∈l,((fun(n:Nat)=>(n:Int))∘Int.toNat) x=x:=fun x hx=>by
    have:=h.mem_iff.1 hx;unfold nI at this;obtain⟨q,_,rfl⟩:=List.mem_map.1 this;rfl
   rw[List.map_congr_left this,List.map_id']
 · have:=h.map Int.toNat;unfold nI at this;rw[List.map_map]at this;have e:(Int.toNat∘fun(n:Nat)=>(n:Int))=id:=by funext n;rfl
   rw[e,List.map_id]at this;exact this
theorem nodup_bound{m:Nat}{ns:List Nat}(h:ns.Nodup)(hb:∀k∈ns,k<m):ns.length≤m:=by
 have:=h.length_le_of_subset (l₂:=List.range m) fun x hx=>List.mem_range.2 (hb x hx);simpa using this
theorem pick{α:Type}{W B:List α}(h:W.Nodup)(hl:B.length<W.length):∃w∈W,w∉B:=by
 apply Classical.byContradiction;intro hno;have:W⊆B:=fun w hw=>Classical.byContradiction fun hb=>hno ⟨w,hw,hb⟩;have:=h.length_le_of_subset this;omega
theorem trunc{m:Nat}{D:Nat→List (List UInt8)}{nb:Nat→List Nat}{t:Nat→Nat}{R:Nat→Nat→Prop}(hD:∀k,(D k).Nodup)(ht:∀k,k<m→(nb k).length<t k)
 (hR:∀x y,R x y→y∈nb x∧R y x∧x≠y){f:Nat→List UInt8}(hf:∀k,k<m→f k∈D k)(hs:∀x y,R x y→f x≠f y):
 ∃g:Nat→List UInt8,(∀k,k<m→g k∈(D k).take (t k))∧∀x y,R x y→g x≠g y:=by
 have key:∀j,j≤m→∃g:Nat→List UInt8,(∀k,k<j→g k∈(D k).take (t k))∧(∀k,k<m→g k∈D k)∧∀x y,R x y→g x≠g y:=by
  intro j
  induction j with
  |zero=>intro _;exact⟨f,fun k hk=>by omega,hf,hs⟩
  |succ j ih=>
   intro hj;obtain⟨g,h1,h2,h3⟩:=ih (by omega);by_cases hin:g j∈(D j).take (t j)
   · refine⟨g,fun k hk=>?_,h2,h3⟩;by_cases e:k=j
     · subst e;exact hin
     · exact h1 k (by omega)
   · have hlen:((nb j).map g).length<((D j).take (t j)).length:=by
      rw[List.length_map,List.length_take];have:=ht j (by omega);rcases Nat.lt_or_ge (t j) (D j).length with hg|hg
      · omega
      · rw[List.take_of_length_le hg]at hin;exact absurd (h2 j (by omega)) hin
     obtain⟨w,hw,hwn⟩:=pick ((hD j).sublist (List.take_sublist _ _)) hlen;refine⟨fun x=>if x=j then w else g x,fun k hk=>?_,fun k hk=>?_,fun x y hxy=>?_⟩
     · by_cases e:k=j
       · subst e;simpa using hw
       · simpa[e]using h1 k (by omega)
     · by_cases e:k=j
       · subst e;simpa using List.mem_of_mem_take hw
       · simpa[e]using h2 k hk
     · obtain⟨r1,r2,r3⟩:=hR x y hxy;obtain⟨r4,_,_⟩:=hR y x r2;dsimp only;by_cases ex:x=j
       · subst ex;rw[if_pos rfl,if_neg (fun e=>r3 e.symm)];intro e;exact hwn (List.mem_map.2 ⟨y,r1,e.symm⟩)
       · rw[if_neg ex];by_cases ey:y=j
         · subst ey;rw[if_pos rfl];intro e;exact hwn (List.mem_map.2 ⟨x,r4,e⟩)
         · rw[if_neg ey];exact h3 x y hxy
 obtain⟨g,h1,_,h3⟩:=key m (Nat.le_refl _);exact⟨g,h1,h3⟩
section
variable {p:TProb} {L:List Int} {l:List TClass} {x:List (List UInt8)}
theorem sat_iff:sat p x=true↔x.length=p.Min.length∧(∀i,i<x.length→(p.Min.getD i 0≤((x.getD i []).length:Int)∧((x.getD i []).length:Int)≤p.Max.getD i 0)∧(x.getD i []).all prn=true)∧(∀t∈p.Tests,pas t (x.getD t.Var.toNat [])=true)∧(∀e∈p.Same,x.getD e.e0.toNat []=x.getD e.e1.toNat [])∧∀e∈p.Different,x.getD e.e0.toNat []≠x.getD e.e1.toNat []:=by
 unfold sat gL gT gD gS;simp only[Bool.and_eq_true,decide_eq_true_eq,List.all_eq_true,List.mem_range,Bool.not_eq_true',decide_eq_false_iff_not];constructor
 · rintro⟨⟨⟨⟨h1,h2⟩,h3⟩,h4⟩,h5⟩;exact⟨h1,h2,h3,h4,h5⟩
 · rintro⟨h1,h2,h3,h4,h5⟩;exact⟨⟨⟨⟨h1,h2⟩,h3⟩,h4⟩,h5⟩
theorem sat_cn(hs:∀e∈p.Same,x.getD e.e0.toNat []=x.getD e.e1.toNat []){a b:Nat}(hc:Cn p a b):x.getD a []=x.getD b []:=by
 induction hc with
 |refl a=>rfl
 |edge he=>exact hs _ he
 |symm _ ih=>exact ih.symm
 |trans _ _ i1 i2=>exact i1.trans i2
structure Wds (p:TProb)(L:List Int)(l:List TClass)(f:Nat→List UInt8):Prop where
 mem:∀(k:Nat) (c:TClass),l[k]?=some c→f k∈allw c
 df:∀e∈p.Different,f (cls L e.e0.toNat)≠f (cls L e.e1.toNat)
theorem sat_split(hp:OkP p)(hm:Lms p)(hL:Lb p L)(hF:Fx p L)(hG:Gat p L l)(h:sat p x=true):∃f,Wds p L l f∧∀v,v<p.Min.length→x[v]?=some (f (cls L v)):=by
 obtain⟨h1,h2,h3,h4,h5⟩:=sat_iff.1 h;have hf:∃f:Nat→List UInt8,∀v,v<p.Min.length→x.getD v []=f (cls L v):=by
  refine⟨fun k=>if hk:∃v,v<p.Min.length∧cls L v=k then x.getD (Classical.choose hk) []else[],fun v hv=>?_⟩;have hk:∃u,u<p.Min.length∧cls L u=cls L v:=⟨v,hv,rfl⟩;dsimp only;rw[dif_pos hk];obtain⟨g1,g2⟩:=Classical.choose_spec hk;exact(sat_cn h4 (cn_cls hL hF g1 hv g2)).symm
 obtain⟨f,hf⟩:=hf;refine⟨f,⟨fun k c ec=>?_,fun e he=>?_⟩,fun v hv=>?_⟩
 · have hk:k<rk L L.length:=by rw[←hG.len];exact(List.getElem?_eq_some_iff.1 ec).1
   obtain⟨c',ec',hC⟩:=hG.ok k hk;rw[ec]at ec';have:c=c':=Option.some.inj ec';subst this;obtain⟨v,hv,ev⟩:=cls_surj hL hk;have hmx:=hp.mx (p.Max.getD v 0) (by rw[getD_n (by rw[hp.len];exact hv)];exact List.getElem_mem _);have hx:=fun u (hu:u<p.Min.length)=>h2 u (by omega);rw[mem_allw (hC.cok hp hm)];refine⟨?_,?_,?_,?_⟩
   · rcases hC.lo2 with g|⟨u,hu,eu,g⟩
     · omega
     · rw[←g,←eu,←hf u hu];exact(hx u hu).1.1
   · rcases hC.hi2 with g|⟨u,hu,eu,g⟩
     · have:=(hx v hv).1.2;rw[hf v hv,ev]at this;omega
     · rw[←g,←eu,←hf u hu];exact(hx u hu).1.2
   · rw[←ev,←hf v hv];exact(hx v hv).2
   · rw[hC.ts,List.take_length,List.all_eq_true];intro t ht;obtain⟨ht1,ht2⟩:=List.mem_filter.1 ht;have hv:=(hp.ts t ht1).2;rw[←of_decide_eq_true ht2,←hf _ (by omega)];exact h3 t ht1
 · have hv:=hp.df e he;rw[←hf _ (by omega),←hf _ (by omega)];exact h5 e he
 · rw[←hf v hv,getD_n (by omega),List.getElem?_eq_getElem (by omega)]
theorem sat_join(hp:OkP p)(hm:Lms p)(hL:Lb p L)(hF:Fx p L)(hG:Gat p L l){f:Nat→List UInt8}(hW:Wds p L l f)(hx:x.length=p.Min.length)(hv:∀v,v<p.Min.length→x[v]?=some (f (cls L v))):sat p x=true:=by
 have hg:∀v,v<p.Min.length→x.getD v []=f (cls L v):=fun v h=>by rw[List.getD_eq_getElem?_getD,hv v h];rfl
 have hC:∀v,v<p.Min.length→∃c,l[cls L v]?=some c∧ClR p L p.Min.length p.Tests.length (cls L v) c∧f (cls L v)∈allw c:=fun v h=>by
  obtain⟨c,ec,h1⟩:=hG.ok _ (cls_lt hL hF h);exact⟨c,ec,h1,hW.mem _ _ ec⟩
 refine sat_iff.2 ⟨hx,fun i hi=>?_,fun t ht=>?_,fun e he=>?_,fun e he=>?_⟩
 · obtain⟨c,ec,h1,h2⟩:=hC i (by omega);rw[mem_allw (h1.cok hp hm)]at h2;rw[hg i (by omega)];have g1:=h1.lo1 i (by omega) rfl;have g2:=h1.hi1 i (by omega) rfl;exact⟨by omega,h2.2.2.1⟩
 · have hvt:=(hp.ts t ht).2;obtain⟨c,ec,h1,h2⟩:=hC t.Var.toNat (by omega);rw[mem_allw (h1.cok hp hm)]at h2;rw[hg _ (by omega)];refine List.all_eq_true.1 h2.2.2.2 t ?_;rw[h1.ts,List.take_length];exact List.mem_filter.2 ⟨ht,decide_eq_true rfl⟩
 · have hve:=hp.sm e he;rw[hg _ (by omega),hg _ (by omega),cls_cn hF (.edge he)]
 · have hve:=hp.df e he;rw[hg _ (by omega),hg _ (by omega)];exact hW.df e he
theorem ap_adj(hp:OkP p)(hL:Lb p L)(hF:Fx p L)(hG:Gat p L l)(hA:Ap p L p.Different.length l):Adj l:=by
 have hD:∀k q,Df p L p.Different.length k q→q<l.length∧q≠k:=by
  rintro k q ⟨e,he,h⟩;have hne:=hA.ne e he;rw[List.take_length]at he;have hve:=hp.df e he;rw[hG.len];rcases h with⟨h1,h2⟩|⟨h1,h2⟩
  · subst h1;subst h2;exact⟨cls_lt hL hF (by omega),fun e=>hne e.symm⟩
  · subst h1;subst h2;exact⟨cls_lt hL hF (by omega),hne⟩
 refine⟨fun k c ec o ho=>?_,fun k c q d ec ed hq=>?_⟩
 · obtain⟨q,e,h⟩:=(hA.mem k c ec o).1 ho;exact⟨q,e,hD k q h⟩
 · obtain⟨q',e,h⟩:=(hA.mem k c ec _).1 hq;have:q=q':=by omega
   subst this;exact(hA.mem q d ed _).2 ⟨k,rfl,h.symm⟩
end
open Go Go.X
def wrd(c:TClass):TClass:=TClass.mk c.low c.high c.tests ((allw c).take (c.apart.length+1)) c.apart
structure Gr (m:Nat)(last:List Int)(removed:List Bool)(ns:List Nat):Prop where
 e:last=nI ns
 nd:ns.Nodup
 lt:∀k∈ns,k<m
 len:removed.length=m
 iff:∀k,k<m→(removed[k]?=some true↔k∈ns)
section
variable {l:List TClass}
theorem tSolve_b2_tm(hl:l.length≤1000){x:List Int}(hx:x.length=l.length):Tm (fun N=>loopM (tSolve_b2 N l) N (x,0)) (fun r=>r.length=l.length):=by
 refine Tm.up l.length (fun k s=>s.2=(k:Int)∧s.1.length=l.length) ⟨rfl,hx⟩ ?_;rintro k hk ⟨s,i⟩ ⟨hi,hs⟩;dsimp only at hi hs;subst hi;unfold tSolve_b2;dsimp only;rcases Nat.lt_or_ge k l.length with hlt|hge
 · refine Tm.pos (by omega) (Tm.step (idx_n hlt) (Tm.step (idx_n (by omega)) ?_));rw[upd1_i (n:=k) rfl (by omega)];exact Tm.some ⟨hlt,iw_n (by omega),by rw[List.length_set];exact hs⟩
 · exact Tm.neg (by omega) (Tm.some hs)
theorem tSolve_b5_tm(hA:Adj l){k:Nat}{c:TClass}(ec:l[k]?=some c)(hc:c.apart.length≤1000){x:List Int}(hx:x.length=l.length):Tm (fun N=>loopM (tSolve_b5 N c) N (x,0)) (fun r=>r.length=l.length):=by
 refine Tm.up c.apart.length (fun k s=>s.2=(k:Int)∧s.1.length=l.length) ⟨rfl,hx⟩ ?_;rintro j hj ⟨s,i⟩ ⟨hi,hs⟩;dsimp only at hi hs;subst hi;unfold tSolve_b5;dsimp only;rcases Nat.lt_or_ge j c.apart.length with hlt|hge
 · obtain⟨q,eq,hq,_⟩:=hA.lt _ _ ec _ (List.getElem_mem hlt);refine Tm.pos (by omega) (Tm.step (idx_n hlt) ?_);rw[eq];refine Tm.step (idx_n (by omega)) (Tm.step (idx_n (by omega)) ?_);rw[upd1_i (n:=q) rfl (by omega)];exact Tm.some ⟨hlt,iw_n (by omega),by rw[List.length_set];exact hs⟩
 · exact Tm.neg (by omega) (Tm.some hs)
theorem tSolve_b4_tm(hA:Adj l)(hl:l.length≤1000)(hc:∀c∈l,c.words.length≤1000∧c.apart.length≤1000){last left:List Int}{removed:List Bool}{ns:List Nat}(hg:Gr l.length last removed ns)(hlf:left.length=l.length):
 Tm (fun N=>loopM (tSolve_b4 N l) N (last,left,removed,false,0)) (fun r=>∃ns',Gr l.length r.1 r.2.2.1 ns'∧r.2.1.length=l.length∧ns.length≤ns'.length∧(r.2.2.2=true→ns.length<ns'.length)):=by
 refine Tm.up l.length (fun k s=>s.2.2.2.2=(k:Int)∧∃ns',Gr l.length s.1 s.2.2.1 ns'∧s.2.1.length=l.length∧ns.length≤ns'.length∧(s.2.2.2.1=true→ns.length<ns'.length)) ⟨rfl,ns,hg,hlf,Nat.le_refl _,fun e=>by simp at e⟩ ?_;rintro k hk ⟨la,lf,rm,ch,i⟩ ⟨hi,ns',hG,h1,h2,h3⟩;dsimp only at hi hG h1 h2 h3;subst hi;unfold tSolve_b4;dsimp only;have hrl:=hG.len;rcases Nat.lt_or_ge k l.length with hlt|hge
 · refine Tm.pos (by omega) ?_;have ek:l[k]?=some l[k]:=List.getElem?_eq_getElem hlt;obtain⟨hw,ha⟩:=hc _ (List.getElem_mem hlt);have key:Tm (fun N=>(((idx rm (k:Int)).bind fun x8011=>(if(!x8011)=true then(idx l (k:Int)).bind fun x8022=>(idx lf (k:Int)).bind fun x8042=>some (decide (((List.length x8022.words:Int):Int)>x8042))else some false):Option Bool))) (fun b=>b=true→rm[k]?=some false):=by
    refine Tm.step (idx_n (by omega)) ?_;cases e:rm[k]'(by omega)with
    |true=>exact Tm.neg (by simp) (Tm.some fun h=>by simp at h)
    |false=>exact Tm.pos rfl (Tm.step (idx_n hlt) (Tm.step (idx_n (by omega)) (Tm.some fun _=>by rw[List.getElem?_eq_getElem (by omega),e])))
   refine key.bind fun b hb=>?_;cases b with
   |true=>
    have hf:=hb rfl;have hkn:k∉ns':=fun h=>by
     have:=(hG.iff k hlt).2 h;rw[hf]at this;simp at this
    have hnl:=nodup_bound hG.nd hG.lt;refine Tm.pos rfl (Tm.step (idx_n (by omega)) ?_);rw[upd1_i (n:=k) rfl (by omega),hG.e];simp only[Option.bind_some];rw[apnd_ok (by simp only[nI,List.length_map,List.length_singleton];omega) (by decide)];simp only[Option.bind_some];refine Tm.step (idx_n hlt) ((tSolve_b5_tm hA ek ha h1).bind fun lf' hlf'=>?_);refine Tm.some ⟨hlt,iw_n (by omega),ns'++[k],⟨by simp[nI],?_,?_,by rw[List.length_set];exact hrl,fun q hq=>?_⟩,hlf',by rw[List.length_append,List.length_singleton];omega,fun _=>by rw[List.length_append,List.length_singleton];omega⟩
    · rw[List.nodup_append];exact⟨hG.nd,by simp,fun a ha' b hb'=>by rw[List.mem_singleton.1 hb'];rintro rfl;exact hkn ha'⟩
    · intro q hq;rcases List.mem_append.1 hq with hq|hq
      · exact hG.lt q hq
      · rw[List.mem_singleton.1 hq];exact hlt
    · show(rm.set k true)[q]?=some true↔_;rw[set_get (by omega),List.mem_append,List.mem_singleton];by_cases e:k=q
      · rw[if_pos e];exact⟨fun _=>.inr e.symm,fun _=>rfl⟩
      · rw[if_neg e,hG.iff q hq];exact⟨.inl,fun h=>h.resolve_right fun h=>e h.symm⟩
   |false=>
    exact Tm.neg (by simp) (Tm.some ⟨hlt,iw_n (by omega),ns',hG,h1,h2,h3⟩)
 · exact Tm.neg (by omega) (Tm.some ⟨ns',hG,h1,h2,h3⟩)
theorem tSolve_b3_tm(hA:Adj l)(hl:l.length≤1000)(hc:∀c∈l,c.words.length≤1000∧c.apart.length≤1000){left:List Int}(hlf:left.length=l.length):
 Tm (fun N=>loopM (tSolve_b3 N l) N (([]:List Int),left,List.replicate l.length false,true)) (fun r=>∃ns,Gr l.length r.1 r.2 ns):=by
 refine Tm.loopG (fun(m:Nat) s=>∃ns,Gr l.length s.1 s.2.2.1 ns∧s.2.1.length=l.length∧m=2*(l.length-ns.length)+(if s.2.2.2 then 1 else 0)) (fun m=>m) _ ⟨[],⟨rfl,List.nodup_nil,fun k h=>absurd h List.not_mem_nil,by simp,fun k hk=>by rw[List.getElem?_replicate];split<;>simp⟩,hlf,rfl⟩ ?_;rintro m ⟨la,lf,rm,ch⟩ ⟨ns,hG,h1,hm⟩;dsimp only at hG h1 hm;subst hm;unfold tSolve_b3;dsimp only;cases ch with
 |true=>
  refine Tm.pos rfl ((tSolve_b4_tm hA hl hc hG h1).bind fun r hr=>?_);obtain⟨la',lf',rm',ch'⟩:=r;obtain⟨ns',g1,g2,g3,g4⟩:=hr;dsimp only at g1 g2 g3 g4;refine Tm.some ⟨_,⟨ns',g1,g2,rfl⟩,?_⟩;have b1:=nodup_bound hG.nd hG.lt;have b2:=nodup_bound g1.nd g1.lt;dsimp only;cases ch' with
  |true=>have:=g4 rfl;simp only[if_true];omega
  |false=>simp only[Bool.false_eq_true,if_false,if_true];omega
 |false=>exact Tm.neg (by simp) (Tm.some ⟨ns,hG⟩)
theorem tSolve_b6_tm(hl:l.length≤1000){removed:List Bool}(hr:removed.length=l.length):Tm (fun N=>loopM (tSolve_b6 N l removed) N (([]:List Int),0)) (·=nI ((List.range l.length).filter fun k=>decide (removed[k]?≠some true))):=by
 refine Tm.up l.length (fun k s=>s.2=(k:Int)∧s.1=nI ((List.range k).filter fun k=>decide (removed[k]?≠some true))) ⟨rfl,rfl⟩ ?_;rintro k hk ⟨s,i⟩ ⟨hi,hs⟩;dsimp only at hi hs;subst hi;subst hs;unfold tSolve_b6;dsimp only;rcases Nat.lt_or_ge k l.length with hlt|hge
 · refine Tm.pos (by omega) (Tm.step (idx_n (by omega)) ?_);have hfl:(nI ((List.range k).filter fun k=>decide (removed[k]?≠some true))).length≤k:=by
    unfold nI;rw[List.length_map];have:=List.length_filter_le (fun k=>decide (removed[k]?≠some true)) (List.range k);simpa using this
   have e:removed[k]?=some (removed[k]'(by omega)):=List.getElem?_eq_getElem (by omega);cases g:removed[k]'(by omega)with
   |true=>
    rw[g]at e;refine Tm.neg (by simp) (Tm.some ⟨hlt,iw_n (by omega),?_⟩);rw[List.range_succ,List.filter_append,List.filter_cons_of_neg (by simp[e])];simp
   |false=>
    rw[g]at e;refine Tm.pos rfl ?_;rw[apnd_ok (by simp only[List.length_singleton];omega) (by decide)];refine Tm.some ⟨hlt,iw_n (by omega),?_⟩;rw[List.range_succ,List.filter_append,List.filter_cons_of_pos (by simp[e])];simp[nI]
 · have:k=l.length:=by omega
   subst this;exact Tm.neg (by omega) (Tm.some rfl)
end
section
variable {p:TProb} {L:List Int} {l:List TClass}
theorem tSolve_b1_tm(hp:OkP p)(hm:Lms p)(hd:p.Different.length≤98)(hL:Lb p L)(hG:Gat p L l)(hA:Ap p L p.Different.length l){num:List Int}{ok:Bool}:
 Tm (fun N=>loopM (tSolve_b1 N (l,num,ok)) N (l,0)) (fun o=>match o with|.inl r=>r=l.map wrd|.inr z=>z=([],false)∧∃(k:Nat) (c:TClass),l[k]?=some c∧allw c=[]):=by
 have hlen:=hG.len;have hmm:=rk_le' (L:=L);have hle:=hp.le;have hll:=hL.len;refine Tm.up l.length (fun k s=>s.2=(k:Int)∧s.1=(l.take k).map wrd++l.drop k) ⟨rfl,by simp⟩ ?_;rintro k hk ⟨s,i⟩ ⟨hi,hs⟩;dsimp only at hi hs;subst hi;subst hs;unfold tSolve_b1;dsimp only;rcases Nat.lt_or_ge k l.length with hlt|hge
 · have ek:l[k]?=some l[k]:=List.getElem?_eq_getElem hlt;obtain⟨c,ec,hC⟩:=hG.ok k (by omega);have hck:c=l[k]:=by rw[ek]at ec;exact(Option.some.inj ec).symm
   have hcok:=hC.cok hp hm;have hap:=hA.le k c ec;have htl:((l.take k).map wrd).length=k:=by rw[List.length_map,List.length_take];omega
   have hsl:((l.take k).map wrd++l.drop k).length=l.length:=by rw[List.length_append,htl,List.length_drop];omega
   have e1:((l.take k).map wrd++l.drop k)[k]?=some c:=by
    rw[List.getElem?_append_right (by omega),htl,Nat.sub_self,List.getElem?_drop];exact ec
   refine Tm.pos (by omega) (Tm.step (idx_get e1) (Tm.step (idx_get e1) ?_));rw[iw_n (by omega)];refine(tfirst_tm hcok (m:=c.apart.length+1) (by omega)).eq ?_;refine Tm.step (idx_get e1) ?_;rw[upd1_i (n:=k) rfl (by omega)];simp only[Option.bind_some];have e2:((l.take k).map wrd++l.drop k).set k (TClass.mk c.low c.high c.tests ((allw c).take (c.apart.length+1)) c.apart)=(l.take (k+1)).map wrd++l.drop (k+1):=by
    rw[List.set_append_right _ _ (by omega),htl,Nat.sub_self,List.drop_eq_getElem_cons hlt,List.set_cons_zero,List.take_succ_eq_append_getElem hlt,List.map_append,List.append_assoc,←hck];rfl
   rw[e2];have e3:((l.take (k+1)).map wrd++l.drop (k+1))[k]?=some (wrd c):=by
    rw[←e2,set_get (by omega),if_pos rfl];rfl
   refine Tm.step (idx_get e3) ?_;by_cases hz:((wrd c).words.length:Int)=0
   · refine Tm.pos hz (Tm.some ⟨rfl,k,c,ec,?_⟩);have hz:((allw c).take (c.apart.length+1)).length=0:=by
      have:(wrd c).words=(allw c).take (c.apart.length+1):=rfl;rw[this]at hz;omega
     rw[List.length_take]at hz;exact List.eq_nil_of_length_eq_zero (by omega)
   · exact Tm.neg hz (Tm.some ⟨hlt,iw_n (by omega),rfl⟩)
 · have:k=l.length:=by omega
   subst this;refine Tm.neg (by simp) (Tm.some ?_);show _=_;simp
theorem tSolve_b7_tm(hp:OkP p)(hL:Lb p L)(hF:Fx p L){l':List TClass}{ok:Bool}{f:Nat→List UInt8}{z:Bool×Bool×List (List UInt8)×List Bool}(hf:∀k,k<rk L L.length→z.2.2.1[k]?=some (f k)):
 Tm (fun N=>loopM (tSolve_b7 N (l',numOf L,ok) z) N (List.replicate (numOf L).length [],0)) (fun r=>r.length=p.Min.length∧∀v,v<p.Min.length→r[v]?=some (f (cls L v))):=by
 have hle:=hp.le;have hl:=hL.len;have hnl:(numOf L).length=p.Min.length:=by rw[num_len,hl]
 refine Tm.up p.Min.length (fun k s=>s.2=(k:Int)∧s.1.length=p.Min.length∧∀v,v<k→s.1[v]?=some (f (cls L v))) ⟨rfl,by simp[hnl],fun v hv=>by omega⟩ ?_;rintro k hk ⟨s,i⟩ ⟨hi,hsl,hs⟩;dsimp only at hi hsl hs;subst hi;unfold tSolve_b7;dsimp only;rcases Nat.lt_or_ge k p.Min.length with hlt|hge
 · refine Tm.pos (by omega) (Tm.step (idx_get (num_get hL hlt)) (Tm.step (idx_get (hf _ (cls_lt hL hF hlt))) (Tm.step (idx_n (by omega)) ?_)));rw[upd1_i (n:=k) rfl (by omega)];refine Tm.some ⟨hlt,iw_n (by omega),by rw[List.length_set];exact hsl,fun v hv=>?_⟩;show(s.set k _)[v]?=_;rw[set_get (by omega)];by_cases e:k=v
   · subst e;rw[if_pos rfl]
   · rw[if_neg e];exact hs v (by omega)
 · exact Tm.neg (by omega) (Tm.some ⟨hsl,fun v hv=>hs v (by omega)⟩)
theorem tSolve1_tm{l:List TClass}{a b:Nat}(ha:a<l.length)(hb:b<l.length):Tm (fun N=>tSolve1 N (a:Int) (b:Int) l) (fun _=>True):=by
 unfold tSolve1;exact Tm.step (idx_n ha) (Tm.step (idx_n hb) (Tm.some trivial))
theorem wrd_get{k:Nat}{c:TClass}(h:(l.map wrd)[k]?=some c):∃c0,l[k]?=some c0∧c=wrd c0:=by
 rw[List.getElem?_map]at h;cases e:l[k]?with
 |none=>rw[e]at h;simp at h
 |some c0=>rw[e]at h;exact⟨c0,rfl,(Option.some.inj h).symm⟩
theorem tSolve_tm(hp:OkP p)(hm:Lms p)(hd:p.Different.length≤98)(hn:p.Min.length≤19):
 Tm (fun N=>tSolve N p) (fun r=>(r.2=true→sat p r.1=true)∧(r.2=false→r.1=[]∧∀x,sat p x=false)):=by
 unfold tSolve;refine(tgathered_tm hp hm).bind fun r6 h6=>?_;obtain⟨l,num,ok⟩:=r6;obtain⟨L,hL,hF,e1,hG,hA,hno⟩:=h6;dsimp only at e1 hG hA hno⊢;subst e1;have hlen:=hG.len;have hmm:=rk_le' (L:=L);have hll:=hL.len;cases ok with
 |false=>
  refine Tm.pos rfl (Tm.some ⟨fun h=>by simp at h,fun _=>⟨rfl,fun x=>?_⟩⟩);cases hs:sat p x with
  |false=>rfl
  |true=>
   obtain⟨e,he,hce⟩:=hno rfl;obtain⟨f,hW,_⟩:=sat_split hp hm hL hF hG hs;exact absurd (by rw[hce]) (hW.df e he)
 |true=>
  have hA:=hA rfl;refine Tm.neg (by simp) ((tSolve_b1_tm hp hm hd hL hG hA).bind fun o ho=>?_);cases o with
  |inr z=>
   obtain⟨rfl,k,c,ec,hz⟩:=ho;refine Tm.some ⟨fun h=>by simp at h,fun _=>⟨rfl,fun x=>?_⟩⟩;cases hs:sat p x with
   |false=>rfl
   |true=>
    obtain⟨f,hW,_⟩:=sat_split hp hm hL hF hG hs;have:=hW.mem k c ec;rw[hz]at this;cases this
  |inl l'=>
   have ho:l'=l.map wrd:=ho;have hadj0:=ap_adj hp hL hF hG hA;have hl':l'.length=l.length:=by rw[ho,List.length_map]
   have hadj:Adj l':=by
    subst ho;refine⟨fun k c ec o ho=>?_,fun k c q d ec ed hq=>?_⟩
    · obtain⟨c0,e0,rfl⟩:=wrd_get ec;rw[List.length_map];exact hadj0.lt k c0 e0 o ho
    · obtain⟨c0,e0,rfl⟩:=wrd_get ec;obtain⟨d0,e0',rfl⟩:=wrd_get ed;exact hadj0.symm k c0 q d0 e0 e0' hq
   have hcs:∀c∈l',c.words.length≤1000∧c.apart.length≤1000:=by
    intro c hc;obtain⟨k,hk,e⟩:=List.getElem_of_mem hc;have ek:l'[k]?=some c:=by rw[List.getElem?_eq_getElem hk,e]
    subst ho;obtain⟨c0,e0,rfl⟩:=wrd_get ek;have:=hA.le k c0 e0;refine⟨?_,by show c0.apart.length≤_;omega⟩;show((allw c0).take (c0.apart.length+1)).length≤_;rw[List.length_take];omega
   dsimp only;rw[mk1_ok (n:=l'.length) rfl (by omega) (by decide)];simp only[Option.bind_some];rw[mk1_ok (n:=l'.length) rfl (by omega) (by decide)];simp only[Option.bind_some];refine(tSolve_b2_tm (by omega) (by simp)).bind fun lf hlf=>?_;refine(tSolve_b3_tm hadj (by omega) hcs hlf).bind fun r hr=>?_;obtain⟨last,rm⟩:=r;obtain⟨ns,hgr⟩:=hr;dsimp only at hgr⊢;refine(tSolve_b6_tm (by omega) hgr.len).eq ?_;have hhl:(nI ((List.range l'.length).filter fun k=>decide (rm[k]?≠some true))).length≤l'.length:=by
    unfold nI;rw[List.length_map];have:=List.length_filter_le (fun k=>decide (rm[k]?≠some true)) (List.range l'.length);simpa using this
   have hmemh:∀x∈nI ((List.range l'.length).filter fun k=>decide (rm[k]?≠some true)),∃q:Nat,x=(q:Int)∧q<l'.length:=by
    intro x hx;unfold nI at hx;obtain⟨q,hq,rfl⟩:=List.mem_map.1 hx;exact⟨q,rfl,List.mem_range.1 (List.mem_filter.1 hq).1⟩
   refine(sortStable_tm (cmp:=fun N y z=>tSolve1 N y z l') (by omega) fun x hx y hy=>?_).bind fun so hso=>?_
   · obtain⟨a,rfl,ha⟩:=hmemh x hx;obtain⟨b,rfl,hb⟩:=hmemh y hy;exact tSolve1_tm ha hb
   have hlastl:last.length≤l'.length:=by
    rw[hgr.e];unfold nI;rw[List.length_map];exact nodup_bound hgr.nd hgr.lt
   refine(revInt_tm (by omega)).bind fun rv hrv=>?_;have hsol:=hso.length_eq;have hrvl:=hrv.length_eq;rw[apnd_ok (by omega) (by decide)];simp only[Option.bind_some];have hperm:(so++rv).Perm (nI (((List.range l'.length).filter fun k=>decide (rm[k]?≠some true))++ns)):=by
    have:=hso.append hrv;rw[hgr.e]at this;unfold nI at this⊢;rw[List.map_append];exact this
   obtain⟨os,eos,hos⟩:=nI_perm hperm;rw[eos];have hmem:∀k,k∈os↔k<l'.length:=by
    intro k;rw[hos.mem_iff,List.mem_append,List.mem_filter,List.mem_range];constructor
    · rintro(h|h)
      · exact h.1
      · exact hgr.lt k h
    · intro h;by_cases g:rm[k]?=some true
      · exact .inr ((hgr.iff k h).1 g)
      · exact .inl ⟨h,decide_eq_true g⟩
   have hnd:os.Nodup:=by
    rw[hos.nodup_iff,List.nodup_append];refine⟨List.nodup_range.sublist List.filter_sublist,hgr.nd,fun a ha b hb=>?_⟩;rintro rfl;have:=of_decide_eq_true (List.mem_filter.1 ha).2;exact this ((hgr.iff a (hgr.lt a hb)).2 hb)
   have hosl:os.length≤1000:=by
    have:=nodup_bound hnd fun k hk=>(hmem k).1 hk;omega
   rw[mk1_ok (n:=l'.length) rfl (by omega) (by decide)];simp only[Option.bind_some];refine(tchoose_tm hadj (by omega) hcs os (List.replicate l'.length []) (List.replicate l'.length false) hnd (fun k hk=>⟨(hmem k).1 hk,by rw[List.getElem?_replicate,if_pos ((hmem k).1 hk)]⟩) (by simp) (by simp) hosl).bind fun r hr=>?_
   · obtain⟨al,okk,rw',rk'⟩:=r;dsimp only;have hDR:∀k q,Df p L p.Different.length k q→k<l.length∧∃c,l[k]?=some c∧(q:Int)∈c.apart:=by
      intro k q h;have h':=h.symm;obtain⟨e,he,g⟩:=h;rw[List.take_length]at he;have hve:=hp.df e he;have hkl:k<l.length:=by
       rw[hlen];rcases g with⟨g,_⟩|⟨g,_⟩
       · subst g;exact cls_lt hL hF (by omega)
       · subst g;exact cls_lt hL hF (by omega)
      exact⟨hkl,_,List.getElem?_eq_getElem hkl,(hA.mem k _ (List.getElem?_eq_getElem hkl) _).2 ⟨q,rfl,h'.symm⟩⟩
     cases okk with
     |false=>
      refine Tm.pos rfl (Tm.some ⟨fun h=>by simp at h,fun _=>⟨rfl,fun x=>?_⟩⟩);cases hs:sat p x with
      |false=>rfl
      |true=>
       exfalso;obtain⟨f,hW,_⟩:=sat_split hp hm hL hF hG hs;obtain⟨_,hnoext⟩:=hr.no rfl;obtain⟨g,hg1,hg2⟩:=trunc (m:=l.length) (D:=fun k=>match l[k]?with|some c=>allw c|none=>[]) (nb:=fun k=>match l[k]?with|some c=>c.apart.map Int.toNat|none=>[]) (t:=fun k=>match l[k]?with|some c=>c.apart.length+1|none=>1) (R:=fun x y=>Df p L p.Different.length x y)
        (fun k=>by
         try dsimp only
         cases l[k]?with
         |none=>exact List.nodup_nil
         |some c=>exact allw_nodup)
        (fun k hk=>by
         try dsimp only
         rw[List.getElem?_eq_getElem hk];simp)
        (fun x y hxy=>by
         obtain⟨h1,c,h2,h3⟩:=hDR x y hxy;refine⟨?_,hxy.symm,?_⟩
         · try dsimp only
           rw[h2];exact List.mem_map.2 ⟨_,h3,rfl⟩
         · obtain⟨q,e,_,h4⟩:=hadj0.lt x c h2 _ h3;omega)
        (f:=f)
        (fun k hk=>by
         try dsimp only
         rw[List.getElem?_eq_getElem hk];exact hW.mem k _ (List.getElem?_eq_getElem hk))
        (fun x y hxy=>by
         obtain⟨e,he,h⟩:=hxy;rw[List.take_length]at he;have:=hW.df e he;rcases h with⟨h1,h2⟩|⟨h1,h2⟩
         · rw[←h1,←h2];exact this
         · rw[←h1,←h2];exact fun e=>this e.symm)
       refine hnoext g fun k hk=>?_;have hkl:k<l.length:=by rw[←hl'];exact(hmem k).1 hk
       have ek:l[k]?=some l[k]:=List.getElem?_eq_getElem hkl;refine⟨wrd l[k],by rw[ho,List.getElem?_map,ek];rfl,?_,fun q hq=>⟨fun _=>?_,fun hkn=>?_⟩⟩
       · have:=hg1 k hkl
         try dsimp only at this
         rw[ek]at this;exact this
       · have hq:(q:Int)∈l[k].apart:=hq;obtain⟨q',e,hdf⟩:=(hA.mem k _ ek _).1 hq;have:q=q':=by omega
         subst this;exact hg2 k q hdf
       · rw[List.getElem?_replicate]at hkn;by_cases hql:q<l'.length
         · rw[if_pos hql]at hkn;simp at hkn
         · rw[if_neg hql]at hkn;simp at hkn
     |true=>
      obtain⟨y1,y2⟩:=hr.yes rfl;dsimp only at y1 y2;subst y1;refine Tm.neg (by simp) (Tm.step (chk_ok rfl) ?_);rw[mk1_ok (n:=(numOf L).length) rfl (by rw[num_len];omega) (by decide)];simp only[Option.bind_some];have hY:∀k,k<l.length→∃c w,l[k]?=some c∧rw'[k]?=some w∧w∈allw c∧∀q:Nat,(q:Int)∈c.apart→q<l.length→rw'[q]?≠some w:=by
       intro k hk;obtain⟨c,w,ec,ew,hw,hq⟩:=y2 k ((hmem k).2 (by omega));rw[ho]at ec;obtain⟨c0,e0,rfl⟩:=wrd_get ec;exact⟨c0,w,e0,ew,List.mem_of_mem_take hw,fun q h1 h2=>hq q h1 (.inl ((hmem q).2 (by omega)))⟩
      have hfget:∀k,k<rk L L.length→rw'[k]?=some (rw'.getD k []):=by
       intro k hk;obtain⟨c,w,_,ew,_⟩:=hY k (by omega);rw[List.getD_eq_getElem?_getD,ew];rfl
      refine(tSolve_b7_tm hp hL hF (z:=(true,true,rw',rk')) (f:=fun k=>rw'.getD k []) hfget).bind fun out hout=>?_;refine Tm.some ⟨fun _=>?_,fun h=>by simp at h⟩;refine sat_join hp hm hL hF hG (f:=fun k=>rw'.getD k []) ⟨fun k c ec=>?_,fun e he=>?_⟩ hout.1 hout.2
      · have hk:k<l.length:=(List.getElem?_eq_some_iff.1 ec).1;obtain⟨c',w,ec',ew,hw,_⟩:=hY k hk;rw[ec]at ec';have:c=c':=Option.some.inj ec';subst this
        try dsimp only
        rw[List.getD_eq_getElem?_getD,ew];exact hw
      · have hve:=hp.df e he;obtain⟨hk,c,ec,hq⟩:=hDR (cls L e.e0.toNat) (cls L e.e1.toNat) ⟨e,by rw[List.take_length];exact he,.inl ⟨rfl,rfl⟩⟩;obtain⟨c',w,ec',ew,hw,hne⟩:=hY _ hk;rw[ec]at ec';have:c=c':=Option.some.inj ec';subst this;have hcl:=cls_lt hL hF (show e.e1.toNat<p.Min.length by omega);have h1:=hne _ hq (by omega);have h2:=hfget _ hcl
        try dsimp only
        intro h3;apply h1;rw[h2,←h3,List.getD_eq_getElem?_getD,ew];rfl
end
end Go.D
set_option maxRecDepth 100000
namespace Go.D
open Go Go.X
mutual
def bkP:Proof→Nat
 |⟨steps,_,_,children⟩=>steps.length+bkPs children+1
def bkPs:List Proof→Nat
 |[]=>0
 |c::r=>bkP c+bkPs r
end
theorem bkP_eq(p:Proof):bkP p=p.Steps.length+bkPs p.Children+1:=by cases p;simp[bkP]
mutual
def bkR:Refut→Nat
 |⟨_,_,_,p,children⟩=>bkP p+bkRs children+1
def bkRs:List Refut→Nat
 |[]=>0
 |c::r=>bkR c+bkRs r
end
theorem bkR_eq(p:Refut):bkR p=bkP p.Proof+bkRs p.Children+1:=by cases p;simp[bkR]
theorem nx{k n:Nat}(h:k<n)(hn:n≤9223372036854775807):iw ((k:Int)+1)=((k+1:Nat):Int):=by rw[iw_eq]<;>omega
open Go Go.X
section
variable {l:List RVar} {c:RClause} {rg rg':List Arr2Int} {r:Refut}
def rg0(l:List RVar):List Arr2Int:=l.map fun x=>Arr2Int.mk 0 (if x.Ty=2 then x.Max else 0)
theorem rg0_len:(rg0 l).length=l.length:=by simp[rg0]
theorem rg0_get{k:Nat}(h:k<l.length):(rg0 l)[k]'(by rw[rg0_len];exact h)=Arr2Int.mk 0 (if l[k].Ty=2 then l[k].Max else 0):=by simp[rg0]
theorem wRanges_tm(h:l.length≤1048576):Tm (fun N=>wRanges N l) (·=rg0 l):=by
 unfold wRanges;refine Tm.eq (a:=rg0 l) ?_ (Tm.some rfl);refine Tm.up l.length (fun k s=>s.2=(k:Int)∧s.1=(rg0 l).take k) ⟨rfl,rfl⟩ ?_;rintro k hk ⟨s,i⟩ ⟨hi,hs⟩;dsimp only at hi hs;subst hi;subst hs;unfold wRanges_b1;rcases Nat.lt_or_ge k l.length with hlt|hge
 · refine Tm.pos (by omega) (Tm.step (idx_n hlt) ?_);refine Tm.bind (Q:=(·=(rg0 l)[k]'(by rw[rg0_len];exact hlt))) ?_ fun a ha=>?_
   · rw[rg0_get hlt];by_cases h2:l[k].Ty=2
     · refine Tm.pos h2 (Tm.step (idx_n hlt) (Tm.some ?_));rw[if_pos h2]
     · refine Tm.neg h2 (Tm.some ?_);rw[if_neg h2]
   · subst ha;dsimp only;rw[apnd_ok (by simp[rg0_len];omega) (by decide)];refine Tm.some ⟨hlt,iw_n (by omega),?_⟩;exact List.take_append_getElem (by rw[rg0_len];exact hlt)
 · refine Tm.neg (by omega) (Tm.some ?_);show _=_;rw[List.take_of_length_le (by rw[rg0_len];omega)]
theorem vfirst_tm(h:l.length≤1048576):Tm (fun N=>vfirst N l) (·=rg0 l):=by
 unfold vfirst;rw[mk1_ok (n:=l.length) rfl (by omega) (by decide)];simp only[Option.bind_some];refine Tm.eq (a:=rg0 l) ?_ (Tm.some rfl);refine Tm.up l.length (fun k s=>s.2=(k:Int)∧s.1.length=l.length∧∀j,j<l.length→s.1[j]?=some (if j<k then(rg0 l).getD j (Arr2Int.mk 0 0)else Arr2Int.mk 0 0)) ⟨rfl,by simp,fun j hj=>by simp[hj]⟩ ?_;rintro k hk ⟨s,i⟩ ⟨hi,hsl,hs⟩;dsimp only at hi hsl hs;subst hi;unfold vfirst_b1;dsimp only;have hg:∀j (hj:j<l.length),(rg0 l).getD j (Arr2Int.mk 0 0)=Arr2Int.mk 0 (if l[j].Ty=2 then l[j].Max else 0):=fun j hj=>by
  rw[getD_n (by rw[rg0_len];exact hj),rg0_get hj]
 rcases Nat.lt_or_ge k l.length with hlt|hge
 · refine Tm.pos (by omega) (Tm.step (idx_n hlt) ?_);have hkk:=hs k hlt;rw[if_neg (by omega)]at hkk;by_cases h2:l[k].Ty=2
   · refine Tm.pos h2 (Tm.step (idx_get hkk) ?_);rw[upd1_i (n:=k) rfl (by omega)];refine Tm.some ⟨hlt,iw_n (by omega),by rw[List.length_set];exact hsl,fun j hj=>?_⟩;rw[List.getElem?_set];by_cases e:k=j
     · subst e;rw[if_pos rfl,if_pos (by omega),if_pos (by omega),hg k hlt,if_pos h2]
     · rw[if_neg e,hs j hj];by_cases g:j<k
       · rw[if_pos g,if_pos (by omega)]
       · rw[if_neg g,if_neg (by omega)]
   · refine Tm.neg h2 (Tm.some ⟨hlt,iw_n (by omega),hsl,fun j hj=>?_⟩);rw[hs j hj];by_cases e:j=k
     · subst e;rw[if_neg (by omega),if_pos (by omega),hg j hlt,if_neg h2]
     · by_cases g:j<k
       · rw[if_pos g,if_pos (by omega)]
       · rw[if_neg g,if_neg (by omega)]
 · refine Tm.neg (by omega) (Tm.some ?_);show s=rg0 l;apply List.ext_getElem?;intro j;rcases Nat.lt_or_ge j l.length with hj|hj
   · rw[hs j hj,if_pos (by omega),List.getElem?_eq_getElem (by rw[rg0_len];exact hj),getD_n (by rw[rg0_len];exact hj)]
   · rw[List.getElem?_eq_none (by omega),List.getElem?_eq_none (by rw[rg0_len];omega)]
def nulB(l:List RVar)(v:Int):Bool:=match l[v.toNat]?with
 |some x=>x.Nullable
 |none=>false
def nul(c:RClause)(l:List RVar)(v:Int):Bool:=decide (v∈c.Null)&&(decide (v∈c.NotNull)||!nulB l v)
theorem vcheck0(hk:r.Kind=0)(hv:ClOk c l)(hl:l.length≤10):Tm (fun N=>vcheck N l c r rg) (·=nul c l r.Var):=by
 have hb:Bg=9223372036854775807:=rfl;have n1:=hv.nl.len;have n2:=hv.nn.len;refine Tm.succ ?_;show Tm (fun N=>vcheck_step N (vcheck N) l c r rg) _;unfold vcheck_step nul;refine Tm.pos hk ((containsOf_tm (by omega)).eq ?_);by_cases h1:r.Var∈c.Null
 · rw[decide_eq_true h1];refine Tm.pos rfl ((containsOf_tm (by omega)).eq ?_);by_cases h2:r.Var∈c.NotNull
   · rw[decide_eq_true h2];exact Tm.pos rfl (Tm.some rfl)
   · rw[decide_eq_false h2];obtain⟨k,e,hk⟩:=var_n (hv.nl.bd _ h1);refine Tm.neg (by simp) ?_;rw[e];refine Tm.step (idx_n hk) (Tm.some ?_);unfold nulB;rw[Int.toNat_natCast,List.getElem?_eq_getElem hk];rfl
 · rw[decide_eq_false h1];exact Tm.neg (by simp) (Tm.some rfl)
theorem txts_lms(hd:DmOk l)(hv:ClOk c l)(hs:SmC c):Lms (txtsOf l c rg)∧(txtsOf l c rg).Different.length≤98∧(txtsOf l c rg).Min.length≤19:=by
 have hl:=hd.len;have h1:=tvs_len (l:=l) (c:=c);have h2:=hv.nn.len;have h3:=hs.ts;have h4:=hs.sm;have h5:=hs.df;refine⟨⟨?_,?_,?_,?_,?_⟩,?_,?_⟩<;>(show(List.map _ _).length≤_;rw[List.length_map];omega)
theorem vcheck1(hk:r.Kind=1)(hd:DmOk l)(hv:ClOk c l)(hs:SmC c)(hr:RgOk l rg):Tm (fun N=>vcheck N l c r rg) (fun b=>b=true↔∀x,sat (txtsOf l c rg) x=false):=by
 refine Tm.succ ?_;show Tm (fun N=>vcheck_step N (vcheck N) l c r rg) _;unfold vcheck_step;obtain⟨g1,g2,g3⟩:=txts_lms (rg:=rg) hd hv hs;refine Tm.neg (by omega) (Tm.pos hk ((vTexts_tm hv hs hr hd.len).eq ((tSolve_tm (txts_okP hd hv hr) g1 g2 g3).bind fun z hz=>Tm.some ?_)));cases e:z.2 with
 |true=>exact⟨fun h=>by simp at h,fun h=>by have:=hz.1 e;rw[h]at this;cases this⟩
 |false=>exact⟨fun _=>(hz.2 e).2,fun _=>rfl⟩
theorem vcheckX(h0:r.Kind≠0)(h1:r.Kind≠1)(h2:r.Kind≠2)(h3:r.Kind≠3):Tm (fun N=>vcheck N l c r rg) (·=false):=by
 refine Tm.succ ?_;show Tm (fun N=>vcheck_step N (vcheck N) l c r rg) _;unfold vcheck_step;exact Tm.neg h0 (Tm.neg h1 (Tm.neg h2 (Tm.neg h3 (Tm.some rfl))))
theorem clonePair_tm{s:List Arr2Int}(h:s.length≤1000):Tm (fun N=>clonePair N s) (·=s):=by
 unfold clonePair;rw[apnd_ok (by simp;omega) (by decide)];exact Tm.some rfl
def shortR(rg:List Arr2Int)(k:Nat)(a:Int):List Arr2Int:=rg.set k (Arr2Int.mk (rg.getD k (Arr2Int.mk 0 0)).e0 a)
def longR(rg:List Arr2Int)(k:Nat)(a:Int):List Arr2Int:=rg.set k (Arr2Int.mk (a+1) (rg.getD k (Arr2Int.mk 0 0)).e1)
theorem shortR_ok(hr:RgOk l rg){k:Nat}{a:Int}(ha:0≤a∧a≤16):RgOk l (shortR rg k a):=by
 refine⟨by unfold shortR;rw[List.length_set];exact hr.len,fun r h=>?_⟩;unfold shortR at h;rcases Nat.lt_or_ge k rg.length with hk|hk
 · rcases List.mem_or_eq_of_mem_set h with h|h
   · exact hr.bd r h
   · rw[h,getD_n hk];exact⟨(hr.bd _ (List.getElem_mem hk)).1,ha⟩
 · rw[List.set_eq_of_length_le hk]at h;exact hr.bd r h
theorem longR_ok(hr:RgOk l rg){k:Nat}{a:Int}(ha:0≤a∧a<16):RgOk l (longR rg k a):=by
 refine⟨by unfold longR;rw[List.length_set];exact hr.len,fun r h=>?_⟩;unfold longR at h;rcases Nat.lt_or_ge k rg.length with hk|hk
 · rcases List.mem_or_eq_of_mem_set h with h|h
   · exact hr.bd r h
   · rw[h,getD_n hk];exact⟨⟨by dsimp only;omega,by dsimp only;omega⟩,(hr.bd _ (List.getElem_mem hk)).2⟩
 · rw[List.set_eq_of_length_le hk]at h;exact hr.bd r h
theorem vcheck3(hk:r.Kind=3){k:Nat}(hkl:k<l.length)(ev:r.Var=(k:Int))(hm:r.Var∈c.NotNull)(h2:l[k].Ty=2)(hv:ClOk c l)(hd:DmOk l)(hr:RgOk l rg)(ha0:(rg.getD k (Arr2Int.mk 0 0)).e0≤r.At)(ha1:r.At<(rg.getD k (Arr2Int.mk 0 0)).e1)
 {p q:Refut}(hc:r.Children=[p,q]){b1 b2:Bool}(hp:Tm (fun N=>vcheck N l c p (shortR rg k r.At)) (·=b1))(hq:Tm (fun N=>vcheck N l c q (longR rg k r.At)) (·=b2)):Tm (fun N=>vcheck N l c r rg) (·=(b1&&b2)):=by
 have hb:Bg=9223372036854775807:=rfl;have n2:=hv.nn.len;have hl:=hd.len;have hrl:=hr.len;have hkr:k<rg.length:=by omega
 have hbd:=hr.bd _ (List.getElem_mem hkr);rw[getD_n hkr]at ha0 ha1;refine Tm.succ ?_;show Tm (fun N=>vcheck_step N (vcheck N) l c r rg) _;unfold vcheck_step;refine Tm.neg (by omega) (Tm.neg (by omega) (Tm.neg (by omega) (Tm.pos hk ?_)));refine Tm.bind (Q:=(·=false)) ?_ fun b hb'=>?_
 · refine(containsOf_tm (by omega)).eq ?_;rw[decide_eq_true hm];refine Tm.neg (by simp) ?_;rw[ev];refine Tm.step (idx_n hkl) (Tm.neg (by simp[h2]) (Tm.step (idx_n hkr) (Tm.neg (by omega) (Tm.step (idx_n hkr) (Tm.neg (by omega) (Tm.some ?_))))));rw[hc];rfl
 · subst hb';refine Tm.neg (by simp) ((clonePair_tm (by omega)).eq ((clonePair_tm (by omega)).eq ?_));have e1:iw (r.At+1)=r.At+1:=by rw[iw_eq]<;>omega
   rw[ev,e1];refine Tm.step (idx_n hkr) ?_;rw[upd1_i (n:=k) rfl hkr];simp only[Option.bind_some];refine Tm.step (idx_n hkr) ?_;rw[upd1_i (n:=k) rfl hkr];simp only[Option.bind_some];unfold shortR at hp;unfold longR at hq;rw[getD_n hkr]at hp hq;rw[hc];refine Tm.step (a:=p) rfl (hp.eq ?_);cases b1 with
   |false=>exact Tm.neg (by simp) (Tm.some rfl)
   |true=>exact Tm.pos rfl (Tm.step (a:=q) rfl (hq.eq (Tm.some rfl)))
end
open Go Go.X
theorem tab256:∀i,i<256→len32_lit256.getD i 0≤8∧(0<i→0<(len32_lit256.getD i 0).toNat∧2^((len32_lit256.getD i 0).toNat-1)≤i∧i<2^(len32_lit256.getD i 0).toNat):=by decide+kernel
theorem tab256_len:len32_lit256.length=256:=by decide+kernel
theorem len32_tm{x:Int}(h0:0<x)(h1:x<4294967296):Tm (fun N=>len32 N x) (fun r=>∃k:Nat,r=k∧0<k∧k≤32∧2^(k-1)≤x∧x<2^k):=by
 unfold len32;refine Tm.bind (Q:=fun p:Int×Int=>∃m:Nat,p.2=m∧m≤16∧0<p.1∧p.1<65536∧p.1*2^m≤x∧x<(p.1+1)*2^m) (Tm.ite (fun h=>Tm.pure ?_) (fun h=>Tm.pure ?_)) ?_
 · refine⟨16,rfl,by decide,?_⟩;rw[show bshr .u32 x 16=x/2^16 from bshr_u32 (n:=16) (by decide)];have e:(2:Int)^16=65536:=by decide
   dsimp only;rw[e];omega
 · exact⟨0,rfl,by decide,h0,by dsimp only;omega,by simp,by dsimp only;omega⟩
 rintro⟨y,_⟩ ⟨m,rfl,hm,y0,y1,hy,hy'⟩;dsimp only at*;refine Tm.bind (Q:=fun p:Int×Int=>∃m:Nat,p.2=m∧m≤24∧0<p.1∧p.1<256∧p.1*2^m≤x∧x<(p.1+1)*2^m) (Tm.ite (fun h=>Tm.pure ?_) (fun h=>Tm.pure ?_)) ?_
 · refine⟨m+8,by dsimp only;rw[iw_eq]<;>omega,by omega,?_⟩;rw[show bshr .u32 y 8=y/2^8 from bshr_u32 (n:=8) (by decide)];have e:(2:Int)^8=256:=by decide
   have hp:(0:Int)<2^m:=Int.pow_pos (by decide);dsimp only;rw[Int.pow_add,e];refine⟨by omega,by omega,?_,?_⟩
   · have:y/256*256*2^m≤y*2^m:=Int.mul_le_mul_of_nonneg_right (by omega) (by omega);have e2:y/256*(2^m*256)=y/256*256*2^m:=by grind
     omega
   · have:(y+1)*2^m≤(y/256+1)*256*2^m:=Int.mul_le_mul_of_nonneg_right (by omega) (by omega);have e2:(y/256+1)*(2^m*256)=(y/256+1)*256*2^m:=by grind
     omega
 · exact⟨m,rfl,by omega,y0,by dsimp only;omega,hy,hy'⟩
 rintro⟨z,_⟩ ⟨m,rfl,hm,z0,z1,hz,hz'⟩;dsimp only at*;have hu:uw8 z=(z.toNat:Int):=by unfold uw8;rw[show IntKind.u8.wrap z=z%256 from wu8];omega
 refine Tm.step (idx_i (n:=z.toNat) hu (by rw[tab256_len];omega)) (Tm.pure ?_);obtain⟨t1,t2⟩:=tab256 z.toNat (by omega);rw[List.getD_eq_getElem?_getD,List.getElem?_eq_getElem (by rw[tab256_len];omega)]at t1 t2;simp only[Option.getD_some]at t1 t2;generalize len32_lit256[z.toNat]'(by rw[tab256_len];omega)=t at*;obtain⟨p0,p1,p2⟩:=t2 (by omega);have t1':t.toNat≤8:=by simpa[UInt8.le_iff_toNat_le]using t1
 have e1:iw (t.toNat:Int)=t.toNat:=by rw[iw_eq]<;>omega
 rw[e1];have hp:(0:Int)<2^m:=Int.pow_pos (by decide);have p1':((2:Int)^(t.toNat-1))≤z:=by
  have h:((2^(t.toNat-1):Nat):Int)≤(z.toNat:Int):=Int.ofNat_le.2 p1;rw[Int.toNat_of_nonneg (by omega),Int.natCast_pow]at h;exact h
 have p2':z+1≤(2:Int)^t.toNat:=by
  have h:(z.toNat:Int)<((2^t.toNat:Nat):Int):=Int.ofNat_lt.2 p2;rw[Int.toNat_of_nonneg (by omega),Int.natCast_pow]at h;exact h
 refine⟨m+t.toNat,by rw[iw_eq]<;>omega,by omega,by omega,?_,?_⟩
 · rw[show m+t.toNat-1=(t.toNat-1)+m by omega,Int.pow_add];exact Int.le_trans (Int.mul_le_mul_of_nonneg_right p1' (by omega)) hz
 · rw[Nat.add_comm,Int.pow_add];exact Int.lt_of_lt_of_le hz' (Int.mul_le_mul_of_nonneg_right p2' (by omega))
theorem lz32_tm{x:Int}(h0:0<x)(h1:x<4294967296):Tm (fun N=>lz32 N x) (fun r=>∃s:Nat,r=s∧s≤31∧2147483648≤x*2^s∧x*2^s<4294967296):=by
 unfold lz32;refine Tm.bind (len32_tm h0 h1) ?_;rintro _ ⟨k,rfl,k0,k1,hk,hk'⟩;refine Tm.pure ⟨32-k,by rw[iw_eq]<;>omega,by omega,?_,?_⟩
 · have:=Int.mul_le_mul_of_nonneg_right hk (show(0:Int)≤2^(32-k) from Int.le_of_lt (Int.pow_pos (by decide)));rw[←Int.pow_add,show k-1+(32-k)=31 by omega]at this;exact this
 · have:=Int.mul_lt_mul_of_pos_right hk' (show(0:Int)<2^(32-k) from Int.pow_pos (by decide));rw[←Int.pow_add,show k+(32-k)=32 by omega]at this;exact this
open Go Go.X
theorem bor_add{k:IntKind}{x y n:Nat}(hx:k.wrap (x:Int)=x)(hy:k.wrap (y:Int)=y)(h:x<2^n)(hm:2^n∣y):bor k x y=((x+y:Nat):Int):=by
 rw[bor_nat hx hy];obtain⟨q,rfl⟩:=hm;rw[Nat.or_comm,←Nat.two_pow_add_eq_or_of_lt h,Nat.add_comm]
theorem getD_set{l:List Int}{n m:Nat}{y:Int}(h:n<l.length):(l.set n y).getD m 0=if n=m then y else l.getD m 0:=by
 rw[List.getD_eq_getElem?_getD,List.getD_eq_getElem?_getD,List.getElem?_set];by_cases e:n=m
 · subst e;simp[h]
 · simp[e]
theorem w32_nat{z:Nat}(h:z<4294967296):IntKind.u32.wrap (z:Int)=z:=by rw[show IntKind.u32.wrap (z:Int)=(z:Int)%4294967296 from wu32];omega
theorem pow_dvd32{s:Nat}(h:s≤31):(2:Int)^s*2^(32-s)=4294967296:=by rw[←Int.pow_add,show s+(32-s)=32 by omega];decide
theorem bshift_tm{a:List Int}{n:Int}{s:Nat}(hn:n=s)(hs:s≤31)(ha:InB W32 a)(hl:a.length≤17592186044416):Tm (fun N=>bshift N a n) (fun r=>InB W32 r∧val W32 r=val W32 a*2^s∧r.length=a.length+1):=by
 unfold bshift;subst hn;have hP:(0:Int)<2^s:=Int.pow_pos (by decide);have hQ:(0:Int)<2^(32-s):=Int.pow_pos (by decide);have hPQ:=pow_dvd32 hs;refine Tm.step (mk1_ok (n:=a.length+1) (by rw[iw_eq]<;>omega) (by omega) (by decide)) ?_;refine Tm.bind (Q:=fun r=>InB W32 r∧val W32 r=val W32 a*2^s∧r.length=a.length+1)
  (Tm.loop (fun t:List Int×Int=>∃k:Nat,t.2=k∧k≤a.length∧t.1.length=a.length+1∧InB W32 t.1∧t.1.getD k 0<2^s∧val W32 (t.1.take (k+1))=val W32 (a.take k)*2^s) (fun t=>a.length-t.2.toNat)
   ⟨0,rfl,Nat.zero_le _,by simp,InB.rep (by decide),?_,?_⟩ ?_) (fun r h=>Tm.pure h)
 · show(List.replicate (a.length+1) (0:Int)).getD 0 0<_;simpa using hP
 · show val W32 ((List.replicate (a.length+1) (0:Int)).take 1)=_;rw[List.take_replicate,val_rep];simp[val]
 rintro⟨out,i⟩ ⟨k,rfl,hk,ho,hB,hc,hv⟩;dsimp only[bshift_b1]at*;refine Tm.ite (fun h=>?_) (fun h=>Tm.pure ?_)
 · have hx:=ha.get (n:=k) (by omega);have ex:a.getD k 0=a[k]'(by omega):=getD_ok (by omega);refine Tm.step (idx_ok (by omega)) (Tm.step (chk_ok (by omega)) (Tm.step (idx_ok (by omega)) (Tm.step (idx_ok (by omega)) ?_)));generalize a[k]'(by omega)=x at*;have hco:=hB.get (n:=k) (by omega);have eo:out.getD k 0=out[k]'(by omega):=getD_ok (by omega);have hvs:=fun y=>take_set (l:=out) (n:=k) (y:=y) (by omega);rw[eo]at hc;rw[val_take,eo]at hv;generalize out[k]'(by omega)=c at*;simp only[W32]at hx;have hw0:0≤x*2^s:=Int.mul_nonneg hx.1 (by omega);have hP31:(2:Int)^s≤2147483648:=by
    have:=pow_mono (B:=2) (by decide) hs;exact this
   have hw1:x*2^s≤4294967295*2147483648:=Int.mul_le_mul (by omega) hP31 (by omega) (by decide);have ew:bshl .u64 (uw x) s=x*2^s:=by
    unfold bshl;rw[show uw x=x by rw[uw_mod];omega,show min ((s:Int)).toNat IntKind.u64.bits=s by show min _ 64=s;omega];rw[show IntKind.u64.wrap (x*2^s)=(x*2^s)%18446744073709551616 from wu];omega
   rw[ew,bshr32,uw32_mod];have hlo:(x*2^s)%4294967296=(x%2^(32-s))*2^s:=by
    rw[←hPQ,Int.mul_comm x,Int.mul_emod_mul_of_pos _ _ hP,Int.mul_comm]
   have hhi:x*2^s/4294967296=x/2^(32-s):=by
    rw[←hPQ,Int.mul_comm ((2:Int)^s) (2^(32-s)),Int.mul_ediv_mul_of_pos_left _ _ hP]
   have hhi1:x/2^(32-s)<2^s:=Int.ediv_lt_of_lt_mul hQ (by rw[hPQ];omega);have hhi0:0≤x/2^(32-s):=Int.ediv_nonneg hx.1 (by omega);have hlo0:0≤x%2^(32-s):=Int.emod_nonneg _ (by omega);have hlo1:x%2^(32-s)+1≤2^(32-s):=Int.emod_lt_of_pos _ hQ;have hlo2:(x%2^(32-s))*2^s+2^s≤4294967296:=by
    have:=Int.mul_le_mul_of_nonneg_right hlo1 (show(0:Int)≤2^s by omega);rw[Int.mul_comm (2^(32-s)) (2^s),hPQ]at this;grind
   have hor:bor .u32 c ((x*2^s)%4294967296)=c+(x%2^(32-s))*2^s:=by
    rw[hlo];obtain⟨cn,rfl⟩:=Int.eq_ofNat_of_zero_le hco.1;obtain⟨ln,hln⟩:=Int.eq_ofNat_of_zero_le hlo0;rw[hln];have e1:(ln:Int)*2^s=((ln*2^s:Nat):Int):=by simp
    have hl0:0≤(ln:Int)*2^s:=Int.mul_nonneg (by omega) (by omega);rw[hln]at hlo2;rw[e1]at hlo2⊢;simp only[W32]at hco;rw[bor_add (n:=s) (w32_nat (by omega)) (w32_nat (by omega)) (by have:((cn:Nat):Int)<((2^s:Nat):Int):=(by simpa using hc);omega) (Nat.dvd_mul_left _ _)];omega
   rw[hor];refine Tm.step (upd1_i rfl (by omega)) ?_;have hB1:InB W32 (out.set k (c+(x%2^(32-s))*2^s)):=hB.set (by
    have:0≤(x%2^(32-s))*2^s:=Int.mul_nonneg hlo0 (by omega);simp only[W32]at*;omega)
   have hi1:iw ((k:Int)+1)=((k+1:Nat):Int):=by rw[iw_eq]<;>omega
   refine Tm.step (idx_i hi1 (by simp;omega)) (Tm.step (upd1_i hi1 (by simp;omega)) ?_);have ehi:uw32 (x*2^s/4294967296)=x/2^(32-s):=by rw[hhi,uw32_mod];omega
   rw[ehi];refine Tm.pure ⟨⟨k+1,hi1,by omega,by simp;omega,hB1.set (by simp only[W32];omega),?_,?_⟩,?_⟩
   · show(((out.set k _).set (k+1) _).getD (k+1) 0)<2^s;rw[getD_set (by simp;omega),if_pos rfl];exact hhi1
   · show val W32 (((out.set k _).set (k+1) _).take (k+1+1))=_;rw[take_set (by simp;omega),hvs,val_take,ex,Int.pow_succ];have:=Int.emod_add_mul_ediv x (2^(32-s));have hw:W32=2^s*2^(32-s):=hPQ.symm;have e3:W32^k*W32*(x/2^(32-s))=W32^k*(2^s*(2^(32-s)*(x/2^(32-s)))):=by
      conv=>lhs;rw[Int.mul_assoc,show W32*(x/2^(32-s))=2^s*2^(32-s)*(x/2^(32-s)) by rw[←hw]]
      rw[Int.mul_assoc]
     rw[e3];grind
   · show a.length-(iw ((k:Int)+1)).toNat<a.length-((k:Int)).toNat;rw[hi1];omega
 · obtain rfl:k=a.length:=by omega
   rw[take_all (by omega),take_all (Nat.le_refl _)]at hv;exact⟨hB,hv,ho⟩
open Go Go.X
theorem idx_g{xs:List Int}{i:Int}{n:Nat}(e:i=(n:Int))(h:n<xs.length):idx xs i=some (xs.getD n 0):=by
 rw[getD_ok h];exact idx_i e h
theorem sdiv_ok{k:IntKind}{x y:Int}(h:y≠0):sdiv k x y=some (k.wrap (x.tdiv y)):=by unfold sdiv;rw[if_neg h]
theorem srem_ok{x y:Int}(h:y≠0):srem x y=some (x.tmod y):=by unfold srem;rw[if_neg h]
theorem u64_nat{z:Nat}(h:z<18446744073709551616):IntKind.u64.wrap (z:Int)=z:=by rw[show IntKind.u64.wrap (z:Int)=(z:Int)%18446744073709551616 from wu];omega
theorem bshl32{x:Int}(h0:0≤x)(h1:x<4294967296):bshl .u64 x 32=x*4294967296:=by
 unfold bshl;rw[show((2:Int)^(min (32:Int).toNat IntKind.u64.bits))=4294967296 from rfl];rw[show IntKind.u64.wrap (x*4294967296)=(x*4294967296)%18446744073709551616 from wu];omega
theorem bor_hi{x y:Int}(h0:0≤x)(h1:x<4294967296)(h2:0≤y)(h3:y<4294967296):bor .u64 (bshl .u64 x 32) y=x*4294967296+y:=by
 rw[bshl32 h0 h1];obtain⟨a,rfl⟩:=Int.eq_ofNat_of_zero_le h0;obtain⟨b,rfl⟩:=Int.eq_ofNat_of_zero_le h2;rw[show(a:Int)*4294967296=((a*2^32:Nat):Int) by simp];rw[bor_nat (u64_nat (by omega)) (u64_nat (by omega)),←Nat.shiftLeft_eq,←Nat.shiftLeft_add_eq_or_of_lt (by omega),Nat.shiftLeft_eq];omega
theorem band_lo{z:Int}(h0:0≤z)(h1:z<18446744073709551616):band .u64 z 4294967295=z%4294967296:=by
 obtain⟨a,rfl⟩:=Int.eq_ofNat_of_zero_le h0;rw[show(4294967295:Int)=((2^32-1:Nat):Int) by decide,band_nat (u64_nat (by omega)) (u64_nat (by decide)),Nat.and_two_pow_sub_one_eq_mod];omega
theorem uw_id{z:Int}(h0:0≤z)(h1:z<18446744073709551616):uw z=z:=by rw[uw_mod];omega
theorem tdivP{x y:Int}(h:0≤x):x.tdiv y=x/y:=Int.tdiv_eq_ediv_of_nonneg h
theorem tmodP{x y:Int}(h:0≤x):x.tmod y=x%y:=Int.tmod_eq_emod_of_nonneg h
theorem bshort_tm{a:List Int}{y:Int}(ha:InB W32 a)(h0:0<y)(h1:y<W32)(hl:a.length≤17592186044416):
 Tm (fun N=>bshort N a y) (fun r=>InB W32 r.1∧val W32 r.1=val W32 a/y∧r.2=val W32 a%y∧r.1.length=a.length):=by
 unfold bshort;refine Tm.step (mk1_ok rfl (by omega) (by decide)) ?_;refine Tm.bind (Q:=fun r:List Int×Int=>InB W32 r.1∧r.1.length=a.length∧0≤r.2∧r.2<y∧val W32 r.1*y+r.2=val W32 a)
  (Tm.loop (fun t:List Int×Int×Int=>∃k:Nat,t.2.2=(k:Int)-1∧k≤a.length∧t.1.length=a.length∧InB W32 t.1∧0≤t.2.1∧t.2.1<y∧(∀j,j<k→t.1.getD j 0=0)∧val W32 t.1*y+W32^k*t.2.1+val W32 (a.take k)=val W32 a) (fun t=>(t.2.2+1).toNat)
   ⟨a.length,by rw[iw_eq]<;>omega,Nat.le_refl _,by simp,InB.rep (by decide),by simp,h0,fun j hj=>by rw[getD_ok (by simpa using hj)];simp,by rw[take_all (Nat.le_refl _),val_rep];simp⟩ ?_) ?_
 · rintro⟨out,rest,i⟩ ⟨k,rfl,hk,ho,hB,r0,r1,hz,hv⟩;dsimp only[bshort_b1]at*;refine Tm.ite (fun h=>?_) (fun h=>Tm.pure ?_)
   · obtain⟨n,rfl⟩:∃n,k=n+1:=⟨k-1,by omega⟩;have hi:((n+1:Nat):Int)-1=(n:Int):=by omega
     rw[hi];have hx:=ha.getD (by decide) n;have hvt:=val_take (B:=W32) (l:=a) (n:=n);refine Tm.step (idx_g rfl (by omega)) ?_;generalize a.getD n 0=x at*;simp only[W32]at hx h1;have ex:uw x=x:=uw_id hx.1 (by omega);have ey:uw y=y:=uw_id (by omega) (by omega);rw[ex,ey,bor_hi r0 (by omega) hx.1 hx.2];have hT0:0≤rest*4294967296+x:=by omega
     have hq1:(rest*4294967296+x)/y<4294967296:=Int.ediv_lt_of_lt_mul h0 (by
      have:=Int.mul_le_mul_of_nonneg_right (show rest+1≤y by omega) (show(0:Int)≤4294967296 by decide);rw[Int.mul_comm 4294967296 y];omega)
     have hq0:0≤(rest*4294967296+x)/y:=Int.ediv_nonneg hT0 (by omega);refine Tm.step (sdiv_ok (by omega)) (Tm.step (idx_g rfl (by omega)) (Tm.step (upd1_i rfl (by omega)) (Tm.step (srem_ok (by omega)) (Tm.pure ?_))));rw[tdivP hT0,tmodP hT0,show IntKind.u64.wrap ((rest*4294967296+x)/y)=(rest*4294967296+x)/y from uw_id hq0 (by omega),show uw32 ((rest*4294967296+x)/y)=(rest*4294967296+x)/y by rw[uw32_mod];omega];have hm0:=Int.emod_nonneg (rest*4294967296+x) (show y≠0 by omega);have hm1:=Int.emod_lt_of_pos (rest*4294967296+x) h0;have hd:=Int.emod_add_mul_ediv (rest*4294967296+x) y;refine⟨⟨n,by show iw ((n:Int)-1)=_;rw[iw_eq]<;>omega,by omega,by simp;omega,hB.set (by simp only[W32];omega),hm0,hm1,fun j hj=>?_,?_⟩,?_⟩
     · show(out.set n _).getD j 0=0;rw[getD_set (by omega),if_neg (by omega)];exact hz j (by omega)
     · show val W32 (out.set n _)*y+W32^n*((rest*4294967296+x)%y)+val W32 (a.take n)=_;have hon:out[n]'(by omega)=0:=by have:=hz n (by omega);rwa[getD_ok (by omega)]at this
       rw[val_set (by omega),hon];rw[Int.pow_succ]at hv;have hw:W32=4294967296:=rfl;generalize(rest*4294967296+x)/y=q at*;generalize(rest*4294967296+x)%y=t at*;rw[←hv,hvt];have e1:W32^n*W32*rest=W32^n*(rest*4294967296):=by rw[hw];grind
       have e2:W32^n*(t+y*q)=W32^n*(rest*4294967296+x):=by rw[hd]
       rw[e1];grind
     · show(iw ((n:Int)-1)+1).toNat<((n:Int)+1).toNat;rw[iw_eq]<;>omega
   · obtain rfl:k=0:=by omega
     refine⟨hB,ho,r0,r1,?_⟩;simpa[val]using hv
 · rintro⟨out,rest⟩ ⟨hB,ho,r0,r1,hv⟩;dsimp only at*;simp only[W32]at h1;refine Tm.pure ⟨hB,?_,?_,ho⟩
   · show val W32 out=_;rw[←hv,Int.add_comm,Int.add_mul_ediv_right _ _ (by omega),Int.ediv_eq_zero_of_lt r0 r1];omega
   · show uw32 rest=_;rw[uw32_mod,←hv,Int.add_comm,Int.add_mul_emod_self_right,Int.emod_eq_of_lt r0 r1];omega
section
variable {W V R v1 v2 u2 top p vl rl g rest:Int}
theorem g_dec(hp:0<p)(hV:V=(v1*W+v2)*p+vl)(hvl:0≤vl)(hR:R=(top*W+u2)*p+rl)(hrl:rl<p)(ht:top=g*v1+rest)(hg:0≤g)(h:rest*W+u2<g*v2):R<g*V:=by
 have h1:top*W+u2+1≤g*(v1*W+v2):=by
  have e:g*(v1*W+v2)=(g*v1)*W+g*v2:=by grind
  have e2:top*W=(g*v1)*W+rest*W:=by rw[ht];grind
  omega
 have h2:=Int.mul_le_mul_of_nonneg_right h1 (Int.le_of_lt hp);have h3:0≤g*vl:=Int.mul_nonneg hg hvl;have e1:g*V=g*(v1*W+v2)*p+g*vl:=by rw[hV];grind
 have e2:(top*W+u2+1)*p=(top*W+u2)*p+p:=by grind
 omega
theorem g_top(hp:0<p)(hW:0<W)(hv2:v2<W)(hV:V=(v1*W+v2)*p+vl)(hvl:vl<p)(hR:R=(top*W+u2)*p+rl)(hu2:0≤u2)(hrl:0≤rl)(h:R<W*V):top<(v1+1)*W:=by
 have h1:top*W<W*(v1*W+v2+1):=by
  rcases Int.lt_or_le (top*W) (W*(v1*W+v2+1))with h1|h1
  · exact h1
  · exfalso;have h2:=Int.mul_le_mul_of_nonneg_right (show W*(v1*W+v2+1)≤top*W+u2 by omega) (Int.le_of_lt hp);have h3:W*vl<W*p:=Int.mul_lt_mul_of_pos_left hvl hW;have e1:W*V=W*(v1*W+v2)*p+W*vl:=by rw[hV];grind
    have e2:W*(v1*W+v2+1)*p=W*(v1*W+v2)*p+W*p:=by grind
    omega
 have h2:W*top<W*(v1*W+v2+1):=by rw[Int.mul_comm W top];exact h1
 have h3:=Int.lt_of_mul_lt_mul_left h2 (Int.le_of_lt hW);have e:(v1+1)*W=v1*W+W:=by grind
 omega
theorem g_small(hv1:0<v1)(ht:top=g*v1+rest)(hr:W≤rest)(h:top<(v1+1)*W):g<W:=by
 have h1:g*v1<W*v1:=by
  have e:(v1+1)*W=W*v1+W:=by grind
  omega
 exact Int.lt_of_mul_lt_mul_right h1 (Int.le_of_lt hv1)
theorem g_brk(hp:0<p)(hW:0<W)(hv2:0≤v2)(hv2':v2<W)(hV:V=(v1*W+v2)*p+vl)(hvl:0≤vl)(hvl':vl<p)(hR:R=(top*W+u2)*p+rl)(hu2:0≤u2)(hrl:0≤rl)
 (ht:top=g*v1+rest)(hr:W≤rest)(hg:0≤g)(hgW:g<W):g*V≤R:=by
 have h1:g*(v2*p+vl)≤W*(W*p):=by
  have:v2*p+vl≤W*p:=by
   have:=Int.mul_le_mul_of_nonneg_right (show v2+1≤W by omega) (Int.le_of_lt hp);have e:(v2+1)*p=v2*p+p:=by grind
   omega
  have h0:0≤v2*p+vl:=by have:=Int.mul_nonneg hv2 (Int.le_of_lt hp);omega
  exact Int.mul_le_mul (by omega) this h0 (by omega)
 have h2:W*(W*p)≤rest*(W*p):=Int.mul_le_mul_of_nonneg_right hr (Int.mul_nonneg (by omega) (by omega));have h3:0≤u2*p:=Int.mul_nonneg hu2 (by omega);have e1:g*V=g*v1*(W*p)+g*(v2*p+vl):=by rw[hV];grind
 have e2:R=g*v1*(W*p)+rest*(W*p)+u2*p+rl:=by rw[hR,ht];grind
 omega
theorem g_end(hp:0<p)(hW:0<W)(hv1:0<v1)(hv2:0≤v2)(hV:V=(v1*W+v2)*p+vl)(hvl:0≤vl)(hvl':vl<p)(hR:R=(top*W+u2)*p+rl)(hrl:0≤rl)
 (ht:top=g*v1+rest)(hg:0≤g)(hgW:g<W)(h:g*v2≤rest*W+u2):g*V≤R+V:=by
 have h1:g*(v1*W+v2)≤top*W+u2:=by
  have e:g*(v1*W+v2)=(g*v1)*W+g*v2:=by grind
  have e2:top*W=(g*v1)*W+rest*W:=by rw[ht];grind
  omega
 have h2:=Int.mul_le_mul_of_nonneg_right h1 (Int.le_of_lt hp);have h3:g*vl≤W*p:=Int.mul_le_mul (by omega) (by omega) hvl (by omega);have h4:W*p≤v1*(W*p):=by
  have:=Int.mul_le_mul_of_nonneg_right (show 1≤v1 by omega) (show 0≤W*p from Int.mul_nonneg (by omega) (by omega));omega
 have h5:0≤v2*p:=Int.mul_nonneg hv2 (by omega);have e1:g*V=g*(v1*W+v2)*p+g*vl:=by rw[hV];grind
 have e2:V=v1*(W*p)+v2*p+vl:=by rw[hV];grind
 omega
theorem g_init(hp:0<p)(hW:0<W)(hv1:0<v1)(hv2:0≤v2)(hV:V=(v1*W+v2)*p+vl)(hvl:0≤vl)(hR:R=(top*W+u2)*p+rl)(hu2:u2<W)(hrl:rl<p)
 (ht:top=g*v1+rest)(hr:rest<v1)(hg:0≤g):R<(g+1)*V:=by
 have h1:(top+1)*(W*p)≤(g+1)*v1*(W*p):=Int.mul_le_mul_of_nonneg_right (by have e:(g+1)*v1=g*v1+v1:=(by grind);omega) (Int.mul_nonneg (by omega) (by omega));have h2:0≤(g+1)*(v2*p+vl):=Int.mul_nonneg (by omega) (by have:=Int.mul_nonneg hv2 (Int.le_of_lt hp);omega);have h3:=Int.mul_le_mul_of_nonneg_right (show u2+1≤W by omega) (Int.le_of_lt hp);have e1:(g+1)*V=(g+1)*v1*(W*p)+(g+1)*(v2*p+vl):=by rw[hV];grind
 have e2:R=top*(W*p)+u2*p+rl:=by rw[hR];grind
 have e3:(top+1)*(W*p)=top*(W*p)+W*p:=by grind
 have e4:(u2+1)*p=u2*p+p:=by grind
 omega
end
theorem b2_tm{b v u:List Int}{n m:Nat}{V R v1 v2 u2 top p vl rl g0 r0:Int}(hb:b.length=m)(hv:v.length=m)(hm:2≤m)(hu:n+m<u.length)(hul:u.length≤35184372088832)
 (e1:v.getD (m-1) 0=v1)(e2:v.getD (m-2) 0=v2)(e3:u.getD (n+m-2) 0=u2)(hv1:0<v1∧v1<4294967296)(hv2:0≤v2∧v2<4294967296)(hu2:0≤u2∧u2<4294967296)
 (hp:0<p)(hV:V=(v1*4294967296+v2)*p+vl)(hvl:0≤vl∧vl<p)(hR:R=(top*4294967296+u2)*p+rl)(hrl:0≤rl∧rl<p)(hRV:R<4294967296*V)
 (ht:top=g0*v1+r0)(hr0:0≤r0∧r0<v1)(hg0:0≤g0∧g0<18446744073709551616):
 Tm (fun N=>loopM (bdivide_b2 N b v u n) N (g0,r0)) (fun g=>0≤g∧g<4294967296∧R<(g+1)*V∧g*V≤R+V):=by
 have htop:=g_top hp (by decide) hv2.2 hV hvl.2 hR hu2.1 hrl.1 hRV;have hV0:0≤V:=by
  have h1:=Int.mul_nonneg (show 0≤v1*4294967296+v2 by omega) (Int.le_of_lt hp);omega
 refine Tm.loop (fun t:Int×Int=>0≤t.1∧t.1<18446744073709551616∧0≤t.2∧t.2<4294967296∧top=t.1*v1+t.2∧R<(t.1+1)*V) (fun t=>t.1.toNat)
  ⟨hg0.1,hg0.2,hr0.1,by omega,ht,g_init hp (by decide) hv1.1 hv2.1 hV hvl.1 hR hu2.2 hrl.2 ht hr0.2 hg0.1⟩ ?_
 rintro⟨g,rest⟩ ⟨g1,g2,r1,r2,ht,hRg⟩;dsimp only[bdivide_b2]at*;have ev2:uw v2=v2:=uw_id hv2.1 (by omega);have eu2:uw u2=u2:=uw_id hu2.1 (by omega);have ev1:uw v1=v1:=uw_id (by omega) (by omega);refine Tm.bind (Q:=(·=decide (4294967295<g∨rest*4294967296+u2<g*v2))) (Tm.ite (fun h=>Tm.pure ?_) (fun h=>?_)) ?_
 · simp[show 4294967295<g from h]
 · refine Tm.step (idx_g (n:=m-2) (by rw[iw_eq]<;>omega) (by omega)) (Tm.step (idx_g (n:=n+m-2) (by rw[show iw ((n:Int)+(b.length:Int))=(n:Int)+m by rw[iw_eq]<;>omega,iw_eq]<;>omega) (by omega)) (Tm.pure ?_));rw[e2,e3,ev2,eu2,bor_hi r1 r2 hu2.1 hu2.2];have hgv:0≤g*v2∧g*v2≤4294967295*4294967295:=⟨Int.mul_nonneg g1 hv2.1,Int.mul_le_mul (by omega) (by omega) hv2.1 (by decide)⟩;rw[uw_id hgv.1 (by omega)];have:¬4294967295<g:=h;simp[this]
 rintro _ rfl;refine Tm.ite (fun h=>?_) (fun h=>Tm.pure ?_)
 · have h:=of_decide_eq_true h;have hgp:0<g:=by
    rcases h with h|h
    · omega
    · rcases Int.lt_or_le 0 g with h'|h'
      · exact h'
      · have:g=0:=by omega
        subst this;simp at h;omega
   have hRg':R<g*V:=by
    rcases h with h|h
    · have:=Int.mul_le_mul_of_nonneg_right (show 4294967296≤g by omega) hV0;omega
    · exact g_dec hp hV hvl.1 hR hrl.2 ht g1 h
   have ht':top=(g-1)*v1+(rest+v1):=by rw[ht];grind
   refine Tm.step (idx_g (n:=m-1) (by rw[iw_eq]<;>omega) (by omega)) ?_;rw[e1,ev1,uw_id (show 0≤g-1 by omega) (by omega),uw_id (show 0≤rest+v1 by omega) (by omega)];refine Tm.ite (fun h1=>Tm.pure ?_) (fun h1=>Tm.pure ⟨⟨by dsimp only;omega,by dsimp only;omega,by dsimp only;omega,by dsimp only;omega,ht',?_⟩,?_⟩)
   · have hgW:=g_small hv1.1 ht' (show 4294967296≤rest+v1 by omega) htop;have:=g_brk hp (by decide) hv2.1 hv2.2 hV hvl.1 hvl.2 hR hu2.1 hrl.1 ht' (show 4294967296≤rest+v1 by omega) (by omega) hgW;refine⟨by omega,hgW,?_,by omega⟩;rw[show g-1+1=g by omega];exact hRg'
   · show R<(g-1+1)*V;rw[show g-1+1=g by omega];exact hRg'
   · show(g-1).toNat<g.toNat;omega
 · have h:¬(4294967295<g∨rest*4294967296+u2<g*v2):=fun e=>h (by simpa using e);refine⟨g1,by omega,hRg,?_⟩;exact g_end hp (by decide) hv1.1 hv2.1 hV hvl.1 hvl.2 hR hrl.1 ht g1 (by omega) (by omega)
end Go.D

/- Plain theorems and definitions of this seat, several texts in one. -/
import Derived.Test.YtipdkfmhfakbnaaGreatDoorAf
import Derived.Shelf.Strings.Builder1
import Derived.Shelf.Strings.Builder2
import Derived.Shelf.Strings.OnBuilder
import Derived.Shelf.Small.Bits
import Derived.Shelf.Strings.BuilderF
import Derived.Shelf.Strconv.Itoa0
import Derived.Shelf.Strconv.Itoa1
import Derived.Shelf.LaysM
import Derived.Shelf.Strconv.Itoa2
import Derived.Shelf.Strings.Prefix
import Derived.Shelf.Bits.Mul64
import Derived.Shelf.Strings.Repeat
import Derived.Ground.Names2Prog
import Derived.Shelf.Slices.ReverseS
import Derived.Shelf.Slices.Clone
import Derived.Shelf.Slices.Cells
import Derived.Ground.SlgnProg
import Derived.Shelf.SlicesE.Clone
import Derived.Test.YtipdkfmhfakbnaaGreatDoorProg
import Derived.Shelf.Strconv.Itoa3
import Derived.Lib.AppendIntMem
import Derived.Test.YtipdkfmhfakbnaaGreatDoorAd
import Derived.Test.YtipdkfmhfakbnaaGreatDoorAb
import Derived.Test.YtipdkfmhfakbnaaGreatDoorAc
import Derived.RangeFuncNested
import Derived.RangeFuncLeaves
import Derived.TacticsIn
import Derived.LoopNIn
set_option linter.unusedVariables false
set_option linter.unusedSimpArgs false
set_option linter.unusedSectionVars false
set_option maxHeartbeats 1000000
namespace Go.D
open Go Go.X
def uI(v:Int):Int×Bool:=if-9223372036854775808<=v/\v<=9223372036854775807 then(v,true)else(0,false)
theorem Qw{l:List Int}(h:bF aX l)(k:Nat)(hk:k<=l.length):val aX (l.drop k)<=val aX l:=by
 have h1:=n7 (B:=aX) (l:=l) k hk;have h2:=gm (B:=aX) (by decide) (h.take k);have h3:=gm (B:=aX) (by decide) (h.drop k);have h4':(0:Int)<aX^k:=ky (by decide);have h4:(1:Int)<=aX^k:=h4';have h5:1*val aX (l.drop k)<=aX^k*val aX (l.drop k):=eU h4 h3;omega
theorem Uh{x:aC}(hx:bF aE x.aQ)(hl:x.aQ.length<=1000000000):Tm (λN=>xz N x) (λr=>r=uI (bv x)):=by
 unfold xz;refine Tm.bind (Q:=λr=>r=true↔¬(-9223372036854775808<=bv x/\bv x<=9223372036854775807)) ?_ ?_
 . refine Tm.bind (px (by decide) (by decide)) (λo ⟨ho,hol⟩=>Tm.bind (Kt hx ho.dg.bP (by omega) (by omega)) ?_);rintro _ rfl;rw[ho.bv];refine bA (λh=>aW ?_) (λh=>?_)
   . have:bv x< -9223372036854775808:=by unfold bT at h;(repeat' split at h)<;>omega
     exact⟨λ_=>by omega,λ_=>rfl⟩
   . have h1:-9223372036854775808<=bv x:=by unfold bT at h;(repeat' split at h)<;>omega
     refine Tm.bind (px (by decide) (by decide)) (λo2 ⟨ho2,hol2⟩=>Tm.bind (Kt hx ho2.dg.bP (by omega) (by omega)) ?_);rintro _ rfl;rw[ho2.bv];refine aW ?_;rw[decide_eq_true_iff];unfold bT
     (repeat' split)<;>omega
 intro r hr;refine bA (λh=>aW ?_) (λh=>?_)
 . unfold uI;rw[aY (hr.1 h)]
 have hin:-9223372036854775808<=bv x/\bv x<=9223372036854775807:=by
  rcases Decidable.em (-9223372036854775808<=bv x/\bv x<=9223372036854775807)with h1|h1
  . exact h1
  . exact bV (hr.2 h1) h
 refine Tm.bind (mL hx (by omega)) (λl ⟨hd,hll⟩=>?_);have hv:=hd.val;have hbv:bv x=if x.bM=true then-val aX l else val aX l:=by unfold bv;rw[hv]
 refine Tm.bind (Tm.loop (λs:Int×Int=>∃k:Nat,k<=l.length/\s=(if x.bM=true then-val aX (l.drop k)else val aX (l.drop k),(k:Int)-1)) (λs=>(s.2+1).toNat) (Q:=λr=>r=bv x) ⟨l.length,bO _,?_⟩ ?_) ?_
 . rw[bL (by omega) (by omega)];simp[val]
 . rintro _ ⟨k,hk,rfl⟩;dsimp only[GR];refine bA (λh=>?_) (λh=>aW ?_)
   . obtain⟨j,rfl⟩:∃j,k=j+1:=⟨k-1,by omega⟩;have hj:j<l.length:=by omega
     have e:((j+1:Nat):Int)-1=(j:Int):=by omega
     have hdj:l.drop j=l[j]::l.drop (j+1):=fJ hj;have hvj:val aX (l.drop j)=l[j]+65536*val aX (l.drop (j+1)):=by rw[hdj];rfl
     have b1:=Qw hd.bP j (by omega);have b2:=gm (B:=aX) (by decide) (hd.bP.drop (j+1));have b3:=hd.bP _ (dJ hj);rw[e];refine bA (λhn=>aL (dA hj) (aW ⟨⟨j,by omega,?_⟩,?_⟩)) (λhn=>aL (dA hj) (aW ⟨⟨j,by omega,?_⟩,?_⟩))
     . rw[bD hn]at hbv;rw[bD hn,bD hn,bL (z:=(j:Int)-1) (by omega) (by omega),bL (z:=-val aX (l.drop (j+1))*65536) (by omega) (by omega),bL (by omega) (by omega),hvj];exact Prod.ext (by show-val aX (l.drop (j+1))*65536-l[j]=-(l[j]+65536*val aX (l.drop (j+1)));omega) rfl
     . show(iw ((j:Int)-1)+1).toNat<((j:Int)+1).toNat;rw[bL (by omega) (by omega)];omega
     . rw[aY hn]at hbv;rw[aY hn,aY hn,bL (z:=(j:Int)-1) (by omega) (by omega),bL (z:=val aX (l.drop (j+1))*65536) (by omega) (by omega),bL (by omega) (by omega),hvj];exact Prod.ext (by show val aX (l.drop (j+1))*65536+l[j]=l[j]+65536*val aX (l.drop (j+1));omega) rfl
     . show(iw ((j:Int)-1)+1).toNat<((j:Int)+1).toNat;rw[bL (by omega) (by omega)];omega
   . obtain rfl:k=0:=by omega
     show _=bv x;rw[hbv,lC]
 rintro _ rfl;refine aW ?_;unfold uI;rw[bD hin]
theorem QL:Tm (λN=>qh N (aC.mk false []) (aC.mk false [])) (·=true):=by
 unfold qh;refine aV (a:=false) (cD (by simp) (aI (by simp))) (cD (by simp) ?_);refine aV (a:=Sum.inl ()) (Tm.loop (λs:Int=>s=0) (λ_=>0) rfl ?_) (aI rfl);rintro _ rfl;dsimp only[Dz];exact cD (by simp) (aI rfl)
theorem Eh{n v:Nat}{l:List Constraint}{k c:Int}{e:Bool}(h:jv n l)(hl:l.length<=6)(hv:v<n)(hk:k=1)(hc:fY c):jv n (l++[qX v k c e]):=by
 subst hk;refine⟨h.hn,by rw[di,jN];omega,λd hd=>?_,λd hd=>?_,λd hd=>?_⟩
 . rcases fe.1 hd with hd|hd
   . exact h.right d hd
   . rw[cG.1 hd];exact TG hv (by have:=h.hn;omega)
 . rcases fe.1 hd with hd|hd
   . exact h.const d hd
   . rw[cG.1 hd];exact hc
 . rcases fe.1 hd with hd|hd
   . exact h.lM d hd
   . rw[cG.1 hd];intro q hq;rw[cG.1 (show q∈[(⟨v,1⟩:iE)] from hq)];show(1:Int).natAbs<=50;decide
theorem Gc{v:Nat}{l:List Constraint}{c:Int}{e:Bool}{x:List Int}:kL (l++[qX v 1 c e]) x↔kL l x/\(c+vf x v<=0/\(e=true->c+vf x v=0)):=by
 unfold kL;have h1:pe (qX v 1 c e) x=c+vf x v:=by rw[Tc,rR]
 constructor
 . intro h;have:=h _ (o8 _ (cG.2 rfl));rw[h1]at this;exact⟨λd hd=>h d (rP _ hd),this⟩
 . rintro⟨h,h2⟩ d hd;rcases fe.1 hd with hd|hd
   . exact h d hd
   . rw[cG.1 hd,h1];exact h2
theorem Ox{n v:Nat}{l:List Constraint}{x z:List Int}(hr:∀c∈l,fM c n)(hv:v<n)(hx:x.length=n)(hs:kL l x)(hz:∀q∈oe n v (gU n l),eX n (vf z) q)(M:Int):∃y:List Int,y.length=n/\kL l y/\vf y v<=M:=by
 have hxs:=(sat_iff hx hr).2 hs;have hzv:vf z v≤-1:=by
  have:=hz _ (o8 _ (cG.2 rfl));unfold eX at this;rw[xq hv,rR]at this;exact this
 have hz0:∀q∈gU n l,bK (vf q.c) (vf z) n<=0:=λq hq=>hz ⟨q.c,0⟩ (rP _ (dR.2 ⟨q,hq,rfl⟩));generalize ht:((vf x v-M).natAbs:Int)=t;have ht0:0<=t:=by omega
 refine⟨vec n λj=>vf x j+t*vf z j,eZ,?_,?_⟩
 . refine(sat_iff eZ hr).1 λq hq=>?_;unfold eX;rw[eF (f:=vf q.c) (f':=vf q.c) (g':=λj=>vf x j+t*vf z j) (λ_ _=>rfl) λj hj=>dF hj,kT,rC,kT (f:=vf x),kT (f:=vf z)];have h1:=hxs q hq;have h2:=ff (hz0 q hq) ht0;unfold eX at h1;omega
 . rw[dF hv];have:=ff hzv ht0;omega
theorem Us{n:Int}{l:List Constraint}{v:Int}(hl:l.length<=9223372036854775807)
    (hc:∀c∈l,c.Linear.bE.length<=9223372036854775807/\fY c.Linear.Const/\∀k∈c.Linear.bE,fY k.N):Tm (λN=>CS N n l v) (·=true):=by
  unfold CS;refine Tm.bind (Q:=λr=>r=false->Bu n l 7/\0<=v/\v<n) ?_ ?_
  . refine Tm.bind J5 ?_;rintro _ rfl;refine cD (by simp) (Tm.bind (UO hl (λc h=>(hc c h).1) (by decide)) λr hr=>bA (λh=>aI λe=>(by cases e)) (λh=>bA (λh=>aI λe=>(by cases e)) (λh1=>aI λe=>⟨hr (by simpa using h),by omega,?_⟩)));have:=ui e;omega
  . intro r hr;refine bA (λh=>Tm.bind J5 λr hr=>aI hr) (λh=>?_);obtain⟨hS,hv0,hv1⟩:=hr (by simpa using h);have h6:=hS.len;obtain⟨m,rfl,hL⟩:=hS.lok (by decide);obtain⟨w,rfl⟩:=qw hv0;have hw:w<m:=by omega
    have hn:=hL.hn;have hown:Tm (λN=>nD N l) (·=l):=KP (by omega) λc hc=>by have:=hL.cl hc;omega
    have happ:∀c:Constraint,cZ 40 l [c]=some (l++[c]):=λc=>eb (by simp only[cJ,dZ];omega) (by decide);refine aV hown (Tm.bind (TX hL h6 hw) ?_);intro r hr;have none_case:(¬Ah m l\/∃(x z:List Int),x.length=m/\kL l x/\∀q∈oe m w (gU m l),eX m (vf z) q)->Tm (λN=>(oR N (m:Int) l).bind λr47=>((((if(!r47.2)=true then some true else(jX N 0).bind λr56=>(qh N (aC.mk false []) r56).bind λr57=>some (!r57))):Option Bool)).bind λss=>
        match ss with
        |x52=>if x52=true then some false else if(!r47.1)=true then some true else(nD N l).bind λr64=>(sG N (w:Int) (-10000000)).bind λr65=>(cZ 40 r64 [r65]).bind λx66=>(oR N (m:Int) x66).bind λr67=>if r67.1=true then some r67.2 else some false) (·=true):=by
      intro hcase;refine Tm.bind (zG hL) ?_;rintro⟨ok,right⟩ ⟨g1,g2⟩;dsimp only at g1 g2;subst g1;refine aV (a:=false) (cD (by simp) (Tm.bind (px (n:=0) (by decide) (by decide)) ?_)) ?_
      . rintro b ⟨hb,hbl⟩;obtain rfl:=qf hb;rw[B0];exact aV QL (aI rfl)
      . refine cD (by simp) (bA (λh=>aI rfl) (λh=>?_));have hok:ok=true:=by simpa using h
        rcases hcase with hno|⟨x,z,hx,hs,hz⟩
        . exact bV (g2.1 hok) hno
        . unfold sG;refine aV hown (aL rfl (aL (happ _) ?_));have hi:iw (0- -10000000)=10000000:=by rw[bL (by omega) (by omega)];omega
          rw[hi];have hE:=Eh (k:=1) (c:=10000000) (e:=false) hL h6 hw rfl (by unfold fY;omega);refine Tm.bind (zG (l:=l++[qX w 1 10000000 false]) hE) ?_;rintro⟨ok2,right2⟩ ⟨q1,q2⟩;dsimp only at q1 q2;subst q1;obtain⟨y,yl,ys,yv⟩:=Ox hL.right hw hx hs hz (-10000000);exact cR (q2.2 ⟨y,yl,Gc.2 ⟨ys,by omega,λe=>by cases e⟩⟩) (aI rfl)
    cases hr with
    |none hno=>exact cR rfl (none_case (.inl hno))
    |ML x z hx hs hz=>exact cR rfl (none_case (.inr ⟨x,z,hx,hs,hz⟩))
    |least k hd x hx hs hk hm=>
      refine cD (by simp) (aV (a:=uI k) ((Uh (x:=B k) (bP k) (show dl k<=_ by omega)).mono λr hr=>by rw[hr,gI]) ?_);refine Tm.bind (Q:=λb=>b=false->uI k=(k,true)∧-1152921504606846976<=k/\k<=1152921504606846976) ?_ ?_
      . unfold uI;by_cases hin:-9223372036854775808<=k/\k<=9223372036854775807
        . rw[bD hin];refine cD (by simp) (bA (λh=>aI λe=>(by cases e)) (λh=>aI λe=>⟨rfl,?_,by omega⟩));have:=ui e;omega
        . rw[aY hin];exact cR rfl (aI λe=>(by cases e))
      . intro b hb;refine bA (λh=>aI rfl) (λh=>?_);obtain⟨h1,h2,h3⟩:=hb (by simpa using h);rw[h1];dsimp only;unfold oIs sG;have hi:iw (0-k)=-k:=by rw[bL (by omega) (by omega)];omega
        have hi2:iw (0-iw (k-1))=-(k-1):=by rw[bL (z:=k-1) (by omega) (by omega),bL (by omega) (by omega)];omega
        rw[hi,hi2];refine aV hown (aL rfl (aL (happ _) ?_));refine Tm.bind (zG (l:=l++[qX w 1 (-k) true]) (Eh hL h6 hw rfl (by unfold fY;omega))) ?_;rintro⟨ok1,right1⟩ ⟨q1,q2⟩;dsimp only at q1 q2;subst q1;refine aV hown (aL rfl (aL (happ _) ?_));refine Tm.bind (zG (l:=l++[qX w 1 (-(k-1)) false]) (Eh hL h6 hw rfl (by unfold fY;omega))) ?_;rintro⟨ok2,right2⟩ ⟨q3,q4⟩;dsimp only at q3 q4;subst q3;have e1:ok1=true:=q2.2 ⟨x,hx,Gc.2 ⟨hs,by omega,λ_=>by omega⟩⟩;have e2:ok2=false:=by
          cases ok2 with
          |false=>rfl
          |true=>
            obtain⟨y,yl,ys⟩:=q4.1 rfl;obtain⟨y1,y2,_⟩:=Gc.1 ys;have:=hm y yl y1;omega
        subst e1;subst e2;exact cR rfl (cR rfl (cR rfl (aI rfl)))
end Go.D
namespace Go.Proofs
open Go.Shelf
def Tryz.Lk:Go.Shelf.Ren:=⟨λ|156=>122|165=>153|166=>154|169=>155|240=>176|241=>177|276=>185|277=>186|n=>n,λ|31=>158|9=>9|3=>3|4=>4|0=>0|20=>20|72=>196|76=>199|70=>193|37=>194|75=>198|127=>219|164=>230|5=>5|80=>201|n=>n,λ|n=>n⟩
theorem Tryz.MT:Go.Proofs.Lays.n156 Tryz.prog Tryz.Lk:={
 mixed:=by kernel_rfl
 f156:=Tryz.func122.trans (dz some (by kernel_rfl))
 f165:=Tryz.func153.trans (dz some (by kernel_rfl))
 f166:=Tryz.func154.trans (dz some (by kernel_rfl))
 f169:=Tryz.func155.trans (dz some (by kernel_rfl))
 f240:=Tryz.func176.trans (dz some (by kernel_rfl))
 f241:=Tryz.func177.trans (dz some (by kernel_rfl))
 f276:=Tryz.func185.trans (dz some (by kernel_rfl))
 f277:=Tryz.func186.trans (dz some (by kernel_rfl))
 t0:=Tryz.underlying0
 a0:=Tryz.isAgg0
 z0:=Tryz.sizeOf0
 v0:=Tryz.zeroValue0
 t3:=Tryz.underlying3
 a3:=Tryz.isAgg3
 z3:=Tryz.sizeOf3
 v3:=Tryz.zeroValue3
 t4:=Tryz.underlying4
 a4:=Tryz.isAgg4
 z4:=Tryz.sizeOf4
 v4:=Tryz.zeroValue4
 t9:=Tryz.underlying9
 a9:=Tryz.isAgg9
 z9:=Tryz.sizeOf9
 v9:=Tryz.zeroValue9
 t20:=Tryz.underlying20
 a20:=Tryz.isAgg20
 z20:=Tryz.sizeOf20
 v20:=Tryz.zeroValue20
 t31:=Tryz.underlying158
 a31:=Tryz.isAgg158
 z31:=Tryz.sizeOf158
 v31:=Tryz.zeroValue158
 t37:=Tryz.underlying194
 a37:=Tryz.isAgg194
 z37:=Tryz.sizeOf194
 v37:=Tryz.zeroValue194
 t70:=Tryz.underlying193
 a70:=Tryz.isAgg193
 z70:=Tryz.sizeOf193
 v70:=Tryz.zeroValue193
 t72:=Tryz.underlying196
 a72:=Tryz.isAgg196
 z72:=Tryz.sizeOf196
 v72:=Tryz.zeroValue196
 t75:=Tryz.underlying198
 a75:=Tryz.isAgg198
 z75:=Tryz.sizeOf198
 v75:=Tryz.zeroValue198
 t76:=Tryz.underlying199
 a76:=Tryz.isAgg199
 z76:=Tryz.sizeOf199
 v76:=Tryz.zeroValue199
 t127:=Tryz.underlying219
 a127:=Tryz.isAgg219
 z127:=Tryz.sizeOf219
 v127:=Tryz.zeroValue219
 t164:=Tryz.underlying230
 a164:=Tryz.isAgg230
 z164:=Tryz.sizeOf230
 v164:=Tryz.zeroValue230}
theorem Tryz.Ml:Builder.Extra Tryz.prog Tryz.Lk:={
 sizeBuilder:=by kernel_rfl
 liesBuilder:=by kernel_rfl
 t5:=Tryz.underlying5
 a5:=Tryz.isAgg5
 z5:=Tryz.sizeOf5
 v5:=Tryz.zeroValue5
 infoByte:=by kernel_rfl
 cellsByte:=by kernel_rfl
 sizeByte:=by kernel_rfl
 neB5:=by decide}
open Go.RowKit in
theorem Tryz.strings_Join_none(a:Option Addr)(c:Nat)(sep:ByteArray)(w:World):
 Calls Tryz.prog 122 #[.slice a 0 c,.string sep] w λe w'=>e=.returned (.string ⟨#[]⟩)/\w'=w:=Any.strings_Join_none Tryz.MT Tryz.Ml a c sep w
open Go.RowKit in
theorem Tryz.strings_Join(bk o c:Nat)(xs:List ByteArray)(sep:ByteArray)(w:World)(hcells:∀(j:Nat) x,xs[j]?=some x->w.cell? ⟨bk,o+j,none⟩=some (.string x))(hbk:bk<w.heap.size)(hN:xs.length<=140737488355328)(hcap:xs.length<=c)(hlen:(Lib.join (xs.map (·.data.toList)) sep.data.toList).length<=140737488355328):
 Calls Tryz.prog 122 #[.slice (some ⟨bk,o,none⟩) xs.length c,.string sep] w λe w'=>e=.returned (.string ⟨(Lib.join (xs.map (·.data.toList)) sep.data.toList).toArray⟩)/\Below w.heap.size w w':=Any.strings_Join Tryz.MT Tryz.Ml bk o c xs sep w hcells hbk hN hcap hlen
def Tryz.S0:Go.Shelf.Ren:=⟨λ|283=>178|n=>n,λ|3=>3|9=>9|4=>4|n=>n,λ|n=>n⟩
theorem Tryz.RK:Go.Proofs.Lays.n283 Tryz.prog Tryz.S0:={
 mixed:=by kernel_rfl
 f283:=Tryz.func178.trans (dz some (by kernel_rfl))
 t3:=Tryz.underlying3
 a3:=Tryz.isAgg3
 z3:=Tryz.sizeOf3
 v3:=Tryz.zeroValue3
 t4:=Tryz.underlying4
 a4:=Tryz.isAgg4
 z4:=Tryz.sizeOf4
 v4:=Tryz.zeroValue4
 t9:=Tryz.underlying9
 a9:=Tryz.isAgg9
 z9:=Tryz.sizeOf9
 v9:=Tryz.zeroValue9}
open Go.Lib in
theorem Tryz.internal_strconv_small(i:Nat)(h:i<100)(w:World):
 Calls Tryz.prog 178 #[.int .i64 i] w λe w'=>e=.returned (.string ⟨(Lib.decDigits i).toArray⟩)/\w'=w:=Any.internal_strconv_small Tryz.RK i h w
def Tryz.PJ:Go.Shelf.Ren:=⟨λ|284=>179|129=>188|317=>187|318=>189|n=>n,λ|53=>87|3=>3|212=>234|0=>0|4=>4|46=>112|5=>5|9=>9|n=>n,λ|17=>0|n=>n⟩
theorem Tryz.Uo:Go.Proofs.LaysM.n284 Tryz.prog Tryz.PJ:={
 mixed:=by kernel_rfl
 f129:=Tryz.func188.trans (dz some (by kernel_rfl))
 f284:=Tryz.func179.trans (dz some (by kernel_rfl))
 f317:=Tryz.func187.trans (dz some (by kernel_rfl))
 f318:=Tryz.func189.trans (dz some (by kernel_rfl))
 t0:=Tryz.underlying0
 a0:=Tryz.isAgg0
 z0:=Tryz.sizeOf0
 v0:=Tryz.zeroValue0
 t3:=Tryz.underlying3
 a3:=Tryz.isAgg3
 z3:=Tryz.sizeOf3
 v3:=Tryz.zeroValue3
 t4:=Tryz.underlying4
 a4:=Tryz.isAgg4
 z4:=Tryz.sizeOf4
 v4:=Tryz.zeroValue4
 t5:=Tryz.underlying5
 a5:=Tryz.isAgg5
 z5:=Tryz.sizeOf5
 v5:=Tryz.zeroValue5
 t9:=Tryz.underlying9
 a9:=Tryz.isAgg9
 z9:=Tryz.sizeOf9
 v9:=Tryz.zeroValue9
 t46:=Tryz.underlying112
 a46:=Tryz.isAgg112
 z46:=Tryz.sizeOf112
 v46:=Tryz.zeroValue112
 t53:=Tryz.underlying87
 a53:=Tryz.isAgg87
 z53:=Tryz.sizeOf87
 v53:=Tryz.zeroValue87
 t212:=Tryz.underlying234
 a212:=Tryz.isAgg234
 z212:=Tryz.sizeOf234
 v212:=Tryz.zeroValue234
 g17:=by kernel_rfl
 i0:=by kernel_rfl
 i3:=by kernel_rfl
 i4:=by kernel_rfl
 i5:=by kernel_rfl
 i9:=by kernel_rfl
 i46:=by kernel_rfl
 i53:=by kernel_rfl
 i212:=by kernel_rfl
 m17:=by kernel_rfl}
open Go.Lib in
theorem Tryz.internal_strconv_numDigits(u:Nat)(h1:1<=u)(h2:u<18446744073709551616)(w:World)(htab:Lib.TabIs Tryz.prog w "internal/strconv.uint64pow10" .u64 Lib.pow10Tab):
 Calls Tryz.prog 179 #[.int .u64 u] w λe w'=>e=.returned (.int .i64 (Lib.nDigits u))/\w'=w:=Any.internal_strconv_numDigits Tryz.Uo u h1 h2 w htab
def Tryz.P1:Go.Shelf.Ren:=⟨λ|285=>180|n=>n,λ|37=>194|53=>87|3=>3|4=>4|51=>86|9=>9|5=>5|0=>0|n=>n,λ|n=>n⟩
theorem Tryz.O9:Go.Proofs.Lays.n285 Tryz.prog Tryz.P1:={
 mixed:=by kernel_rfl
 f285:=Tryz.func180.trans (dz some (by kernel_rfl))
 t0:=Tryz.underlying0
 a0:=Tryz.isAgg0
 z0:=Tryz.sizeOf0
 v0:=Tryz.zeroValue0
 t3:=Tryz.underlying3
 a3:=Tryz.isAgg3
 z3:=Tryz.sizeOf3
 v3:=Tryz.zeroValue3
 t4:=Tryz.underlying4
 a4:=Tryz.isAgg4
 z4:=Tryz.sizeOf4
 v4:=Tryz.zeroValue4
 t5:=Tryz.underlying5
 a5:=Tryz.isAgg5
 z5:=Tryz.sizeOf5
 v5:=Tryz.zeroValue5
 t9:=Tryz.underlying9
 a9:=Tryz.isAgg9
 z9:=Tryz.sizeOf9
 v9:=Tryz.zeroValue9
 t37:=Tryz.underlying194
 a37:=Tryz.isAgg194
 z37:=Tryz.sizeOf194
 v37:=Tryz.zeroValue194
 t51:=Tryz.underlying86
 a51:=Tryz.isAgg86
 z51:=Tryz.sizeOf86
 v51:=Tryz.zeroValue86
 t53:=Tryz.underlying87
 a53:=Tryz.isAgg87
 z53:=Tryz.sizeOf87
 v53:=Tryz.zeroValue87}
open Go.RowKit Go.Sort Go.Lib in
theorem Tryz.internal_strconv_formatBase10(dK off cap:Nat)(u:Nat)(d:Array UInt8)(w:World)(hH:Holds (λ(b:UInt8)=>Value.int .u8 (b.toNat:Int)) w dK off d)(hu:u<10^d.size)(hu64:u<18446744073709551616)(hsz:d.size<4611686018427387904):
 Calls Tryz.prog 180 #[.slice (some ⟨dK,off,none⟩) d.size cap,.int .u64 u] w λe w'=>
  e=.returned (.tuple #[])/\∃(n v':Nat) (dk:Array UInt8),w'=(putRow (λ(b:UInt8)=>Value.int .u8 (b.toNat:Int)) w dK off dk).drewN n/\FmtInv d.size u 0 v' dk:=Any.internal_strconv_formatBase10 Tryz.O9 dK off cap u d w hH hu hu64 hsz
def Tryz.Mo:Go.Shelf.Ren:=⟨λ|105=>151|212=>173|99=>174|165=>153|166=>154|170=>175|169=>155|263=>182|264=>183|206=>184|240=>176|241=>177|276=>185|277=>186|n=>n,λ|9=>9|3=>3|4=>4|20=>20|0=>0|46=>112|109=>215|5=>5|72=>196|76=>199|51=>86|146=>226|53=>87|148=>228|70=>193|37=>194|75=>198|127=>219|164=>230|80=>201|n=>n,λ|n=>n⟩
theorem Tryz.RN:Go.Proofs.Lays.n105 Tryz.prog Tryz.Mo:={
 mixed:=by kernel_rfl
 f99:=Tryz.func174.trans (dz some (by kernel_rfl))
 f105:=Tryz.func151.trans (dz some (by kernel_rfl))
 f165:=Tryz.func153.trans (dz some (by kernel_rfl))
 f166:=Tryz.func154.trans (dz some (by kernel_rfl))
 f169:=Tryz.func155.trans (dz some (by kernel_rfl))
 f170:=Tryz.func175.trans (dz some (by kernel_rfl))
 f206:=Tryz.func184.trans (dz some (by kernel_rfl))
 f212:=Tryz.func173.trans (dz some (by kernel_rfl))
 f240:=Tryz.func176.trans (dz some (by kernel_rfl))
 f241:=Tryz.func177.trans (dz some (by kernel_rfl))
 f263:=Tryz.func182.trans (dz some (by kernel_rfl))
 f264:=Tryz.func183.trans (dz some (by kernel_rfl))
 f276:=Tryz.func185.trans (dz some (by kernel_rfl))
 f277:=Tryz.func186.trans (dz some (by kernel_rfl))
 t0:=Tryz.underlying0
 a0:=Tryz.isAgg0
 z0:=Tryz.sizeOf0
 v0:=Tryz.zeroValue0
 t3:=Tryz.underlying3
 a3:=Tryz.isAgg3
 z3:=Tryz.sizeOf3
 v3:=Tryz.zeroValue3
 t4:=Tryz.underlying4
 a4:=Tryz.isAgg4
 z4:=Tryz.sizeOf4
 v4:=Tryz.zeroValue4
 t5:=Tryz.underlying5
 a5:=Tryz.isAgg5
 z5:=Tryz.sizeOf5
 v5:=Tryz.zeroValue5
 t9:=Tryz.underlying9
 a9:=Tryz.isAgg9
 z9:=Tryz.sizeOf9
 v9:=Tryz.zeroValue9
 t20:=Tryz.underlying20
 a20:=Tryz.isAgg20
 z20:=Tryz.sizeOf20
 v20:=Tryz.zeroValue20
 t37:=Tryz.underlying194
 a37:=Tryz.isAgg194
 z37:=Tryz.sizeOf194
 v37:=Tryz.zeroValue194
 t46:=Tryz.underlying112
 a46:=Tryz.isAgg112
 z46:=Tryz.sizeOf112
 v46:=Tryz.zeroValue112
 t51:=Tryz.underlying86
 a51:=Tryz.isAgg86
 z51:=Tryz.sizeOf86
 v51:=Tryz.zeroValue86
 t53:=Tryz.underlying87
 a53:=Tryz.isAgg87
 z53:=Tryz.sizeOf87
 v53:=Tryz.zeroValue87
 t70:=Tryz.underlying193
 a70:=Tryz.isAgg193
 z70:=Tryz.sizeOf193
 v70:=Tryz.zeroValue193
 t72:=Tryz.underlying196
 a72:=Tryz.isAgg196
 z72:=Tryz.sizeOf196
 v72:=Tryz.zeroValue196
 t75:=Tryz.underlying198
 a75:=Tryz.isAgg198
 z75:=Tryz.sizeOf198
 v75:=Tryz.zeroValue198
 t76:=Tryz.underlying199
 a76:=Tryz.isAgg199
 z76:=Tryz.sizeOf199
 v76:=Tryz.zeroValue199
 t109:=Tryz.underlying215
 a109:=Tryz.isAgg215
 z109:=Tryz.sizeOf215
 v109:=Tryz.zeroValue215
 t127:=Tryz.underlying219
 a127:=Tryz.isAgg219
 z127:=Tryz.sizeOf219
 v127:=Tryz.zeroValue219
 t146:=Tryz.underlying226
 a146:=Tryz.isAgg226
 z146:=Tryz.sizeOf226
 v146:=Tryz.zeroValue226
 t148:=Tryz.underlying228
 a148:=Tryz.isAgg228
 z148:=Tryz.sizeOf228
 v148:=Tryz.zeroValue228
 t164:=Tryz.underlying230
 a164:=Tryz.isAgg230
 z164:=Tryz.sizeOf230
 v164:=Tryz.zeroValue230}
theorem Tryz.OL:Builder.Extra Tryz.prog Tryz.Mo:={
 sizeBuilder:=by kernel_rfl
 liesBuilder:=by kernel_rfl
 t5:=Tryz.underlying5
 a5:=Tryz.isAgg5
 z5:=Tryz.sizeOf5
 v5:=Tryz.zeroValue5
 infoByte:=by kernel_rfl
 cellsByte:=by kernel_rfl
 sizeByte:=by kernel_rfl
 neB5:=by decide}
open Go.RowKit Go.Lib in
theorem Tryz.strings_Repeat(s:ByteArray)(c:Nat)(w:World)(hc:c<=9223372036854775807)(hlen:s.size*c<=140737488355328):
 Calls Tryz.prog 151 #[.string s,.int .i64 c] w λe w'=>e=.returned (.string ⟨(Lib.repeatL s.data.toList c).toArray⟩)/\Below w.heap.size w w':=Any.strings_Repeat Tryz.RN Tryz.OL s c w hc hlen
def Tryz.Pn:Go.Shelf.Ren:=⟨λ|17=>152|n=>n,λ|24=>158|9=>9|3=>3|4=>4|0=>0|n=>n,λ|n=>n⟩
theorem Tryz.Jy:Go.Proofs.Lays2.n17 Tryz.prog Tryz.Pn:={
 mixed:=by kernel_rfl
 f17:=Tryz.func152.trans (dz some (by kernel_rfl))
 t0:=Tryz.underlying0
 a0:=Tryz.isAgg0
 z0:=Tryz.sizeOf0
 v0:=Tryz.zeroValue0
 t3:=Tryz.underlying3
 a3:=Tryz.isAgg3
 z3:=Tryz.sizeOf3
 v3:=Tryz.zeroValue3
 t4:=Tryz.underlying4
 a4:=Tryz.isAgg4
 z4:=Tryz.sizeOf4
 v4:=Tryz.zeroValue4
 t9:=Tryz.underlying9
 a9:=Tryz.isAgg9
 z9:=Tryz.sizeOf9
 v9:=Tryz.zeroValue9
 t24:=Tryz.underlying158
 a24:=Tryz.isAgg158
 z24:=Tryz.sizeOf158
 v24:=Tryz.zeroValue158}
open Go.RowKit Go.Lib Go.Sort in
theorem Tryz.slices_Reverse_string(dK off cap:Nat)(zs:List (List UInt8))(w:World)(hH:Holds encStr w dK off zs.toArray)(hsz:zs.length<=9223372036854775807):
 Calls Tryz.prog 152 #[.slice (some ⟨dK,off,none⟩) zs.length cap] w λe w'=>e=.returned (.tuple #[])/\∃n,w'=putRow encStr (Sort.ahead w n) dK off zs.reverse.toArray:=Any.slices_Reverse_string Tryz.Jy dK off cap zs w hH hsz
open Go.RowKit Go.Lib Go.Sort in
theorem Tryz.slices_Reverse_string_empty(a:Option Addr)(cap:Nat)(w:World):
 Calls Tryz.prog 152 #[.slice a 0 cap] w λe w'=>e=.returned (.tuple #[])/\w'=w:=Any.slices_Reverse_string_empty Tryz.Jy a cap w
end Go.Proofs
namespace Go.Proofs.YtipdkfmhfakbnaaGreatDoor.F
open Go Go.Shelf Go.RowKit Go.Sort Go.Lib Go.Proofs
set_option maxHeartbeats 6400000 in
set_option maxRecDepth 100000 in
theorem fmtU(u:Nat)(hu64:u<18446744073709551616)(w:World)
 (htab:Lib.TabIs Tryz.prog w "internal/strconv.uint64pow10" .u64 Lib.pow10Tab):
 Calls Tryz.prog 172 #[.int .u64 u,.int .i64 10] w λe w'=>e=.returned (.string ⟨(Lib.decDigits u).toArray⟩)/\∃k os,w'=grow (w.drewN k) os:=by
 by_cases hs:u<100
 . go_enter Tryz.func172,Tryz.ntmps172
   go_wp2_with (refine(Tryz.internal_strconv_small u hs _).mono ?_;rintro e w' ⟨rfl,rfl⟩)
   go_ret
   exact⟨rfl,0,#[],by simp[World.drewN_zero]⟩
 . have hu1:1<=u:=by omega
   have hnd20:Lib.nDigits u<=20:=by have:=Lib.numDigits_eq u hu1 hu64;split at this<;>omega
   have hal:Tryz.prog.arrayLen 221=24:=by simp[Program.arrayLen,Tryz.underlying221]
   have hsl1:∀W,(Instr.sliceAt 221 (.pointer (some ⟨w.heap.size,0,none⟩)) none (some (.int .i64 (Lib.nDigits u:Int))) none).run Tryz.prog W=.ok (.slice (some ⟨w.heap.size,0,none⟩) (Lib.nDigits u) 24) W:=λW=>by
    rw[run_sliceAt_array_h W 221 ⟨w.heap.size,0,none⟩ (by simp[Program.arrayLen,Program.elem,Tryz.underlying221]) .i64 (Lib.nDigits u:Int) (by omega) (by rw[hal];omega)]
    go_simp
   have hH0:=Lib.holds_zero0 w 221 (Lib.nDigits u) (by omega);have hfmt:=Tryz.internal_strconv_formatBase10 w.heap.size 0 24 u (Array.replicate (Lib.nDigits u) 0) (w.alloc (.cells Lib.zeros24 221)) hH0 (by rw[HJ];exact Lib.lt_pow_nDigits u) hu64 (by rw[HJ];omega);rw[HJ]at hfmt;have HH0:=Lib.hid hH0;clear hH0 hal
   go_enter Tryz.func172,Tryz.ntmps172
   go_wp2_with (first
    |(refine(Tryz.internal_strconv_numDigits u hu1 hu64 _ (Lib.tabIs_alloc htab _)).mono ?_;rintro e w' ⟨rfl,rfl⟩))
   refine hfmt.mono ?_;rintro e w' ⟨rfl,k,v',dk,rfl,hF⟩;have hcv:(convert 194 9 (.slice (some ⟨w.heap.size,0,none⟩) (Lib.nDigits u) 24)).run Tryz.prog ((putRow (λ(b:UInt8)=>Value.int .u8 (b.toNat:Int)) (w.alloc (.cells Lib.zeros24 221)) w.heap.size 0 dk).drewN k)=.ok (.string ⟨(Lib.decDigits u).toArray⟩) ((putRow (λ(b:UInt8)=>Value.int .u8 (b.toNat:Int)) (w.alloc (.cells Lib.zeros24 221)) w.heap.size 0 dk).drewN k):=by
    have h:=run_convert_bytes_back (P:=Tryz.prog) ((putRow (λ(b:UInt8)=>Value.int .u8 (b.toNat:Int)) (w.alloc (.cells Lib.zeros24 221)) w.heap.size 0 dk).drewN k) 194 9 5 ⟨w.heap.size,0,none⟩ 24 (Lib.decDigits u) Tryz.underlying194 Tryz.underlying5 Tryz.underlying9 (λj hj=>by
     rw[Lib.row_is_numeral hF j hj,Lib.add_plain,World.cell?_drewN];exact cell?_putRow (λ(b:UInt8)=>Value.int .u8 (b.toNat:Int)) _ w.heap.size 0 _ dk HH0.out (by rw[hF.size,HJ]) j (by rw[hF.size];rw[Lib.decDigits_length]at hj;exact hj))
    rw[Lib.decDigits_length]at h;exact h
   go_wp2
   go_ret
   obtain⟨os,eo⟩:=Lib.fin_at w (.cells Lib.zeros24 221) dk k 0;exact⟨rfl,k,os,eo⟩
theorem Sd(u:Nat)(hu64:u<18446744073709551616)(w:World)
 (htab:Lib.TabIs Tryz.prog w "internal/strconv.uint64pow10" .u64 Lib.pow10Tab):
 Calls Tryz.prog 150 #[.int .u64 u,.int .i64 10] w λe w'=>e=.returned (.string ⟨(Lib.decDigits u).toArray⟩)/\∃k os,w'=grow (w.drewN k) os:=by
 go_enter Tryz.func150,Tryz.ntmps150
 go_wp2_with (refine(fmtU u hu64 _ htab).mono ?_;rintro e w' ⟨rfl,k,os,rfl⟩)
 go_ret
 exact⟨rfl,k,os,rfl⟩
end Go.Proofs.YtipdkfmhfakbnaaGreatDoor.F
set_option maxRecDepth 100000
namespace Go.X
open Go Go.RowKit Go.Sort Go.Lib Go.Proofs
theorem ct.strs{H:Hp}:∀{cs:List Value} {xs:List (List UInt8)},ct gX H cs xs->cs=xs.map (λx=>Value.string (s8 x))
 |_,[],h=>h
 |_,x::xs,⟨a,b,h1,h2,h3⟩=>by rw[h1,show a=[.string (s8 x)] from h2,h3.strs];rfl
theorem ct.K7{H:Hp}:∀(xs:List (List UInt8)),ct gX H (xs.map (λx=>Value.string (s8 x))) xs
 |[]=>rfl
 |x::xs=>⟨[.string (s8 x)],_,rfl,rfl,ct.K7 xs⟩
theorem P4(w:World)(k:Nat)(os:Array Obj):Ext w (grow (w.drewN k) os):=
 ⟨rfl,rfl,rfl,by simp[grow,World.drewN],λg hg=>Lib.heap_grow_old w k os g hg⟩
theorem Ur{xs ys:List (List UInt8)}{sp:List Value}(hl:ys.length=xs.length):
 putCells encStr 0 ys.toArray ((xs.map (λx=>Value.string (s8 x))++sp).toArray)=(ys.map (λx=>Value.string (s8 x))++sp).toArray:=by
 apply Array.ext_getElem?;intro k;simp only[putCells,Array.getElem?_mapIdx,wG,fV,true_and,fb,Nat.sub_zero,List.size_toArray];rcases cH k ys.length with h|h
 . rw[kv (by simp;omega),kv (by simpa using h)];have h2:k<xs.length:=by omega
   simp only[ij,cy h2,cy h,o6,bD h,ud];rw[getElem!_pos _ k (by simpa using h)];simp[encStr,s8]
 . rw[oZ (by simp;omega),oZ (by simpa using h)];simp only[cT,hl];cases hs:sp[k-xs.length]?with
   |none=>rfl
   |some v=>simp only[o6];rw[aY (by omega)]
end Go.X
namespace Go.Proofs.YtipdkfmhfakbnaaGreatDoor.FS
open Go Go.RowKit Go.Sort Go.Lib Go.Proofs Go.X Go.D Go.Q Go.Proofs.YtipdkfmhfakbnaaGreatDoor.TB
theorem en150:Go.X.Enters Tryz.prog 150:=⟨Tryz.f150,Tryz.func150,by kernel_rfl,by kernel_rfl⟩
theorem en151:Go.X.Enters Tryz.prog 151:=⟨Tryz.f151,Tryz.func151,by kernel_rfl,by kernel_rfl⟩
theorem en122:Go.X.Enters Tryz.prog 122:=⟨Tryz.f122,Tryz.func122,by kernel_rfl,by kernel_rfl⟩
theorem en152:Go.X.Enters Tryz.prog 152:=⟨Tryz.f152,Tryz.func152,by kernel_rfl,by kernel_rfl⟩
theorem Vl(N:Nat)(i b:Int)(r:List UInt8)(h:yz N i b=some r):Cn Tryz.prog 150 [sI .u64 i,sI .i64 b] [] [sT r]:=by
 refine VR en150 λν H w l ht hl=>?_;obtain⟨a,_,rfl,⟨h1,h2⟩,a2,_,rfl,⟨h3,h4⟩,rfl⟩:=hl;subst h1 h3;unfold yz at h;split at h
 . rename_i hc;obtain⟨h0,h1,rfl⟩:=hc;obtain⟨u,rfl⟩:=qw h0;cases h;refine(F.Sd u (by omega) w (Qx ht)).mono ?_;rintro e w' ⟨rfl,k,os,rfl⟩;exact⟨[_],rfl,P4 w k os,λν' H'=>⟨_,[],rfl,⟨rfl,rfl⟩,rfl⟩⟩
 . cases h
theorem Ts(N:Nat)(s:List UInt8)(c:Int)(r:List UInt8)(h:xg N s c=some r):Cn Tryz.prog 151 [sT s,sI .i64 c] [] [sT r]:=by
 refine VU en151 λν H w l hl=>?_;obtain⟨a,_,rfl,⟨h1,h2⟩,a2,_,rfl,⟨h3,h4⟩,rfl⟩:=hl;subst h1 h3;unfold xg at h;split at h
 . rename_i hc;obtain⟨h0,h1,h2⟩:=hc;obtain⟨u,rfl⟩:=qw h0;cases h;refine(Tryz.strings_Repeat (s8 s) u w (by omega) (by rw[yx];exact Int.ofNat_le.1 (by rw[Hi];exact h2))).mono ?_;rintro e w' ⟨rfl,hB⟩;exact⟨[_],rfl,hB,λν' H'=>⟨_,[],rfl,⟨rfl,rfl⟩,rfl⟩⟩
 . cases h
theorem LF(N:Nat)(xs:List (List UInt8))(s r:List UInt8)(h:rG N xs s=some r):Cn Tryz.prog 122 [sR gX false xs,sT s] [] [sT r]:=by
 refine VA en122 λν H w l hv hl=>?_;obtain⟨v,_,rfl,hs,a2,_,rfl,⟨h3,h4⟩,rfl⟩:=hl;subst h3;unfold rG at h;split at h
 . rename_i hc;obtain⟨h0,h1⟩:=hc;cases h;have hx:∀l:List (List UInt8),(l.map s8).map (·.data.toList)=l:=λl=>by rw[mV];exact(De λx _=>by simp[s8]).trans (List.map_id l)
   have hj0:Calls Tryz.prog 122 #[v,.string (s8 s)] w λe w'=>e=.returned (.string (s8 (Lib.join xs s)))/\Ext w w':=by
    have hs:Rs gX (H false) v xs:=hs;rcases hs with⟨⟨oa,rfl⟩,rfl⟩|⟨b,o,cap,rfl,hcap,hxs⟩
    . refine(Tryz.strings_Join_none oa 0 (s8 s) w).mono ?_;rintro e w' ⟨rfl,rfl⟩;exact⟨by simp[Lib.join,s8],Ext.refl _⟩
    . have hcell:∀(j:Nat) x,(xs.map s8)[j]?=some x->w.cell? ⟨b,o+j,none⟩=some (.string x):=by
       intro j x hj;rw[ij]at hj;cases hx1:xs[j]?with
       |none=>rw[hx1]at hj;cases hj
       |some y=>
        rw[hx1]at hj;cases hj;obtain⟨vs,-,hA,hv'⟩:=hxs j y hx1;have hv':vs=[.string (s8 y)]:=hv';have h3:=hA.get 0 (v:=.string (s8 y)) (by rw[hv'];rfl);have h4:=yw (A:=[]) (yA (hv false) h3);rw[show o+j*gX.sz+0=o+j from by show o+j*1+0=o+j;omega]at h4;exact h4
      cases xs with
      |nil=>
       refine(Tryz.strings_Join_none (some ⟨b,o,none⟩) cap (s8 s) w).mono ?_;rintro e w' ⟨rfl,rfl⟩;exact⟨by simp[Lib.join,s8],Ext.refl _⟩
      |cons y ys=>
       have hb:b<w.heap.size:=by
        have h5:=hcell 0 (s8 y) rfl;rcases cH b w.heap.size with h6|h6
        . exact h6
        . simp[World.cell?,CV h6]at h5
       have h7:=Tryz.strings_Join b o cap ((y::ys).map s8) (s8 s) w hcell hb (by simpa using h0) (by simpa using hcap) (by rw[hx];exact h1);rw[hx,cT]at h7;exact h7
   exact hj0.mono λe w' ⟨he,hE⟩=>⟨[_],he,hE,λν' H'=>⟨_,[],rfl,⟨rfl,rfl⟩,rfl⟩⟩
 . cases h
theorem Ov(N:Nat)(xs r:List (List UInt8))(h:ze N xs=some r):Cx Tryz.prog 152 [sO 0] [.row gX true xs] [(0,some (.row gX true r))] []:=by
  obtain⟨hs,rfl⟩:=VI h;refine⟨en152,λX w H ν l hν hS hl=>?_⟩;obtain⟨v,_,rfl,⟨b,c,n,p1,rfl⟩,rfl⟩:=hl;obtain⟨b',c',n',k,q1,q2,q3⟩:=hS.de 0 _ rfl;rw[p1]at q1;cases q1;obtain⟨rfl,e0,cs,sp,rfl,e3,e4⟩:=q3;have hcs:=e3.strs;have fin:∀w',Go.X.Loc [b] [] w w' [b] [.cells ([]++(xs.reverse.map (λx=>Value.string (s8 x))++sp))]->yX X w H ν 1 [(0,some (.row gX true xs.reverse))] [] [] w':=by
    intro w' hL;obtain⟨g1,g2⟩:=hS.mod (ob:=.row gX true xs.reverse) rfl rfl p1 hL (λH' hH=>⟨by simp,e0,xs.reverse.map (λx=>Value.string (s8 x)),sp,rfl,ct.K7 _,by rw[<-e4,hcs];simp⟩);refine⟨ν,λ_ _=>rfl,?_,rfl⟩;have:aT [(0,some (Ob.row gX true xs.reverse))]=bQ [(0,some (Ob.row gX true xs.reverse))] (aT (eQ 0 [Ob.row gX true xs])):=by
      funext t;show(bif Nat.beq t 0 then _ else none)=(bif Nat.beq t 0 then _ else(bif Nat.beq t 0 then _ else none));cases Nat.beq t 0<;>rfl
    rw[this];exact g1
  cases b with
  |none=>
    have h0:[]++(cs++sp)=[]:=q2;have hcs0:cs=[]:=by simp at h0;exact h0.1
    have hx0:xs=[]:=by rw[hcs0]at hcs;cases xs with|nil=>rfl|cons _ _=>cases hcs
    subst hx0;refine(Tryz.slices_Reverse_string_empty none 0 w).mono ?_;rintro e w' ⟨rfl,rfl⟩;refine⟨[],rfl,fin _ ?_⟩;have:=jD q2;rw[hcs0]at this;exact this
  |some b=>
    have hH:Holds encStr w b 0 xs.toArray:=by
      intro j hj;have hj':j<xs.length:=by simpa using hj
      have hcell:([]++(cs++sp))[0+j]?=some (Value.string (s8 xs[j])):=by
        rw[jz,hcs,fb,kv (by simpa using hj'),ij,cy hj'];rfl
      refine⟨?_,?_⟩
      . rw[sc q2 hcell,getElem!_pos _ j hj];rfl
      . obtain⟨t,lo,hi,h1,h2,h3⟩:=q2
        have := h3 (0 + j) (by rcases cH (0 + j) ([] ++ (cs ++ sp)).length with h | h; · exact h
                               . rw[gr h]at hcell;cases hcell)
        simp[World.frozen?,h1];omega
    refine(Tryz.slices_Reverse_string b 0 c xs w hH hs).mono ?_;rintro e w' ⟨rfl,n,rfl⟩;refine⟨[],rfl,fin _ ?_⟩;have hL:=jD q2;obtain⟨t,lo,hi,h1,h2,h3⟩:=q2;have hlen:(xs.reverse.map (λx=>Value.string (s8 x))++sp).length=(cs++sp).length:=by rw[hcs];simp
    exact(hL.put (w':=putRow encStr (Sort.ahead w n) b 0 xs.reverse.toArray) 0 rfl (c':=.cells ([]++(xs.reverse.map (λx=>Value.string (s8 x))++sp)))
      ⟨t,lo,hi,by
        simp only[putRow,mapBlock,Sort.ahead,NB,if_true,h1,o6,onCells,jz];rw[hcs,Ur (by simp)],h2,λj hj=>h3 j (by rw[jz]at hj⊢;rw[<-hlen];exact hj)⟩
      (λk hk=>by simp[putRow,mapBlock,Sort.ahead,NB,Ne.symm hk]) (by simp[putRow,mapBlock,Sort.ahead]) rfl rfl rfl).1
end Go.Proofs.YtipdkfmhfakbnaaGreatDoor.FS
namespace Go.X
open Go Go.RowKit
def oD(rd:Option Nat):Fence:={fn:=λ_=>True,depth:=none,alive:=false,round:=rd}
theorem KS{rd:Option Nat}{m:Nat}{P:Program}{o:Oper}{a:Act}{w:World}{K:Act->World->Prop}{Q:Exit->Act->World->Prop}{R:Value->World->Prop}
 (hd:∀c,o.op≠.defer c)(h:aG P o.op o.type (ev (db a)) w R)(hk:∀v w',R v w'->K (a.put o.dst v) w'):o.wpIn (oD rd) m P a w K Q:=by
 refine⟨λ_ _=>trivial,?_⟩;rw[Oper.semAt_eq _ _ _ hd];unfold aG at h;rw[ES,<-sf];generalize(execOp (ev (db a)) (dw o.op o.type)).run P w=r at*;cases r with
 |ok n w'=>
  cases n<;>simp only[upon,Oper.uponIn]at h⊢<;>first|exact hk _ _ h|exact h.elim|skip
  . exact⟨λhh=>(by cases hh),CallsIn.mono (callsIn_wide.2 h:CallsIn Fence.wide (m-1) P _ _ _ _) λe w'' he=>by cases e<;>first|exact hk _ _ he|exact he.elim⟩
  . refine⟨λhh=>(by cases hh),λc cs _=>?_⟩;obtain⟨v,w'',r1,r2⟩:=h c cs;exact⟨v,w'',hk _ _ r1,stepsIn_wide.2 r2⟩
 |halt x w'=>cases x<;>simp only[upon]at h
def Cw(rd:Option Nat)(ds:List Deferred)(P:Program)(n:Nat)(c:Code)(Q:Exit->Env->World->Prop)(e:Env)(w:World):Prop:= ∀(m:Nat) (a:Act),a.tmps.size=n->a.defers=ds->db a=e->c.wpIn (oD rd) m P (λx a' w'=>a'.tmps.size=n/\a'.defers=ds/\Q x (db a') w') a w
section
variable {rd:Option Nat} {ds:List Deferred} {P:Program} {n:Nat} {Q Q':Exit->Env->World->Prop} {e:Env} {w:World}
theorem Cw.mono{c:Code}(h:Cw rd ds P n c Q e w)(hq:∀x e w,Q x e w->Q' x e w):Cw rd ds P n c Q' e w:=
 λm a h1 h2 h3=>wpIn_mono (h m a h1 h2 h3) λx a' w' g=>⟨g.1,g.2.1,hq _ _ _ g.2.2⟩
theorem Cw.skip(h:Q .normal e w):Cw rd ds P n .skip Q e w:=λm a h1 h2 h3=>wpIn_skip ⟨h1,h2,h3▸h⟩
theorem Cw.ret(h:Q .ret e w):Cw rd ds P n .ret Q e w:=λm a h1 h2 h3=>wpIn_ret ⟨h1,h2,h3▸h⟩
def GF(K:Env->World->Prop)(Q:Exit->Env->World->Prop):Exit->Env->World->Prop
 |.normal=>K
 |x=>Q x
theorem Cw.seq{x y:Code}{K:Env->World->Prop}(h:Cw rd ds P n x (GF K Q) e w)(h2:∀e w,K e w->Cw rd ds P n y Q e w):Cw rd ds P n (.seq x y) Q e w:=by
 intro m a g1 g2 g3;refine wpIn_seq (wpIn_mono (h m a g1 g2 g3) ?_);rintro x a' w' ⟨k1,k2,k3⟩;cases x with
 |normal=>exact h2 _ _ k3 m a' k1 k2 rfl
 |_=>exact⟨k1,k2,k3⟩
theorem Cw.cond{c:Operand}{x y:Code}{b:Bool}(hc:ev e c=.bool b)(h:Cw rd ds P n (bif b then x else y) Q e w):Cw rd ds P n (.cond c x y) Q e w:=by
 intro m a g1 g2 g3;have:=h m a g1 g2 g3;cases b
 . exact wpIn_cond_false (by rw[<-sf,g3];exact hc) this
 . exact wpIn_cond_true (by rw[<-sf,g3];exact hc) this
theorem Cw.block{id:Nat}{c:Code}(h:Cw rd ds P n c Q e w)(hx:∀j e w,¬Q (.exit j) e w):Cw rd ds P n (.block id c) Q e w:=by
 intro m a g1 g2 g3;refine wpIn_block (wpIn_mono (h m a g1 g2 g3) ?_);rintro x a' w' ⟨k1,k2,k3⟩;cases x with
 |exit j=>exact bV k3 (hx j _ _)
 |_=>exact⟨k1,k2,k3⟩
def vR:List Oper->Bool
 |[]=>true
 |o::r=>(match o.op with|.defer _=>false|_=>true)&&vR r
theorem Kr{l:List Oper}(h:vR l=true):∀o,o∈l->∀c,o.op≠.defer c:=by
 induction l with
 |nil=>intro o ho;cases ho
 |cons x r ih=>
  simp only[vR,fZ]at h;intro o ho c;cases ho with
  |head=>have h1:=h.1;intro hc;rw[hc]at h1;cases h1
  |tail _ hm=>exact ih h.2 o hm c
theorem U6{all:List Oper}(hall:∀o,o∈all->∀d,o.dst=some d->d<n)(hnd:∀o,o∈all->∀c,o.op≠.defer c){m:Nat}{K:Env->World->Prop}{Q':Exit->Act->World->Prop}
 (hK:∀a w,a.tmps.size=n->a.defers=ds->K (db a) w->Q' .normal a w):
 ∀(l:List Oper),(∀o,o∈l->o∈all)->∀(a:Act) (w:World),a.tmps.size=n->a.defers=ds->Rl P all l K (db a) w->wpListIn (oD rd) m P all.toArray Q' l a w:=by
 intro l
 induction l with
 |nil=>intro _ a w h1 h2 h;exact hK a w h1 h2 h
 |cons o r ih=>
  intro hsub a w h1 h2 h;have hin:=hsub o cX;have hd:∀d,o.dst=some d->d<n:=hall o hin;have hall':∀o,o∈all->∀d,o.dst=some d->d<a.tmps.size:=by rw[h1];exact hall
  refine wpListIn_step λK' hK'=>?_;rw[Dw hall' o];simp only[Rl]at h;cases hw:iN all o (db a)with
  |true=>
   rw[hw]at h;rw[bD rfl];refine KS (hnd o hin) h λv w' hv=>hK' _ _ ?_;refine ih (λo ho=>hsub o (cO _ ho)) _ _ (by rw[pz];exact h1) (by rw[qS];exact h2) ?_;rw[vL a h1 hd];exact hv
  |false=>
   rw[hw]at h;rw[aY (by simp)];refine⟨λ_ _=>trivial,hK' _ _ ?_⟩;refine ih (λo ho=>hsub o (cO _ ho)) _ _ (by rw[pz];exact h1) (by rw[qS];exact h2) ?_;rw[vL a h1 hd];exact h
theorem Cw.region{id:Nat}{l:List Oper}{K:Env->World->Prop}(h:Rl P l l K e w)(hK:∀e w,K e w->Q .normal e w)(hok:mu n l=true:=by rfl)(hnd:vR l=true:=by rfl):Cw rd ds P n (.region id l.toArray false) Q e w:=by
 intro m a g1 g2 g3;subst g3;exact wpIn_region_lit (U6 (CO hok) (Kr hnd) (K:=K) (λa' w' k1 k2 k3=>⟨k1,k2,hK _ _ k3⟩) l (λ_ h=>h) a w g1 g2 h)
theorem Cw.IJ{id:Nat}{c:Code}(h:Cw rd ds P n c (λx=>match x with|.exit j=>if j=id then Q .normal else Q (.exit j)|x=>Q x) e w):Cw rd ds P n (.block id c) Q e w:=by
 intro m a g1 g2 g3;refine wpIn_block (wpIn_mono (h m a g1 g2 g3) ?_);rintro x a' w' ⟨k1,k2,k3⟩;cases x with
 |exit j=>
  simp only[Exit.inBlock];by_cases hj:j=id
  . rw[bD hj];simp only[bD hj]at k3;exact⟨k1,k2,k3⟩
  . rw[aY hj];simp only[aY hj]at k3;exact⟨k1,k2,k3⟩
 |_=>exact⟨k1,k2,k3⟩
theorem Cw.exit{id:Nat}(h:Q (.exit id) e w):Cw rd ds P n (.exit id) Q e w:=λm a h1 h2 h3=>wpIn_exit ⟨h1,h2,h3▸h⟩
theorem Cw.loop{c:Code}(I:Nat->Env->World->Prop)(k:Nat)(h0:I k e w)(round:∀k e w,I k e w->Cw rd ds P n c (GF (λe w=>∃j,j<k/\I j e w) Q) e w):Cw rd ds P n (.loop c) Q e w:=by
 intro m a g1 g2 g3;have key:∀M k,k<=M->∀a w,a.tmps.size=n->a.defers=ds->I k (db a) w->Code.roundsIn (oD rd) m P c (λx a' w'=>a'.tmps.size=n/\a'.defers=ds/\Q x (db a') w') (M+1) a w:=by
  intro M
  induction M with
  |zero=>
   intro k hk a w h1 h2 hI;refine wpIn_mono (round k _ _ hI m a h1 h2 rfl) ?_;rintro x a' w' ⟨k1,k2,k3⟩;cases x with
   |normal=>obtain⟨j,hj,_⟩:=k3;omega
   |_=>exact⟨k1,k2,k3⟩
  |succ M ih=>
   intro k hk a w h1 h2 hI;refine wpIn_mono (round k _ _ hI m a h1 h2 rfl) ?_;rintro x a' w' ⟨k1,k2,k3⟩;cases x with
   |normal=>obtain⟨j,hj,h⟩:=k3;exact ih j (by omega) a' w' k1 k2 h
   |_=>exact⟨k1,k2,k3⟩
 exact wpIn_loop_rounds (k+1) (key k k (bO _) a w g1 g2 (g3▸h0))
theorem oH{all r:List Oper}{o:Oper}{m:Nat}{Q':Exit->Act->World->Prop}{a:Act}(h1:a.tmps.size=n)(h2:a.defers=ds)
 (h:aG P o.op o.type (ev (db a)) w λv w'=>∀a':Act,a'.tmps.size=n->a'.defers=ds->db a'=j1 (db a) o.dst v->wpListIn (oD rd) m P all.toArray Q' r a' w')(hg:o.guard=none:=by rfl)(hd:mu n [o]=true:=by rfl)(hn:vR [o]=true:=by rfl):wpListIn (oD rd) m P all.toArray Q' (o::r) a w:=
 wpListIn_plain hg λK hK=>KS (Kr hn o cX) h λv w' hv=>hK _ _ (hv _ (by rw[pz];exact h1) (by rw[qS];exact h2) (vL a h1 (CO hd o cX) v))
theorem S3{o:Oper}{m l:Nat}{a:Act}{g:Operand}{args:List Operand}{ats:Array TypeId}{az:List Value}{R:Ending->World->Prop}{K:Act->World->Prop}{Q':Exit->Act->World->Prop}
 (ho:o.op=.call {callee:=.value g,args:=args.toArray,argTypes:=ats})(hf:db a=e)(hv:ev e g=.func (.yield l) #[] #[]) (ha:args.map (ev e)=az) (hy:YieldAt (oD rd) (m-1) P l az.toArray w R)
 (hR:∀x w',R x w'->∃v,x=.returned v/\K (a.put o.dst v) w'):o.wpIn (oD rd) m P a w K Q':=by
 obtain⟨fn,tmps,assign,body,h1,h2⟩:=hy;refine⟨λ_ _=>trivial,?_⟩;rw[Oper.semAt_eq _ _ _ (by rw[ho];intro c h;cases h),ES,<-sf,hf,ho];have hr:(execOp (ev e) (dw (.call {callee:=.value g,args:=args.toArray,argTypes:=ats}) o.type)).run P w=.ok (.round l fn tmps assign body) w:=by
  simp only[dw,execOp,resolve,hv];simp[Deferred.ofValue,invoke,ha,h1]
 rw[hr];refine⟨λhh=>(by cases hh),RoundIn.mono h2 λx w' hx=>?_⟩;obtain⟨v,rfl,hk⟩:=hR x w' hx;exact hk
theorem R1{k k' l:Nat}{az:Array Value}{R:Ending->World->Prop}(h:YieldAt Fence.wide k P l az w R):YieldAt (oD none) k' P l az w R:=by
 obtain⟨fn,tmps,assign,body,h1,h2,h3⟩:=h;exact⟨fn,tmps,assign,body,h1,h2,λc cs _=>h3 c cs (room_wide _)⟩
theorem KA{l:List Value}:db {tmps:=l.toArray++Array.replicate (n-l.toArray.size) undef,defers:=ds}=kU l:=by
 funext i;simp only[db,kU,NA,cN];by_cases hi:i<l.length
 . rw[VV (by simpa using hi)];simp
 . rw[VW (by simpa using hi),gr (by omega)];by_cases hj:i-l.toArray.size<n-l.toArray.size
   . rw[Ha (by simpa using hj)];simp
   . rw[CV (by simpa using hj)]
theorem T9{f:FuncId}{fn:Func}{c:Code}{l:List Value}{m:Nat}{R:Ending->World->Prop}(hf:P.funcs[f]?=some fn)(hb:fn.body=some c)(hn:fn.ntmps=n)(hl:l.length<=n)
 (h:Cw none [] P n c (λx e w'=>(x=.normal\/x=.ret)/\∀tmps:Array Value,(∀i,tmps.getD i undef=e i)->∃v,(results fn tmps).run P w'=.ok v w'/\R (.returned v) w') (kU l) w):CallsIn Fence.wide m P f l.toArray w R:=by
 subst hn;refine callsIn_of_wp hf hb trivial (wpIn_mono (h m _ (by simp;omega) rfl KA) ?_);rintro x a' w' ⟨h1,h2,h3,h4⟩;obtain⟨v,hv,hR⟩:=h4 a'.tmps (λ_=>rfl);rcases h3 with rfl|rfl<;>exact⟨h2,v,hv,hR⟩
end
end Go.X
namespace Go.Q
open Go Go.RowKit Go.X
variable [fq]
def xX:Ob->Bool
 |.row .. =>true
 |.box .. =>true
 |.aO .. =>true
 |_=>false
theorem MA{ob:Ob}(h:xX ob=true){ν:Nu}{H:Bool->Hp}{c n:Nat}{k:df}(hr:ob.R ν H c n k):∃l,k=.cells l:=by
 cases ob with
 |row r κ xs=>obtain⟨_,_,cs,sp,rfl,_⟩:=hr;exact⟨_,rfl⟩
 |box l=>obtain⟨vs,rfl,_⟩:=hr;exact⟨_,rfl⟩
 |aO r κ xs=>obtain⟨_,⟨_,cs,sp,rfl,_⟩|⟨_,rfl⟩⟩:=hr<;>exact⟨_,rfl⟩
 |map _ _ _ _=>cases h
 |deep _ _ _ _=>cases h
 |hd _ _ _ _ _ _=>cases h
theorem Ek{ob:Ob}(h:xX ob=true):ob.tid=none:=by cases ob<;>first|rfl|cases h
theorem cY.on{X:Nat->Prop}{w0 w w':World}{H0:Bool->Hp}{ν:Nu}{oF:OF}(hS:cY X w0 H0 ν oF w)(hp:∀i ob,oF i=some ob->xX ob=true)
 (h1:w'.os=w.os)(h2:w'.tape=w.tape)(h3:w'.output=w.output)(h4:w.heap.size<=w'.heap.size)(h5:∀k,k<w0.heap.size->¬X k->w'.heap[k]?=w.heap[k]?)(h6:∀(k:Nat) (o:Obj),kY (w.heap[k]?)=some o->w'.heap[k]?=some o):
 cY X w0 H0 ν oF w'/\∀κ,Le (HF X w0 H0 ν oF w κ) (HF X w0 H0 ν oF w' κ):=by
 have le:∀κ,Le (HF X w0 H0 ν oF w κ) (HF X w0 H0 ν oF w' κ):=λκ b o h=>by
  rcases tP h with⟨g1,g2,g3⟩|⟨g1,g2,g3⟩
  . rw[om g1 g2];exact g3
  . refine lL g1 g2 ?_;rw[h6 b o g3];have:=mZ g3;rw[this]at g3;exact g3
 refine⟨⟨h1.trans hS.os,h2.trans hS.tape,h3.trans hS.output,bU hS.size h4,λk hk hx=>(h5 k hk hx).trans (hS.keep k hk hx),hS.h0,hS.nh,hS.pI,λi ob h=>?_,hS.fresh,hS.gR,λi ob h=>⟨λt ht=>?_,(hS.parts i ob h).2⟩⟩,le⟩
 . obtain⟨b,c,n,k,q1,q2,q3⟩:=hS.de i ob h;obtain⟨l,rfl⟩:=MA (hp i ob h) q3;refine⟨b,c,n,_,q1,?_,q3.mono (fk.refl ν) le λj b c n hj _=>bV hj (by rw[Ek (hp i ob h)];simp)⟩;cases b with
   |none=>exact q2
   |some b=>
    obtain⟨t,lo,hi,k1,k2,k3⟩:=q2;exact⟨t,lo,hi,h6 b _ (by rw[k1];rfl),k2,k3⟩
 . rw[u5 (Ek (hp i ob h))]at ht;cases ht
end Go.Q
namespace Go.X
open Go Go.RowKit
def Aw(P:Program)(n:Nat)(c:Code)(QQ:Exit->Act->World->Prop)(e:Env)(w:World):Prop:=∀a:Act,a.tmps.size=n->a.defers=[]->db a=e->c.wpIn Fence.wide 5 P QQ a w
section
variable {P:Program} {n:Nat} {QQ:Exit->Act->World->Prop} {e:Env} {w:World}
theorem Aw.FN{x y:Code}{k:List It}(h:cI P n (.code x::k) (λ_ _=>False) e w)(hx:∀ex e w,ex≠Exit.normal->¬jH P n k (λ_ _=>False) ex e w)(h2:∀e w,cI P n k (λ_ _=>False) e w->Aw P n y QQ e w):Aw P n (.seq x y) QQ e w:=by
 intro a g1 g2 g3;refine wpIn_seq (wpIn_mono (wpIn_wide.2 (h a g1 g2 g3)) ?_);rintro x a' w' ⟨k1,k2,k3⟩;cases x with
 |normal=>exact h2 _ _ k3 a' k1 k2 rfl
 |_=>exact bV k3 (hx _ _ _ (by simp))
theorem Aw.seq3{x1 x2 x3 y:Code}{J:Env->World->Prop}(h:cI P n [.code x1,.code x2,.code x3,.back J] (λ_ _=>False) e w)(h2:∀e w,J e w->Aw P n y QQ e w):Aw P n (.seq x1 (.seq x2 (.seq x3 y))) QQ e w:=
 Aw.FN h (λx e w hx h=>by cases x<;>first|exact hx rfl|exact h) λ_ _ g=>Aw.FN g (λx e w hx h=>by cases x<;>first|exact hx rfl|exact h) λ_ _ g=>Aw.FN g (λx e w hx h=>by cases x<;>first|exact hx rfl|exact h) h2
def sb(D:Nat):Deferred:={target:=.collected D,args:=#[]}
theorem OE{f:FuncId}{fn:Func}{c:Code}{l:List Value}{R:Ending->World->Prop}(hf:P.funcs[f]?=some fn)(hb:fn.body=some c)(hn:fn.ntmps=n)(hl:l.length<=n)
 (h:Aw P n c (λx a' w'=>(x=.normal\/x=.ret)/\∃D,a'.defers=[sb D]/\w'.heap[D]?=some (.deferred (some []))/\∃v,(results fn a'.tmps).run P (w'.putObj D (.deferred none))=.ok v (w'.putObj D (.deferred none))/\R (.returned v) (w'.putObj D (.deferred none))) (kU l) w):
 Calls P f l.toArray w R:=by
 subst hn;refine(callsIn_wide (n:=5)).1 (callsIn_of_wp_marks hf hb trivial (wpIn_mono (h _ (by simp;omega) rfl KA) ?_));rintro x a' w' ⟨h1,D,h2,h3,v,hv,hR⟩;rcases h1 with rfl|rfl<;>(show LeavesInM _ _ _ _ _ _ a'.defers _ _;rw[h2];exact⟨by simp,.inl ⟨D,_,rfl,run_takeDeferred h3,v,hv,hR⟩⟩)
theorem R9{fn:Func}{rl:List ResultVar}{vs:List Value}{tmps:Array Value}(hr:fn.results=rl.toArray)(he:∀i,tmps.getD i undef=e i)(h1:tw P e w rl vs):(results fn tmps).run P w=.ok (jC vs) w:=by
 unfold results;rw[hr];simp only[NF,Sem.run_bind,Sem.run_map];rw[AN he _ (λ_=>rfl) (λ_ _=>rfl) h1];simp only[Result.andThen_ok];cases vs with
 |nil=>rfl
 |cons v vs=>cases vs<;>simp[jC]
end
theorem J9{W W':World}(hc:∀(k:Nat) (o:Obj),Go.Q.kY (W.heap[k]?)=some o->W'.heap[k]?=some o){b o:Nat}{vs:List Value}(h:At (view [] W) b o vs):At (view [] W') b o vs:=by
 intro i hi;have h1:=h i hi;rw[cy hi]at h1⊢;unfold lU at h1⊢;cases hb:view [] W b with
 |none=>rw[hb]at h1;cases h1
 |some ob=>
  rw[hb]at h1;cases ob with
  |cells cs t fr=>
   have:=hc b _ (show Go.Q.kY (W.heap[b]?)=some (.cells cs t fr) by rw[zH hb];rfl);rw[vK this (by simp)];exact h1
  |_=>cases h1
end Go.X
namespace Go.Q
open Go Go.RowKit Go.X
variable [fq]
theorem vN{P:Program}{tb:List (dU P)}{F:Fx}{L:SS}(L':SS)(ren:List Nat){de:List (Nat×Option Ob)}{bX:List (Nat×Option Sv)}(hI:L'=⟨ren.length,de,bX⟩:=by rfl)(h1:lR (aT L.bI) ren de=some de:=by rfl)(h2:gn ren=true:=by rfl)(h3:oJ L ren bX=some bX:=by rfl)(h4:oY F.m ren=true:=by rfl):
 vn tb F (λe w=>St F L' e w) L:=⟨λe w hs=>by rw[hI];exact hs.pq ren h1 h2 h3 h4⟩
theorem xo{P:Program}{tb:List (dU P)}{F:Fx}{ops:List Oper}{L:SS}{J:Env->World->Prop}{rd:Option Nat}{ds:List Deferred}{i:Nat}{Q:Exit->Env->World->Prop}{e:Env}{w:World}
 (h:Gr tb F ops ops [.back J] L)(hs:St F L e w)(hJ:∀e w,J e w->Q .normal e w)(hok:mu F.n ops=true:=by rfl)(hnd:vR ops=true:=by rfl):Cw rd ds P F.n (.region i ops.toArray false) Q e w:=
 Cw.region ((Gr.ok h).ok e w hs) hJ hok hnd
theorem Sa{ν ν':Nu}{oF oF':OF}(hp:∀i ob,oF' i=some ob->xX ob=true/\∃ob0,oF i=some ob0)(hν:∀k,ν' k=ν k){b:Nat}(h:Ow ν' oF' b):Ow ν oF b:=by
 obtain⟨i,ob,h1,h2⟩:=h;obtain⟨h3,ob0,h4⟩:=hp i ob h1;refine⟨i,ob0,h4,.inl ?_⟩;have:=(qG (Ek h3)).1 h2;unfold dK at this⊢;rw[<-hν i];exact this
end Go.Q

/- Plain theorems and definitions of this seat, several texts in one. -/
import Derived.Test.YtipdkfmhfakbnaaGreatDoorAf
import Derived.Test.YtipdkfmhfakbnaaGreatDoorAd
import Derived.Test.YtipdkfmhfakbnaaGreatDoorAb
import Derived.Test.YtipdkfmhfakbnaaGreatDoorAc
import Derived.RangeFuncNested
import Derived.RangeFuncLeaves
import Derived.TacticsIn
import Derived.LoopNIn
set_option linter.unusedVariables false
set_option linter.unusedSimpArgs false
set_option linter.unusedSectionVars false
set_option maxRecDepth 100000
namespace Go.X
open Go Go.RowKit Go.Sort Go.Lib Go.Proofs
theorem bS.strs{H:Hp}:∀{cs:List Value} {xs:List (List UInt8)},bS gI H cs xs->cs=xs.map (fun x=>Value.string (s8 x))
 |_,[],h=>h
 |_,x::xs,⟨a,b,h1,h2,h3⟩=>by rw[h1,show a=[.string (s8 x)] from h2,h3.strs];rfl
theorem bS.Mw{H:Hp}:∀(xs:List (List UInt8)),bS gI H (xs.map (fun x=>Value.string (s8 x))) xs
 |[]=>rfl
 |x::xs=>⟨[.string (s8 x)],_,rfl,rfl,bS.Mw xs⟩
theorem UE(w:World)(k:Nat)(os:Array Obj):Ext w (grow (w.drewN k) os):=
 ⟨rfl,rfl,rfl,by simp[grow,World.drewN],fun g hg=>Lib.heap_grow_old w k os g hg⟩
theorem QX{xs ys:List (List UInt8)}{sp:List Value}(hl:ys.length=xs.length):
 putCells encStr 0 ys.toArray ((xs.map (fun x=>Value.string (s8 x))++sp).toArray)=(ys.map (fun x=>Value.string (s8 x))++sp).toArray:=by
 apply Array.ext_getElem?;intro k;simp only[putCells,Array.getElem?_mapIdx,vL,fE,true_and,eK,Nat.sub_zero,List.size_toArray];rcases cw k ys.length with h|h
 . rw[jZ (by simp;omega),jZ (by simpa using h)];have h2:k<xs.length:=by omega
   simp only[gR,bV h2,bV h,ov,if_pos h,tm];rw[getElem!_pos _ k (by simpa using h)];simp[encStr,s8]
 . rw[ou (by simp;omega),ou (by simpa using h)];simp only[cD,hl];cases hs:sp[k-xs.length]?with
   |none=>rfl
   |some v=>simp only[ov];rw[if_neg (by omega)]
end Go.X
namespace Go.Proofs.YtipdkfmhfakbnaaGreatDoor.FS
open Go Go.RowKit Go.Sort Go.Lib Go.Proofs Go.X Go.D Go.Q Go.Proofs.YtipdkfmhfakbnaaGreatDoor.TB
theorem en150:Go.X.Enters Tryz.prog 150:=⟨Tryz.f150,Tryz.func150,by kernel_rfl,by kernel_rfl⟩
theorem en151:Go.X.Enters Tryz.prog 151:=⟨Tryz.f151,Tryz.func151,by kernel_rfl,by kernel_rfl⟩
theorem en122:Go.X.Enters Tryz.prog 122:=⟨Tryz.f122,Tryz.func122,by kernel_rfl,by kernel_rfl⟩
theorem en152:Go.X.Enters Tryz.prog 152:=⟨Tryz.f152,Tryz.func152,by kernel_rfl,by kernel_rfl⟩
theorem Q4(N:Nat)(i b:Int)(r:List UInt8)(h:w7 N i b=some r):Cn Tryz.prog 150 [sI .u64 i,sI .i64 b] [] [sT r]:=by
 refine RP en150 fun ν H w l ht hl=>?_;obtain⟨a,_,rfl,⟨h1,h2⟩,a2,_,rfl,⟨h3,h4⟩,rfl⟩:=hl;subst h1 h3;unfold w7 at h;split at h
 . rename_i hc;obtain⟨h0,h1,rfl⟩:=hc;obtain⟨u,rfl⟩:=qX h0;cases h;refine(F.PG u (by omega) w (Of ht)).mono ?_;rintro e w' ⟨rfl,k,os,rfl⟩;exact⟨[_],rfl,UE w k os,fun ν' H'=>⟨_,[],rfl,⟨rfl,rfl⟩,rfl⟩⟩
 . cases h
theorem RE(N:Nat)(s:List UInt8)(c:Int)(r:List UInt8)(h:v7 N s c=some r):Cn Tryz.prog 151 [sT s,sI .i64 c] [] [sT r]:=by
 refine NQ en151 fun ν H w l hl=>?_;obtain⟨a,_,rfl,⟨h1,h2⟩,a2,_,rfl,⟨h3,h4⟩,rfl⟩:=hl;subst h1 h3;unfold v7 at h;split at h
 . rename_i hc;obtain⟨h0,h1,h2⟩:=hc;obtain⟨u,rfl⟩:=qX h0;cases h;refine(Tryz.strings_Repeat (s8 s) u w (by omega) (by rw[xM];exact Int.ofNat_le.1 (by rw[Ge];exact h2))).mono ?_;rintro e w' ⟨rfl,hB⟩;exact⟨[_],rfl,hB,fun ν' H'=>⟨_,[],rfl,⟨rfl,rfl⟩,rfl⟩⟩
 . cases h
theorem Jr(N:Nat)(xs:List (List UInt8))(s r:List UInt8)(h:qw N xs s=some r):Cn Tryz.prog 122 [sR gI false xs,sT s] [] [sT r]:=by
 refine OV en122 fun ν H w l hv hl=>?_;obtain⟨v,_,rfl,hs,a2,_,rfl,⟨h3,h4⟩,rfl⟩:=hl;subst h3;unfold qw at h;split at h
 . rename_i hc;obtain⟨h0,h1⟩:=hc;cases h;have hx:∀l:List (List UInt8),(l.map s8).map (·.data.toList)=l:=fun l=>by rw[mq];exact(Cj fun x _=>by simp[s8]).trans (List.map_id l)
   have hj0:Calls Tryz.prog 122 #[v,.string (s8 s)] w fun e w'=>e=.returned (.string (s8 (Lib.join xs s)))/\Ext w w':=by
    have hs:Rs gI (H false) v xs:=hs;rcases hs with⟨⟨oa,rfl⟩,rfl⟩|⟨b,o,cap,rfl,hcap,hxs⟩
    . refine(Tryz.strings_Join_none oa 0 (s8 s) w).mono ?_;rintro e w' ⟨rfl,rfl⟩;exact⟨by simp[Lib.join,s8],Ext.refl _⟩
    . have hcell:∀(j:Nat) x,(xs.map s8)[j]?=some x->w.cell? ⟨b,o+j,none⟩=some (.string x):=by
       intro j x hj;rw[gR]at hj;cases hx1:xs[j]?with
       |none=>rw[hx1]at hj;cases hj
       |some y=>
        rw[hx1]at hj;cases hj;obtain⟨vs,-,hA,hv'⟩:=hxs j y hx1;have hv':vs=[.string (s8 y)]:=hv';have h3:=hA.get 0 (v:=.string (s8 y)) (by rw[hv'];rfl);have h4:=yr (A:=[]) (yk (hv false) h3);rw[show o+j*gI.sz+0=o+j from by show o+j*1+0=o+j;omega]at h4;exact h4
      cases xs with
      |nil=>
       refine(Tryz.strings_Join_none (some ⟨b,o,none⟩) cap (s8 s) w).mono ?_;rintro e w' ⟨rfl,rfl⟩;exact⟨by simp[Lib.join,s8],Ext.refl _⟩
      |cons y ys=>
       have hb:b<w.heap.size:=by
        have h5:=hcell 0 (s8 y) rfl;rcases cw b w.heap.size with h6|h6
        . exact h6
        . simp[World.cell?,BZ h6]at h5
       have h7:=Tryz.strings_Join b o cap ((y::ys).map s8) (s8 s) w hcell hb (by simpa using h0) (by simpa using hcap) (by rw[hx];exact h1);rw[hx,cD]at h7;exact h7
   exact hj0.mono fun e w' ⟨he,hE⟩=>⟨[_],he,hE,fun ν' H'=>⟨_,[],rfl,⟨rfl,rfl⟩,rfl⟩⟩
 . cases h
theorem Qx(N:Nat)(xs r:List (List UInt8))(h:xW N xs=some r):Cx Tryz.prog 152 [sO 0] [.row gI true xs] [(0,some (.row gI true r))] []:=by
  obtain⟨hs,rfl⟩:=Uz h;refine⟨en152,fun X w H ν l hν hS hl=>?_⟩;obtain⟨v,_,rfl,⟨b,c,n,p1,rfl⟩,rfl⟩:=hl;obtain⟨b',c',n',k,q1,q2,q3⟩:=hS.cT 0 _ rfl;rw[p1]at q1;cases q1;obtain⟨rfl,e0,cs,sp,rfl,e3,e4⟩:=q3;have hcs:=e3.strs;have fin:∀w',Go.X.Loc [b] [] w w' [b] [.cells ([]++(xs.reverse.map (fun x=>Value.string (s8 x))++sp))]->xH X w H ν 1 [(0,some (.row gI true xs.reverse))] [] [] w':=by
    intro w' hL;obtain⟨g1,g2⟩:=hS.mod (ob:=.row gI true xs.reverse) rfl rfl p1 hL (fun H' hH=>⟨by simp,e0,xs.reverse.map (fun x=>Value.string (s8 x)),sp,rfl,bS.Mw _,by rw[<-e4,hcs];simp⟩);refine⟨ν,fun _ _=>rfl,?_,rfl⟩;have:aQ [(0,some (Ob.row gI true xs.reverse))]=bJ [(0,some (Ob.row gI true xs.reverse))] (aQ (eu 0 [Ob.row gI true xs])):=by
      funext t;show(bif Nat.beq t 0 then _ else none)=(bif Nat.beq t 0 then _ else(bif Nat.beq t 0 then _ else none));cases Nat.beq t 0<;>rfl
    rw[this];exact g1
  cases b with
  |none=>
    have h0:[]++(cs++sp)=[]:=q2;have hcs0:cs=[]:=by simp at h0;exact h0.1
    have hx0:xs=[]:=by rw[hcs0]at hcs;cases xs with|nil=>rfl|cons _ _=>cases hcs
    subst hx0;refine(Tryz.slices_Reverse_string_empty none 0 w).mono ?_;rintro e w' ⟨rfl,rfl⟩;refine⟨[],rfl,fin _ ?_⟩;have:=jr q2;rw[hcs0]at this;exact this
  |some b=>
    have hH:Holds encStr w b 0 xs.toArray:=by
      intro j hj;have hj':j<xs.length:=by simpa using hj
      have hcell:([]++(cs++sp))[0+j]?=some (Value.string (s8 xs[j])):=by
        rw[jf,hcs,eK,jZ (by simpa using hj'),gR,bV hj'];rfl
      refine⟨?_,?_⟩
      . rw[sM q2 hcell,getElem!_pos _ j hj];rfl
      . obtain⟨t,lo,hi,h1,h2,h3⟩:=q2
        have := h3 (0 + j) (by rcases cw (0 + j) ([] ++ (cs ++ sp)).length with h | h; · exact h
                               . rw[fQ h]at hcell;cases hcell)
        simp[World.frozen?,h1];omega
    refine(Tryz.slices_Reverse_string b 0 c xs w hH hs).mono ?_;rintro e w' ⟨rfl,n,rfl⟩;refine⟨[],rfl,fin _ ?_⟩;have hL:=jr q2;obtain⟨t,lo,hi,h1,h2,h3⟩:=q2;have hlen:(xs.reverse.map (fun x=>Value.string (s8 x))++sp).length=(cs++sp).length:=by rw[hcs];simp
    exact(hL.put (w':=putRow encStr (Sort.ahead w n) b 0 xs.reverse.toArray) 0 rfl (c':=.cells ([]++(xs.reverse.map (fun x=>Value.string (s8 x))++sp)))
      ⟨t,lo,hi,by
        simp only[putRow,mapBlock,Sort.ahead,MF,if_true,h1,ov,onCells,jf];rw[hcs,QX (by simp)],h2,fun j hj=>h3 j (by rw[jf]at hj⊢;rw[<-hlen];exact hj)⟩
      (fun k hk=>by simp[putRow,mapBlock,Sort.ahead,MF,Ne.symm hk]) (by simp[putRow,mapBlock,Sort.ahead]) rfl rfl rfl).1
end Go.Proofs.YtipdkfmhfakbnaaGreatDoor.FS
namespace Go.X
open Go Go.RowKit
def nF(rd:Option Nat):Fence:={fn:=fun _=>True,depth:=none,alive:=false,round:=rd}
theorem KL{rd:Option Nat}{m:Nat}{P:Program}{o:Oper}{a:Act}{w:World}{K:Act->World->Prop}{Q:Exit->Act->World->Prop}{R:Value->World->Prop}
 (hd:∀c,o.op≠.defer c)(h:aF P o.op o.type (ev (cN a)) w R)(hk:∀v w',R v w'->K (a.put o.dst v) w'):o.wpIn (nF rd) m P a w K Q:=by
 refine⟨fun _ _=>trivial,?_⟩;rw[Oper.semAt_eq _ _ _ hd];unfold aF at h;rw[E1,<-sU];generalize(execOp (ev (cN a)) (cZ o.op o.type)).run P w=r at*;cases r with
 |ok n w'=>
  cases n<;>simp only[upon,Oper.uponIn]at h⊢<;>first|exact hk _ _ h|exact h.elim|skip
  . exact⟨fun hh=>(by cases hh),CallsIn.mono (callsIn_wide.2 h:CallsIn Fence.wide (m-1) P _ _ _ _) fun e w'' he=>by cases e<;>first|exact hk _ _ he|exact he.elim⟩
  . refine⟨fun hh=>(by cases hh),fun c cs _=>?_⟩;obtain⟨v,w'',r1,r2⟩:=h c cs;exact⟨v,w'',hk _ _ r1,stepsIn_wide.2 r2⟩
 |halt x w'=>cases x<;>simp only[upon]at h
def Cw(rd:Option Nat)(ds:List Deferred)(P:Program)(n:Nat)(c:Code)(Q:Exit->Env->World->Prop)(e:Env)(w:World):Prop:= ∀(m:Nat) (a:Act),a.tmps.size=n->a.defers=ds->cN a=e->c.wpIn (nF rd) m P (fun x a' w'=>a'.tmps.size=n/\a'.defers=ds/\Q x (cN a') w') a w
section
variable {rd:Option Nat} {ds:List Deferred} {P:Program} {n:Nat} {Q Q':Exit->Env->World->Prop} {e:Env} {w:World}
theorem Cw.mono{c:Code}(h:Cw rd ds P n c Q e w)(hq:∀x e w,Q x e w->Q' x e w):Cw rd ds P n c Q' e w:=
 fun m a h1 h2 h3=>wpIn_mono (h m a h1 h2 h3) fun x a' w' g=>⟨g.1,g.2.1,hq _ _ _ g.2.2⟩
theorem Cw.skip(h:Q .normal e w):Cw rd ds P n .skip Q e w:=fun m a h1 h2 h3=>wpIn_skip ⟨h1,h2,h3▸h⟩
theorem Cw.ret(h:Q .ret e w):Cw rd ds P n .ret Q e w:=fun m a h1 h2 h3=>wpIn_ret ⟨h1,h2,h3▸h⟩
def DJ(K:Env->World->Prop)(Q:Exit->Env->World->Prop):Exit->Env->World->Prop
 |.normal=>K
 |x=>Q x
theorem Cw.seq{x y:Code}{K:Env->World->Prop}(h:Cw rd ds P n x (DJ K Q) e w)(h2:∀e w,K e w->Cw rd ds P n y Q e w):Cw rd ds P n (.seq x y) Q e w:=by
 intro m a g1 g2 g3;refine wpIn_seq (wpIn_mono (h m a g1 g2 g3) ?_);rintro x a' w' ⟨k1,k2,k3⟩;cases x with
 |normal=>exact h2 _ _ k3 m a' k1 k2 rfl
 |_=>exact⟨k1,k2,k3⟩
theorem Cw.cond{c:Operand}{x y:Code}{b:Bool}(hc:ev e c=.bool b)(h:Cw rd ds P n (bif b then x else y) Q e w):Cw rd ds P n (.cond c x y) Q e w:=by
 intro m a g1 g2 g3;have:=h m a g1 g2 g3;cases b
 . exact wpIn_cond_false (by rw[<-sU,g3];exact hc) this
 . exact wpIn_cond_true (by rw[<-sU,g3];exact hc) this
theorem Cw.block{id:Nat}{c:Code}(h:Cw rd ds P n c Q e w)(hx:∀j e w,¬Q (.exit j) e w):Cw rd ds P n (.block id c) Q e w:=by
 intro m a g1 g2 g3;refine wpIn_block (wpIn_mono (h m a g1 g2 g3) ?_);rintro x a' w' ⟨k1,k2,k3⟩;cases x with
 |exit j=>exact absurd k3 (hx j _ _)
 |_=>exact⟨k1,k2,k3⟩
def tM:List Oper->Bool
 |[]=>true
 |o::r=>(match o.op with|.defer _=>false|_=>true)&&tM r
theorem Hh{l:List Oper}(h:tM l=true):∀o,o∈l->∀c,o.op≠.defer c:=by
 induction l with
 |nil=>intro o ho;cases ho
 |cons x r ih=>
  simp only[tM,fI]at h;intro o ho c;cases ho with
  |head=>have h1:=h.1;intro hc;rw[hc]at h1;cases h1
  |tail _ hm=>exact ih h.2 o hm c
theorem TT{all:List Oper}(hall:∀o,o∈all->∀d,o.dst=some d->d<n)(hnd:∀o,o∈all->∀c,o.op≠.defer c){m:Nat}{K:Env->World->Prop}{Q':Exit->Act->World->Prop}
 (hK:∀a w,a.tmps.size=n->a.defers=ds->K (cN a) w->Q' .normal a w):
 ∀(l:List Oper),(∀o,o∈l->o∈all)->∀(a:Act) (w:World),a.tmps.size=n->a.defers=ds->Rl P all l K (cN a) w->wpListIn (nF rd) m P all.toArray Q' l a w:=by
 intro l
 induction l with
 |nil=>intro _ a w h1 h2 h;exact hK a w h1 h2 h
 |cons o r ih=>
  intro hsub a w h1 h2 h;have hin:=hsub o cO;have hd:∀d,o.dst=some d->d<n:=hall o hin;have hall':∀o,o∈all->∀d,o.dst=some d->d<a.tmps.size:=by rw[h1];exact hall
  refine wpListIn_step fun K' hK'=>?_;rw[Ez hall' o];simp only[Rl]at h;cases hw:iE all o (cN a)with
  |true=>
   rw[hw]at h;rw[if_pos rfl];refine KL (hnd o hin) h fun v w' hv=>hK' _ _ ?_;refine ih (fun o ho=>hsub o (cJ _ ho)) _ _ (by rw[oH];exact h1) (by rw[qP];exact h2) ?_;rw[vG a h1 hd];exact hv
  |false=>
   rw[hw]at h;rw[if_neg (by simp)];refine⟨fun _ _=>trivial,hK' _ _ ?_⟩;refine ih (fun o ho=>hsub o (cJ _ ho)) _ _ (by rw[oH];exact h1) (by rw[qP];exact h2) ?_;rw[vG a h1 hd];exact h
theorem Cw.region{id:Nat}{l:List Oper}{K:Env->World->Prop}(h:Rl P l l K e w)(hK:∀e w,K e w->Q .normal e w)(hok:lX n l=true:=by rfl)(hnd:tM l=true:=by rfl):Cw rd ds P n (.region id l.toArray false) Q e w:=by
 intro m a g1 g2 g3;subst g3;exact wpIn_region_lit (TT (zl hok) (Hh hnd) (K:=K) (fun a' w' k1 k2 k3=>⟨k1,k2,hK _ _ k3⟩) l (fun _ h=>h) a w g1 g2 h)
theorem Cw.Kh{id:Nat}{c:Code}(h:Cw rd ds P n c (fun x=>match x with|.exit j=>if j=id then Q .normal else Q (.exit j)|x=>Q x) e w):Cw rd ds P n (.block id c) Q e w:=by
 intro m a g1 g2 g3;refine wpIn_block (wpIn_mono (h m a g1 g2 g3) ?_);rintro x a' w' ⟨k1,k2,k3⟩;cases x with
 |exit j=>
  simp only[Exit.inBlock];by_cases hj:j=id
  . rw[if_pos hj];simp only[if_pos hj]at k3;exact⟨k1,k2,k3⟩
  . rw[if_neg hj];simp only[if_neg hj]at k3;exact⟨k1,k2,k3⟩
 |_=>exact⟨k1,k2,k3⟩
theorem Cw.exit{id:Nat}(h:Q (.exit id) e w):Cw rd ds P n (.exit id) Q e w:=fun m a h1 h2 h3=>wpIn_exit ⟨h1,h2,h3▸h⟩
theorem Cw.loop{c:Code}(I:Nat->Env->World->Prop)(k:Nat)(h0:I k e w)(round:∀k e w,I k e w->Cw rd ds P n c (DJ (fun e w=>∃j,j<k/\I j e w) Q) e w):Cw rd ds P n (.loop c) Q e w:=by
 intro m a g1 g2 g3;have key:∀M k,k<=M->∀a w,a.tmps.size=n->a.defers=ds->I k (cN a) w->Code.roundsIn (nF rd) m P c (fun x a' w'=>a'.tmps.size=n/\a'.defers=ds/\Q x (cN a') w') (M+1) a w:=by
  intro M
  induction M with
  |zero=>
   intro k hk a w h1 h2 hI;refine wpIn_mono (round k _ _ hI m a h1 h2 rfl) ?_;rintro x a' w' ⟨k1,k2,k3⟩;cases x with
   |normal=>obtain⟨j,hj,_⟩:=k3;omega
   |_=>exact⟨k1,k2,k3⟩
  |succ M ih=>
   intro k hk a w h1 h2 hI;refine wpIn_mono (round k _ _ hI m a h1 h2 rfl) ?_;rintro x a' w' ⟨k1,k2,k3⟩;cases x with
   |normal=>obtain⟨j,hj,h⟩:=k3;exact ih j (by omega) a' w' k1 k2 h
   |_=>exact⟨k1,k2,k3⟩
 exact wpIn_loop_rounds (k+1) (key k k (bK _) a w g1 g2 (g3▸h0))
theorem nG{all r:List Oper}{o:Oper}{m:Nat}{Q':Exit->Act->World->Prop}{a:Act}(h1:a.tmps.size=n)(h2:a.defers=ds)
 (h:aF P o.op o.type (ev (cN a)) w fun v w'=>∀a':Act,a'.tmps.size=n->a'.defers=ds->cN a'=jJ (cN a) o.dst v->wpListIn (nF rd) m P all.toArray Q' r a' w')(hg:o.guard=none:=by rfl)(hd:lX n [o]=true:=by rfl)(hn:tM [o]=true:=by rfl):wpListIn (nF rd) m P all.toArray Q' (o::r) a w:=
 wpListIn_plain hg fun K hK=>KL (Hh hn o cO) h fun v w' hv=>hK _ _ (hv _ (by rw[oH];exact h1) (by rw[qP];exact h2) (vG a h1 (zl hd o cO) v))
theorem Tu{o:Oper}{m l:Nat}{a:Act}{g:Operand}{args:List Operand}{ats:Array TypeId}{az:List Value}{R:Ending->World->Prop}{K:Act->World->Prop}{Q':Exit->Act->World->Prop}
 (ho:o.op=.call {callee:=.value g,args:=args.toArray,argTypes:=ats})(hf:cN a=e)(hv:ev e g=.func (.yield l) #[] #[]) (ha:args.map (ev e)=az) (hy:YieldAt (nF rd) (m-1) P l az.toArray w R)
 (hR:∀x w',R x w'->∃v,x=.returned v/\K (a.put o.dst v) w'):o.wpIn (nF rd) m P a w K Q':=by
 obtain⟨fn,tmps,assign,body,h1,h2⟩:=hy;refine⟨fun _ _=>trivial,?_⟩;rw[Oper.semAt_eq _ _ _ (by rw[ho];intro c h;cases h),E1,<-sU,hf,ho];have hr:(execOp (ev e) (cZ (.call {callee:=.value g,args:=args.toArray,argTypes:=ats}) o.type)).run P w=.ok (.round l fn tmps assign body) w:=by
  simp only[cZ,execOp,resolve,hv];simp[Deferred.ofValue,invoke,ha,h1]
 rw[hr];refine⟨fun hh=>(by cases hh),RoundIn.mono h2 fun x w' hx=>?_⟩;obtain⟨v,rfl,hk⟩:=hR x w' hx;exact hk
theorem PB{k k' l:Nat}{az:Array Value}{R:Ending->World->Prop}(h:YieldAt Fence.wide k P l az w R):YieldAt (nF none) k' P l az w R:=by
 obtain⟨fn,tmps,assign,body,h1,h2,h3⟩:=h;exact⟨fn,tmps,assign,body,h1,h2,fun c cs _=>h3 c cs (room_wide _)⟩
theorem J8{l:List Value}:cN {tmps:=l.toArray++Array.replicate (n-l.toArray.size) undef,defers:=ds}=kJ l:=by
 funext i;simp only[cN,kJ,ME,cA];by_cases hi:i<l.length
 . rw[UU (by simpa using hi)];simp
 . rw[UX (by simpa using hi),fQ (by omega)];by_cases hj:i-l.toArray.size<n-l.toArray.size
   . rw[F6 (by simpa using hj)];simp
   . rw[BZ (by simpa using hj)]
theorem UH{f:FuncId}{fn:Func}{c:Code}{l:List Value}{m:Nat}{R:Ending->World->Prop}(hf:P.funcs[f]?=some fn)(hb:fn.body=some c)(hn:fn.ntmps=n)(hl:l.length<=n)
 (h:Cw none [] P n c (fun x e w'=>(x=.normal\/x=.ret)/\∀tmps:Array Value,(∀i,tmps.getD i undef=e i)->∃v,(results fn tmps).run P w'=.ok v w'/\R (.returned v) w') (kJ l) w):CallsIn Fence.wide m P f l.toArray w R:=by
 subst hn;refine callsIn_of_wp hf hb trivial (wpIn_mono (h m _ (by simp;omega) rfl J8) ?_);rintro x a' w' ⟨h1,h2,h3,h4⟩;obtain⟨v,hv,hR⟩:=h4 a'.tmps (fun _=>rfl);rcases h3 with rfl|rfl<;>exact⟨h2,v,hv,hR⟩
end
end Go.X
namespace Go.Q
open Go Go.RowKit Go.X
variable [eW]
def xa:Ob->Bool
 |.row .. =>true
 |.box .. =>true
 |.aG .. =>true
 |_=>false
theorem Lr{ob:Ob}(h:xa ob=true){ν:Nu}{H:Bool->Hp}{c n:Nat}{k:cW}(hr:ob.R ν H c n k):∃l,k=.cells l:=by
 cases ob with
 |row r κ xs=>obtain⟨_,_,cs,sp,rfl,_⟩:=hr;exact⟨_,rfl⟩
 |box l=>obtain⟨vs,rfl,_⟩:=hr;exact⟨_,rfl⟩
 |aG r κ xs=>obtain⟨_,⟨_,cs,sp,rfl,_⟩|⟨_,rfl⟩⟩:=hr<;>exact⟨_,rfl⟩
 |map _ _ _ _=>cases h
 |deep _ _ _ _=>cases h
 |hd _ _ _ _ _ _=>cases h
theorem D0{ob:Ob}(h:xa ob=true):ob.tid=none:=by cases ob<;>first|rfl|cases h
theorem cI.on{X:Nat->Prop}{w0 w w':World}{H0:Bool->Hp}{ν:Nu}{oF:OF}(hS:cI X w0 H0 ν oF w)(hp:∀i ob,oF i=some ob->xa ob=true)
 (h1:w'.os=w.os)(h2:w'.tape=w.tape)(h3:w'.output=w.output)(h4:w.heap.size<=w'.heap.size)(h5:∀k,k<w0.heap.size->¬X k->w'.heap[k]?=w.heap[k]?)(h6:∀(k:Nat) (o:Obj),kI (w.heap[k]?)=some o->w'.heap[k]?=some o):
 cI X w0 H0 ν oF w'/\∀κ,Le (HF X w0 H0 ν oF w κ) (HF X w0 H0 ν oF w' κ):=by
 have le:∀κ,Le (HF X w0 H0 ν oF w κ) (HF X w0 H0 ν oF w' κ):=fun κ b o h=>by
  rcases ra h with⟨g1,g2,g3⟩|⟨g1,g2,g3⟩
  . rw[nz g1 g2];exact g3
  . refine k9 g1 g2 ?_;rw[h6 b o g3];have:=mr g3;rw[this]at g3;exact g3
 refine⟨⟨h1.trans hS.os,h2.trans hS.tape,h3.trans hS.output,bO hS.size h4,fun k hk hx=>(h5 k hk hx).trans (hS.keep k hk hx),hS.h0,hS.mw,hS.oB,fun i ob h=>?_,hS.fresh,hS.gG,fun i ob h=>⟨fun t ht=>?_,(hS.parts i ob h).2⟩⟩,le⟩
 . obtain⟨b,c,n,k,q1,q2,q3⟩:=hS.cT i ob h;obtain⟨l,rfl⟩:=Lr (hp i ob h) q3;refine⟨b,c,n,_,q1,?_,q3.mono (eR.refl ν) le fun j b c n hj _=>absurd hj (by rw[D0 (hp i ob h)];simp)⟩;cases b with
   |none=>exact q2
   |some b=>
    obtain⟨t,lo,hi,k1,k2,k3⟩:=q2;exact⟨t,lo,hi,h6 b _ (by rw[k1];rfl),k2,k3⟩
 . rw[uN (D0 (hp i ob h))]at ht;cases ht
end Go.Q
namespace Go.X
open Go Go.RowKit
def Aw(P:Program)(n:Nat)(c:Code)(QQ:Exit->Act->World->Prop)(e:Env)(w:World):Prop:=∀a:Act,a.tmps.size=n->a.defers=[]->cN a=e->c.wpIn Fence.wide 5 P QQ a w
section
variable {P:Program} {n:Nat} {QQ:Exit->Act->World->Prop} {e:Env} {w:World}
theorem Aw.FT{x y:Code}{k:List It}(h:cx P n (.code x::k) (fun _ _=>False) e w)(hx:∀ex e w,ex≠Exit.normal->¬jt P n k (fun _ _=>False) ex e w)(h2:∀e w,cx P n k (fun _ _=>False) e w->Aw P n y QQ e w):Aw P n (.seq x y) QQ e w:=by
 intro a g1 g2 g3;refine wpIn_seq (wpIn_mono (wpIn_wide.2 (h a g1 g2 g3)) ?_);rintro x a' w' ⟨k1,k2,k3⟩;cases x with
 |normal=>exact h2 _ _ k3 a' k1 k2 rfl
 |_=>exact absurd k3 (hx _ _ _ (by simp))
theorem Aw.seq3{x1 x2 x3 y:Code}{J:Env->World->Prop}(h:cx P n [.code x1,.code x2,.code x3,.back J] (fun _ _=>False) e w)(h2:∀e w,J e w->Aw P n y QQ e w):Aw P n (.seq x1 (.seq x2 (.seq x3 y))) QQ e w:=
 Aw.FT h (fun x e w hx h=>by cases x<;>first|exact hx rfl|exact h) fun _ _ g=>Aw.FT g (fun x e w hx h=>by cases x<;>first|exact hx rfl|exact h) fun _ _ g=>Aw.FT g (fun x e w hx h=>by cases x<;>first|exact hx rfl|exact h) h2
def rH(D:Nat):Deferred:={target:=.collected D,args:=#[]}
theorem Qi{f:FuncId}{fn:Func}{c:Code}{l:List Value}{R:Ending->World->Prop}(hf:P.funcs[f]?=some fn)(hb:fn.body=some c)(hn:fn.ntmps=n)(hl:l.length<=n)
 (h:Aw P n c (fun x a' w'=>(x=.normal\/x=.ret)/\∃D,a'.defers=[rH D]/\w'.heap[D]?=some (.deferred (some []))/\∃v,(results fn a'.tmps).run P (w'.putObj D (.deferred none))=.ok v (w'.putObj D (.deferred none))/\R (.returned v) (w'.putObj D (.deferred none))) (kJ l) w):
 Calls P f l.toArray w R:=by
 subst hn;refine(callsIn_wide (n:=5)).1 (callsIn_of_wp_marks hf hb trivial (wpIn_mono (h _ (by simp;omega) rfl J8) ?_));rintro x a' w' ⟨h1,D,h2,h3,v,hv,hR⟩;rcases h1 with rfl|rfl<;>(show LeavesInM _ _ _ _ _ _ a'.defers _ _;rw[h2];exact⟨by simp,.inl ⟨D,_,rfl,run_takeDeferred h3,v,hv,hR⟩⟩)
theorem TL{fn:Func}{rl:List ResultVar}{vs:List Value}{tmps:Array Value}(hr:fn.results=rl.toArray)(he:∀i,tmps.getD i undef=e i)(h1:rM P e w rl vs):(results fn tmps).run P w=.ok (js vs) w:=by
 unfold results;rw[hr];simp only[MI,Sem.run_bind,Sem.run_map];rw[Bg he _ (fun _=>rfl) (fun _ _=>rfl) h1];simp only[Result.andThen_ok];cases vs with
 |nil=>rfl
 |cons v vs=>cases vs<;>simp[js]
end
theorem HN{W W':World}(hc:∀(k:Nat) (o:Obj),Go.Q.kI (W.heap[k]?)=some o->W'.heap[k]?=some o){b o:Nat}{vs:List Value}(h:At (view [] W) b o vs):At (view [] W') b o vs:=by
 intro i hi;have h1:=h i hi;rw[bV hi]at h1⊢;unfold kR at h1⊢;cases hb:view [] W b with
 |none=>rw[hb]at h1;cases h1
 |some ob=>
  rw[hb]at h1;cases ob with
  |cells cs t fr=>
   have:=hc b _ (show Go.Q.kI (W.heap[b]?)=some (.cells cs t fr) by rw[zD hb];rfl);rw[uY this (by simp)];exact h1
  |_=>cases h1
end Go.X
namespace Go.Q
open Go Go.RowKit Go.X
variable [eW]
theorem tO{P:Program}{tb:List (dF P)}{F:Fx}{L:SS}(L':SS)(ren:List Nat){cT:List (Nat×Option Ob)}{bP:List (Nat×Option Sv)}(hI:L'=⟨ren.length,cT,bP⟩:=by rfl)(h1:kY (aQ L.bC) ren cT=some cT:=by rfl)(h2:fL ren=true:=by rfl)(h3:nM L ren bP=some bP:=by rfl)(h4:nJ F.m ren=true:=by rfl):
 tN tb F (fun e w=>St F L' e w) L:=⟨fun e w hs=>by rw[hI];exact hs.pA ren h1 h2 h3 h4⟩
theorem xN{P:Program}{tb:List (dF P)}{F:Fx}{ops:List Oper}{L:SS}{J:Env->World->Prop}{rd:Option Nat}{ds:List Deferred}{i:Nat}{Q:Exit->Env->World->Prop}{e:Env}{w:World}
 (h:Gr tb F ops ops [.back J] L)(hs:St F L e w)(hJ:∀e w,J e w->Q .normal e w)(hok:lX F.n ops=true:=by rfl)(hnd:tM ops=true:=by rfl):Cw rd ds P F.n (.region i ops.toArray false) Q e w:=
 Cw.region ((Gr.ok h).ok e w hs) hJ hok hnd
theorem Sj{ν ν':Nu}{oF oF':OF}(hp:∀i ob,oF' i=some ob->xa ob=true/\∃ob0,oF i=some ob0)(hν:∀k,ν' k=ν k){b:Nat}(h:Ow ν' oF' b):Ow ν oF b:=by
 obtain⟨i,ob,h1,h2⟩:=h;obtain⟨h3,ob0,h4⟩:=hp i ob h1;refine⟨i,ob0,h4,.inl ?_⟩;have:=(pZ (D0 h3)).1 h2;unfold dt at this⊢;rw[<-hν i];exact this
end Go.Q

/- slices.Backward at this program: the function and its iterator. -/
import Derived.Test.YtipdkfmhfakbnaaGreatDoorAg
import Derived.Test.YtipdkfmhfakbnaaGreatDoorTB
set_option linter.unusedVariables false
set_option linter.unusedSimpArgs false
set_option linter.unusedSectionVars false
set_option maxRecDepth 100000
namespace Go.Proofs.YtipdkfmhfakbnaaGreatDoor.BK
open Go Go.RowKit Go.X Go.Q Go.Proofs.YtipdkfmhfakbnaaGreatDoor.TB
theorem backward(a:Option Addr)(n cap:Nat)(w:World):
 Calls aL 131 #[.slice a n cap] w λe w'=>e=.returned (.func (.func 158) #[] #[.pointer (some ⟨w.heap.size,0,none⟩)])/\w'=w.alloc (.cells #[.slice a n cap] 103):=by
 go_enter Tryz.func131,Tryz.ntmps131
 go_wp2
 go_ret
 exact⟨rfl,rfl⟩
def rest(len:Nat):(k:Nat)->k<=len->List (Fin len)
 |0,_=>[]
 |k+1,h=>⟨k,h⟩::rest len k (Qg h)
theorem Li{len:Nat}:∀(k:Nat) (h:k<=len),(rest len k h).length=k
 |0,_=>rfl
 |k+1,h=>by simp[rest,Li k]
section
variable {len:Nat} (a:Option Addr) (cap:Nat) (vsf:Fin len->List Value) (Bs:Nat)
def Good(W:World):Prop:=At (view [] W) Bs 0 [.slice a len cap]/\∀k:Fin len,∃b o,a=some ⟨b,o,none⟩/\At (view [] W) b (o+k*3) (vsf k)
theorem Good.mono{W W':World}(h:Good a cap vsf Bs W)(hle:Le (view [] W) (view [] W')):Good a cap vsf Bs W':=
 ⟨h.1.mono hle,λk=>let⟨b,o,h1,h2⟩:=h.2 k;⟨b,o,h1,h2.mono hle⟩⟩
theorem T9{W W':World}(h:∀(b:Nat) (o:Obj),W.heap[b]?=some o->W'.heap[b]?=some o):Le (view [] W) (view [] W'):=λb o hb=>wZ (h b o (A7 hb)) (by simp)
def bkQ(Post:World->Prop):Exit->Env->World->Prop
 |.normal,_,W=>Post W
 |.ret,_,W=>Post W
 |_,_,_=>False
set_option maxHeartbeats 1000000 in
theorem Sw(hl:∀k,(vsf k).length=3)(hlen:len<=9223372036854775807)(m:Nat)(hm:1<=m)(w0:World)(hG:Good a cap vsf Bs w0):
 SeqStopsK Fence.wide m aL 158 #[.pointer (some ⟨Bs,0,none⟩)] (λk:Fin len=>#[Value.int .i64 ((k.1:Nat):Int),.agg (vsf k).toArray]) (λW W'=>Good a cap vsf Bs W->Good a cap vsf Bs W') (λxs=>xs=rest len len (bQ _)) (λpre=>∃r,pre++r=rest len len (bQ _)) len w0:=by
 intro l J Jx W hB hJ hJx hY h0;have hGW:Good a cap vsf Bs W:=hG.mono a cap vsf Bs (T9 λb o hb=>by
  have hlt:=ld hb;exact(hB.block b hlt).trans hb)
 let Post:World->Prop:=λW'=>(∃xs,xs=rest len len (bQ _)/\J xs W')\/(∃pre,(∃r,pre++r=rest len len (bQ _))/\Jx pre W')
 refine Q9 (n:=19) (l:=[.func (.yield l) #[] #[],.pointer (some ⟨Bs,0,none⟩)]) Tryz.func158 rfl rfl (by simp) (Cw.mono (Q:=bkQ Post) ?_ ?_)
 rotate_left
 . rintro x e w' hq;cases x<;>first|exact hq.elim|exact⟨by simp,λtmps _=>⟨_,results_none rfl _ _ _,⟨_,rfl⟩,hq⟩⟩
 refine Cw.seq (K:=λe W=>e 0=.func (.yield l) #[] #[]/\e 1=.pointer (some ⟨Bs,0,none⟩)/\e 3=.int .i64 ((len:Int)-1)/\J [] W/\Good a cap vsf Bs W) ?_ ?_
 . refine Cw.region (K:=λe W=>e 0=.func (.yield l) #[] #[]/\e 1=.pointer (some ⟨Bs,0,none⟩)/\e 3=.int .i64 ((len:Int)-1)/\J [] W/\Good a cap vsf Bs W) ?_ (λe w h=>h);refine Rl.op (aF.yy Tryz.underlying103 rfl rfl (hGW.1.get 0 rfl) ?_);refine Rl.op (aF.sU Tryz.underlying103 rfl ?_);refine Rl.op (aF.sub rfl rfl (z:=(len:Int)-1) (by rw[IntKind.wrap_i64];omega) ?_);refine Rl.op (aF.assign rfl ?_);exact⟨rfl,rfl,rfl,h0,hGW⟩
 . rintro e W1 ⟨e0,e1,e3,hj,hg⟩;refine Cw.NQ ?_;refine Cw.loop (λk e W=>∃hk:k<=len,e 0=.func (.yield l) #[] #[]/\e 1=.pointer (some ⟨Bs,0,none⟩)/\e 3=.int .i64 ((k:Int)-1)/\(∃pre,pre++rest len k hk=rest len len (bQ _)/\J pre W)/\Good a cap vsf Bs W) len ⟨bQ _,e0,e1,e3,⟨[],rfl,hj⟩,hg⟩ ?_;rintro k e W1 ⟨hk,e0,e1,e3,⟨pre,hp,hj⟩,hg⟩;have hpl:pre.length+k=len:=by
    have:=dd List.length hp;simpa[Li]using this
   refine Cw.seq (K:=λe W=>0<k/\e 0=.func (.yield l) #[] #[]/\e 1=.pointer (some ⟨Bs,0,none⟩)/\e 3=.int .i64 ((k:Int)-1)/\W=W1) ?_ ?_
   . refine Cw.seq (K:=λe W=>e 8=.bool (decide (0<k))/\e 0=.func (.yield l) #[] #[]/\e 1=.pointer (some ⟨Bs,0,none⟩)/\e 3=.int .i64 ((k:Int)-1)/\W=W1) ?_ ?_
     . refine Cw.region (K:=λe W=>e 8=.bool (decide (0<k))/\e 0=.func (.yield l) #[] #[]/\e 1=.pointer (some ⟨Bs,0,none⟩)/\e 3=.int .i64 ((k:Int)-1)/\W=W1) ?_ (λe w h=>h);refine Rl.op (aF.move e3 ?_);refine Rl.op (aF.geq (0<k) rfl rfl (by omega) ?_);exact⟨rfl,e0,e1,e3,rfl⟩
     . rintro e W2 ⟨e8,e0,e1,e3,rfl⟩;refine Cw.cond e8 ?_;by_cases h:0<k
       . rw[jg h];exact Cw.skip ⟨h,e0,e1,e3,rfl⟩
       . rw[sS h];obtain rfl:k=0:=by omega
         refine Cw.exit (show Post _ from .inl ⟨pre,?_,hj⟩);simpa[rest]using hp
   . rintro e W2 ⟨hk0,e0,e1,e3,rfl⟩;obtain⟨j,rfl⟩:∃j,k=j+1:=⟨k-1,by omega⟩;have hjl:j<len:=hk;have hp':(pre++[⟨j,hjl⟩])++rest len j (Qg hk)=rest len len (bQ _):=by rw[<-hp];simp[rest]
     obtain⟨b,o,ha,hat⟩:=hg.2 ⟨j,hjl⟩;refine Cw.seq (K:=λe W=>e 0=.func (.yield l) #[] #[]/\e 1=.pointer (some ⟨Bs,0,none⟩)/\e 3=.int .i64 (((j+1:Nat):Int)-1)/\J (pre++[⟨j,hjl⟩]) W/\Good a cap vsf Bs W) ?_ ?_
     . refine Cw.NQ ?_;refine Cw.seq (K:=λe W=>((e 18=.bool false/\J (pre++[⟨j,hjl⟩]) W/\Good a cap vsf Bs W)\/(e 18=.bool true/\Jx (pre++[⟨j,hjl⟩]) W))/\e 0=.func (.yield l) #[] #[]/\e 1=.pointer (some ⟨Bs,0,none⟩)/\e 3=.int .i64 (((j+1:Nat):Int)-1)) ?_ ?_
       . intro mm ac g1 g2 g3;subst g3;have hy:=hY pre ⟨j,hjl⟩ W2 hj (by omega);refine wpIn_region_lit ?_;refine oV (n:=19) g1 g2 (aF.move e0 λa1 h1 h2 h3=>?_);refine oV (n:=19) h1 h2 (aF.move (v:=.int .i64 ((j:Nat):Int)) (by rw[h3];show dh ac 3=_;rw[e3];congr 1;omega) λa2 h1 h2 h4=>?_);refine oV (n:=19) h1 h2 (aF.yy Tryz.underlying103 rfl (by rw[h4,h3];exact e1) (hg.1.get 0 rfl) λa3 h1 h2 h5=>?_);refine oV (n:=19) h1 h2 (aF.move (v:=.int .i64 ((j:Nat):Int)) (by rw[h5,h4,h3];show dh ac 3=_;rw[e3];congr 1;omega) λa4 h1 h2 h6=>?_);refine oV (n:=19) h1 h2 (aF.indexAddr (i:=j) Tryz.underlying103 zO (by rw[h6,h5,<-ha];rfl) (by rw[h6];rfl) hjl rfl λa5 h1 h2 h7=>?_);refine oV (n:=19) h1 h2 (aF.Ng (A:=[]) (vs:=vsf ⟨j,hjl⟩) Tryz.underlying170 rfl zO (by rw[h7];rfl) (hl _) hat λa6 h1 h2 h8=>?_);refine wpListIn_plain rfl λK hK=>Rw (e:=dh a6) (az:=[Value.int .i64 ((j:Nat):Int),.agg (vsf ⟨j,hjl⟩).toArray]) (l:=l) rfl rfl (by rw[h8,h7,h6,h5,h4,h3];rfl) (by rw[h8,h7,h6,h5,h4,h3];rfl) (Vd hy) λx w' hx=>?_;have env:∀(bb:Bool) (a7:Act),dh a7=ku (dh (a6.put (some 17) (.bool bb))) (some 18) (.bool (!bb))->dh a7 18=.bool (!bb)/\dh a7 0=.func (.yield l) #[] #[]/\dh a7 1=.pointer (some ⟨Bs,0,none⟩)/\dh a7 3=.int .i64 (((j+1:Nat):Int)-1):=λbb a7 h=>by
          rw[h,vG a6 (n:=19) h1 (by omega),h8,h7,h6,h5,h4,h3];exact⟨rfl,e0,e1,e3⟩
         rcases hx with⟨rfl,hj3,hg3⟩|⟨rfl,hx3⟩
         . refine⟨_,rfl,hK _ _ ?_⟩;refine oV (n:=19) (by rw[qD];exact h1) (ds:=[]) ((sr _ _ _).trans h2) (aF.not (x:=true) (by rw[vG a6 (n:=19) h1 (by omega)];rfl) λa7 k1 k2 k3=>?_);obtain⟨v1,v2⟩:=env true a7 k3;exact⟨k1,k2,.inl ⟨v1,hj3,hg3 hg⟩,v2⟩
         . refine⟨_,rfl,hK _ _ ?_⟩;refine oV (n:=19) (by rw[qD];exact h1) (ds:=[]) ((sr _ _ _).trans h2) (aF.not (x:=false) (by rw[vG a6 (n:=19) h1 (by omega)];rfl) λa7 k1 k2 k3=>?_);obtain⟨v1,v2⟩:=env false a7 k3;exact⟨k1,k2,.inr ⟨v1,hx3⟩,v2⟩
       . rintro e W3 ⟨hor,e0,e1,e3⟩;rcases hor with⟨e18,hj3,hg3⟩|⟨e18,hx3⟩
         . exact Cw.cond e18 (Cw.skip ⟨e0,e1,e3,hj3,hg3⟩)
         . exact Cw.cond e18 (Cw.ret (show Post _ from .inr ⟨_,⟨_,hp'⟩,hx3⟩))
     . rintro e W3 ⟨e0,e1,e3,hj3,hg3⟩;refine Cw.region (K:=λe W=>e 0=.func (.yield l) #[] #[]/\e 1=.pointer (some ⟨Bs,0,none⟩)/\e 3=.int .i64 ((j:Int)-1)/\W=W3) ?_ (λe w h=>⟨j,xp j,Qg hk,h.1,h.2.1,h.2.2.1,⟨_,hp',h.2.2.2▸hj3⟩,h.2.2.2▸hg3⟩);refine Rl.op (aF.move e3 ?_);refine Rl.op (aF.sub rfl rfl (z:=(j:Int)-1) (by rw[IntKind.wrap_i64];omega) ?_);refine Rl.op (aF.assign rfl ?_);exact⟨e0,e1,rfl,rfl⟩
end
end Go.Proofs.YtipdkfmhfakbnaaGreatDoor.BK

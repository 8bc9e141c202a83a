/- slices.Backward at this program: the function and its iterator. -/
import Derived.Test.YtipdkfmhfakbnaaGreatDoorProg
import Derived.Test.YtipdkfmhfakbnaaGreatDoorAg
import Derived.Test.YtipdkfmhfakbnaaGreatDoorTB
set_option linter.unusedVariables false
set_option linter.unusedSimpArgs false
set_option linter.unusedSectionVars false
set_option maxRecDepth 100000
namespace Go.Proofs.YtipdkfmhfakbnaaGreatDoor.BK
open Go Go.RowKit Go.X Go.Q Go.Proofs.YtipdkfmhfakbnaaGreatDoor.TB
theorem backward(a:Option Addr)(n cap:Nat)(w:World):
 Calls Tryz.prog 131 #[.slice a n cap] w λe w'=>e=.returned (.func (.func 158) #[] #[.pointer (some ⟨w.heap.size,0,none⟩)])/\w'=w.alloc (.cells #[.slice a n cap] 103):=by
 go_enter Tryz.func131,Tryz.ntmps131
 go_wp2
 go_ret
 exact⟨rfl,rfl⟩
def rest(len:Nat):(k:Nat)->k<=len->List (Fin len)
 |0,_=>[]
 |k+1,h=>⟨k,h⟩::rest len k (Ol h)
theorem Js{len:Nat}:∀(k:Nat) (h:k<=len),(rest len k h).length=k
 |0,_=>rfl
 |k+1,h=>by simp[rest,Js k]
section
variable {len:Nat} (a:Option Addr) (cap:Nat) (vsf:Fin len->List Value) (Bs:Nat)
def Good(W:World):Prop:=At (view [] W) Bs 0 [.slice a len cap]/\∀k:Fin len,∃b o,a=some ⟨b,o,none⟩/\At (view [] W) b (o+k*3) (vsf k)
theorem Good.mono{W W':World}(h:Good a cap vsf Bs W)(hle:Le (view [] W) (view [] W')):Good a cap vsf Bs W':=
 ⟨h.1.mono hle,λk=>let⟨b,o,h1,h2⟩:=h.2 k;⟨b,o,h1,h2.mono hle⟩⟩
theorem Pv{W W':World}(h:∀(b:Nat) (o:Obj),W.heap[b]?=some o->W'.heap[b]?=some o):Le (view [] W) (view [] W'):=λb o hb=>vK (h b o (zH hb)) (by simp)
def bkQ(Post:World->Prop):Exit->Env->World->Prop
 |.normal,_,W=>Post W
 |.ret,_,W=>Post W
 |_,_,_=>False
set_option maxHeartbeats 1000000 in
theorem R6(hl:∀k,(vsf k).length=3)(hlen:len<=9223372036854775807)(m:Nat)(hm:1<=m)(w0:World)(hG:Good a cap vsf Bs w0):
 SeqStopsK Fence.wide m Tryz.prog 158 #[.pointer (some ⟨Bs,0,none⟩)] (λk:Fin len=>#[Value.int .i64 ((k.1:Nat):Int),.agg (vsf k).toArray]) (λW W'=>Good a cap vsf Bs W->Good a cap vsf Bs W') (λxs=>xs=rest len len (bO _)) (λpre=>∃r,pre++r=rest len len (bO _)) len w0:=by
 intro l J Jx W hB hJ hJx hY h0;have hGW:Good a cap vsf Bs W:=hG.mono a cap vsf Bs (Pv λb o hb=>by
  have hlt:=kK hb;exact(hB.block b hlt).trans hb)
 let Post:World->Prop:=λW'=>(∃xs,xs=rest len len (bO _)/\J xs W')\/(∃pre,(∃r,pre++r=rest len len (bO _))/\Jx pre W')
 refine T9 (n:=19) (l:=[.func (.yield l) #[] #[],.pointer (some ⟨Bs,0,none⟩)]) Tryz.func158 rfl rfl (by simp) (Cw.mono (Q:=bkQ Post) ?_ ?_)
 rotate_left
 . rintro x e w' hq;cases x<;>first|exact hq.elim|exact⟨by simp,λtmps _=>⟨_,results_none rfl _ _ _,⟨_,rfl⟩,hq⟩⟩
 refine Cw.seq (K:=λe W=>e 0=.func (.yield l) #[] #[]/\e 1=.pointer (some ⟨Bs,0,none⟩)/\e 3=.int .i64 ((len:Int)-1)/\J [] W/\Good a cap vsf Bs W) ?_ ?_
 . refine Cw.region (K:=λe W=>e 0=.func (.yield l) #[] #[]/\e 1=.pointer (some ⟨Bs,0,none⟩)/\e 3=.int .i64 ((len:Int)-1)/\J [] W/\Good a cap vsf Bs W) ?_ (λe w h=>h);refine Rl.op (aG.zd Tryz.underlying103 rfl rfl (hGW.1.get 0 rfl) ?_);refine Rl.op (aG.sr Tryz.underlying103 rfl ?_);refine Rl.op (aG.sub rfl rfl (z:=(len:Int)-1) (by rw[IntKind.wrap_i64];omega) ?_);refine Rl.op (aG.assign rfl ?_);exact⟨rfl,rfl,rfl,h0,hGW⟩
 . rintro e W1 ⟨e0,e1,e3,hj,hg⟩;refine Cw.IJ ?_;refine Cw.loop (λk e W=>∃hk:k<=len,e 0=.func (.yield l) #[] #[]/\e 1=.pointer (some ⟨Bs,0,none⟩)/\e 3=.int .i64 ((k:Int)-1)/\(∃pre,pre++rest len k hk=rest len len (bO _)/\J pre W)/\Good a cap vsf Bs W) len ⟨bO _,e0,e1,e3,⟨[],rfl,hj⟩,hg⟩ ?_;rintro k e W1 ⟨hk,e0,e1,e3,⟨pre,hp,hj⟩,hg⟩;have hpl:pre.length+k=len:=by
    have:=dz List.length hp;simpa[Js]using this
   refine Cw.seq (K:=λe W=>0<k/\e 0=.func (.yield l) #[] #[]/\e 1=.pointer (some ⟨Bs,0,none⟩)/\e 3=.int .i64 ((k:Int)-1)/\W=W1) ?_ ?_
   . refine Cw.seq (K:=λe W=>e 8=.bool (decide (0<k))/\e 0=.func (.yield l) #[] #[]/\e 1=.pointer (some ⟨Bs,0,none⟩)/\e 3=.int .i64 ((k:Int)-1)/\W=W1) ?_ ?_
     . refine Cw.region (K:=λe W=>e 8=.bool (decide (0<k))/\e 0=.func (.yield l) #[] #[]/\e 1=.pointer (some ⟨Bs,0,none⟩)/\e 3=.int .i64 ((k:Int)-1)/\W=W1) ?_ (λe w h=>h);refine Rl.op (aG.move e3 ?_);refine Rl.op (aG.geq (0<k) rfl rfl (by omega) ?_);exact⟨rfl,e0,e1,e3,rfl⟩
     . rintro e W2 ⟨e8,e0,e1,e3,rfl⟩;refine Cw.cond e8 ?_;by_cases h:0<k
       . rw[iM h];exact Cw.skip ⟨h,e0,e1,e3,rfl⟩
       . rw[uj h];obtain rfl:k=0:=by omega
         refine Cw.exit (show Post _ from .inl ⟨pre,?_,hj⟩);simpa[rest]using hp
   . rintro e W2 ⟨hk0,e0,e1,e3,rfl⟩;obtain⟨j,rfl⟩:∃j,k=j+1:=⟨k-1,by omega⟩;have hjl:j<len:=hk;have hp':(pre++[⟨j,hjl⟩])++rest len j (Ol hk)=rest len len (bO _):=by rw[<-hp];simp[rest]
     obtain⟨b,o,ha,hat⟩:=hg.2 ⟨j,hjl⟩;refine Cw.seq (K:=λe W=>e 0=.func (.yield l) #[] #[]/\e 1=.pointer (some ⟨Bs,0,none⟩)/\e 3=.int .i64 (((j+1:Nat):Int)-1)/\J (pre++[⟨j,hjl⟩]) W/\Good a cap vsf Bs W) ?_ ?_
     . refine Cw.IJ ?_;refine Cw.seq (K:=λe W=>((e 18=.bool false/\J (pre++[⟨j,hjl⟩]) W/\Good a cap vsf Bs W)\/(e 18=.bool true/\Jx (pre++[⟨j,hjl⟩]) W))/\e 0=.func (.yield l) #[] #[]/\e 1=.pointer (some ⟨Bs,0,none⟩)/\e 3=.int .i64 (((j+1:Nat):Int)-1)) ?_ ?_
       . intro mm ac g1 g2 g3;subst g3;have hy:=hY pre ⟨j,hjl⟩ W2 hj (by omega);refine wpIn_region_lit ?_;refine oH (n:=19) g1 g2 (aG.move e0 λa1 h1 h2 h3=>?_);refine oH (n:=19) h1 h2 (aG.move (v:=.int .i64 ((j:Nat):Int)) (by rw[h3];show db ac 3=_;rw[e3];congr 1;omega) λa2 h1 h2 h4=>?_);refine oH (n:=19) h1 h2 (aG.zd Tryz.underlying103 rfl (by rw[h4,h3];exact e1) (hg.1.get 0 rfl) λa3 h1 h2 h5=>?_);refine oH (n:=19) h1 h2 (aG.move (v:=.int .i64 ((j:Nat):Int)) (by rw[h5,h4,h3];show db ac 3=_;rw[e3];congr 1;omega) λa4 h1 h2 h6=>?_);refine oH (n:=19) h1 h2 (aG.indexAddr (i:=j) Tryz.underlying103 wX (by rw[h6,h5,<-ha];rfl) (by rw[h6];rfl) hjl rfl λa5 h1 h2 h7=>?_);refine oH (n:=19) h1 h2 (aG.LQ (A:=[]) (vs:=vsf ⟨j,hjl⟩) Tryz.underlying170 rfl wX (by rw[h7];rfl) (hl _) hat λa6 h1 h2 h8=>?_);refine wpListIn_plain rfl λK hK=>S3 (e:=db a6) (az:=[Value.int .i64 ((j:Nat):Int),.agg (vsf ⟨j,hjl⟩).toArray]) (l:=l) rfl rfl (by rw[h8,h7,h6,h5,h4,h3];rfl) (by rw[h8,h7,h6,h5,h4,h3];rfl) (R1 hy) λx w' hx=>?_;have env:∀(bb:Bool) (a7:Act),db a7=j1 (db (a6.put (some 17) (.bool bb))) (some 18) (.bool (!bb))->db a7 18=.bool (!bb)/\db a7 0=.func (.yield l) #[] #[]/\db a7 1=.pointer (some ⟨Bs,0,none⟩)/\db a7 3=.int .i64 (((j+1:Nat):Int)-1):=λbb a7 h=>by
          rw[h,vc a6 (n:=19) h1 (by omega),h8,h7,h6,h5,h4,h3];exact⟨rfl,e0,e1,e3⟩
         rcases hx with⟨rfl,hj3,hg3⟩|⟨rfl,hx3⟩
         . refine⟨_,rfl,hK _ _ ?_⟩;refine oH (n:=19) (by rw[pz];exact h1) (ds:=[]) ((qS _ _ _).trans h2) (aG.not (x:=true) (by rw[vc a6 (n:=19) h1 (by omega)];rfl) λa7 k1 k2 k3=>?_);obtain⟨v1,v2⟩:=env true a7 k3;exact⟨k1,k2,.inl ⟨v1,hj3,hg3 hg⟩,v2⟩
         . refine⟨_,rfl,hK _ _ ?_⟩;refine oH (n:=19) (by rw[pz];exact h1) (ds:=[]) ((qS _ _ _).trans h2) (aG.not (x:=false) (by rw[vc a6 (n:=19) h1 (by omega)];rfl) λa7 k1 k2 k3=>?_);obtain⟨v1,v2⟩:=env false a7 k3;exact⟨k1,k2,.inr ⟨v1,hx3⟩,v2⟩
       . rintro e W3 ⟨hor,e0,e1,e3⟩;rcases hor with⟨e18,hj3,hg3⟩|⟨e18,hx3⟩
         . exact Cw.cond e18 (Cw.skip ⟨e0,e1,e3,hj3,hg3⟩)
         . exact Cw.cond e18 (Cw.ret (show Post _ from .inr ⟨_,⟨_,hp'⟩,hx3⟩))
     . rintro e W3 ⟨e0,e1,e3,hj3,hg3⟩;refine Cw.region (K:=λe W=>e 0=.func (.yield l) #[] #[]/\e 1=.pointer (some ⟨Bs,0,none⟩)/\e 3=.int .i64 ((j:Int)-1)/\W=W3) ?_ (λe w h=>⟨j,NG j,Ol hk,h.1,h.2.1,h.2.2.1,⟨_,hp',h.2.2.2▸hj3⟩,h.2.2.2▸hg3⟩);refine Rl.op (aG.move e3 ?_);refine Rl.op (aG.sub rfl rfl (z:=(j:Int)-1) (by rw[IntKind.wrap_i64];omega) ?_);refine Rl.op (aG.assign rfl ?_);exact⟨e0,e1,rfl,rfl⟩
end
end Go.Proofs.YtipdkfmhfakbnaaGreatDoor.BK

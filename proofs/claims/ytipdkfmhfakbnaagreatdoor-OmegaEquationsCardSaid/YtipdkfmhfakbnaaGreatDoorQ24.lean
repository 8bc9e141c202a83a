/- Openers of the arguments. Written by a program of mine (wip/tool). -/
import Derived.Test.YtipdkfmhfakbnaaGreatDoorTB
import Derived.ChangeMaps5
import Derived.Stop.LaidErr
set_option linter.unusedVariables false
set_option linter.unusedSimpArgs false
set_option linter.unusedSectionVars false
set_option maxRecDepth 100000
namespace Go.Proofs.YtipdkfmhfakbnaaGreatDoor.Q24
open Go Go.ChangeShapes Go.WideShapes Go.ChangeAt Go.RowKit Go.X Go.D
section
variable {H:Type} {enc:TypeId×Value->H} {W:World}
def G2(x:Int):Prop:=(Lit.int .i64 x).wf=true
theorem o2:∀N,aO enc Tryz.prog W N aY 2 G2:=λN=>aO.int Tryz.underlying2
def G3(x:Int):Prop:=(Lit.int .i64 x).wf=true
theorem o3:∀N,aO enc Tryz.prog W N aY 3 G3:=λN=>aO.int Tryz.underlying3
def G71(x:jt):Prop:=G3 x.Var/\G2 x.N/\True
theorem o71:∀N,aO enc Tryz.prog W N jo 71 G71:=by
 intro N fuel hf cs x h;obtain⟨hl,n,hn,hfs⟩:=HK Tryz.underlying71 h;have hl:cs.length=2:=hl
 match cs,hl with
 |[c0,c1],_=>
  obtain⟨y0,h0⟩:=hfs 0 _ rfl;obtain⟨a0,r0,g0⟩:=o3 n n (bQ _) _ _ h0;have r0:aY.R (HW W) [c0] a0:=r0;have r0:[c0]=[.int .i64 a0]:=r0;cases r0;obtain⟨y1,h1⟩:=hfs 1 _ rfl;obtain⟨a1,r1,g1⟩:=o2 n n (bQ _) _ _ h1;have r1:aY.R (HW W) [c1] a1:=r1;have r1:[c1]=[.int .i64 a1]:=r1;cases r1;exact⟨⟨a0,a1⟩,⟨rfl,trivial⟩,⟨g0,g1,trivial⟩⟩
def G38(xs:(List jt)):Prop:=xs.length<=9223372036854775807/\∀x∈xs,G71 x
theorem o38:∀N,aO enc Tryz.prog W N (kL jo) 38 G38:=λN=>aO.less (aO.slice Tryz.underlying38 (by kernel_rfl) rfl (o71 N))
def G40(x:Linear):Prop:=G2 x.Const/\G38 x.bG/\True
theorem o40:∀N,aO enc Tryz.prog W N oX 40 G40:=by
 intro N fuel hf cs x h;obtain⟨hl,n,hn,hfs⟩:=HK Tryz.underlying40 h;have hl:cs.length=2:=hl
 match cs,hl with
 |[c0,c1],_=>
  obtain⟨y0,h0⟩:=hfs 0 _ rfl;obtain⟨a0,r0,g0⟩:=o2 n n (bQ _) _ _ h0;have r0:aY.R (HW W) [c0] a0:=r0;have r0:[c0]=[.int .i64 a0]:=r0;cases r0;obtain⟨y1,h1⟩:=hfs 1 _ rfl;obtain⟨a1,r1,g1⟩:=o38 n n (bQ _) _ _ h1;have r1:(kL jo).R (HW W) [c1] a1:=r1;obtain⟨v1,e1,k1⟩:=r1;cases e1;exact⟨⟨a0,a1⟩,⟨_,rfl,k1,trivial⟩,⟨g0,g1,trivial⟩⟩
def G4(_:Bool):Prop:=True
theorem o4:∀N,aO enc Tryz.prog W N AM 4 G4:=λN=>aO.bool Tryz.underlying4
def G42(x:Constraint):Prop:=G40 x.Linear/\G4 x.eP/\True
theorem o42:∀N,aO enc Tryz.prog W N cK 42 G42:=by
 intro N fuel hf cs x h;obtain⟨hl,n,hn,hfs⟩:=HK Tryz.underlying42 h;have hl:cs.length=3:=hl
 match cs,hl with
 |[c0,c1,c2],_=>
  obtain⟨y0,h0⟩:=hfs 0 _ rfl;obtain⟨a0,r0,g0⟩:=o40 n n (bQ _) _ _ h0;have r0:oX.R (HW W) [c0,c1] a0:=r0;obtain⟨v0_0,e0,k0_0,-⟩:=r0;cases e0;obtain⟨y1,h1⟩:=hfs 1 _ rfl;obtain⟨a1,r1,g1⟩:=o4 n n (bQ _) _ _ h1;have r1:AM.R (HW W) [c2] a1:=r1;have r1:[c2]=[.bool a1]:=r1;cases r1;exact⟨⟨a0,a1⟩,⟨_,rfl,k0_0,trivial⟩,⟨g0,g1,trivial⟩⟩
theorem oCons:∀N,ma enc Tryz.prog W N (kL cK) 22 (λxs=>xs.length<=9223372036854775807/\∀x∈xs,G42 x) (SlT λ_ _=>True):=λN=>ma.less (ma.slice Tryz.underlying22 (by kernel_rfl) rfl (aO.t (o42 N)))
theorem oInts:∀N,ma enc Tryz.prog W N (kL aY) 47 (λxs=>xs.length<=9223372036854775807/\∀x∈xs,G2 x) (SlT λ_ _=>True):=λN=>ma.less (ma.slice Tryz.underlying47 (by kernel_rfl) rfl (aO.t (o2 N)))
theorem R4{c:Constraint}(h:G42 c):c.Linear.bG.length<=9223372036854775807/\fY c.Linear.Const/\∀k∈c.Linear.bG,fY k.N:=⟨h.1.2.1.1,bounds_i64 h.1.1,λk hk=>bounds_i64 (h.1.2.1.2 k hk).2.1⟩
theorem Vl:(Rows.laid_internal_strconv_uint64pow10:DataW Unit)=Lib.tabData .u64 Lib.pow10Tab:=by kernel_rfl
theorem Te{x y:String×DataW Unit}(h:laidMet Tryz.prog [x,y,("internal/strconv.uint64pow10",Rows.laid_internal_strconv_uint64pow10)] W):Go.Q.xG λ_=>HW W:=by
 have h1:=laidMet.tail (laidMet.tail h);rw[Vl]at h1;intro g hg;obtain⟨o,h2,h3⟩:=TB.Xd (Lib.tabIs_of_head (g:=0) (t:=234) (e:=87) (n:=20) (by kernel_rfl) (by kernel_rfl) Tryz.underlying234 Tryz.underlying87 (by kernel_rfl) (by kernel_rfl) h1) g hg;exact⟨o,Gp ⟨.inl trivial,by simp⟩ h2,h3⟩
end
end Go.Proofs.YtipdkfmhfakbnaaGreatDoor.Q24

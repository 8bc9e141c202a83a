/- Openers of the arguments. Written by a program of mine (wip/tool). -/
import Derived.Test.YtipdkfmhfakbnaaGreatDoorProg
import Derived.Test.YtipdkfmhfakbnaaGreatDoorAa
import Derived.Test.YtipdkfmhfakbnaaGreatDoorAd
import Derived.Test.YtipdkfmhfakbnaaGreatDoorTB
import Derived.Test.YtipdkfmhfakbnaaGreatDoorRows
import Derived.ChangeMaps5
import Derived.Stop.LaidErr
import Derived.Lib.LaidTab
set_option linter.unusedVariables false
set_option linter.unusedSimpArgs false
set_option linter.unusedSectionVars false
set_option maxRecDepth 100000
namespace Go.Proofs.YtipdkfmhfakbnaaGreatDoor.Q24
open Go Go.ChangeShapes Go.WideShapes Go.ChangeAt Go.RowKit Go.X Go.D
section
variable {H:Type} {enc:TypeId×Value->H} {W:World}
def G2(x:Int):Prop:=(Lit.int .i64 x).wf=true
theorem o2:∀N,aM enc Tryz.prog W N (aF .i64) 2 G2:=λN=>aM.int Tryz.underlying2
def G3(x:Int):Prop:=(Lit.int .i64 x).wf=true
theorem o3:∀N,aM enc Tryz.prog W N (aF .i64) 3 G3:=λN=>aM.int Tryz.underlying3
def G71(x:iE):Prop:=G3 x.Var/\G2 x.N/\True
theorem o71:∀N,aM enc Tryz.prog W N iu 71 G71:=by
 intro N fuel hf cs x h;obtain⟨hl,n,hn,hfs⟩:=GN Tryz.underlying71 h;have hl:cs.length=2:=hl
 match cs,hl with
 |[c0,c1],_=>
  obtain⟨y0,h0⟩:=hfs 0 _ rfl;obtain⟨a0,r0,g0⟩:=o3 n n (bO _) _ _ h0;have r0:(aF .i64).R (HW W) [c0] a0:=r0;have r0:[c0]=[.int .i64 a0]:=r0;cases r0;obtain⟨y1,h1⟩:=hfs 1 _ rfl;obtain⟨a1,r1,g1⟩:=o2 n n (bO _) _ _ h1;have r1:(aF .i64).R (HW W) [c1] a1:=r1;have r1:[c1]=[.int .i64 a1]:=r1;cases r1;exact⟨⟨a0,a1⟩,⟨rfl,trivial⟩,⟨g0,g1,trivial⟩⟩
def G38(xs:(List iE)):Prop:=xs.length<=9223372036854775807/\∀x∈xs,G71 x
theorem o38:∀N,aM enc Tryz.prog W N (bN iu) 38 G38:=λN=>aM.less (aM.slice Tryz.underlying38 (by kernel_rfl) rfl (o71 N))
def G40(x:Linear):Prop:=G2 x.Const/\G38 x.bE/\True
theorem o40:∀N,aM enc Tryz.prog W N oU 40 G40:=by
 intro N fuel hf cs x h;obtain⟨hl,n,hn,hfs⟩:=GN Tryz.underlying40 h;have hl:cs.length=2:=hl
 match cs,hl with
 |[c0,c1],_=>
  obtain⟨y0,h0⟩:=hfs 0 _ rfl;obtain⟨a0,r0,g0⟩:=o2 n n (bO _) _ _ h0;have r0:(aF .i64).R (HW W) [c0] a0:=r0;have r0:[c0]=[.int .i64 a0]:=r0;cases r0;obtain⟨y1,h1⟩:=hfs 1 _ rfl;obtain⟨a1,r1,g1⟩:=o38 n n (bO _) _ _ h1;have r1:(bN iu).R (HW W) [c1] a1:=r1;obtain⟨v1,e1,k1⟩:=r1;cases e1;exact⟨⟨a0,a1⟩,⟨_,rfl,k1,trivial⟩,⟨g0,g1,trivial⟩⟩
def G4(_:Bool):Prop:=True
theorem o4:∀N,aM enc Tryz.prog W N CI 4 G4:=λN=>aM.bool Tryz.underlying4
def G42(x:Constraint):Prop:=G40 x.Linear/\G4 x.jg/\True
theorem o42:∀N,aM enc Tryz.prog W N dG 42 G42:=by
 intro N fuel hf cs x h;obtain⟨hl,n,hn,hfs⟩:=GN Tryz.underlying42 h;have hl:cs.length=3:=hl
 match cs,hl with
 |[c0,c1,c2],_=>
  obtain⟨y0,h0⟩:=hfs 0 _ rfl;obtain⟨a0,r0,g0⟩:=o40 n n (bO _) _ _ h0;have r0:oU.R (HW W) [c0,c1] a0:=r0;obtain⟨v0_0,e0,k0_0,-⟩:=r0;cases e0;obtain⟨y1,h1⟩:=hfs 1 _ rfl;obtain⟨a1,r1,g1⟩:=o4 n n (bO _) _ _ h1;have r1:CI.R (HW W) [c2] a1:=r1;have r1:[c2]=[.bool a1]:=r1;cases r1;exact⟨⟨a0,a1⟩,⟨_,rfl,k0_0,trivial⟩,⟨g0,g1,trivial⟩⟩
theorem oCons:∀N,nI enc Tryz.prog W N (bN dG) 22 (λxs=>xs.length<=9223372036854775807/\∀x∈xs,G42 x) (SlT λ_ _=>True):=λN=>nI.less (nI.slice Tryz.underlying22 (by kernel_rfl) rfl (aM.t (o42 N)))
theorem Qk{c:Constraint}(h:G42 c):c.Linear.bE.length<=9223372036854775807/\fY c.Linear.Const/\∀k∈c.Linear.bE,fY k.N:=⟨h.1.2.1.1,bounds_i64 h.1.1,λk hk=>bounds_i64 (h.1.2.1.2 k hk).2.1⟩
theorem O3:(Rows.laid_internal_strconv_uint64pow10:DataW Unit)=Lib.tabData .u64 Lib.pow10Tab:=by kernel_rfl
theorem Qc{x y:String×DataW Unit}(h:laidMet Tryz.prog [x,y,("internal/strconv.uint64pow10",Rows.laid_internal_strconv_uint64pow10)] W):Go.Q.yC λ_=>HW W:=by
 have h1:=laidMet.tail (laidMet.tail h);rw[O3]at h1;intro g hg;obtain⟨o,h2,h3⟩:=TB.OC (Lib.tabIs_of_head (g:=0) (t:=234) (e:=87) (n:=20) (by kernel_rfl) (by kernel_rfl) Tryz.underlying234 Tryz.underlying87 (by kernel_rfl) (by kernel_rfl) h1) g hg;exact⟨o,Ed ⟨.inl trivial,by simp⟩ h2,h3⟩
end
end Go.Proofs.YtipdkfmhfakbnaaGreatDoor.Q24

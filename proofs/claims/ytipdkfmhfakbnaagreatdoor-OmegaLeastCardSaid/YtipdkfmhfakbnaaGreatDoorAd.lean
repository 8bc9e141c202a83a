/- Plain theorems and definitions of this seat, several texts in one. -/
import Derived.Test.YtipdkfmhfakbnaaGreatDoorAa
import Derived.Lib.Repeat
import Derived.Lib.Join
import Derived.Lib.Strings
import Derived.Lib.ItoaNum
import Derived.Test.YtipdkfmhfakbnaaGreatDoorProg
import Derived.Test.YtipdkfmhfakbnaaGreatDoorAc
import Derived.Lib.AppendIntMem
set_option linter.unusedVariables false
set_option linter.unusedSimpArgs false
set_option linter.unusedSectionVars false
namespace Go.D
open Go Go.X
structure aC where
 bM:Bool
 aQ:(List Int)
 deriving DecidableEq
def aD:bZ aC:=⟨2,λH vs x=>∃v0,vs=[Value.bool x.bM,v0]/\Rs (aF .u32) H v0 x.aQ/\True,
 λH H' vs x hle h=>by obtain⟨v0,h0,k0,-⟩:=h;exact⟨v0,h0,k0.mono hle,trivial⟩,
 λH vs x h=>by obtain⟨v0,h0,k0,-⟩:=h;rw[h0];rfl,
 λH vs x h=>by obtain⟨v0,h0,k0,-⟩:=h;rw[h0];exact(dS rfl (dS k0.one kV))⟩
theorem Ql{H:Hp}{vs:List Value}{x:aC}(h:aD.R H vs x):∃v0,vs=[Value.bool x.bM,v0]/\Rs (aF .u32) H v0 x.aQ/\True:=h
theorem Vg{H:Hp}{vs:List Value}{x:aC}(h:∃v0,vs=[Value.bool x.bM,v0]/\Rs (aF .u32) H v0 x.aQ/\True):aD.R H vs x:=h
structure iE where
 Var:Int
 N:Int
 deriving DecidableEq
def iu:bZ iE:=⟨2,λH vs x=>vs=[Value.int .i64 x.Var,Value.int .i64 x.N]/\True,
 λH H' vs x hle h=>by obtain⟨h0,-⟩:=h;exact⟨h0,trivial⟩,
 λH vs x h=>by obtain⟨h0,-⟩:=h;rw[h0];rfl,
 λH vs x h=>by obtain⟨h0,-⟩:=h;rw[h0];exact(dS rfl (dS rfl kV))⟩
theorem SH{H:Hp}{vs:List Value}{x:iE}(h:iu.R H vs x):vs=[Value.int .i64 x.Var,Value.int .i64 x.N]/\True:=h
theorem Sk{H:Hp}{vs:List Value}{x:iE}(h:vs=[Value.int .i64 x.Var,Value.int .i64 x.N]/\True):iu.R H vs x:=h
structure Linear where
 Const:Int
 bE:(List iE)
 deriving DecidableEq
def oU:bZ Linear:=⟨2,λH vs x=>∃v0,vs=[Value.int .i64 x.Const,v0]/\Rs iu H v0 x.bE/\True,
 λH H' vs x hle h=>by obtain⟨v0,h0,k0,-⟩:=h;exact⟨v0,h0,k0.mono hle,trivial⟩,
 λH vs x h=>by obtain⟨v0,h0,k0,-⟩:=h;rw[h0];rfl,
 λH vs x h=>by obtain⟨v0,h0,k0,-⟩:=h;rw[h0];exact(dS rfl (dS k0.one kV))⟩
theorem Qy{H:Hp}{vs:List Value}{x:Linear}(h:oU.R H vs x):∃v0,vs=[Value.int .i64 x.Const,v0]/\Rs iu H v0 x.bE/\True:=h
theorem Qv{H:Hp}{vs:List Value}{x:Linear}(h:∃v0,vs=[Value.int .i64 x.Const,v0]/\Rs iu H v0 x.bE/\True):oU.R H vs x:=h
structure Constraint where
 Linear:Linear
 jg:Bool
 deriving DecidableEq
def dG:bZ Constraint:=⟨3,λH vs x=>∃v0,vs=[Value.int .i64 x.Linear.Const,v0,Value.bool x.jg]/\Rs iu H v0 x.Linear.bE/\True,
 λH H' vs x hle h=>by obtain⟨v0,h0,k0,-⟩:=h;exact⟨v0,h0,k0.mono hle,trivial⟩,
 λH vs x h=>by obtain⟨v0,h0,k0,-⟩:=h;rw[h0];rfl,
 λH vs x h=>by obtain⟨v0,h0,k0,-⟩:=h;rw[h0];exact(dS rfl (dS k0.one (dS rfl kV)))⟩
theorem PX{H:Hp}{vs:List Value}{x:Constraint}(h:dG.R H vs x):∃v0,vs=[Value.int .i64 x.Linear.Const,v0,Value.bool x.jg]/\Rs iu H v0 x.Linear.bE/\True:=h
theorem R3{H:Hp}{vs:List Value}{x:Constraint}(h:∃v0,vs=[Value.int .i64 x.Linear.Const,v0,Value.bool x.jg]/\Rs iu H v0 x.Linear.bE/\True):dG.R H vs x:=h
structure bG where
 bE:(List aC)
 dO:aC
 deriving DecidableEq
def aR:bZ bG:=⟨3,λH vs x=>∃v0 v1,vs=[v0,Value.bool x.dO.bM,v1]/\Rs aD H v0 x.bE/\Rs (aF .u32) H v1 x.dO.aQ/\True,
 λH H' vs x hle h=>by obtain⟨v0,v1,h0,k0,k1,-⟩:=h;exact⟨v0,v1,h0,k0.mono hle,k1.mono hle,trivial⟩,
 λH vs x h=>by obtain⟨v0,v1,h0,k0,k1,-⟩:=h;rw[h0];rfl,
 λH vs x h=>by obtain⟨v0,v1,h0,k0,k1,-⟩:=h;rw[h0];exact(dS k0.one (dS rfl (dS k1.one kV)))⟩
theorem Vt{H:Hp}{vs:List Value}{x:bG}(h:aR.R H vs x):∃v0 v1,vs=[v0,Value.bool x.dO.bM,v1]/\Rs aD H v0 x.bE/\Rs (aF .u32) H v1 x.dO.aQ/\True:=h
theorem Qn{H:Hp}{vs:List Value}{x:bG}(h:∃v0 v1,vs=[v0,Value.bool x.dO.bM,v1]/\Rs aD H v0 x.bE/\Rs (aF .u32) H v1 x.dO.aQ/\True):aR.R H vs x:=h
structure eh where
 Index:Int
 N:aC
 deriving DecidableEq
def eR:bZ eh:=⟨3,λH vs x=>∃v0,vs=[Value.int .i64 x.Index,Value.bool x.N.bM,v0]/\Rs (aF .u32) H v0 x.N.aQ/\True,
 λH H' vs x hle h=>by obtain⟨v0,h0,k0,-⟩:=h;exact⟨v0,h0,k0.mono hle,trivial⟩,
 λH vs x h=>by obtain⟨v0,h0,k0,-⟩:=h;rw[h0];rfl,
 λH vs x h=>by obtain⟨v0,h0,k0,-⟩:=h;rw[h0];exact(dS rfl (dS rfl (dS k0.one kV)))⟩
theorem Sj{H:Hp}{vs:List Value}{x:eh}(h:eR.R H vs x):∃v0,vs=[Value.int .i64 x.Index,Value.bool x.N.bM,v0]/\Rs (aF .u32) H v0 x.N.aQ/\True:=h
theorem Pm{H:Hp}{vs:List Value}{x:eh}(h:∃v0,vs=[Value.int .i64 x.Index,Value.bool x.N.bM,v0]/\Rs (aF .u32) H v0 x.N.aQ/\True):eR.R H vs x:=h
structure Step where
 Uses:(List eh)
 gB:aC
 deriving DecidableEq
def bC:bZ Step:=⟨3,λH vs x=>∃v0 v1,vs=[v0,Value.bool x.gB.bM,v1]/\Rs eR H v0 x.Uses/\Rs (aF .u32) H v1 x.gB.aQ/\True,
 λH H' vs x hle h=>by obtain⟨v0,v1,h0,k0,k1,-⟩:=h;exact⟨v0,v1,h0,k0.mono hle,k1.mono hle,trivial⟩,
 λH vs x h=>by obtain⟨v0,v1,h0,k0,k1,-⟩:=h;rw[h0];rfl,
 λH vs x h=>by obtain⟨v0,v1,h0,k0,k1,-⟩:=h;rw[h0];exact(dS k0.one (dS rfl (dS k1.one kV)))⟩
theorem TE{H:Hp}{vs:List Value}{x:Step}(h:bC.R H vs x):∃v0 v1,vs=[v0,Value.bool x.gB.bM,v1]/\Rs eR H v0 x.Uses/\Rs (aF .u32) H v1 x.gB.aQ/\True:=h
theorem TO{H:Hp}{vs:List Value}{x:Step}(h:∃v0 v1,vs=[v0,Value.bool x.gB.bM,v1]/\Rs eR H v0 x.Uses/\Rs (aF .u32) H v1 x.gB.aQ/\True):bC.R H vs x:=h
structure Proof where
 Steps:(List Step)
 Form:(List aC)
 dO:aC
 mQ:(List Proof)
def qQ:Nat->Hp->List Value->Proof->Prop
 |0,_,_,_=>False
 |n+1,H,vs,x=>∃v0 v1 v2 v3,vs=[v0,v1,Value.bool x.dO.bM,v2,v3]/\Rs bC H v0 x.Steps/\Rs aD H v1 x.Form/\Rs (aF .u32) H v2 x.dO.aQ/\Sl 5 (qQ n) H v3 x.mQ/\True
theorem Mx:∀(n:Nat) {H H':Hp} {vs:List Value} {x:Proof},Le H H'->qQ n H vs x->qQ n H' vs x
 |0,_,_,_,_,_,h=>h.elim
 |n+1,_,_,_,_,hle,h=>by obtain⟨v0,v1,v2,v3,h0,k0,k1,k2,k3,-⟩:=h;exact⟨v0,v1,v2,v3,h0,k0.mono hle,k1.mono hle,k2.mono hle,Sl.mono (R:=qQ n) (λ_ _ _ _ a b=>Mx n a b) hle k3,trivial⟩
theorem Kj:∀{n m:Nat} {H:Hp} {vs:List Value} {x:Proof},n<=m->qQ n H vs x->qQ m H vs x
 |0,_,_,_,_,_,h=>h.elim
 |n+1,0,_,_,_,hm,_=>by omega
 |n+1,m+1,_,_,_,hm,h=>by have hm:n<=m:=(by omega);obtain⟨v0,v1,v2,v3,h0,k0,k1,k2,k3,-⟩:=h;exact⟨v0,v1,v2,v3,h0,k0,k1,k2,Nh (λ_ _=>Kj hm) k3,trivial⟩
def jo:bZ Proof:=⟨5,λH vs x=>∃n,qQ n H vs x,λ_ _ _ _ hle ⟨n,h⟩=>⟨n,Mx n hle h⟩,
 λH vs x h=>by obtain⟨n,h⟩:=h;cases n with|zero=>exact h.elim|succ n=>obtain⟨v0,v1,v2,v3,h0,k0,k1,k2,k3,-⟩:=h;rw[h0];rfl,
 λH vs x h=>by obtain⟨n,h⟩:=h;cases n with|zero=>exact h.elim|succ n=>obtain⟨v0,v1,v2,v3,h0,k0,k1,k2,k3,-⟩:=h;rw[h0];exact(dS k0.one (dS k1.one (dS rfl (dS k2.one (dS (Sl.one k3) kV)))))⟩
theorem VF{H:Hp}{vs:List Value}{x:Proof}(h:jo.R H vs x):∃v0 v1 v2 v3,vs=[v0,v1,Value.bool x.dO.bM,v2,v3]/\Rs bC H v0 x.Steps/\Rs aD H v1 x.Form/\Rs (aF .u32) H v2 x.dO.aQ/\Rs jo H v3 x.mQ/\True:=by
 obtain⟨n,h⟩:=h;cases n with|zero=>exact h.elim|succ n=>obtain⟨v0,v1,v2,v3,h0,k0,k1,k2,k3,-⟩:=h;exact⟨v0,v1,v2,v3,h0,k0,k1,k2,Nh (λ_ _ h=>⟨n,h⟩) k3,trivial⟩
theorem PG{H:Hp}{vs:List Value}{x:Proof}(h:∃v0 v1 v2 v3,vs=[v0,v1,Value.bool x.dO.bM,v2,v3]/\Rs bC H v0 x.Steps/\Rs aD H v1 x.Form/\Rs (aF .u32) H v2 x.dO.aQ/\Rs jo H v3 x.mQ/\True):jo.R H vs x:=by
 obtain⟨v0,v1,v2,v3,h0,k0,k1,k2,k3,-⟩:=h;obtain⟨n,hn⟩:=RA (Rn:=qQ) (λ_ _ _ _ hm h=>Kj hm h) k3;exact⟨n+1,v0,v1,v2,v3,h0,k0,k1,k2,hn,trivial⟩
structure bB where
 pos:Int
 g:(List aC)
 deriving DecidableEq
def aP:bZ bB:=⟨2,λH vs x=>∃v0,vs=[Value.int .i64 x.pos,v0]/\Rs aD H v0 x.g/\True,
 λH H' vs x hle h=>by obtain⟨v0,h0,k0,-⟩:=h;exact⟨v0,h0,k0.mono hle,trivial⟩,
 λH vs x h=>by obtain⟨v0,h0,k0,-⟩:=h;rw[h0];rfl,
 λH vs x h=>by obtain⟨v0,h0,k0,-⟩:=h;rw[h0];exact(dS rfl (dS k0.one kV))⟩
theorem OS{H:Hp}{vs:List Value}{x:bB}(h:aP.R H vs x):∃v0,vs=[Value.int .i64 x.pos,v0]/\Rs aD H v0 x.g/\True:=h
theorem R0{H:Hp}{vs:List Value}{x:bB}(h:∃v0,vs=[Value.int .i64 x.pos,v0]/\Rs aD H v0 x.g/\True):aP.R H vs x:=h
structure dW where
 v:Int
 aB:(List Int)
 dP:Bool
 deriving DecidableEq
def bH:bZ dW:=⟨3,λH vs x=>∃v0,vs=[Value.int .i64 x.v,v0,Value.bool x.dP]/\Rs (aF .i64) H v0 x.aB/\True,
 λH H' vs x hle h=>by obtain⟨v0,h0,k0,-⟩:=h;exact⟨v0,h0,k0.mono hle,trivial⟩,
 λH vs x h=>by obtain⟨v0,h0,k0,-⟩:=h;rw[h0];rfl,
 λH vs x h=>by obtain⟨v0,h0,k0,-⟩:=h;rw[h0];exact(dS rfl (dS k0.one (dS rfl kV)))⟩
theorem Ug{H:Hp}{vs:List Value}{x:dW}(h:bH.R H vs x):∃v0,vs=[Value.int .i64 x.v,v0,Value.bool x.dP]/\Rs (aF .i64) H v0 x.aB/\True:=h
theorem QC{H:Hp}{vs:List Value}{x:dW}(h:∃v0,vs=[Value.int .i64 x.v,v0,Value.bool x.dP]/\Rs (aF .i64) H v0 x.aB/\True):bH.R H vs x:=h
structure aS where
 n:Int
 aA:(List bG)
 aU:(List Step)
 u:(List (List aC))
 aN:(List Int)
 value:(List aC)
 aB:(List bB)
 aK:(List dW)
 deriving DecidableEq
def FF:bZ aS:=⟨8,λH vs x=>∃v0 v1 v2 v3 v4 v5 v6,vs=[Value.int .i64 x.n,v0,v1,v2,v3,v4,v5,v6]/\Rs aR H v0 x.aA/\Rs bC H v1 x.aU/\Rs (bN aD) H v2 x.u/\Rs (aF .i64) H v3 x.aN/\Rs aD H v4 x.value/\Rs aP H v5 x.aB/\Rs bH H v6 x.aK/\True,
 λH H' vs x hle h=>by obtain⟨v0,v1,v2,v3,v4,v5,v6,h0,k0,k1,k2,k3,k4,k5,k6,-⟩:=h;exact⟨v0,v1,v2,v3,v4,v5,v6,h0,k0.mono hle,k1.mono hle,k2.mono hle,k3.mono hle,k4.mono hle,k5.mono hle,k6.mono hle,trivial⟩,
 λH vs x h=>by obtain⟨v0,v1,v2,v3,v4,v5,v6,h0,k0,k1,k2,k3,k4,k5,k6,-⟩:=h;rw[h0];rfl,
 λH vs x h=>by obtain⟨v0,v1,v2,v3,v4,v5,v6,h0,k0,k1,k2,k3,k4,k5,k6,-⟩:=h;rw[h0];exact(dS rfl (dS k0.one (dS k1.one (dS k2.one (dS k3.one (dS k4.one (dS k5.one (dS k6.one kV))))))))⟩
theorem UT{H:Hp}{vs:List Value}{x:aS}(h:FF.R H vs x):∃v0 v1 v2 v3 v4 v5 v6,vs=[Value.int .i64 x.n,v0,v1,v2,v3,v4,v5,v6]/\Rs aR H v0 x.aA/\Rs bC H v1 x.aU/\Rs (bN aD) H v2 x.u/\Rs (aF .i64) H v3 x.aN/\Rs aD H v4 x.value/\Rs aP H v5 x.aB/\Rs bH H v6 x.aK/\True:=h
theorem OT{H:Hp}{vs:List Value}{x:aS}(h:∃v0 v1 v2 v3 v4 v5 v6,vs=[Value.int .i64 x.n,v0,v1,v2,v3,v4,v5,v6]/\Rs aR H v0 x.aA/\Rs bC H v1 x.aU/\Rs (bN aD) H v2 x.u/\Rs (aF .i64) H v3 x.aN/\Rs aD H v4 x.value/\Rs aP H v5 x.aB/\Rs bH H v6 x.aK/\True):FF.R H vs x:=h
structure cz where
 kind:Int
 x:(List aC)
 proof:Proof
 v:Int
def fK:bZ cz:=⟨8,λH vs x=>∃v0 v1 v2 v3 v4,vs=[Value.int .i64 x.kind,v0,v1,v2,Value.bool x.proof.dO.bM,v3,v4,Value.int .i64 x.v]/\Rs aD H v0 x.x/\Rs bC H v1 x.proof.Steps/\Rs aD H v2 x.proof.Form/\Rs (aF .u32) H v3 x.proof.dO.aQ/\Rs jo H v4 x.proof.mQ/\True,
 λH H' vs x hle h=>by obtain⟨v0,v1,v2,v3,v4,h0,k0,k1,k2,k3,k4,-⟩:=h;exact⟨v0,v1,v2,v3,v4,h0,k0.mono hle,k1.mono hle,k2.mono hle,k3.mono hle,k4.mono hle,trivial⟩,
 λH vs x h=>by obtain⟨v0,v1,v2,v3,v4,h0,k0,k1,k2,k3,k4,-⟩:=h;rw[h0];rfl,
 λH vs x h=>by obtain⟨v0,v1,v2,v3,v4,h0,k0,k1,k2,k3,k4,-⟩:=h;rw[h0];exact(dS rfl (dS k0.one (dS k1.one (dS k2.one (dS rfl (dS k3.one (dS k4.one (dS rfl kV))))))))⟩
theorem Pc{H:Hp}{vs:List Value}{x:cz}(h:fK.R H vs x):∃v0 v1 v2 v3 v4,vs=[Value.int .i64 x.kind,v0,v1,v2,Value.bool x.proof.dO.bM,v3,v4,Value.int .i64 x.v]/\Rs aD H v0 x.x/\Rs bC H v1 x.proof.Steps/\Rs aD H v2 x.proof.Form/\Rs (aF .u32) H v3 x.proof.dO.aQ/\Rs jo H v4 x.proof.mQ/\True:=h
theorem Td{H:Hp}{vs:List Value}{x:cz}(h:∃v0 v1 v2 v3 v4,vs=[Value.int .i64 x.kind,v0,v1,v2,Value.bool x.proof.dO.bM,v3,v4,Value.int .i64 x.v]/\Rs aD H v0 x.x/\Rs bC H v1 x.proof.Steps/\Rs aD H v2 x.proof.Form/\Rs (aF .u32) H v3 x.proof.dO.aQ/\Rs jo H v4 x.proof.mQ/\True):fK.R H vs x:=h
structure gZ where
 up:bB
 low:aC
 high:aC
 deriving DecidableEq
def jV:bZ gZ:=⟨6,λH vs x=>∃v0 v1 v2,vs=[Value.int .i64 x.up.pos,v0,Value.bool x.low.bM,v1,Value.bool x.high.bM,v2]/\Rs aD H v0 x.up.g/\Rs (aF .u32) H v1 x.low.aQ/\Rs (aF .u32) H v2 x.high.aQ/\True,
 λH H' vs x hle h=>by obtain⟨v0,v1,v2,h0,k0,k1,k2,-⟩:=h;exact⟨v0,v1,v2,h0,k0.mono hle,k1.mono hle,k2.mono hle,trivial⟩,
 λH vs x h=>by obtain⟨v0,v1,v2,h0,k0,k1,k2,-⟩:=h;rw[h0];rfl,
 λH vs x h=>by obtain⟨v0,v1,v2,h0,k0,k1,k2,-⟩:=h;rw[h0];exact(dS rfl (dS k0.one (dS rfl (dS k1.one (dS rfl (dS k2.one kV))))))⟩
theorem Vk{H:Hp}{vs:List Value}{x:gZ}(h:jV.R H vs x):∃v0 v1 v2,vs=[Value.int .i64 x.up.pos,v0,Value.bool x.low.bM,v1,Value.bool x.high.bM,v2]/\Rs aD H v0 x.up.g/\Rs (aF .u32) H v1 x.low.aQ/\Rs (aF .u32) H v2 x.high.aQ/\True:=h
theorem Vd{H:Hp}{vs:List Value}{x:gZ}(h:∃v0 v1 v2,vs=[Value.int .i64 x.up.pos,v0,Value.bool x.low.bM,v1,Value.bool x.high.bM,v2]/\Rs aD H v0 x.up.g/\Rs (aF .u32) H v1 x.low.aQ/\Rs (aF .u32) H v2 x.high.aQ/\True):jV.R H vs x:=h
def yz(N:Nat)(i b:Int):Option (List UInt8):=if 0<=i/\i<18446744073709551616/\b=10 then some (Go.Lib.decDigits i.toNat)else none
def xg(N:Nat)(s:List UInt8)(c:Int):Option (List UInt8):=if 0<=c/\c<=9223372036854775807/\(s.length:Int)*c<=140737488355328 then some (Go.Lib.repeatL s c.toNat)else none
def rG(N:Nat)(xs:List (List UInt8))(s:List UInt8):Option (List UInt8):=if xs.length<=140737488355328/\(Go.Lib.join xs s).length<=140737488355328 then some (Go.Lib.join xs s)else none
def ze(N:Nat)(xs:List (List UInt8)):Option (List (List UInt8)):=if xs.length<=9223372036854775807 then some xs.reverse else none
theorem VI{xs Y:List (List UInt8)}{N:Nat}(h:ze N xs=some Y):xs.length<=9223372036854775807/\Y=xs.reverse:=by
 unfold ze at h;split at h
 . exact⟨by assumption,(jh h).symm⟩
 . cases h
open Go Go.X
def y7(N:Nat)(s:(List Int)):Option (List Int):=(cZ 4 ([]:(List Int)) s).bind λa=>some a
def digit(N:Nat)(d:(List Int))(i:Int):Option Int:=(if(i:Int)<(List.length d:Int)then (idx d i).bind λx2=>some (uw x2) else some 0)
def Bk(N:Nat)(n:Int):Option Int:= some (xM (imax n (-1)) 1)
def Ea(N:Nat)(d:(List Int)):Int->Option (aJ Int Int)
 |a=>(((if(a:Int)>0 then (idx d (iw (a-1))).bind λb=>some (decide ((b:Int)=0)) else some false):Option Bool)).bind λss=>match ss with
   |c=>(if c=true then some (aJ.next (iw (a-1))) else some (aJ.done a))
def l9(N:Nat)(d:(List Int)):Option (List Int):=(bS (Ea N d) N (List.length d:Int)).bind λss=>match ss with
  |a=>(cut d 0 a).bind λb=>(y7 N b).bind λc=>some c
def kp(N:Nat)(negative:Bool)(d:(List Int)):Option aC:=(l9 N d).bind λr6=>(if((List.length r6:Int):Int)=0 then some (aC.mk false []) else some (aC.mk negative r6))
def Fy(N:Nat)(a:(List Int))(b:(List Int)):Int->Option (aJ Int (Sum Unit Int))
 |c=>(if(c:Int)≥0 then (idx a c).bind λd=>(idx b c).bind λe=>(if(d:Int)<e then some (aJ.done (Sum.inr (-1))) else (idx a c).bind λf=>(idx b c).bind λg=>(if(f:Int)>g then some (aJ.done (Sum.inr 1)) else some (aJ.next (iw (c-1))))) else some (aJ.done (Sum.inl ())))
def qZ(N:Nat)(a:(List Int))(b:(List Int)):Option Int:=(if((List.length a:Int):Int)≠(List.length b:Int)then (Bk N (iw ((List.length a:Int)-(List.length b:Int)))).bind λr2=>some r2 else (bS (Fy N a b) N (iw ((List.length a:Int)-1))).bind λss=>match ss with
   |(Sum.inl _)=>some 0
   |(Sum.inr c)=>some c)
def E2(N:Nat)(a:(List Int))(b:(List Int))(x2:(List Int)):((List Int)×Int×Int)->Option (aJ ((List Int)×Int×Int) (List Int))
 |(d,e,c)=>(if(c:Int)<(List.length x2:Int)then (digit N a c).bind λf=>(digit N b c).bind λg=>(idx d c).bind λj=>(dM d c (eu (uw (e+(uw (f+g)))))).bind λi=>some (aJ.next (i,(fL .u64 (uw (e+(uw (f+g)))) 32),(iw (c+1)))) else some (aJ.done d))
def wb(N:Nat)(a:(List Int))(b:(List Int)):Option (List Int):=(gF (α:=Int) 4 0 (iw ((imax (List.length a:Int) (List.length b:Int))+1))).bind λx2=>(bS (E2 N a b x2) N (x2,0,0)).bind λss=>match ss with
  |c=>some c
def EK(N:Nat)(a:(List Int))(b:(List Int)):((List Int)×Int×Int)->Option (aJ ((List Int)×Int×Int) (List Int))
 |(d,e,c)=>(if(c:Int)<(List.length a:Int)then (idx a c).bind λf=>(digit N b c).bind λg=>(idx d c).bind λj=>(dM d c (eu (uw ((uw ((uw f)-g))-e)))).bind λi=>some (aJ.next (i,(fL .u64 (uw ((uw ((uw f)-g))-e)) 63),(iw (c+1)))) else some (aJ.done d))
def tv(N:Nat)(a:(List Int))(b:(List Int)):Option (List Int):=(gF (α:=Int) 4 0 (List.length a:Int)).bind λx2=>(bS (EK N a b) N (x2,0,0)).bind λss=>match ss with
  |c=>some c
def Dp(N:Nat)(b:(List Int))(d:Int)(f:Int):((List Int)×Int×Int)->Option (aJ ((List Int)×Int×Int) ((List Int)×Int))
 |(c,e,a)=>(if(a:Int)<(List.length b:Int)then (idx b a).bind λg=>(idx c (iw (d+a))).bind λi=>(idx c (iw (d+a))).bind λk=>(dM c (iw (d+a)) (eu (uw (e+(uw ((uw ((uw f)*(uw g)))+(uw i))))))).bind λj=>some (aJ.next (j,(fL .u64 (uw (e+(uw ((uw ((uw f)*(uw g)))+(uw i))))) 32),(iw (a+1)))) else some (aJ.done (c,e)))
def DJ(N:Nat)(a:(List Int))(b:(List Int)):((List Int)×Int)->Option (aJ ((List Int)×Int) (List Int))
 |(d,c)=>(if(c:Int)<(List.length a:Int)then (idx a c).bind λf=>(bS (Dp N b c f) N (d,0,0)).bind λss=>match ss with
    |(e,g)=>(idx e (iw (c+(List.length b:Int)))).bind λj=>(dM e (iw (c+(List.length b:Int))) (eu g)).bind λi=>some (aJ.next (i,(iw (c+1)))) else some (aJ.done d))
def yQ(N:Nat)(a:(List Int))(b:(List Int)):Option (List Int):=(gF (α:=Int) 4 0 (iw ((List.length a:Int)+(List.length b:Int)))).bind λx2=>(bS (DJ N a b) N (x2,0)).bind λss=>match ss with
  |c=>some c
def GG(N:Nat)(a:(List Int))(pb:Int):((List Int)×Int×Int)->Option (aJ ((List Int)×Int×Int) ((List Int)×Int))
 |(d,c,b)=>(if(b:Int)≥0 then (idx a b).bind λe=>(sdiv .u64 (j3 .u64 (jx .u64 c 32) (uw e)) (uw pb)).bind λf=>(idx d b).bind λi=>(dM d b (eu f)).bind λg=>(srem (j3 .u64 (jx .u64 c 32) (uw e)) (uw pb)).bind λj=>some (aJ.next (g,(Int.tmod (j3 .u64 (jx .u64 c 32) (uw e)) (uw pb)),(iw (b-1)))) else some (aJ.done (d,c)))
def uZ(N:Nat)(a:(List Int))(pb:Int):Option ((List Int)×Int):=(gF (α:=Int) 4 0 (List.length a:Int)).bind λx2=>(bS (GG N a pb) N (x2,0,(iw ((List.length a:Int)-1)))).bind λss=>match ss with
  |(b,c)=>some (b,(eu c))
def GV(N:Nat)(a:(List Int))(n:Int):((List Int)×Int)->Option (aJ ((List Int)×Int) (List Int))
 |(c,b)=>(if(b:Int)<(List.length a:Int)then (idx a b).bind λd=>(lP (¬(n:Int)<0)).bind λ_=>(idx c b).bind λf=>(idx c b).bind λi=>(dM c b (j3 .u32 f (eu (jx .u64 (uw d) n)))).bind λe=>(idx e (iw (b+1))).bind λj=>(dM e (iw (b+1)) (eu (fL .u64 (jx .u64 (uw d) n) 32))).bind λg=>some (aJ.next (g,(iw (b+1)))) else some (aJ.done c))
def vT(N:Nat)(a:(List Int))(n:Int):Option (List Int):=(gF (α:=Int) 4 0 (iw ((List.length a:Int)+1))).bind λx2=>(bS (GV N a n) N (x2,0)).bind λss=>match ss with
  |b=>some b
open Go Go.X
def Ep(N:Nat):(List Int)->Option (aJ (List Int) (List Int))
 |a=>(((if((List.length a:Int):Int)>0 then (idx a (iw ((List.length a:Int)-1))).bind λb=>some (decide ((b:Int)=0)) else some false):Option Bool)).bind λss=>match ss with
   |c=>(if c=true then (cut a 0 (iw ((List.length a:Int)-1))).bind λd=>some (aJ.next d) else some (aJ.done a))
def oW(N:Nat)(l:(List Int)):Option (List Int):=(bS (Ep N) N l).bind λss=>match ss with
  |a=>some a
def D1(N:Nat)(x:aC):((List Int)×Int)->Option (aJ ((List Int)×Int) (List Int))
 |(b,a)=>(if(a:Int)<(List.length x.aQ:Int)then (idx x.aQ a).bind λc=>(idx x.aQ a).bind λd=>(cZ 8 b [(iw (Int.tmod c 65536)),(iw (eu (Int.tdiv d 65536)))]).bind λe=>some (aJ.next (e,(iw (a+1)))) else some (aJ.done b))
def kd(N:Nat)(x:aC):Option (List Int):=(bS (D1 N x) N (([]:(List Int)),0)).bind λss=>match ss with
  |a=>(oW N a).bind λb=>some b
def EO(N:Nat)(r6:(List Int)):((List Int)×Int)->Option (aJ ((List Int)×Int) (List Int))
 |(b,a)=>(if(a:Int)<(List.length r6:Int)then (idx r6 a).bind λc=>(((if((iw (a+1)):Int)<(List.length r6:Int)then (idx r6 (iw (a+1))).bind λd=>some (eu ((eu c)+(eu (65536*(eu d))))) else some (eu c)):Option Int)).bind λss=>match ss with
    |e=>(cZ 4 b [e]).bind λf=>some (aJ.next (f,(iw (a+2)))) else some (aJ.done b))
def lT(N:Nat)(negative:Bool)(l:(List Int)):Option aC:=(oW N l).bind λr6=>(((if negative=true then some (decide (((List.length r6:Int):Int)>0)) else some false):Option Bool)).bind λss=>match ss with
  |a=>(bS (EO N r6) N (([]:(List Int)),0)).bind λss=>match ss with
    |b=>some (aC.mk a b)
def yb(N:Nat)(x:aC):Option aC:=(kd N x).bind λa=>(lT N x.bM a).bind λb=>some b
def EX(N:Nat)(a:(List Int))(b:(List Int)):Int->Option (aJ Int (Sum Unit Int))
 |c=>(if(c:Int)≥0 then (idx a c).bind λd=>(idx b c).bind λe=>(if(d:Int)<e then some (aJ.done (Sum.inr (-1))) else (idx a c).bind λf=>(idx b c).bind λg=>(if(f:Int)>g then some (aJ.done (Sum.inr 1)) else some (aJ.next (iw (c-1))))) else some (aJ.done (Sum.inl ())))
def rX(N:Nat)(a:(List Int))(b:(List Int)):Option Int:=(if((List.length a:Int):Int)≠(List.length b:Int)then (if((List.length a:Int):Int)<(List.length b:Int)then some (-1) else some 1) else (bS (EX N a b) N (iw ((List.length a:Int)-1))).bind λss=>match ss with
   |(Sum.inl _)=>some 0
   |(Sum.inr c)=>some c)
def E8(N:Nat)(a:(List Int))(b:(List Int)):((List Int)×Int×Int)->Option (aJ ((List Int)×Int×Int) (List Int))
 |(e,d,c)=>(((if(c:Int)<(List.length a:Int)then some true else (if(c:Int)<(List.length b:Int)then some true else some (decide ((d:Int)>0)))):Option Bool)).bind λss=>match ss with
   |i=>(if i=true then (((if(c:Int)<(List.length a:Int)then (idx a c).bind λj=>some (iw (d+j)) else some d):Option Int)).bind λss=>match ss with
      |f=>(((if(c:Int)<(List.length b:Int)then (idx b c).bind λk=>some (iw (f+k)) else some f):Option Int)).bind λss=>match ss with
        |g=>(cZ 8 e [(Int.tmod g 65536)]).bind λl=>some (aJ.next (l,(iw (Int.tdiv g 65536)),(iw (c+1)))) else some (aJ.done e))
def pC(N:Nat)(a:(List Int))(b:(List Int)):Option (List Int):=(bS (E8 N a b) N (([]:(List Int)),0,0)).bind λss=>match ss with
  |c=>(oW N c).bind λd=>some d
def DK(N:Nat)(a:(List Int))(b:(List Int)):((List Int)×Int×Int)->Option (aJ ((List Int)×Int×Int) (List Int))
 |(e,f,c)=>(if(c:Int)<(List.length a:Int)then (idx a c).bind λg=>(((if(c:Int)<(List.length b:Int)then (idx b c).bind λi=>some (iw ((iw (g-f))-i)) else some (iw (g-f))):Option Int)).bind λss=>match ss with
    |d=>(((if(d:Int)<0 then some (1,(iw (d+65536))) else some (0,d)):Option (Int×Int))).bind λss=>match ss with
      |(j,k)=>(cZ 8 e [k]).bind λl=>some (aJ.next (l,j,(iw (c+1)))) else some (aJ.done e))
def sq(N:Nat)(a:(List Int))(b:(List Int)):Option (List Int):=(bS (DK N a b) N (([]:(List Int)),0,0)).bind λss=>match ss with
  |c=>(oW N c).bind λd=>some d
def kq(N:Nat)(x:aC):Option Int:=(kd N x).bind λr6=>(if((List.length r6:Int):Int)=0 then some 0 else (if x.bM=true then some (-1) else some 1))
def ur(N:Nat)(a:aC)(b:aC):Option Int:=(kq N a).bind λc=>(kq N b).bind λd=>(if(c:Int)<d then some (-1) else (if(c:Int)>d then some 1 else (kd N a).bind λe=>(kd N b).bind λf=>(rX N e f).bind λg=>some (iw (c*g))))
def rj(N:Nat)(x:aC):Option aC:=(kd N x).bind λa=>(lT N (!x.bM) a).bind λb=>some b
def pR(N:Nat)(a:aC)(b:aC):Option aC:=(kd N a).bind λc=>(kd N b).bind λd=>(if(a.bM==b.bM)=true then (pC N c d).bind λe=>(lT N a.bM e).bind λf=>some f else (rX N c d).bind λg=>(if(g:Int)≥0 then (sq N c d).bind λi=>(lT N a.bM i).bind λj=>some j else (sq N d c).bind λk=>(lT N b.bM k).bind λl=>some l))
def uy(N:Nat)(a:aC)(b:aC):Option aC:=(rj N b).bind λc=>(pR N a c).bind λd=>some d
def GY(N:Nat)(a:(List Int))(d:Int):((List Int)×Int×Int)->Option (aJ ((List Int)×Int×Int) (List Int))
 |(e,c,b)=>(((if(b:Int)<(List.length a:Int)then some true else some (decide ((c:Int)>0))):Option Bool)).bind λss=>match ss with
   |g=>(if g=true then (((if(b:Int)<(List.length a:Int)then (idx a b).bind λi=>some (iw (c+(iw (i*d)))) else some c):Option Int)).bind λss=>match ss with
      |f=>(cZ 8 e [(Int.tmod f 65536)]).bind λj=>some (aJ.next (j,(iw (Int.tdiv f 65536)),(iw (b+1)))) else some (aJ.done e))
def yP(N:Nat)(a:(List Int))(d:Int):Option (List Int):=(bS (GY N a d) N (([]:(List Int)),0,0)).bind λss=>match ss with
  |b=>(oW N b).bind λc=>some c
def Ez(N:Nat)(c:(List Int))(d:(List Int)):((List Int)×Int)->Option (aJ ((List Int)×Int) (List Int))
 |(b,a)=>(if(a:Int)≥0 then (cZ 8 [0] b).bind λe=>(idx d a).bind λf=>(yP N c f).bind λg=>(pC N e g).bind λi=>some (aJ.next (i,(iw (a-1)))) else some (aJ.done b))
def sJ(N:Nat)(a:aC)(b:aC):Option aC:=(kd N a).bind λd=>(kd N b).bind λc=>(bS (Ez N d c) N (([]:(List Int)),(iw ((List.length c:Int)-1)))).bind λss=>match ss with
  |e=>(lT N (!(a.bM==b.bM)) e).bind λf=>some f
def zT(N:Nat)(a:(List Int))(b:(List Int))(e:Int):((List Int)×(List Int)×Int)->Option (aJ ((List Int)×(List Int)×Int) ((List Int)×(List Int)))
 |(c,f,d)=>(if(d:Int)>0 then (pC N f f).bind λi=>(idx a e).bind λj=>(sdiv .i64 j d).bind λk=>(((if((Int.tmod k 2):Int)=1 then (pC N i [1]).bind λl=>some l else some i):Option (List Int))).bind λss=>match ss with
    |g=>(rX N g b).bind λm=>(if(m:Int)≥0 then (sq N g b).bind λn=>(idx c e).bind λo=>(idx c e).bind λs=>(dM c e (iw (o+d))).bind λp=>some (aJ.next (p,n,(iw (Int.tdiv d 2)))) else some (aJ.next (c,g,(iw (Int.tdiv d 2))))) else some (aJ.done (c,f)))
def Eo(N:Nat)(a:(List Int))(b:(List Int)):((List Int)×(List Int)×Int)->Option (aJ ((List Int)×(List Int)×Int) ((List Int)×(List Int)))
 |(d,e,c)=>(if(c:Int)≥0 then (bS (zT N a b c) N (d,e,32768)).bind λss=>match ss with
    |(f,g)=>some (aJ.next (f,g,(iw (c-1)))) else some (aJ.done (d,e)))
def yK(N:Nat)(a:(List Int))(b:(List Int)):Option ((List Int)×(List Int)):=(gF (α:=Int) 8 0 (List.length a:Int)).bind λx2=>(bS (Eo N a b) N (x2,([]:(List Int)),(iw ((List.length a:Int)-1)))).bind λss=>match ss with
  |(c,d)=>(oW N c).bind λe=>some (e,d)
def F8(N:Nat):(Int×(List Int))->Option (aJ (Int×(List Int)) (List Int))
 |(a,b)=>(if(a:Int)>0 then (cZ 8 b [(iw (Int.tmod a 65536))]).bind λc=>some (aJ.next ((uw (Int.tdiv a 65536)),c)) else some (aJ.done b))
def jX(N:Nat)(n:Int):Option aC:=(((if(n:Int)<0 then some (uw ((uw (iw (0-(iw (n+1)))))+1)) else some (uw n)):Option Int)).bind λss=>match ss with
  |u8=>(bS (F8 N) N (u8,([]:(List Int)))).bind λss=>match ss with
    |a=>(lT N (decide ((n:Int)<0)) a).bind λb=>some b
def uK(N:Nat)(a:aC)(b:aC):Option (aC×aC×Bool):=(kq N b).bind λf=>(if(f:Int)=0 then some ((aC.mk false []),(aC.mk false []),false) else (kd N a).bind λg=>(kd N b).bind λi=>(yK N g i).bind λd=>(lT N (!(a.bM==b.bM)) d.1).bind λe=>(lT N a.bM d.2).bind λc=>(((kq N c).bind λj=>(if(j:Int)≠0 then (kq N c).bind λk=>(kq N b).bind λl=>some (decide ((k:Int)≠l)) else some false):Option Bool)).bind λss=>match ss with
   |m=>(((if m=true then (jX N 1).bind λn=>(uy N e n).bind λo=>(pR N c b).bind λp=>some (o,p) else some (e,c)):Option (aC×aC))).bind λss=>match ss with
     |(s,u)=>some (s,u,true))
def GR(N:Nat)(x:aC)(c:(List Int)):(Int×Int)->Option (aJ (Int×Int) Int)
 |(b,a)=>(if(a:Int)≥0 then (if x.bM=true then (idx c a).bind λd=>some (aJ.next ((iw ((iw (b*65536))-d)),(iw (a-1)))) else (idx c a).bind λe=>some (aJ.next ((iw ((iw (b*65536))+e)),(iw (a-1))))) else some (aJ.done b))
def xz(N:Nat)(x:aC):Option (Int×Bool):=(((jX N (-9223372036854775808)).bind λb=>(ur N x b).bind λc=>(if(c:Int)<0 then some true else (jX N 9223372036854775807).bind λd=>(ur N x d).bind λe=>some (decide ((e:Int)>0))):Option Bool)).bind λss=>match ss with
  |f=>(if f=true then some (0,false) else (kd N x).bind λa=>(bS (GR N x a) N (0,(iw ((List.length a:Int)-1)))).bind λss=>match ss with
     |g=>some (g,true))
def Dz(N:Nat)(a:aC)(b:aC):Int->Option (aJ Int (Sum Unit Bool))
 |c=>(if(c:Int)<(List.length a.aQ:Int)then (idx a.aQ c).bind λd=>(idx b.aQ c).bind λe=>(if(d:Int)≠e then some (aJ.done (Sum.inr false)) else some (aJ.next (iw (c+1)))) else some (aJ.done (Sum.inl ())))
def qh(N:Nat)(a:aC)(b:aC):Option Bool:=(((if(!(a.bM==b.bM))=true then some true else some (decide (((List.length a.aQ:Int):Int)≠(List.length b.aQ:Int)))):Option Bool)).bind λss=>match ss with
  |c=>(if c=true then some false else (bS (Dz N a b) N 0).bind λss=>match ss with
     |(Sum.inl _)=>some true
     |(Sum.inr d)=>some d)
open Go Go.X
def sK:List UInt8:=[0,1,2,2,3,3,3,3,4,4,4,4,4,4,4,4,5,5,5,5,5,5,5,5,5,5,5,5,5,5,5,5,6,6,6,6,6,6,6,6,6,6,6,6,6,6,6,6,6,6,6,6,6,6,6,6,6,6,6,6,6,6,6,6,7,7,7,7,7,7,7,7,7,7,7,7,7,7,7,7,7,7,7,7,7,7,7,7,7,7,7,7,7,7,7,7,7,7,7,7,7,7,7,7,7,7,7,7,7,7,7,7,7,7,7,7,7,7,7,7,7,7,7,7,7,7,7,7,8,8,8,8,8,8,8,8,8,8,8,8,8,8,8,8,8,8,8,8,8,8,8,8,8,8,8,8,8,8,8,8,8,8,8,8,8,8,8,8,8,8,8,8,8,8,8,8,8,8,8,8,8,8,8,8,8,8,8,8,8,8,8,8,8,8,8,8,8,8,8,8,8,8,8,8,8,8,8,8,8,8,8,8,8,8,8,8,8,8,8,8,8,8,8,8,8,8,8,8,8,8,8,8,8,8,8,8,8,8,8,8,8,8,8,8,8,8,8,8,8,8,8,8,8,8,8,8]
def yn(N:Nat)(x:Int):Option Int:=(((if(x:Int)≥65536 then some ((fL .u32 x 16),16) else some (x,0)):Option (Int×Int))).bind λss=>match ss with
  |(x2,n3)=>(((if(x2:Int)≥256 then some ((fL .u32 x2 8),(iw (n3+8))) else some (x2,n3)):Option (Int×Int))).bind λss=>match ss with
    |(a,b)=>(idx sK (uw8 a)).bind λc=>some (iw (b+(iw (UInt8.toNat c:Int))))
def y9(N:Nat)(x:Int):Option Int:=(yn N x).bind λr1=>some (iw (32-r1))
def BO(N:Nat)(n:Int)(pa_hi:Int)(pa_lo:Int)(pb:(List Int)):((List Int)×Int×Int×Int)->Option (aJ ((List Int)×Int×Int×Int) ((List Int)×Int))
 |(b,c,d,a)=>(if(a:Int)<(pa_hi-pa_lo)then (digit N pb a).bind λe=>(lP (0<=a/\a<pa_hi-pa_lo)).bind λ_=>(idx b (pa_lo+a)).bind λf=>(lP (0<=a/\a<pa_hi-pa_lo)).bind λ_=>(idx b (pa_lo+a)).bind λi=>(dM b (pa_lo+a) (eu (uw ((uw ((uw f)-(qP .u64 (uw (c+(uw (n*e)))) 4294967295)))-d)))).bind λg=>some (aJ.next (g,(fL .u64 (uw (c+(uw (n*e)))) 32),(fL .u64 (uw ((uw ((uw f)-(qP .u64 (uw (c+(uw (n*e)))) 4294967295)))-d)) 63),(iw (a+1)))) else some (aJ.done (b,d)))
def Ci(N:Nat)(pa:(List Int))(pa_lo:Int)(pa_hi:Int)(pb:(List Int))(n:Int):Option (Bool×(List Int)):=(bS (BO N n pa_hi pa_lo pb) N (pa,0,0,0)).bind λss=>match ss with
  |(a,b)=>some ((decide ((b:Int)≠0)),a)
def AV(N:Nat)(b:(List Int))(d:(List Int))(f:(List Int))(g:Int):(Int×Int)->Option (aJ (Int×Int) Int)
 |(a,c)=>(((if(a:Int)>4294967295 then some true else (idx d (iw ((List.length b:Int)-2))).bind λi=>(idx f (iw ((iw (g+(List.length b:Int)))-2))).bind λj=>some (decide (((uw (a*(uw i))):Int)>(j3 .u64 (jx .u64 c 32) (uw j))))):Option Bool)).bind λss=>match ss with
   |k=>(if k=true then (idx d (iw ((List.length b:Int)-1))).bind λe=>(if((uw (c+(uw e))):Int)>4294967295 then some (aJ.done (uw (a-1))) else some (aJ.next ((uw (a-1)),(uw (c+(uw e)))))) else some (aJ.done a))
def zN(N:Nat)(e:(List Int))(c:Int):((List Int)×Int×Int)->Option (aJ ((List Int)×Int×Int) ((List Int)×Int))
 |(b,d,a)=>(if(a:Int)<(List.length e:Int)then (idx b (iw (c+a))).bind λf=>(idx e a).bind λg=>(idx b (iw (c+a))).bind λj=>(dM b (iw (c+a)) (eu (uw (d+(uw ((uw f)+(uw g))))))).bind λi=>some (aJ.next (i,(fL .u64 (uw (d+(uw ((uw f)+(uw g))))) 32),(iw (a+1)))) else some (aJ.done (b,d)))
def AZ(N:Nat)(b:(List Int))(d:(List Int)):((List Int)×(List Int)×Int)->Option (aJ ((List Int)×(List Int)×Int) ((List Int)×(List Int)))
 |(c,e,a)=>(if(a:Int)≥0 then (idx c (iw (a+(List.length b:Int)))).bind λf=>(idx c (iw ((iw (a+(List.length b:Int)))-1))).bind λg=>(idx d (iw ((List.length b:Int)-1))).bind λm=>(sdiv .u64 (j3 .u64 (jx .u64 (uw f) 32) (uw g)) (uw m)).bind λn=>(idx d (iw ((List.length b:Int)-1))).bind λl=>(srem (j3 .u64 (jx .u64 (uw f) 32) (uw g)) (uw l)).bind λa0=>(bS (AV N b d c a) N (n,(Int.tmod (j3 .u64 (jx .u64 (uw f) 32) (uw g)) (uw l)))).bind λss=>match ss with
    |i=>(ov c a (iw ((iw (a+(List.length b:Int)))+1))).bind λ_=>(Ci N c a (iw ((iw (a+(List.length b:Int)))+1)) d i).bind λj=>(((if j.1=true then (bS (zN N d a) N (j.2,0,0)).bind λss=>match ss with
       |(k,o)=>(idx k (iw (a+(List.length b:Int)))).bind λp=>(idx k (iw (a+(List.length b:Int)))).bind λa1=>(dM k (iw (a+(List.length b:Int))) (eu (p+(eu o)))).bind λs=>some (s,(uw (i-1))) else some (j.2,i)):Option ((List Int)×Int))).bind λss=>match ss with
      |(u,v)=>(idx e a).bind λa2=>(dM e a (eu v)).bind λy=>some (aJ.next (u,y,(iw (a-1)))) else some (aJ.done (c,e)))
def Bq(N:Nat)(c:Int)(d:(List Int))(e:(List Int)):((List Int)×Int)->Option (aJ ((List Int)×Int) (List Int))
 |(b,a)=>(if(a:Int)<(List.length e:Int)then (idx d (iw (a+1))).bind λf=>(idx d a).bind λg=>(lP (¬((uw c):Int)<0)).bind λ_=>(idx b a).bind λj=>(dM b a (eu (fL .u64 (j3 .u64 (jx .u64 (uw f) 32) (uw g)) (uw c)))).bind λi=>some (aJ.next (i,(iw (a+1)))) else some (aJ.done b))
def vW(N:Nat)(a:(List Int))(b:(List Int)):Option ((List Int)×(List Int)):=(qZ N a b).bind λr1=>(if(r1:Int)<0 then (l9 N a).bind λr9=>some (([]:(List Int)),r9) else (if((List.length b:Int):Int)=1 then (idx b 0).bind λi=>(uZ N a i).bind λd=>(l9 N d.1).bind λj=>(l9 N [d.2]).bind λk=>some (j,k) else (idx b (iw ((List.length b:Int)-1))).bind λl=>(y9 N l).bind λc=>(vT N a (uw c)).bind λe=>(vT N b (uw c)).bind λm=>(cut m 0 (List.length b:Int)).bind λn=>(gF (α:=Int) 4 0 (iw ((List.length e:Int)-(List.length b:Int)))).bind λf=>(bS (AZ N b n) N (e,f,(iw ((List.length f:Int)-1)))).bind λss=>match ss with
    |(o,p)=>(gF (α:=Int) 4 0 (List.length b:Int)).bind λg=>(bS (Bq N c o g) N (g,0)).bind λss=>match ss with
      |s=>(l9 N p).bind λu=>(l9 N s).bind λv=>some (u,v)))
def gj(N:Nat)(n:Int):Option aC:=(((if(n:Int)<0 then some (uw (0-(uw n))) else some (uw n)):Option Int)).bind λss=>match ss with
  |u8=>(kp N (decide ((n:Int)<0)) [(eu u8),(eu (fL .u64 u8 32))]).bind λa=>some a
def lQ(N:Nat)(x:aC):Option aC:=(kp N x.bM x.aQ).bind λa=>some a
def gV(N:Nat)(x:aC):Option Int:=(lQ N x).bind λr6=>(if((List.length r6.aQ:Int):Int)=0 then some 0 else (if r6.bM=true then some (-1) else some 1))
def iY(N:Nat)(a:aC)(b:aC):Option Int:=(lQ N a).bind λc=>(lQ N b).bind λd=>(((if(!(c.bM==d.bM))=true then some c.bM else some false):Option Bool)).bind λss=>match ss with
  |e=>(if e=true then some (-1) else (if(!(c.bM==d.bM))=true then some 1 else (if c.bM=true then (qZ N d.aQ c.aQ).bind λf=>some f else (qZ N c.aQ d.aQ).bind λg=>some g)))
def jA(N:Nat)(x:aC):Option aC:=(kp N (!x.bM) x.aQ).bind λa=>some a
def js(N:Nat)(a:aC)(b:aC):Option aC:=(lQ N a).bind λc=>(lQ N b).bind λd=>(if(c.bM==d.bM)=true then (wb N c.aQ d.aQ).bind λe=>(kp N c.bM e).bind λf=>some f else (qZ N c.aQ d.aQ).bind λg=>(if(g:Int)<0 then (tv N d.aQ c.aQ).bind λi=>(kp N d.bM i).bind λj=>some j else (tv N c.aQ d.aQ).bind λk=>(kp N c.bM k).bind λl=>some l))
def jk(N:Nat)(a:aC)(b:aC):Option aC:=(jA N b).bind λc=>(js N a c).bind λd=>some d
def kB(N:Nat)(a:aC)(b:aC):Option aC:=(yQ N a.aQ b.aQ).bind λc=>(kp N (!(a.bM==b.bM)) c).bind λd=>some d
def kS(N:Nat)(a:aC)(b:aC):Option (aC×aC×Bool):=(lQ N a).bind λe=>(lQ N b).bind λd=>(if((List.length d.aQ:Int):Int)=0 then some ((aC.mk false []),(aC.mk false []),false) else (vW N e.aQ d.aQ).bind λc=>(if(!(e.bM==d.bM))=true then (((if((List.length c.2:Int):Int)>0 then (wb N c.1 [1]).bind λf=>(tv N d.aQ c.2).bind λg=>some (f,g) else some (c.1,c.2)):Option ((List Int)×(List Int)))).bind λss=>match ss with
    |(i,j)=>(kp N true i).bind λk=>(kp N d.bM j).bind λl=>some (k,l,true) else (kp N false c.1).bind λm=>(kp N d.bM c.2).bind λn=>some (m,n,true)))
def DG(N:Nat):((List Int)×(List Int))->Option (aJ ((List Int)×(List Int)) (List Int))
 |(b,a)=>(if((List.length a:Int):Int)>0 then (vW N b a).bind λc=>some (aJ.next (a,c.2)) else some (aJ.done b))
def uE(N:Nat)(a:aC)(b:aC):Option aC:=(l9 N a.aQ).bind λc=>(l9 N b.aQ).bind λd=>(bS (DG N) N (c,d)).bind λss=>match ss with
  |e=>(kp N false e).bind λf=>some f
def EW(N:Nat):((List (List UInt8))×(List Int))->Option (aJ ((List (List UInt8))×(List Int)) (List (List UInt8)))
 |(b,c)=>(if((List.length c:Int):Int)>0 then (uZ N c 1000000000).bind λd=>(l9 N d.1).bind λe=>(yz N (uw d.2) 10).bind λa=>(((if((List.length e:Int):Int)>0 then (xg N ([48]:List UInt8) (iw (9-(List.length a:Int)))).bind λf=>(lP ((List.length f:Int)+List.length a<=9223372036854775807)).bind λ_=>some (f++a) else some a):Option (List UInt8))).bind λss=>match ss with
    |g=>(cZ 16 b [g]).bind λi=>some (aJ.next (i,e)) else some (aJ.done b))
def wB(N:Nat)(x:aC):Option (List UInt8):=(lQ N x).bind λr6=>(if((List.length r6.aQ:Int):Int)=0 then some ([48]:List UInt8) else (bS (EW N) N (([]:(List (List UInt8))),r6.aQ)).bind λss=>match ss with
   |a=>(((if r6.bM=true then (cZ 16 a [([45]:List UInt8)]).bind λb=>some b else some a):Option (List (List UInt8)))).bind λss=>match ss with
     |c=>(ze N c).bind λd=>(rG N d ([]:List UInt8)).bind λe=>some e)
open Go Go.X
abbrev aE:Int:=4294967296
theorem nF:(1:Int)<aE:=by decide
theorem QZ{s:List Int}(hl:s.length<=35184372088832):Tm (λN=>y7 N s) (λr=>r=s):=by
 unfold y7;exact aL (eb (by simp only[dZ];omega) (by decide)) (aW rfl)
theorem qg{d:List Int}(hd:bF aE d)(hl:d.length<=35184372088832):Tm (λN=>l9 N d) (λr=>Dg aE r (val aE d)/\r.length<=d.length):=by
 unfold l9;refine Tm.bind (Q:=λn:Int=>∃k:Nat,n=k/\k<=d.length/\(∀j,(hj:j<d.length)->k<=j->d[j]=0)/\(k=0\/∃hk:k-1<d.length,d[k-1]≠0))
  (Tm.loop (λn:Int=>∃k:Nat,n=k/\k<=d.length/\∀j,(hj:j<d.length)->k<=j->d[j]=0) (λn=>n.toNat) ⟨d.length,rfl,bO _,λj h1 h2=>bV h1 (by omega)⟩ ?_) ?_
 . rintro _ ⟨k,rfl,hk,h0⟩;dsimp only[Ea];rcases gQ k with rfl|hk0
   . refine Tm.bind (Q:=(·=false)) (cD (by omega) (aW rfl)) ?_;rintro _ rfl;exact cD (by simp) (aW ⟨0,rfl,hk,h0,.inl rfl⟩)
   . refine Tm.bind (Q:=(·=decide (d[k-1]=0))) (cR (by omega) (aL (gW (n:=k-1) (by rw[bL]<;>omega) (by omega)) (aW rfl))) ?_;rintro _ rfl;by_cases h:d[k-1]=0
     . refine cR (by simpa using h) (aW ⟨⟨k-1,by rw[bL]<;>omega,by omega,λj h1 h2=>?_⟩,?_⟩)
       . rcases Nat.eq_or_lt_of_le h2 with rfl|h3
         . exact h
         . exact h0 j h1 (by omega)
       . show(iw ((k:Int)-1)).toNat<((k:Int)).toNat;rw[bL]<;>omega
     . exact cD (by simpa using h) (aW ⟨k,rfl,hk,h0,.inr ⟨by omega,h⟩⟩)
 . rintro _ ⟨k,rfl,hk,h0,h1⟩;refine aL (tR (m:=0) (n:=k) rfl rfl (by omega) hk) ?_;refine Tm.bind (QZ (by simp;omega)) ?_;rintro _ rfl;refine aW ⟨by simpa using E3 hk hd h0 h1,by simp;omega⟩
def bv(x:aC):Int:=if x.bM=true then-val aE x.aQ else val aE x.aQ
structure Is (x:aC)(v:Int):Prop where
 dg:Dg aE x.aQ v.natAbs
 neg:x.bM=decide (v<0)
theorem Is.bv{x:aC}{v:Int}(h:Is x v):bv x=v:=by
 unfold D.bv;rw[h.neg,h.dg.val];by_cases hv:v<0
 . simp[hv];omega
 . simp[hv];omega
theorem Is.uniq{x y:aC}{v:Int}(h:Is x v)(h':Is y v):x=y:=by
 have h1:=h.dg.uniq nF h'.dg;have h2:=h.neg.trans h'.neg.symm;cases x;cases y;simp_all
theorem mE{neg:Bool}{d:List Int}(hd:bF aE d)(hl:d.length<=35184372088832):Tm (λN=>kp N neg d) (λr=>Is r (if neg=true then-val aE d else val aE d)/\r.aQ.length<=d.length):=by
 unfold kp;refine Tm.bind (qg hd hl) ?_;rintro r ⟨hr,hl'⟩;have h0:=hr.xR (by decide);refine bA (λh=>aW ?_) (λh=>aW ?_)
 . have he:r=[]:=mU.1 (by omega);have hv:=(hr.zero (by decide)).1 he;refine⟨⟨?_,?_⟩,by simp⟩
   . simp only[hv];simp;exact Dg.nil
   . simp[hv]
 . have he:r≠[]:=λe=>h (by simp[e]);have hv:val aE d≠0:=λe=>he ((hr.zero (by decide)).2 e);refine⟨⟨?_,?_⟩,hl'⟩
   . cases neg<;>simp<;>rw[show((val aE d).natAbs:Int)=val aE d by omega]<;>exact hr
   . cases neg<;>simp<;>omega
theorem pG{x:aC}(hd:bF aE x.aQ)(hl:x.aQ.length<=35184372088832):Tm (λN=>lQ N x) (λr=>Is r (bv x)/\r.aQ.length<=x.aQ.length):=by
 unfold lQ;exact Tm.bind (mE hd hl) (λr h=>aW h)
theorem Ch{x:aC}(hd:bF aE x.aQ)(hl:x.aQ.length<=35184372088832):Tm (λN=>jA N x) (λr=>Is r (-bv x)/\r.aQ.length<=x.aQ.length):=by
 unfold jA;refine Tm.bind (mE hd hl) (λr h=>aW ?_);refine⟨?_,h.2⟩;have:=h.1;unfold bv;cases hx:x.bM<;>rw[hx]at this<;>simpa using this
theorem QS{x:aC}(hd:bF aE x.aQ)(hl:x.aQ.length<=35184372088832):Tm (λN=>gV N x) (λr=>r=bT (bv x) 0):=by
 unfold gV;refine Tm.bind (pG hd hl) ?_;rintro r ⟨hr,-⟩;have hz:=hr.dg.zero (by decide);refine bA (λh=>aW ?_) (λh=>?_)
 . have:=hz.1 (mU.1 (by omega));unfold bT;rw[aY (by omega),aY (by omega)]
 . have:bv x≠0:=λe=>h (by rw[hz.2 (by omega)];rfl);refine bA (λh'=>aW ?_) (λh'=>aW ?_)
   . have:=hr.neg.symm.trans h';simp at this;unfold bT;rw[bD (by omega)]
   . have:¬bv x<0:=λe=>h' (by rw[hr.neg];simpa using e);unfold bT;rw[aY (by omega),bD (by omega)]
theorem Cv{n:Int}(h1:-9223372036854775808<=n)(h2:n<=9223372036854775807):Tm (λN=>gj N n) (λr=>Is r n/\r.aQ.length<=2):=by
 unfold gj;refine Tm.bind (Q:=(·=(n.natAbs:Int))) (bA (λh=>aW ?_) (λh=>aW ?_)) ?_
 . rw[gk,gk];omega
 . rw[gk];omega
 rintro _ rfl;have hs:fL .u64 (n.natAbs:Int) 32=(n.natAbs:Int)/4294967296:=by
  unfold fL;rw[show((2:Int)^(min (32:Int).toNat IntKind.u64.bits))=4294967296 from rfl,jQ _ (by decide)]
 refine Tm.bind (mE (d:=[eu (n.natAbs:Int),eu (fL .u64 (n.natAbs:Int) 32)]) ?_ (by simp)) (λr h=>aW ?_)
 . rw[hs,gN,gN];exact bF.cons (B:=4294967296) (by omega) (bF.cons (by omega) bF.nil)
 . refine⟨?_,h.2⟩;have hv:val aE [eu (n.natAbs:Int),eu (fL .u64 (n.natAbs:Int) 32)]=n.natAbs:=by
    rw[hs,gN,gN];simp only[val,aE];omega
   have h:=h.1;rw[hv]at h;by_cases hn:n<0
   . simp only[hn,decide_true,if_true]at h;rwa[show-(n.natAbs:Int)=n by omega]at h
   . simp only[hn,decide_false,lr,if_false]at h;rwa[show(n.natAbs:Int)=n by omega]at h
theorem UC{n:Int}:xM (imax n (-1)) 1=bT n 0:=by
 unfold xM imax bT;by_cases h:-1>n<;>simp only[h,if_true,if_false]<;>(repeat' split)<;>omega
theorem Ak{a b:List Int}(ha:bF aE a)(hb:bF aE b)(na:gh a)(nb:gh b)(hl:a.length<=35184372088832)(hl':b.length<=35184372088832):Tm (λN=>qZ N a b) (λr=>r=bT (val aE a) (val aE b)):=by
 unfold qZ;refine bA (λh=>?_) (λh=>?_)
 . unfold Bk;refine aL rfl (aW ?_);rw[bL (by omega) (by omega),UC];unfold bT;rcases cH a.length b.length with h'|h'
   . have:=nq nF ha hb nb h';rw[bD this];(repeat' split)<;>omega
   . have:=nq nF hb ha na (by omega);rw[aY (by omega),bD this];(repeat' split)<;>omega
 . have hle:a.length=b.length:=by omega
   refine Tm.bind (Q:=λr:Sum Unit Int=>(match r with|.inl _=>0|.inr z=>z)=bT (val aE a) (val aE b))
    (Tm.loop (λi:Int=>∃n:Nat,i=(n:Int)-1/\n<=a.length/\a.drop n=b.drop n) (λi=>(i+1).toNat) ⟨a.length,by rw[bL]<;>omega,bO _,by rw[zm (bO _),zm (by omega)]⟩ ?_) ?_
   . rintro _ ⟨n,rfl,hn,hd⟩;dsimp only[Fy];refine bA (λh1=>?_) (λh1=>?_)
     . have hna:n-1<a.length:=by omega
       have hnb:n-1<b.length:=by omega
       refine aL (gW (n:=n-1) (by omega) hna) (aL (gW (n:=n-1) (by omega) hnb) (bA (λh2=>?_) (λh2=>?_)))
       . have:=zX nF ha hb hle hna (by rw[show n-1+1=n by omega];exact hd) h2;refine aW ?_;show(-1:Int)=_;unfold bT;rw[bD this]
       . refine aL (gW (n:=n-1) (by omega) hna) (aL (gW (n:=n-1) (by omega) hnb) (bA (λh3=>?_) (λh3=>?_)))
         . have:=zX nF hb ha hle.symm hnb (by rw[show n-1+1=n by omega];exact hd.symm) h3;refine aW ?_;show(1:Int)=_;unfold bT;rw[aY (by omega),bD this]
         . refine aW ⟨⟨n-1,by rw[bL]<;>omega,by omega,?_⟩,?_⟩
           . rw[fJ hna,fJ hnb,show n-1+1=n by omega,hd,show a[n-1]=b[n-1] by omega]
           . show(iw ((n:Int)-1-1)+1).toNat<((n:Int)-1+1).toNat;rw[bL]<;>omega
     . have:n=0:=by omega
       subst this;refine aW ?_;show(0:Int)=_;have:a=b:=by simpa using hd
       rw[this];unfold bT;rw[aY (by omega),aY (by omega)]
   . rintro(_|z) h<;>exact aW h
theorem AX{d:List Int}(hd:bF aE d){i:Nat}:Tm (λN=>digit N d (i:Int)) (λr=>r=d.getD i 0):=by
 unfold digit;have h0:=hd.getD (by decide) i;refine bA (λh=>?_) (λh=>aW ?_)
 . refine aL (dA (by omega)) (aW ?_);rw[cN,cy (by omega)]at*;simp only[CU,aE]at*;rw[gk];omega
 . rw[cN,gr (by omega)];rfl
theorem xt{x:Int}:fL .u64 x 32=x/4294967296:=by
 unfold fL;rw[show((2:Int)^(min (32:Int).toNat IntKind.u64.bits))=4294967296 from rfl,jQ _ (by decide)]
theorem IA{x:Int}:fL .u64 x 63=x/9223372036854775808:=by
 unfold fL;rw[show((2:Int)^(min (63:Int).toNat IntKind.u64.bits))=9223372036854775808 from rfl,jQ _ (by decide)]
theorem take_set{l:List Int}{n:Nat}{y:Int}(h:n<l.length):val aE ((l.set n y).take (n+1))=val aE (l.take n)+aE^n*y:=by
 rw[fR,zu (bO n),cN,zl h];rfl
theorem Jo{a b:List Int}(ha:bF aE a)(hb:bF aE b)(hl:a.length<=17592186044416)(hl':b.length<=17592186044416):Tm (λN=>wb N a b) (λr=>bF aE r/\val aE r=val aE a+val aE b/\r.length=max a.length b.length+1):=by
 unfold wb;have hi:iw (imax (a.length:Int) (b.length:Int)+1)=((max a.length b.length+1:Nat):Int):=by
  unfold imax;split<;>rw[bL]<;>omega
 refine aL (iy hi (by omega) (by decide)) ?_;generalize hL:max a.length b.length+1=L;refine Tm.bind (Q:=λr=>bF aE r/\val aE r=val aE a+val aE b/\r.length=L)
  (Tm.loop (λs:List Int×Int×Int=>∃n:Nat,s.2.2=n/\n<=L/\s.1.length=L/\bF aE s.1/\0<=s.2.1/\s.2.1<=1/\val aE (s.1.take n)+aE^n*s.2.1=val aE (a.take n)+val aE (b.take n)) (λs=>L-s.2.2.toNat)
   ⟨0,rfl,fV _,by simp,bF.dH (by decide),by simp,by simp,by simp[val]⟩ ?_) (λr h=>aW h)
 rintro⟨out,carry,i⟩ ⟨n,rfl,hn,ho,hB,h0,h1,hv⟩;dsimp only[E2]at*;simp only[lE];refine bA (λh=>?_) (λh=>aW ?_)
 . refine Tm.bind (AX ha) ?_;rintro x rfl;refine Tm.bind (AX hb) ?_;rintro y rfl;refine aL (dA (by omega)) ?_;refine aL (eE rfl (by omega)) (aW ?_);have hx:=ha.getD (by decide) n;have hy:=hb.getD (by decide) n;generalize ex:a.getD n 0=x at*;generalize ey:b.getD n 0=y at*;have e1:uw (carry+uw (x+y))=carry+x+y:=by
    simp only[aE]at*;rw[gk,gk];omega
   rw[e1,xt,gN];refine⟨⟨n+1,?_,by omega,by simp;omega,hB.set (by simp only[aE];omega),?_,?_,?_⟩,?_⟩
   . show iw ((n:Int)+1)=_;rw[bL]<;>omega
   . show 0<=(carry+x+y)/4294967296;omega
   . show(carry+x+y)/4294967296<=1;simp only[aE]at*;omega
   . show val aE ((out.set n ((carry+x+y)%4294967296)).take (n+1))+aE^(n+1)*((carry+x+y)/4294967296)=_;rw[take_set (by omega),fR,fR,ex,ey,fu];have:=j8 (carry+x+y) 4294967296;have hw:aE=4294967296:=rfl;grind
   . show L-(iw ((n:Int)+1)).toNat<L-((n:Int)).toNat;rw[bL]<;>omega
 . have hnL:n=L:=by omega
   subst hnL;rw[fC (by omega),fC (by omega),fC (by omega)]at hv;refine⟨hB,?_,ho⟩;show val aE out=_;have l1:=iG (by decide) ha;have l2:=iG (by decide) hb;have l3:=gm (by decide) hB;have p1:=kO (B:=aE) (by decide) (show a.length<=n-1 by omega);have p2:=kO (B:=aE) (by decide) (show b.length<=n-1 by omega);have p3:aE^n=aE^(n-1)*aE:=by rw[<-fu];congr 1;omega
   have p4:=kI (B:=aE) (by decide) (n-1);have hc:carry=0\/carry=1:=by omega
   rcases hc with rfl|rfl
   . omega
   . simp only[aE]at*;omega
theorem Es{a b:List Int}(ha:bF aE a)(hb:bF aE b)(hl:a.length<=17592186044416)(hl':b.length<=a.length)(hv:val aE b<=val aE a):Tm (λN=>tv N a b) (λr=>bF aE r/\val aE r=val aE a-val aE b/\r.length=a.length):=by
 unfold tv;refine aL (iy rfl (by omega) (by decide)) ?_;generalize hL:a.length=L;refine Tm.bind (Q:=λr=>bF aE r/\val aE r=val aE a-val aE b/\r.length=L)
  (Tm.loop (λs:List Int×Int×Int=>∃n:Nat,s.2.2=n/\n<=L/\s.1.length=L/\bF aE s.1/\0<=s.2.1/\s.2.1<=1/\val aE (s.1.take n)=val aE (a.take n)-val aE (b.take n)+aE^n*s.2.1) (λs=>L-s.2.2.toNat)
   ⟨0,rfl,fV _,by simp[hL],bF.dH (by decide),by simp,by simp,by simp[val]⟩ ?_) (λr h=>aW h)
 rintro⟨out,borrow,i⟩ ⟨n,rfl,hn,ho,hB,h0,h1,hv'⟩;dsimp only[EK]at*;refine bA (λh=>?_) (λh=>aW ?_)
 . refine aL (dA (by omega)) ?_;refine Tm.bind (AX hb) ?_;rintro y rfl;refine aL (dA (by omega)) ?_;refine aL (eE rfl (by omega)) (aW ?_);have hx:=ha.get (n:=n) (by omega);have hy:=hb.getD (by decide) n;have ex:a.getD n 0=a[n]'(by omega):=by rw[cN,cy (by omega)];rfl
   generalize a[n]'(by omega)=x at*;generalize ey:b.getD n 0=y at*;have e1:uw (uw (uw x-y)-borrow)=(x-y-borrow)%18446744073709551616:=by
    simp only[aE]at*;rw[gk,gk,gk];omega
   rw[e1,IA,gN];simp only[aE]at hx hy;refine⟨⟨n+1,?_,by omega,by simp;omega,hB.set (by simp only[aE];omega),?_,?_,?_⟩,?_⟩
   . show iw ((n:Int)+1)=_;rw[bL]<;>omega
   . show 0<=(x-y-borrow)%18446744073709551616/9223372036854775808;omega
   . show(x-y-borrow)%18446744073709551616/9223372036854775808<=1;omega
   . show val aE ((out.set n ((x-y-borrow)%18446744073709551616%4294967296)).take (n+1))=_+aE^(n+1)*((x-y-borrow)%18446744073709551616/9223372036854775808);rw[take_set (by omega),fR,fR,ex,ey,fu];have hd:(x-y-borrow)%18446744073709551616%4294967296=x-y-borrow+aE*((x-y-borrow)%18446744073709551616/9223372036854775808):=by
      simp only[aE];omega
     rw[hd];grind
   . show L-(iw ((n:Int)+1)).toNat<L-((n:Int)).toNat;rw[bL]<;>omega
 . have hnL:n=L:=by omega
   subst hnL;rw[fC (by omega),fC (by omega),fC (by omega)]at hv';refine⟨hB,?_,ho⟩;show val aE out=_;have l1:=iG (by decide) hB;rw[ho]at l1;have hc:borrow=0\/borrow=1:=by omega
   rcases hc with rfl|rfl
   . omega
   . simp only[aE]at*;omega
theorem Is.Cy{x:aC}{v:Int}(h:Is x v):val aE x.aQ=if v<0 then-v else v:=by rw[h.dg.val];split<;>omega
theorem LG{a b:aC}(ha:bF aE a.aQ)(hb:bF aE b.aQ)(hl:a.aQ.length<=17592186044416)(hl':b.aQ.length<=17592186044416):
 Tm (λN=>js N a b) (λr=>Is r (bv a+bv b)/\r.aQ.length<=max a.aQ.length b.aQ.length+1):=by
 unfold js;refine Tm.bind (pG ha (by omega)) ?_;rintro x ⟨hx,hxl⟩;refine Tm.bind (pG hb (by omega)) ?_;rintro y ⟨hy,hyl⟩;have vx:=hx.Cy;have vy:=hy.Cy;have n1:=hx.neg;have n2:=hy.neg;refine bA (λh=>?_) (λh=>?_)
 . have hn:x.bM=y.bM:=by simpa using h
   refine Tm.bind (Jo hx.dg.bP hy.dg.bP (by omega) (by omega)) ?_;rintro s ⟨hs,sv,sl⟩;refine Tm.bind (mE hs (by omega)) (λr hr=>aW ⟨?_,by omega⟩);have hr:=hr.1;rw[sv,vx,vy]at hr;by_cases p:bv a<0<;>by_cases q:bv b<0<;>simp only[p,q,decide_true,decide_false]at n1 n2 hn
   . simp only[n1,p,q,if_true]at hr;rwa[show-(-bv a+-bv b)=bv a+bv b by omega]at hr
   . rw[n1,n2]at hn;cases hn
   . rw[n1,n2]at hn;cases hn
   . simpa only[n1,p,q,if_false,lr]using hr
 . have hn:¬x.bM=y.bM:=by simpa using h
   refine Tm.bind (Ak hx.dg.bP hy.dg.bP hx.dg.fm hy.dg.fm (by omega) (by omega)) ?_;rintro c rfl;refine bA (λhc=>?_) (λhc=>?_)
   . have hlt:val aE x.aQ<val aE y.aQ:=by revert hc;unfold bT;split<;>(try split)<;>omega
     have hle:x.aQ.length<=y.aQ.length:=by
      rcases cH y.aQ.length x.aQ.length with h'|h'
      . have:=nq nF hy.dg.bP hx.dg.bP hx.dg.fm h';omega
      . exact h'
     refine Tm.bind (Es hy.dg.bP hx.dg.bP (by omega) hle (by omega)) ?_;rintro s ⟨hs,sv,sl⟩;refine Tm.bind (mE hs (by omega)) (λr hr=>aW ⟨?_,by omega⟩);have hr:=hr.1;rw[sv,vx,vy]at hr;by_cases p:bv a<0<;>by_cases q:bv b<0<;>simp only[p,q,decide_true,decide_false]at n1 n2 hn
     . rw[n1,n2]at hn;exact bV rfl hn
     . simp only[n2,p,q,if_true,if_false,lr]at hr;rwa[show bv b- -bv a=bv a+bv b by omega]at hr
     . simp only[n2,p,q,if_true,if_false]at hr;rwa[show-(-bv b-bv a)=bv a+bv b by omega]at hr
     . rw[n1,n2]at hn;exact bV rfl hn
   . have hge:val aE y.aQ<=val aE x.aQ:=by revert hc;unfold bT;split<;>(try split)<;>omega
     have hle:y.aQ.length<=x.aQ.length:=by
      rcases cH x.aQ.length y.aQ.length with h'|h'
      . have:=nq nF hx.dg.bP hy.dg.bP hy.dg.fm h';omega
      . exact h'
     refine Tm.bind (Es hx.dg.bP hy.dg.bP (by omega) hle hge) ?_;rintro s ⟨hs,sv,sl⟩;refine Tm.bind (mE hs (by omega)) (λr hr=>aW ⟨?_,by omega⟩);have hr:=hr.1;rw[sv,vx,vy]at hr;by_cases p:bv a<0<;>by_cases q:bv b<0<;>simp only[p,q,decide_true,decide_false]at n1 n2 hn
     . rw[n1,n2]at hn;exact bV rfl hn
     . simp only[n1,p,q,if_true,if_false]at hr;rwa[show-(-bv a-bv b)=bv a+bv b by omega]at hr
     . simp only[n1,p,q,if_true,if_false,lr]at hr;rwa[show bv a- -bv b=bv a+bv b by omega]at hr
     . rw[n1,n2]at hn;exact bV rfl hn
theorem UM{a b:aC}(ha:bF aE a.aQ)(hb:bF aE b.aQ)(hl:a.aQ.length<=17592186044416)(hl':b.aQ.length<=17592186044416):
 Tm (λN=>jk N a b) (λr=>Is r (bv a-bv b)/\r.aQ.length<=max a.aQ.length b.aQ.length+1):=by
 unfold jk;refine Tm.bind (Ch hb (by omega)) ?_;rintro y ⟨hy,hyl⟩;refine Tm.bind (LG ha hy.dg.bP (by omega) (by omega)) (λr h=>aW ⟨?_,by omega⟩);have:=h.1;rwa[hy.bv,<-Hu]at this
theorem PW{a b:List Int}(ha:bF aE a)(hb:bF aE b)(hl:a.length<=17592186044416)(hl':b.length<=17592186044416):
 Tm (λN=>yQ N a b) (λr=>bF aE r/\val aE r=val aE a*val aE b/\r.length=a.length+b.length):=by
 unfold yQ;refine aL (iy (n:=a.length+b.length) (by rw[bL]<;>omega) (by omega) (by decide)) ?_;refine Tm.bind (Q:=λr=>bF aE r/\val aE r=val aE a*val aE b/\r.length=a.length+b.length)
  (Tm.loop (λs:List Int×Int=>∃n:Nat,s.2=n/\n<=a.length/\s.1.length=a.length+b.length/\bF aE s.1/\val aE s.1=val aE (a.take n)*val aE b/\∀k,n+b.length<=k->(hk:k<s.1.length)->s.1[k]=0) (λs=>a.length-s.2.toNat)
   ⟨0,rfl,fV _,by simp,bF.dH (by decide),by simp[val,Ck],by simp⟩ ?_) (λr h=>aW h)
 rintro⟨out,i⟩ ⟨n,rfl,hn,ho,hB,hv,hz⟩;dsimp only[DJ]at*;refine bA (λh=>?_) (λh=>aW ?_)
 . refine aL (dA (by omega)) ?_;have hx:=ha.get (n:=n) (by omega);have ex:a.getD n 0=a[n]'(by omega):=by rw[cN,cy (by omega)];rfl
   generalize a[n]'(by omega)=x at*;refine Tm.bind (Q:=λr:List Int×Int=>bF aE r.1/\r.1.length=a.length+b.length/\0<=r.2/\r.2<aE/\val aE r.1+aE^(n+b.length)*r.2=val aE (a.take n)*val aE b+aE^n*x*val aE b/\∀k,n+b.length<=k->(hk:k<r.1.length)->r.1[k]=0)
    (Tm.loop (λs:List Int×Int×Int=>∃m:Nat,s.2.2=m/\m<=b.length/\s.1.length=a.length+b.length/\bF aE s.1/\0<=s.2.1/\s.2.1<aE/\val aE s.1+aE^(n+m)*s.2.1=val aE (a.take n)*val aE b+aE^n*x*val aE (b.take m)/\∀k,n+b.length<=k->(hk:k<s.1.length)->s.1[k]=0) (λs=>b.length-s.2.2.toNat)
     ⟨0,rfl,fV _,ho,hB,by simp,(by decide:(0:Int)<aE),by simpa[val]using hv,hz⟩ ?_) ?_
   . rintro⟨out1,carry,j⟩ ⟨m,rfl,hm,ho1,hB1,c0,c1,hv1,hz1⟩;dsimp only[Dp]at*;refine bA (λh1=>?_) (λh1=>aW ?_)
     . refine aL (dA (by omega)) ?_;have hi:iw ((n:Int)+(m:Int))=((n+m:Nat):Int):=by rw[bL]<;>omega
       have hy:=hb.get (n:=m) (by omega);have ey:b.getD m 0=b[m]'(by omega):=by rw[cN,cy (by omega)];rfl
       generalize b[m]'(by omega)=y at*;refine aL (gW (n:=n+m) hi (by omega)) (aL (gW (n:=n+m) hi (by omega)) (aL (eE (n:=n+m) hi (by omega)) (aW ?_)));have hz':=hB1.get (n:=n+m) (by omega);have hvs:=λy'=>wc (B:=aE) (l:=out1) (n:=n+m) (y:=y') (by omega);generalize out1[n+m]'(by omega)=z at*;have hxy:0<=x*y/\x*y<=4294967295*4294967295:=by
        refine⟨eW hx.1 hy.1,?_⟩;exact mW (by simp only[aE]at hx;omega) (by simp only[aE]at hy;omega) hy.1 (by decide)
       generalize exy:x*y=xy at*;have e1:uw (carry+uw (uw (uw x*uw y)+uw z))=carry+xy+z:=by
        simp only[aE]at*;rw[show uw x=x by rw[gk];omega,show uw y=y by rw[gk];omega,exy,gk,gk,gk,gk];omega
       rw[e1,xt,gN];simp only[aE]at hz' c1;refine⟨⟨m+1,?_,by omega,by simp;omega,hB1.set (by simp only[aE];omega),?_,?_,?_,?_⟩,?_⟩
       . show iw ((m:Int)+1)=_;rw[bL]<;>omega
       . show 0<=(carry+xy+z)/4294967296;omega
       . show(carry+xy+z)/4294967296<aE;simp only[aE];omega
       . show val aE (out1.set (n+m) ((carry+xy+z)%4294967296))+aE^(n+(m+1))*((carry+xy+z)/4294967296)=_;rw[hvs,fR,ey,<-qm,fu];have:=j8 (carry+xy+z) 4294967296;have hw:aE=4294967296:=rfl;have hp:aE^(n+m)=aE^n*aE^m:=jO ..;grind
       . intro k hk hk';rw[Hw (by omega)];exact hz1 k hk (by simpa using hk')
       . show b.length-(iw ((m:Int)+1)).toNat<b.length-((m:Int)).toNat;rw[bL]<;>omega
     . have hmL:m=b.length:=by omega
       subst hmL;rw[fC (bO _)]at hv1;exact⟨hB1,ho1,c0,c1,hv1,hz1⟩
   . rintro⟨out2,carry⟩ ⟨hB2,ho2,c0,c1,hv2,hz2⟩;dsimp only at*;have hi:iw ((n:Int)+(b.length:Int))=((n+b.length:Nat):Int):=by rw[bL]<;>omega
     refine aL (gW hi (by omega)) (aL (eE hi (by omega)) (aW ?_));have e1:eu carry=carry:=by rw[gN];simp only[aE]at c1;omega
     rw[e1];refine⟨⟨n+1,?_,by omega,by simp;omega,hB2.set ⟨c0,c1⟩,?_,?_⟩,?_⟩
     . show iw ((n:Int)+1)=_;rw[bL]<;>omega
     . show val aE (out2.set (n+b.length) carry)=_;rw[wc (by omega),hz2 _ (bO _) (by omega),fR,ex];grind
     . intro k hk hk';rw[Hw (by omega)];exact hz2 k (by omega) (by simpa using hk')
     . show a.length-(iw ((n:Int)+1)).toNat<a.length-((n:Int)).toNat;rw[bL]<;>omega
 . have hnL:n=a.length:=by omega
   subst hnL;rw[fC (bO _)]at hv;exact⟨hB,hv,ho⟩
theorem JL{a b:aC}:bv a*bv b=if(!(a.bM==b.bM))=true then-(val aE a.aQ*val aE b.aQ)else val aE a.aQ*val aE b.aQ:=by
 unfold bv;cases a.bM<;>cases b.bM<;>simp[lH,lJ]
theorem Uk{a b:aC}(ha:bF aE a.aQ)(hb:bF aE b.aQ)(hl:a.aQ.length<=8796093022208)(hl':b.aQ.length<=8796093022208):
 Tm (λN=>kB N a b) (λr=>Is r (bv a*bv b)/\r.aQ.length<=a.aQ.length+b.aQ.length):=by
 unfold kB;refine Tm.bind (PW ha hb (by omega) (by omega)) ?_;rintro s ⟨hs,sv,sl⟩;refine Tm.bind (mE hs (by omega)) (λr h=>aW ⟨?_,by omega⟩);rw[JL,<-sv];exact h.1
theorem R7{a b:aC}(ha:bF aE a.aQ)(hb:bF aE b.aQ)(hl:a.aQ.length<=35184372088832)(hl':b.aQ.length<=35184372088832):Tm (λN=>iY N a b) (λr=>r=bT (bv a) (bv b)):=by
 unfold iY;refine Tm.bind (pG ha hl) ?_;rintro x ⟨hx,hxl⟩;refine Tm.bind (pG hb hl') ?_;rintro y ⟨hy,hyl⟩;have hxv:=hx.dg.val;have hyv:=hy.dg.val;refine Tm.bind (Q:=(·=(x.bM&&!y.bM))) (bA (λh=>aW ?_) (λh=>aW ?_)) ?_
 . revert h;cases x.bM<;>cases y.bM<;>simp
 . revert h;cases x.bM<;>cases y.bM<;>simp
 rintro _ rfl;have c1:=Ak (a:=y.aQ) (b:=x.aQ) hy.dg.bP hx.dg.bP hy.dg.fm hx.dg.fm (by omega) (by omega);have c2:=Ak (a:=x.aQ) (b:=y.aQ) hx.dg.bP hy.dg.bP hx.dg.fm hy.dg.fm (by omega) (by omega);rw[hxv,hyv]at c1 c2;have n1:=hx.neg;have n2:=hy.neg;by_cases p:bv a<0<;>by_cases q:bv b<0
 . simp only[p,q,decide_true]at n1 n2;simp only[n1,n2];refine cD (by simp) (cD (by simp) (cR (by simp) (Tm.bind c1 (λr h=>aW ?_))));rw[h];unfold bT;split<;>split<;>(try split)<;>omega
 . simp only[p,q,decide_true,decide_false]at n1 n2;simp only[n1,n2];refine cR (by simp) (aW ?_);unfold bT;rw[bD (by omega)]
 . simp only[p,q,decide_true,decide_false]at n1 n2;simp only[n1,n2];refine cD (by simp) (cR (by simp) (aW ?_));unfold bT;rw[aY (by omega),bD (by omega)]
 . simp only[p,q,decide_false]at n1 n2;simp only[n1,n2];refine cD (by simp) (cD (by simp) (cD (by simp) (Tm.bind c2 (λr h=>aW ?_))));rw[h];unfold bT;split<;>split<;>(try split)<;>omega
open Go Go.X
abbrev aX:Int:=65536
theorem oh:(1:Int)<aX:=by decide
theorem zM{x:Int}(h:0<=x):Int.tmod x 65536=x%65536:=V0 h
theorem Au{x:Int}(h:0<=x):Int.tdiv x 65536=x/65536:=V1 h
theorem u4{l:List Int}(hd:bF aX l)(hl:l.length<=35184372088832):Tm (λN=>oW N l) (λr=>Dg aX r (val aX l)/\r.length<=l.length):=by
 unfold oW;refine Tm.bind (Tm.loop (λs:List Int=>∃n:Nat,n<=l.length/\s=l.take n/\(∀j,(hj:j<l.length)->n<=j->l[j]=0)) (λs=>s.length) (Q:=λr=>Dg aX r (val aX l)/\r.length<=l.length) ⟨l.length,bO _,by simp,λj h1 h2=>bV h1 (by omega)⟩ ?_) (λr h=>aW h);rintro _ ⟨n,hn,rfl,h0⟩;have hlen:(l.take n).length=n:=by simp;omega
 dsimp only[Ep];rcases gQ n with rfl|hk0
 . refine Tm.bind (Q:=(·=false)) (cD (by simp) (aW rfl)) ?_;rintro _ rfl;exact cD (by simp) (aW ⟨E3 hn hd h0 (.inl rfl),by simp⟩)
 . refine Tm.bind (Q:=(·=decide (l[n-1]=0))) (cR (by omega) (aL (gW (n:=n-1) (by rw[bL]<;>omega) (by omega)) (aW ?_))) ?_
   . rw[List.getElem_take]
   rintro _ rfl;by_cases h:l[n-1]=0
   . refine cR (by simpa using h) (aL (tR (m:=0) (n:=n-1) rfl (by rw[bL]<;>omega) (by omega) (by omega)) (aW ⟨⟨n-1,by omega,?_,λj h1 h2=>?_⟩,?_⟩))
     . simp[NI]
     . rcases Nat.eq_or_lt_of_le h2 with rfl|h3
       . exact h
       . exact h0 j h1 (by omega)
     . simp;omega
   . exact cD (by simpa using h) (aW ⟨E3 hn hd h0 (.inr ⟨by omega,h⟩),by omega⟩)
theorem mL{x:aC}(hd:bF aE x.aQ)(hl:x.aQ.length<=8796093022208):Tm (λN=>kd N x) (λr=>Dg aX r (val aE x.aQ)/\r.length<=2*x.aQ.length):=by
 unfold kd;refine Tm.bind (Tm.loop (λs:List Int×Int=>∃n:Nat,s.2=n/\n<=x.aQ.length/\s.1.length=2*n/\bF aX s.1/\val aX s.1=val aE (x.aQ.take n)) (λs=>x.aQ.length-s.2.toNat) (Q:=λr=>bF aX r/\val aX r=val aE x.aQ/\r.length=2*x.aQ.length) ⟨0,rfl,fV _,rfl,.nil,by simp[val]⟩ ?_) ?_
 . rintro⟨l,i⟩ ⟨n,rfl,hn,ho,hB,hv⟩;dsimp only[D1]at*;refine bA (λh=>?_) (λh=>aW ?_)
   . refine aL (dA (by omega)) (aL (dA (by omega)) ?_);have hx:=hd.get (n:=n) (by omega);have ex:x.aQ.getD n 0=x.aQ[n]'(by omega):=by rw[cN,cy (by omega)];rfl
     generalize x.aQ[n]'(by omega)=y at*;simp only[aE]at hx;rw[zM hx.1,Au hx.1,gN];have e1:iw (y%65536)=y%65536:=by rw[bL]<;>omega
     have e2:iw (y/65536%4294967296)=y/65536:=by rw[bL]<;>omega
     rw[e1,e2];refine aL (eb (by simp only[cJ,dZ];omega) (by decide)) (aW ⟨⟨n+1,by dsimp only;rw[bL]<;>omega,by omega,by simp;omega,hB.append (.cons (B:=65536) (by omega) (.cons (by omega) .nil)),?_⟩,?_⟩)
     . show val aX (l++[y%65536,y/65536])=_;rw[qc,fR,ho,hv,ex,Int.pow_mul];have:val aX [y%65536,y/65536]=y:=by simp only[val,aX];omega
       rw[this];rfl
     . dsimp only;rw[bL]<;>omega
   . have hnL:n=x.aQ.length:=by omega
     subst hnL;rw[fC (bO _)]at hv;exact⟨hB,hv,ho⟩
 . rintro r ⟨h1,h2,h3⟩;exact Tm.bind (u4 h1 (by omega)) (λr' h=>aW ⟨h2▸h.1,by omega⟩)
theorem VS{l:List Int}{d:Int}(h:d≠0):gh (l++[d]):=by simp[gh,h]
theorem pN{neg:Bool}{l:List Int}(hd:bF aX l)(hl:l.length<=17592186044416):Tm (λN=>lT N neg l) (λr=>Is r (if neg=true then-val aX l else val aX l)/\r.aQ.length<=(l.length+1)/2):=by
 unfold lT;refine Tm.bind (u4 hd (by omega)) ?_;rintro t ⟨ht,htl⟩;have h0:=ht.xR (by decide);have hz:=ht.zero (by decide);refine Tm.bind (Q:=(·=(neg&&decide (val aX l≠0)))) (bA (λh=>aW ?_) (λh=>aW ?_)) ?_
 . rw[h];by_cases e:t=[]
   . have:=hz.1 e;simp[e,this]
   . have:val aX l≠0:=λe'=>e (hz.2 e');have:=rQ.2 e;simp_all
 . simp at h;simp[h]
 rintro _ rfl;refine Tm.bind (Tm.loop (λs:List Int×Int=>∃n:Nat,s.2=((2*n:Nat):Int)/\2*n<=t.length+1/\s.1.length=n/\bF aE s.1/\val aE s.1=val aX (t.take (2*n))/\(t.length<=2*n->gh s.1)) (λs=>t.length+2-s.2.toNat) (Q:=λr=>Dg aE r (val aX t)/\r.length<=(t.length+1)/2)
  ⟨0,rfl,by omega,rfl,.nil,by simp[val],λ_=>Nw⟩ ?_) ?_
 . rintro⟨ds,i⟩ ⟨n,rfl,hn,ho,hB,hv,hN⟩;dsimp only[EO]at*;refine bA (λh=>?_) (λh=>aW ?_)
   . refine aL (dA (by omega)) ?_;have hx:=ht.bP.get (n:=2*n) (by omega);have ex:t.getD (2*n) 0=t[2*n]'(by omega):=by rw[cN,cy (by omega)];rfl
     have hlast:t.length=2*n+1->t[2*n]'(by omega)≠0:=λe h'=>ht.fm (by rw[Hq,e,NL,cy (by omega),h']);generalize t[2*n]'(by omega)=x at*;have hi:iw (((2*n:Nat):Int)+1)=((2*n+1:Nat):Int):=by rw[bL]<;>omega
     refine Tm.bind (Q:=λd=>d=x+65536*t.getD (2*n+1) 0/\(t.length<=2*n+2->d≠0)) ?_ ?_
     . refine bA (λh1=>?_) (λh1=>aW ?_)
       . refine aL (gW hi (by omega)) (aW ?_);have hy:=ht.bP.get (n:=2*n+1) (by omega);have ey:t.getD (2*n+1) 0=t[2*n+1]'(by omega):=by rw[cN,cy (by omega)];rfl
         have hlast':t.length=2*n+2->t[2*n+1]'(by omega)≠0:=λe h'=>ht.fm (by rw[Hq,e,show 2*n+2-1=2*n+1 by omega,cy (by omega),h']);rw[ey];generalize t[2*n+1]'(by omega)=y at*;simp only[aX]at hx hy;have e1:eu (eu x+eu (65536*eu y))=x+65536*y:=by
          rw[gN,gN,gN,gN];omega
         rw[e1];exact⟨rfl,λh'=>by have:=hlast' (by omega);omega⟩
       . have ey:t.getD (2*n+1) 0=0:=by rw[cN,gr (by omega)];rfl
         rw[ey];simp only[aX]at hx;have:=hlast (by omega);rw[gN];exact⟨by omega,λ_=>by omega⟩
     . rintro _ ⟨rfl,hd0⟩;have hy:=ht.bP.getD (by decide) (2*n+1);have et:val aX (t.take (2*(n+1)))=val aX (t.take (2*n))+aX^(2*n)*(x+65536*t.getD (2*n+1) 0):=by
        rw[show 2*(n+1)=2*n+1+1 by omega,fR,fR,ex,fu];have hw:aX=65536:=rfl;grind
       generalize t.getD (2*n+1) 0=y at*;simp only[aX]at hx hy;refine aL (eb (by simp only[cJ,dZ];omega) (by decide)) (aW ⟨⟨n+1,by dsimp only;rw[bL]<;>omega,by omega,by simp;omega,hB.append (.cons (B:=4294967296) (by omega) .nil),?_,λh'=>VS (hd0 (by omega))⟩,?_⟩)
       . show val aE (ds++[x+65536*y])=_;rw[qc,et,ho,hv,Int.pow_mul];have hw:aX^2=aE:=by decide
         rw[hw];simp only[val];simp
       . dsimp only;rw[bL]<;>omega
   . rw[fC (by omega)]at hv;exact⟨⟨hB,hN (by omega),hv⟩,by omega⟩
 . rintro r ⟨hr,hrl⟩;refine aW ⟨⟨?_,?_⟩,bU (show r.length<=_ from hrl) (Nat.div_le_div_right (by omega))⟩
   . have e:(((if neg=true then-val aX l else val aX l):Int).natAbs:Int)=val aX t:=by rw[ht.val];cases neg<;>simp<;>omega
     rw[e];exact hr
   . show(neg&&decide (val aX l≠0))=_;by_cases e:val aX l=0
     . cases neg<;>simp[e]
     . cases neg
       . simp;omega
       . have:-val aX l<0:=by omega
         simp[e,this];omega
theorem LW{x:aC}(hd:bF aE x.aQ)(hl:x.aQ.length<=8796093022208):Tm (λN=>yb N x) (λr=>Is r (bv x)/\r.aQ.length<=x.aQ.length):=by
 unfold yb;refine Tm.bind (mL hd hl) ?_;rintro h ⟨hh,hhl⟩;refine Tm.bind (pN hh.bP (by omega)) (λr hr=>aW ⟨?_,by omega⟩);have:=hr.1;rw[hh.val]at this;exact this
theorem xI{x:aC}(hd:bF aE x.aQ)(hl:x.aQ.length<=8796093022208):Tm (λN=>rj N x) (λr=>Is r (-bv x)/\r.aQ.length<=x.aQ.length):=by
 unfold rj;refine Tm.bind (mL hd hl) ?_;rintro h ⟨hh,hhl⟩;refine Tm.bind (pN hh.bP (by omega)) (λr hr=>aW ⟨?_,by omega⟩);have:=hr.1;rw[hh.val]at this;unfold bv;cases hx:x.bM<;>rw[hx]at this<;>simpa using this
theorem mr{x:aC}(hd:bF aE x.aQ)(hl:x.aQ.length<=8796093022208):Tm (λN=>kq N x) (λr=>r=bT (bv x) 0):=by
 unfold kq;refine Tm.bind (mL hd hl) ?_;rintro h ⟨hh,-⟩;have hz:=hh.zero (by decide);have h0:=hh.xR (by decide);unfold bv;refine bA (λh1=>aW ?_) (λh1=>?_)
 . have:=hz.1 (mU.1 (by omega));unfold bT;rw[this];simp
 . have:val aE x.aQ≠0:=λe=>h1 (by rw[hz.2 e];rfl);refine bA (λh'=>aW ?_) (λh'=>aW ?_)
   . rw[bD h'];unfold bT;rw[bD (by omega)]
   . rw[aY h'];unfold bT;rw[aY (by omega),bD (by omega)]
theorem DP{a b:List Int}(ha:bF aX a)(hb:bF aX b)(na:gh a)(nb:gh b)(hl:a.length<=35184372088832)(hl':b.length<=35184372088832):Tm (λN=>rX N a b) (λr=>r=bT (val aX a) (val aX b)):=by
 unfold rX;refine bA (λh=>?_) (λh=>?_)
 . refine bA (λh'=>aW ?_) (λh'=>aW ?_)
   . have:=nq oh ha hb nb (by omega);unfold bT;rw[bD this]
   . have:=nq oh hb ha na (by omega);unfold bT;rw[aY (by omega),bD this]
 . have hle:a.length=b.length:=by omega
   refine Tm.bind (Q:=λr:Sum Unit Int=>(match r with|.inl _=>0|.inr z=>z)=bT (val aX a) (val aX b))
    (Tm.loop (λi:Int=>∃n:Nat,i=(n:Int)-1/\n<=a.length/\a.drop n=b.drop n) (λi=>(i+1).toNat) ⟨a.length,by rw[bL]<;>omega,bO _,by rw[zm (bO _),zm (by omega)]⟩ ?_) ?_
   . rintro _ ⟨n,rfl,hn,hd⟩;dsimp only[EX];refine bA (λh1=>?_) (λh1=>?_)
     . have hna:n-1<a.length:=by omega
       have hnb:n-1<b.length:=by omega
       refine aL (gW (n:=n-1) (by omega) hna) (aL (gW (n:=n-1) (by omega) hnb) (bA (λh2=>?_) (λh2=>?_)))
       . have:=zX oh ha hb hle hna (by rw[show n-1+1=n by omega];exact hd) h2;refine aW ?_;show(-1:Int)=_;unfold bT;rw[bD this]
       . refine aL (gW (n:=n-1) (by omega) hna) (aL (gW (n:=n-1) (by omega) hnb) (bA (λh3=>?_) (λh3=>?_)))
         . have:=zX oh hb ha hle.symm hnb (by rw[show n-1+1=n by omega];exact hd.symm) h3;refine aW ?_;show(1:Int)=_;unfold bT;rw[aY (by omega),bD this]
         . refine aW ⟨⟨n-1,by rw[bL]<;>omega,by omega,?_⟩,?_⟩
           . rw[fJ hna,fJ hnb,show n-1+1=n by omega,hd,show a[n-1]=b[n-1] by omega]
           . show(iw ((n:Int)-1-1)+1).toNat<((n:Int)-1+1).toNat;rw[bL]<;>omega
     . have:n=0:=by omega
       subst this;refine aW ?_;show(0:Int)=_;have:a=b:=by simpa using hd
       rw[this];unfold bT;rw[aY (by omega),aY (by omega)]
   . rintro(_|z) h<;>exact aW h
theorem gA{l:List Int}{n:Nat}(h:n<l.length):l.getD n 0=l[n]:=by rw[cN,cy h];rfl
theorem nc{l:List Int}{n:Nat}(h:l.length<=n):l.getD n 0=0:=by rw[cN,gr h];rfl
theorem lh{l:List Int}{n:Nat}(h:l.length<=n):l.take n=l:=fC h
theorem As{a b:List Int}(ha:bF aX a)(hb:bF aX b)(hl:a.length<=8796093022208)(hl':b.length<=8796093022208):Tm (λN=>pC N a b) (λr=>Dg aX r (val aX a+val aX b)/\r.length<=max a.length b.length+1):=by
 unfold pC;generalize hL:max a.length b.length=L;refine Tm.bind (Q:=λr=>bF aX r/\val aX r=val aX a+val aX b/\r.length<=L+1)
  (Tm.loop (λs:List Int×Int×Int=>∃n:Nat,s.2.2=n/\n<=L+1/\s.1.length=n/\bF aX s.1/\0<=s.2.1/\s.2.1<=1/\(L<n->s.2.1=0)/\val aX s.1+aX^n*s.2.1=val aX (a.take n)+val aX (b.take n)) (λs=>L+1-s.2.2.toNat)
   ⟨0,rfl,fV _,rfl,.nil,by simp,by simp,λ_=>rfl,by simp[val]⟩ ?_) ?_
 . rintro⟨out,carry,i⟩ ⟨n,rfl,hn,ho,hB,h0,h1,hc,hv⟩;dsimp only[E8]at*;refine Tm.bind (Q:=(·=decide (n<L\/0<carry))) (bA (λh=>aW ?_) (λh=>bA (λh'=>aW ?_) (λh'=>aW ?_))) ?_
   . have:n<L:=by omega
     simp[this]
   . have:n<L:=by omega
     simp[this]
   . have:¬n<L:=by omega
     simp[this]
   rintro _ rfl;refine bA (λh=>?_) (λh=>aW ?_)
   . have h:=iL h;have hx:=ha.getD (by decide) n;have hy:=hb.getD (by decide) n;simp only[aX]at hx hy;refine Tm.bind (Q:=(·=carry+a.getD n 0)) (bA (λh2=>?_) (λh2=>aW ?_)) ?_
     . rw[gA (l:=a) (by omega)]at*;refine aL (dA (by omega)) (aW ?_);rw[bL]<;>omega
     . rw[nc (by omega)];omega
     rintro _ rfl;refine Tm.bind (Q:=(·=carry+a.getD n 0+b.getD n 0)) (bA (λh2=>?_) (λh2=>aW ?_)) ?_
     . rw[gA (l:=b) (by omega)]at*;refine aL (dA (by omega)) (aW ?_);rw[bL]<;>omega
     . rw[nc (l:=b) (by omega)];omega
     rintro _ rfl;have hz:L<=n->a.getD n 0=0/\b.getD n 0=0:=λh=>⟨nc (by omega),nc (by omega)⟩;generalize ex:a.getD n 0=x at*;generalize ey:b.getD n 0=y at*;rw[zM (by omega),Au (by omega)];refine aL (eb (by simp only[cJ,dZ];omega) (by decide)) (aW ⟨⟨n+1,?_,by omega,by simp;omega,hB.append (.cons (B:=65536) (by omega) .nil),?_,?_,?_,?_⟩,?_⟩)
     . show iw ((n:Int)+1)=_;rw[bL]<;>omega
     . show 0<=iw ((carry+x+y)/65536);rw[bL]<;>omega
     . show iw ((carry+x+y)/65536)<=1;rw[bL]<;>omega
     . intro h';show iw ((carry+x+y)/65536)=0;have:=hz (by omega);rw[bL]<;>omega
     . show val aX (out++[(carry+x+y)%65536])+aX^(n+1)*iw ((carry+x+y)/65536)=_;rw[bL (by omega) (by omega),qc,fR,fR,ex,ey,ho,fu];have:=j8 (carry+x+y) 65536;have hw:aX=65536:=rfl;simp only[val];grind
     . show L+1-(iw ((n:Int)+1)).toNat<L+1-((n:Int)).toNat;rw[bL]<;>omega
   . have h:¬(n<L\/0<carry):=λe=>h (iM e);rw[lh (by omega),lh (by omega),show carry=0 by omega]at hv;exact⟨hB,by show val aX out=_;omega,by show out.length<=_;omega⟩
 . rintro r ⟨h1,h2,h3⟩;exact Tm.bind (u4 h1 (by omega)) (λr' h=>aW ⟨h2▸h.1,by omega⟩)
theorem FI{a b:List Int}(ha:bF aX a)(hb:bF aX b)(hl:a.length<=8796093022208)(hl':b.length<=a.length)(hv:val aX b<=val aX a):Tm (λN=>sq N a b) (λr=>Dg aX r (val aX a-val aX b)/\r.length<=a.length):=by
 unfold sq;generalize hL:a.length=L at*;refine Tm.bind (Q:=λr=>bF aX r/\val aX r=val aX a-val aX b/\r.length=L)
  (Tm.loop (λs:List Int×Int×Int=>∃n:Nat,s.2.2=n/\n<=L/\s.1.length=n/\bF aX s.1/\0<=s.2.1/\s.2.1<=1/\val aX s.1=val aX (a.take n)-val aX (b.take n)+aX^n*s.2.1) (λs=>L-s.2.2.toNat)
   ⟨0,rfl,fV _,rfl,.nil,by simp,by simp,by simp[val]⟩ ?_) ?_
 . rintro⟨out,borrow,i⟩ ⟨n,rfl,hn,ho,hB,h0,h1,hv'⟩;dsimp only[DK]at*;refine bA (λh=>?_) (λh=>aW ?_)
   . have hx:=ha.getD (by decide) n;have hy:=hb.getD (by decide) n;simp only[aX]at hx hy;refine aL (dA (by omega)) ?_;rw[<-gA (by omega)];refine Tm.bind (Q:=(·=a.getD n 0-borrow-b.getD n 0)) (bA (λh2=>?_) (λh2=>aW ?_)) ?_
     . rw[gA (l:=b) (by omega)]at*;refine aL (dA (by omega)) (aW ?_);rw[bL,bL]<;>(try rw[bL])<;>omega
     . rw[nc (l:=b) (by omega),bL]<;>omega
     rintro _ rfl;generalize ex:a.getD n 0=x at*;generalize ey:b.getD n 0=y at*;refine Tm.bind (Q:=λp:Int×Int=>0<=p.1/\p.1<=1/\0<=p.2/\p.2<65536/\p.2=x-borrow-y+65536*p.1) (bA (λh2=>aW ?_) (λh2=>aW ?_)) ?_
     . dsimp only;rw[bL]<;>omega
     . dsimp only;omega
     rintro⟨bo,d⟩ ⟨g1,g2,g3,g4,g5⟩;dsimp only at*;refine aL (eb (by simp only[cJ,dZ];omega) (by decide)) (aW ⟨⟨n+1,?_,by omega,by simp;omega,hB.append (.cons (B:=65536) (by omega) .nil),g1,g2,?_⟩,?_⟩)
     . show iw ((n:Int)+1)=_;rw[bL]<;>omega
     . show val aX (out++[d])=_;rw[qc,fR,fR,ex,ey,ho,fu];have hw:aX=65536:=rfl;simp only[val];grind
     . show L-(iw ((n:Int)+1)).toNat<L-((n:Int)).toNat;rw[bL]<;>omega
   . have hnL:n=L:=by omega
     subst hnL;rw[lh (by omega),lh (by omega)]at hv';refine⟨hB,?_,ho⟩;show val aX out=_;have l1:=iG (by decide) hB;rw[ho]at l1;have hc:borrow=0\/borrow=1:=by omega
     rcases hc with rfl|rfl
     . omega
     . simp only[aX]at*;omega
 . rintro r ⟨h1,h2,h3⟩;exact Tm.bind (u4 h1 (by omega)) (λr' h=>aW ⟨h2▸h.1,by omega⟩)
theorem JY{x:aC}(h:bF aE x.aQ):val aE x.aQ=((bv x).natAbs:Int):=by
 have:=gm (by decide) h;unfold bv;split<;>omega
theorem Kt{a b:aC}(ha:bF aE a.aQ)(hb:bF aE b.aQ)(hl:a.aQ.length<=8796093022208)(hl':b.aQ.length<=8796093022208):Tm (λN=>ur N a b) (λr=>r=bT (bv a) (bv b)):=by
 unfold ur;refine Tm.bind (mr ha hl) ?_;rintro _ rfl;refine Tm.bind (mr hb hl') ?_;rintro _ rfl;refine bA (λh=>aW ?_) (λh=>bA (λh'=>aW ?_) (λh'=>?_))
 . revert h;unfold bT;(repeat' split)<;>omega
 . revert h';unfold bT;(repeat' split)<;>omega
 refine Tm.bind (mL ha hl) ?_;rintro x ⟨hx,hxl⟩;refine Tm.bind (mL hb hl') ?_;rintro y ⟨hy,hyl⟩;refine Tm.bind (DP hx.bP hy.bP hx.fm hy.fm (by omega) (by omega)) ?_;rintro _ rfl;refine aW ?_;rw[hx.val,hy.val,JY ha,JY hb];have hs:bT (bv a) 0=bT (bv b) 0:=by omega
 have key:bT (bv a) 0*bT ((bv a).natAbs:Int) ((bv b).natAbs:Int)=bT (bv a) (bv b):=by
  revert hs;unfold bT;(repeat' split)<;>omega
 rw[key,bL]<;>(unfold bT;(repeat' split)<;>omega)
theorem KU{a b:Int}:bT a b≥0↔b<=a:=by unfold bT;(repeat' split)<;>omega
theorem ye{a b:aC}(ha:bF aE a.aQ)(hb:bF aE b.aQ)(hl:a.aQ.length<=2199023255552)(hl':b.aQ.length<=2199023255552):
 Tm (λN=>pR N a b) (λr=>Is r (bv a+bv b)/\r.aQ.length<=max a.aQ.length b.aQ.length+1):=by
 unfold pR;refine Tm.bind (mL ha (by omega)) ?_;rintro x ⟨hx,hxl⟩;refine Tm.bind (mL hb (by omega)) ?_;rintro y ⟨hy,hyl⟩;refine bA (λh=>?_) (λh=>?_)
 . have hn:a.bM=b.bM:=by simpa using h
   refine Tm.bind (As hx.bP hy.bP (by omega) (by omega)) ?_;rintro s ⟨hs,sl⟩;refine Tm.bind (pN hs.bP (by omega)) (λr hr=>aW ⟨?_,by omega⟩);have hr:=hr.1;rw[hs.val,hx.val,hy.val]at hr;unfold bv;rw[<-hn];cases e:a.bM<;>rw[e]at hr
   . simpa using hr
   . simp only[if_true]at hr⊢;rwa[show-(val aE a.aQ+val aE b.aQ)=-val aE a.aQ+-val aE b.aQ by omega]at hr
 . have hn:¬a.bM=b.bM:=by simpa using h
   refine Tm.bind (DP hx.bP hy.bP hx.fm hy.fm (by omega) (by omega)) ?_;rintro c rfl;refine bA (λhc=>?_) (λhc=>?_)
   . have hge:=KU.1 hc;have hle:y.length<=x.length:=by
      rcases cH x.length y.length with h'|h'
      . have:=nq oh hx.bP hy.bP hy.fm h';omega
      . exact h'
     refine Tm.bind (FI hx.bP hy.bP (by omega) hle hge) ?_;rintro s ⟨hs,sl⟩;refine Tm.bind (pN hs.bP (by omega)) (λr hr=>aW ⟨?_,by omega⟩);have hr:=hr.1;rw[hs.val,hx.val,hy.val]at hr;unfold bv;cases e:a.bM<;>cases e':b.bM<;>rw[e]at hr hn<;>rw[e']at hn
     . exact bV rfl hn
     . simpa[Hu]using hr
     . simp only[if_true,lr,if_false]at hr⊢;rwa[show-(val aE a.aQ-val aE b.aQ)=-val aE a.aQ+val aE b.aQ by omega]at hr
     . exact bV rfl hn
   . have hlt:¬val aX y<=val aX x:=λe=>hc (KU.2 e);have hle:x.length<=y.length:=by
      rcases cH y.length x.length with h'|h'
      . have:=nq oh hy.bP hx.bP hx.fm h';omega
      . exact h'
     refine Tm.bind (FI hy.bP hx.bP (by omega) hle (by omega)) ?_;rintro s ⟨hs,sl⟩;refine Tm.bind (pN hs.bP (by omega)) (λr hr=>aW ⟨?_,by omega⟩);have hr:=hr.1;rw[hs.val,hx.val,hy.val]at hr;unfold bv;cases e:a.bM<;>cases e':b.bM<;>rw[e']at hr hn<;>rw[e]at hn
     . exact bV rfl hn
     . simp only[if_true,lr,if_false]at hr⊢;rwa[show-(val aE b.aQ-val aE a.aQ)=val aE a.aQ+-val aE b.aQ by omega]at hr
     . simp only[if_true,lr,if_false]at hr⊢;rwa[show val aE b.aQ-val aE a.aQ=-val aE a.aQ+val aE b.aQ by omega]at hr
     . exact bV rfl hn
theorem Kh{a b:aC}(ha:bF aE a.aQ)(hb:bF aE b.aQ)(hl:a.aQ.length<=2199023255552)(hl':b.aQ.length<=2199023255552):
 Tm (λN=>uy N a b) (λr=>Is r (bv a-bv b)/\r.aQ.length<=max a.aQ.length b.aQ.length+1):=by
 unfold uy;refine Tm.bind (xI hb (by omega)) ?_;rintro y ⟨hy,hyl⟩;refine Tm.bind (ye ha hy.dg.bP (by omega) (by omega)) (λr h=>aW ⟨?_,by omega⟩);have:=h.1;rwa[hy.bv,<-Hu]at this
theorem Ux{a:List Int}{d:Int}(ha:bF aX a)(h0:0<=d)(h1:d<aX)(hl:a.length<=8796093022208):Tm (λN=>yP N a d) (λr=>Dg aX r (val aX a*d)/\r.length<=a.length+1):=by
 unfold yP;refine Tm.bind (Q:=λr=>bF aX r/\val aX r=val aX a*d/\r.length<=a.length+1)
  (Tm.loop (λs:List Int×Int×Int=>∃n:Nat,s.2.2=n/\n<=a.length+1/\s.1.length=n/\bF aX s.1/\0<=s.2.1/\s.2.1<aX/\(a.length<n->s.2.1=0)/\val aX s.1+aX^n*s.2.1=val aX (a.take n)*d) (λs=>a.length+1-s.2.2.toNat)
   ⟨0,rfl,fV _,rfl,.nil,by simp,(by decide:(0:Int)<aX),λ_=>rfl,by simp[val]⟩ ?_) ?_
 . rintro⟨out,carry,i⟩ ⟨n,rfl,hn,ho,hB,c0,c1,hc,hv⟩;dsimp only[GY]at*;refine Tm.bind (Q:=(·=decide (n<a.length\/0<carry))) (bA (λh=>aW ?_) (λh=>aW ?_)) ?_
   . have:n<a.length:=by omega
     simp[this]
   . have:¬n<a.length:=by omega
     simp[this]
   rintro _ rfl;refine bA (λh=>?_) (λh=>aW ?_)
   . have h:=iL h;have hx:=ha.getD (by decide) n;simp only[aX]at hx h1 c1;have hm:0<=a.getD n 0*d/\a.getD n 0*d<=65535*65535:=⟨eW hx.1 h0,mW (by omega) (by omega) h0 (by decide)⟩;refine Tm.bind (Q:=(·=carry+a.getD n 0*d)) (bA (λh2=>?_) (λh2=>aW ?_)) ?_
     . rw[gA (l:=a) (by omega)]at*;refine aL (dA (by omega)) (aW ?_);rw[bL (z:=_*_) (by omega) (by omega),bL (by omega) (by omega)]
     . rw[nc (by omega)];simp
     rintro _ rfl;have hz:a.length<=n->a.getD n 0=0:=λh=>nc (by omega);have hz':a.length<=n->a.getD n 0*d=0:=λh=>by rw[hz h];simp
     generalize exd:a.getD n 0*d=xd at*;rw[zM (by omega),Au (by omega)];refine aL (eb (by simp only[cJ,dZ];omega) (by decide)) (aW ⟨⟨n+1,?_,by omega,by simp;omega,hB.append (.cons (B:=65536) (by omega) .nil),?_,?_,?_,?_⟩,?_⟩)
     . show iw ((n:Int)+1)=_;rw[bL]<;>omega
     . show 0<=iw ((carry+xd)/65536);rw[bL]<;>omega
     . show iw ((carry+xd)/65536)<65536;rw[bL]<;>omega
     . intro h';show iw ((carry+xd)/65536)=0;have:=hz' (by omega);rw[bL]<;>omega
     . show val aX (out++[(carry+xd)%65536])+aX^(n+1)*iw ((carry+xd)/65536)=_;rw[bL (by omega) (by omega),qc,fR,ho,fu];have:=j8 (carry+xd) 65536;have hw:aX=65536:=rfl;simp only[val];grind
     . show a.length+1-(iw ((n:Int)+1)).toNat<a.length+1-((n:Int)).toNat;rw[bL]<;>omega
   . have h:¬(n<a.length\/0<carry):=λe=>h (iM e);rw[lh (by omega),show carry=0 by omega]at hv;exact⟨hB,by show val aX out=_;omega,by show out.length<=_;omega⟩
 . rintro r ⟨h1,h2,h3⟩;exact Tm.bind (u4 h1 (by omega)) (λr' h=>aW ⟨h2▸h.1,by omega⟩)
theorem F6{a b:aC}(ha:bF aE a.aQ)(hb:bF aE b.aQ)(hl:a.aQ.length<=1099511627776)(hl':b.aQ.length<=1099511627776):
 Tm (λN=>sJ N a b) (λr=>Is r (bv a*bv b)/\r.aQ.length<=a.aQ.length+b.aQ.length):=by
 unfold sJ;refine Tm.bind (mL ha (by omega)) ?_;rintro x ⟨hx,hxl⟩;refine Tm.bind (mL hb (by omega)) ?_;rintro y ⟨hy,hyl⟩;refine Tm.bind (Tm.loop (λs:List Int×Int=>∃n:Nat,s.2=(n:Int)-1/\n<=y.length/\Dg aX s.1 (val aX x*val aX (y.drop n))/\s.1.length<=x.length+(y.length-n)) (λs=>(s.2+1).toNat) (Q:=λr=>Dg aX r (val aX x*val aX y)/\r.length<=x.length+y.length)
  ⟨y.length,by dsimp only;rw[bL]<;>omega,bO _,by simpa[val]using Dg.nil,by simp⟩ ?_) ?_
 . rintro⟨sum,i⟩ ⟨n,rfl,hn,hs,hsl⟩;dsimp only[Ez]at*;refine bA (λh=>?_) (λh=>aW ?_)
   . refine aL (eb (by simp only[cJ,dZ];omega) (by decide)) ?_;have hny:n-1<y.length:=by omega
     refine aL (gW (n:=n-1) (by omega) hny) ?_;have hd:=hy.bP.get hny;refine Tm.bind (Ux hx.bP hd.1 hd.2 (by omega)) ?_;rintro t ⟨ht,htl⟩;refine Tm.bind (As (a:=[0]++sum) (.append (.cons (by decide) .nil) hs.bP) ht.bP (by simp;omega) (by omega)) ?_;rintro r ⟨hr,hrl⟩;refine aW ⟨⟨n-1,by dsimp only;rw[bL]<;>omega,by omega,?_,?_⟩,?_⟩
     . have e:val aX ([0]++sum)+val aX t=val aX x*val aX (y.drop (n-1)):=by
        rw[ht.val,fJ hny,show n-1+1=n by omega];simp only[NU,val,hs.val];grind
       show Dg aX r _;rw[<-e];exact hr
     . show r.length<=_;have hb:val aX ([0]++sum)+val aX t<aX^(x.length+(y.length-(n-1))):=by
        have e:val aX ([0]++sum)+val aX t=val aX x*val aX (y.drop (n-1)):=by
         rw[ht.val,fJ hny,show n-1+1=n by omega];simp only[NU,val,hs.val];grind
        rw[e,jO];have l1:=iG (by decide) hx.bP;have l2:=iG (by decide) (hy.bP.drop (n-1));have l3:=gm (by decide) hx.bP;have l4:=gm (by decide) (hy.bP.drop (n-1));rw[wL]at l2;exact Int.mul_lt_mul' (by omega) l2 l4 (kI (by decide) _)
       exact F7 oh hr.bP hr.fm (by rw[hr.val];exact hb)
     . show(iw ((n:Int)-1-1)+1).toNat<((n:Int)-1+1).toNat;rw[bL]<;>omega
   . have:n=0:=by omega
     subst this;exact⟨by simpa using hs,by simpa using hsl⟩
 . rintro s ⟨hs,hsl⟩;refine Tm.bind (pN hs.bP (by omega)) (λr hr=>aW ⟨?_,by omega⟩);have hr:=hr.1;rw[hs.val,hx.val,hy.val]at hr;rw[JL];exact hr
theorem px{n:Int}(h1:-9223372036854775808<=n)(h2:n<=9223372036854775807):Tm (λN=>jX N n) (λr=>Is r n/\r.aQ.length<=2):=by
 unfold jX;refine Tm.bind (Q:=(·=(n.natAbs:Int))) (bA (λh=>aW ?_) (λh=>aW ?_)) ?_
 . rw[bL (z:=n+1) (by omega) (by omega),bL (by omega) (by omega),gk,gk];omega
 . rw[gk];omega
 rintro _ rfl;refine Tm.bind (Tm.loop (λs:Int×List Int=>∃m:Nat,m<=4/\s.2.length=m/\bF aX s.2/\0<=s.1/\s.1<aX^(4-m)/\val aX s.2+aX^m*s.1=n.natAbs) (λs=>s.1.toNat) (Q:=λr=>bF aX r/\val aX r=n.natAbs/\r.length<=4)
  ⟨0,by omega,rfl,.nil,by simp,by simp only[aX];omega,by simp[val]⟩ ?_) ?_
 . rintro⟨u,l⟩ ⟨m,hm,hl,hB,u0,u1,hv⟩;dsimp only[F8]at*;refine bA (λh=>?_) (λh=>aW ?_)
   . have hm':m≠4:=by rintro rfl;simp at u1;omega
     have hu:u<18446744073709551616:=by
      have:aX^(4-m)<=aX^4:=kO (by decide) (by omega);have e:aX^4=18446744073709551616:=by decide
      omega
     rw[zM u0,Au u0];have e1:iw (u%65536)=u%65536:=by rw[bL]<;>omega
     have e2:uw (u/65536)=u/65536:=by rw[gk];omega
     rw[e1,e2];refine aL (eb (by simp only[cJ,dZ];omega) (by decide)) (aW ⟨⟨m+1,by omega,by simp;omega,hB.append (.cons (B:=65536) (by omega) .nil),?_,?_,?_⟩,?_⟩)
     . show 0<=u/65536;omega
     . show u/65536<aX^(4-(m+1));have e:aX^(4-m)=aX^(4-(m+1))*65536:=by rw[show 4-m=4-(m+1)+1 by omega,fu]
       rw[e]at u1;exact Hx (by decide) u1
     . show val aX (l++[u%65536])+aX^(m+1)*(u/65536)=_;rw[qc,hl,fu];have:=j8 u 65536;have hw:aX=65536:=rfl;simp only[val];grind
     . show(u/65536).toNat<u.toNat;omega
   . have:u=0:=by omega
     subst this;exact⟨hB,by show val aX l=_;simpa using hv,by show l.length<=4;omega⟩
 . rintro l ⟨hB,hv,hl⟩;refine Tm.bind (pN hB (by omega)) (λr hr=>aW ⟨?_,by omega⟩);have hr:=hr.1;rw[hv]at hr;by_cases hn:n<0
   . simp only[hn,decide_true,if_true]at hr;rwa[show-(n.natAbs:Int)=n by omega]at hr
   . simp only[hn,decide_false,lr,if_false]at hr;rwa[show(n.natAbs:Int)=n by omega]at hr
open Go Go.X
def EE(N:Nat)(c:Constraint)(n:Int):(Int×Int)->Option (aJ (Int×Int) (Sum Unit Bool))
 |(d,a)=>(if(a:Int)<(List.length c.Linear.bE:Int)then (idx c.Linear.bE a).bind λb=>(((if(b.Var:Int)<=d then some true else some (decide ((b.Var:Int)≥n))):Option Bool)).bind λss=>match ss with
    |e=>(if e=true then some (aJ.done (Sum.inr false)) else some (aJ.next (b.Var,(iw (a+1))))) else some (aJ.done (Sum.inl ())))
def wi(N:Nat)(c:Constraint)(n:Int):Option Bool:=(bS (EE N c n) N ((-1),0)).bind λss=>match ss with
  |(Sum.inl _)=>(if(n:Int)≥0 then some (decide ((n:Int)<=512)) else some false)
  |(Sum.inr a)=>some a
def Eb(N:Nat)(l:(List aC)):((List aC)×Int)->Option (aJ ((List aC)×Int) (List aC))
 |(b,a)=>(if(a:Int)<(List.length l:Int)then (idx l a).bind λc=>(jA N c).bind λd=>(cZ 32 b [d]).bind λe=>some (aJ.next (e,(iw (a+1)))) else some (aJ.done b))
def ya(N:Nat)(l:(List aC))(bound:aC):Option bG:=(lQ N bound).bind λa=>(bS (Eb N l) N (([]:(List aC)),0)).bind λss=>match ss with
  |b=>some (bG.mk b a)
def DW(N:Nat)(c:Constraint):((List aC)×Int)->Option (aJ ((List aC)×Int) (List aC))
 |(a,b)=>(if(b:Int)<(List.length c.Linear.bE:Int)then (idx c.Linear.bE b).bind λd=>(gj N d.N).bind λe=>(idx a d.Var).bind λg=>(dM a d.Var e).bind λf=>some (aJ.next (f,(iw (b+1)))) else some (aJ.done a))
def cOf(N:Nat)(c:Constraint)(n:Int):Option (List bG):=(wi N c n).bind λr6=>(if(!r6)=true then some ([]:(List bG)) else (gF (α:=aC) 32 (aC.mk false []) n).bind λd=>(gj N c.Linear.Const).bind λe=>(jA N e).bind λb=>(bS (DW N c) N (d,0)).bind λss=>match ss with
   |a=>(if(!c.jg)=true then some [(bG.mk a b)] else (gj N c.Linear.Const).bind λf=>(ya N a f).bind λg=>some [(bG.mk a b),g]))
def Fb(N:Nat)(l:(List Constraint))(n:Int):((List bG)×Int)->Option (aJ ((List bG)×Int) (Sum (List bG) (List bG)))
 |(b,a)=>(if(a:Int)<(List.length l:Int)then (idx l a).bind λc=>(wi N c n).bind λd=>(if(!d)=true then some (aJ.done (Sum.inr ([]:(List bG)))) else (cOf N c n).bind λe=>(cZ 56 b e).bind λf=>some (aJ.next (f,(iw (a+1))))) else some (aJ.done (Sum.inl b)))
def uT(N:Nat)(l:(List Constraint))(n:Int):Option (List bG):=(bS (Fb N l n) N (([]:(List bG)),0)).bind λss=>match ss with
  |(Sum.inl a)=>some a
  |(Sum.inr b)=>some b
def Ay(N:Nat)(s:(List bG)):Option (List bG):=(cZ 56 ([]:(List bG)) s).bind λa=>some a
def CQ(N:Nat)(s:(List bG)):Option (List bG):= some s
open Go Go.X
def u9(N:Nat)(n:Int):Option bG:=(gF (α:=aC) 32 (aC.mk false []) n).bind λx7=>some (bG.mk x7 (aC.mk false ([]:(List Int))))
def GM(N:Nat)(c:Constraint)(n:Int):Int->Option (aJ Int (Sum Unit Bool))
 |a=>(if(a:Int)<(List.length c.Linear.bE:Int)then (idx c.Linear.bE a).bind λb=>(((if(b.Var:Int)<0 then some true else (if(b.Var:Int)≥n then some true else (if(a:Int)>0 then (idx c.Linear.bE (iw (a-1))).bind λd=>some (decide ((b.Var:Int)<=d.Var)) else some false))):Option Bool)).bind λss=>match ss with
    |e=>(if e=true then some (aJ.done (Sum.inr false)) else some (aJ.next (iw (a+1)))) else some (aJ.done (Sum.inl ())))
def sa(N:Nat)(c:Constraint)(n:Int):Option Bool:=(bS (GM N c n) N 0).bind λss=>match ss with
  |(Sum.inl _)=>(if(n:Int)≥0 then some (decide ((n:Int)<=512)) else some false)
  |(Sum.inr a)=>some a
def AK(N:Nat)(q:bG):((List aC)×Int)->Option (aJ ((List aC)×Int) (List aC))
 |(b,a)=>(if(a:Int)<(List.length q.bE:Int)then (idx q.bE a).bind λc=>(rj N c).bind λd=>(cZ 32 b [d]).bind λe=>some (aJ.next (e,(iw (a+1)))) else some (aJ.done b))
def rF(N:Nat)(q:bG)(bound:aC):Option bG:=(yb N bound).bind λa=>(bS (AK N q) N (([]:(List aC)),0)).bind λss=>match ss with
  |b=>some (bG.mk b a)
def DN(N:Nat)(c:Constraint):((List aC)×Int)->Option (aJ ((List aC)×Int) (List aC))
 |(b,a)=>(if(a:Int)<(List.length c.Linear.bE:Int)then (idx c.Linear.bE a).bind λd=>(idx c.Linear.bE a).bind λe=>(jX N e.N).bind λf=>(idx b d.Var).bind λi=>(dM b d.Var f).bind λg=>some (aJ.next (g,(iw (a+1)))) else some (aJ.done b))
def zf(N:Nat)(c:Constraint)(n:Int):Option (List bG):=(sa N c n).bind λr6=>(if(!r6)=true then some ([]:(List bG)) else (u9 N n).bind λe=>(bS (DN N c) N (e.bE,0)).bind λss=>match ss with
   |a=>(jX N c.Linear.Const).bind λd=>(rj N d).bind λb=>(if(!c.jg)=true then some [(bG.mk a b)] else (rF N (bG.mk a b) d).bind λf=>some [(bG.mk a b),f]))
def EN(N:Nat)(l:(List Constraint))(n:Int):((List bG)×Int)->Option (aJ ((List bG)×Int) (Sum (List bG) (List bG)))
 |(b,a)=>(if(a:Int)<(List.length l:Int)then (idx l a).bind λc=>(sa N c n).bind λd=>(if(!d)=true then some (aJ.done (Sum.inr ([]:(List bG)))) else (idx l a).bind λe=>(zf N e n).bind λf=>(cZ 56 b f).bind λg=>some (aJ.next (g,(iw (a+1))))) else some (aJ.done (Sum.inl b)))
def xS(N:Nat)(l:(List Constraint))(n:Int):Option (List bG):=(bS (EN N l n) N (([]:(List bG)),0)).bind λss=>match ss with
  |(Sum.inl a)=>some a
  |(Sum.inr b)=>some b
def xY(N:Nat)(l:(List bG)):Int->Option (aJ Int (Sum Unit Bool))
 |a=>(if(a:Int)<(List.length l:Int)then (idx l a).bind λb=>(idx l 0).bind λc=>(if((List.length b.bE:Int):Int)≠(List.length c.bE:Int)then some (aJ.done (Sum.inr false)) else some (aJ.next (iw (a+1)))) else some (aJ.done (Sum.inl ())))
def uJ(N:Nat)(l:(List bG)):Option Bool:=(bS (xY N l) N 0).bind λss=>match ss with
  |(Sum.inl _)=>some true
  |(Sum.inr a)=>some a
def za(N:Nat)(c:Int)(d:eh)(e:bG):((List aC)×Int)->Option (aJ ((List aC)×Int) (List aC))
 |(b,a)=>(if(a:Int)<c then (idx b a).bind λf=>(idx e.bE a).bind λg=>(sJ N g d.N).bind λi=>(pR N f i).bind λj=>(idx b a).bind λl=>(dM b a j).bind λk=>some (aJ.next (k,(iw (a+1)))) else some (aJ.done b))
def Dj(N:Nat)(l:(List bG))(s:Step)(i:Int):((List aC)×Bool×(List Int)×Int)->Option (aJ ((List aC)×Bool×(List Int)×Int) (Sum ((List aC)×Bool×(List Int)) (bG×Bool)))
 |(c,d,e,b)=>(if(b:Int)<(List.length s.Uses:Int)then (idx s.Uses b).bind λa=>(((if(a.Index:Int)<0 then some true else (if(a.Index:Int)≥(List.length l:Int)then some true else (kq N a.N).bind λj=>some (decide ((j:Int)<0)))):Option Bool)).bind λss=>match ss with
    |k=>(if k=true then some (aJ.done (Sum.inr ((bG.mk [] (aC.mk false [])),false))) else (idx l a.Index).bind λf=>(bS (za N i a f) N (c,0)).bind λss=>match ss with
       |m=>(sJ N f.dO a.N).bind λn=>(pR N (aC.mk d e) n).bind λg=>some (aJ.next (m,g.bM,g.aQ,(iw (b+1))))) else some (aJ.done (Sum.inl (c,d,e))))
def xK(N:Nat)(s:Step)(d:Int):((List aC)×Int)->Option (aJ ((List aC)×Int) (Sum (List aC) (bG×Bool)))
 |(b,a)=>(if(a:Int)<d then (idx b a).bind λe=>(uK N e s.gB).bind λc=>(kq N c.2.1).bind λf=>(if(f:Int)≠0 then some (aJ.done (Sum.inr ((bG.mk [] (aC.mk false [])),false))) else (idx b a).bind λi=>(dM b a c.1).bind λg=>some (aJ.next (g,(iw (a+1))))) else some (aJ.done (Sum.inl b)))
def yO(N:Nat)(l:(List bG))(s:Step):Option (bG×Bool):=(((uJ N l).bind λc=>(if(!c)=true then some true else (kq N s.gB).bind λd=>some (decide ((d:Int)<=0))):Option Bool)).bind λss=>match ss with
  |e=>(if e=true then some ((bG.mk [] (aC.mk false [])),false) else (((if((List.length l:Int):Int)>0 then (idx l 0).bind λf=>some (List.length f.bE:Int) else some 0):Option Int)).bind λss=>match ss with
     |a=>(u9 N a).bind λb=>(bS (Dj N l s a) N (b.bE,b.dO.bM,b.dO.aQ,0)).bind λss=>match ss with
       |(Sum.inl (g,i,j))=>(bS (xK N s a) N (g,0)).bind λss=>match ss with
         |(Sum.inl k)=>(uK N (aC.mk i j) s.gB).bind λm=>some ((bG.mk k m.1),true)
         |(Sum.inr n)=>some n
       |(Sum.inr o)=>some o)
def yB(N:Nat)(q:bG):Int->Option (aJ Int (Sum Unit Bool))
 |a=>(if(a:Int)<(List.length q.bE:Int)then (idx q.bE a).bind λb=>(kq N b).bind λc=>(if(c:Int)≠0 then some (aJ.done (Sum.inr false)) else some (aJ.next (iw (a+1)))) else some (aJ.done (Sum.inl ())))
def y5(N:Nat)(q:bG):Option Bool:=(bS (yB N q) N 0).bind λss=>match ss with
  |(Sum.inl _)=>(kq N q.dO).bind λa=>some (decide ((a:Int)<0))
  |(Sum.inr b)=>some b
def Cm(N:Nat)(p:Proof):((List bG)×Int)->Option (aJ ((List bG)×Int) (Sum (List bG) Bool))
 |(a,b)=>(if(b:Int)<(List.length p.Steps:Int)then (idx p.Steps b).bind λd=>(yO N a d).bind λc=>(if(!c.2)=true then some (aJ.done (Sum.inr false)) else (cZ 56 a [c.1]).bind λe=>some (aJ.next (e,(iw (b+1))))) else some (aJ.done (Sum.inl a)))
def Gg(N:Nat)(b:(List bG)):Int->Option (aJ Int (Sum Unit Bool))
 |a=>(if(a:Int)<(List.length b:Int)then (idx b a).bind λc=>(y5 N c).bind λd=>(if d=true then some (aJ.done (Sum.inr true)) else some (aJ.next (iw (a+1)))) else some (aJ.done (Sum.inl ())))
def rV(N:Nat)(self:(List bG)->Proof->Option Bool)(l:(List bG))(p:Proof):Option Bool:=(uJ N l).bind λr6=>(if(!r6)=true then some false else (cZ 56 ([]:(List bG)) l).bind λb=>(bS (Cm N p) N (b,0)).bind λss=>match ss with
   |(Sum.inl a)=>(if((List.length p.mQ:Int):Int)=0 then (bS (Gg N a) N 0).bind λss=>match ss with
      |(Sum.inl _)=>some false
      |(Sum.inr c)=>some c else (((if((List.length p.mQ:Int):Int)≠2 then some true else (if((List.length a:Int):Int)>0 then (idx a 0).bind λd=>some (decide (((List.length p.Form:Int):Int)≠(List.length d.bE:Int))) else some false)):Option Bool)).bind λss=>match ss with
      |e=>(if e=true then some false else (rj N p.dO).bind λf=>(jX N 1).bind λg=>(uy N f g).bind λi=>(rF N (bG.mk p.Form p.dO) i).bind λj=>(cZ 56 ([]:(List bG)) a).bind λk=>(cZ 56 k [(bG.mk p.Form p.dO)]).bind λm=>(cZ 56 ([]:(List bG)) a).bind λn=>(cZ 56 n [j]).bind λo=>(idx p.mQ 0).bind λs=>(self m s).bind λu=>(if u=true then (idx p.mQ 1).bind λv=>(self o v).bind λy=>some y else some false)))
   |(Sum.inr a0)=>some a0)
def td:Nat->(List bG)->Proof->Option Bool
 |0=>λ_ _=>none
 |N+1=>rV N (td N)
open Go Go.X
def jY(K:Nat)(x:aC):Prop:=bF aE x.aQ/\x.aQ.length<=K
def qC(K:Nat)(q:bG):Prop:=q.bE.length<=K/\(∀b∈q.bE,jY K b)/\jY K q.dO
theorem jY.mono{K K':Nat}{x:aC}(h:jY K x)(hK:K<=K'):jY K' x:=⟨h.1,by have:=h.2;omega⟩
theorem jY.nil{K:Nat}{b:Bool}:jY K ⟨b,[]⟩:=⟨.nil,fV _⟩
abbrev fj:aC:=⟨false,[]⟩
theorem T5{b:Bool}:bv ⟨b,[]⟩=0:=by cases b<;>rfl
theorem Is.ok{x:aC}{v:Int}{K:Nat}(h:Is x v)(hl:x.aQ.length<=K):jY K x:=⟨h.dg.bP,hl⟩
theorem Tm.each{α β:Type}{body:Nat->Int->Option (aJ Int (Sum Unit β))}(xs:List α)(P:α->Prop){Q:Sum Unit β->Prop}(hl:xs.length<=9223372036854775807)
 (step:∀(n:Nat) (hn:n<xs.length),(∀j,(hj:j<xs.length)->j<n->P xs[j])->Tm (λN=>body N (n:Int)) (λt=>(t=.next (iw ((n:Int)+1))/\P xs[n])\/(∃b,t=.done (.inr b)/\Q (.inr b))))
 (fin:(∀x∈xs,P x)->Tm (λN=>body N (xs.length:Int)) (λt=>∃r,t=.done r/\Q r)):Tm (λN=>bS (body N) N 0) Q:=by
 refine Tm.loop (λi:Int=>∃n:Nat,i=n/\n<=xs.length/\∀j,(hj:j<xs.length)->j<n->P xs[j]) (λi:Int=>xs.length-i.toNat) ⟨0,rfl,fV _,λ_ _ h=>bV h (by omega)⟩ ?_;rintro _ ⟨n,rfl,hn,hP⟩;rcases cH n xs.length with h|h
 . refine(step n h hP).mono ?_;rintro t (⟨rfl,hp⟩|⟨b,rfl,hq⟩)
   . refine⟨⟨n+1,by rw[bL]<;>omega,by omega,λj hj hlt=>?_⟩,?_⟩
     . rcases cH j n with h'|h'
       . exact hP j hj h'
       . obtain rfl:j=n:=by omega
         exact hp
     . show xs.length-(iw ((n:Int)+1)).toNat<xs.length-((n:Int)).toNat;rw[bL]<;>omega
   . exact hq
 . obtain rfl:n=xs.length:=by omega
   refine(fin λx hx=>?_).mono ?_
   . obtain⟨j,hj,rfl⟩:=Hl.1 hx;exact hP j hj hj
   . rintro t ⟨r,rfl,hq⟩;exact hq
theorem sy{l:List aC}{n:Nat}(h:n<l.length):l.getD n fj=l[n]:=by rw[cN,cy h];rfl
theorem xE{a b:Int}:bT a b<=0↔a<=b:=by unfold bT;(repeat' split)<;>omega
def xe(q:bG):Bool:=decide ((∀b∈q.bE,bv b=0)/\bv q.dO<0)
theorem Ar{a:Int}:bT a 0=0↔a=0:=by unfold bT;(repeat' split)<;>omega
theorem B3{a:Int}:bT a 0<0↔a<0:=by unfold bT;(repeat' split)<;>omega
theorem VD{K:Nat}{q:bG}(hK:K<=1073741824)(hq:qC K q):Tm (λN=>y5 N q) (λr=>r=xe q):=by
 unfold y5 xe;have hlK:=hq.1;refine Tm.bind (Tm.each (body:=λN=>yB N q) q.bE (λb=>bv b=0) (Q:=λr=>(r=.inr false/\¬∀b∈q.bE,bv b=0)\/(r=.inl ()/\∀b∈q.bE,bv b=0)) (by omega) ?_ ?_) ?_
 . intro n hn _;unfold yB;have h1:=hq.2.1 _ (dJ hn);refine cR (by omega) (aL (dA hn) (Tm.bind (mr h1.1 (by have:=h1.2;omega)) ?_));rintro _ rfl;refine bA (λh=>aW (.inr ⟨_,rfl,.inl ⟨rfl,λh'=>h (Ar.2 (h' _ (dJ hn)))⟩⟩)) (λh=>aW (.inl ⟨rfl,Ar.1 (by omega)⟩))
 . intro h;unfold yB;exact cD (by omega) (aW ⟨_,rfl,.inr ⟨rfl,h⟩⟩)
 . rintro _ (⟨rfl,h⟩|⟨rfl,h⟩)
   . refine aW ?_;simp only[h,false_and,decide_false]
   . refine Tm.bind (mr hq.2.2.1 (by have:=hq.2.2.2;omega)) ?_;rintro _ rfl;refine aW ?_;simp only[B3];exact decide_eq_decide.2 ⟨λh'=>⟨h,h'⟩,λh'=>h'.2⟩
open Go Go.X
def fM(c:Constraint)(n:Int):Prop:=(∀i,(h:i<c.Linear.bE.length)->0<=c.Linear.bE[i].Var/\c.Linear.bE[i].Var<n/\(∀(_:0<i),(c.Linear.bE[i-1]'(by omega)).Var<c.Linear.bE[i].Var))/\0<=n/\n<=512
theorem MF{c:Constraint}{n:Int}(hl:c.Linear.bE.length<=9223372036854775807):Tm (λN=>wi N c n) (λr=>r=true↔fM c n):=by
 unfold wi;generalize hcs:c.Linear.bE=cs at hl;have hR:fM c n↔((∀i,(h:i<cs.length)->0<=cs[i].Var/\cs[i].Var<n/\(∀(_:0<i),(cs[i-1]'(by omega)).Var<cs[i].Var))/\0<=n/\n<=512):=by subst hcs;rfl
 refine Tm.bind (Tm.loop (λs:Int×Int=>∃k:Nat,s.2=k/\k<=cs.length/\(k=0->s.1=-1)/\(∀h:0<k/\k-1<cs.length,s.1=cs[k-1].Var)/\∀i,(h:i<cs.length)->i<k->0<=cs[i].Var/\cs[i].Var<n/\(∀(_:0<i),(cs[i-1]'(by omega)).Var<cs[i].Var)) (λs=>cs.length-s.2.toNat)
  (Q:=λr=>(r=.inl ()/\∀i,(h:i<cs.length)->0<=cs[i].Var/\cs[i].Var<n/\(∀(_:0<i),(cs[i-1]'(by omega)).Var<cs[i].Var))\/(r=.inr false/\¬fM c n)) ⟨0,rfl,fV _,λ_=>rfl,λh=>bV h.1 (by omega),λi _ h=>bV h (by omega)⟩ ?_) ?_
 . rintro⟨last,i⟩ ⟨k,rfl,hk,h0,h1,hP⟩;dsimp only[EE]at*;rw[hcs];refine bA (λh=>?_) (λh=>aW (.inl ⟨rfl,λi hi=>hP i hi (by omega)⟩));have hkl:k<cs.length:=by omega
   refine aL (dA hkl) (Tm.bind (Q:=(·=decide (cs[k].Var<=last\/cs[k].Var≥n))) (bA (λh=>aW ?_) (λh=>aW ?_)) ?_)
   . simp[h]
   . simp[h]
   rintro _ rfl;refine bA (λh=>aW (.inr ⟨rfl,λhr=>?_⟩)) (λh=>aW ⟨⟨k+1,by dsimp only;rw[bL]<;>omega,by omega,λh=>by omega,λ_=>rfl,λi hi hik=>?_⟩,?_⟩)
   . have h:=iL h;have:=(hR.1 hr).1 k hkl;rcases gQ k with h'|h'
     . have:=h0 h';omega
     . have h2:=this.2.2 h';have h3:=h1 ⟨h',by omega⟩;omega
   . have h:¬(cs[k].Var<=last\/cs[k].Var≥n):=λe=>h (iM e);rcases cH i k with h'|h'
     . exact hP i hi h'
     . obtain rfl:i=k:=by omega
       rcases gQ i with h'|h'
       . have:=h0 h';exact⟨by omega,by omega,λe=>by omega⟩
       . have h3:=h1 ⟨h',by omega⟩;have h4:=hP (i-1) (by omega) (by omega);exact⟨by omega,by omega,λ_=>by omega⟩
   . show cs.length-(iw ((k:Int)+1)).toNat<cs.length-((k:Int)).toNat;rw[bL]<;>omega
 . rintro _ (⟨rfl,h⟩|⟨rfl,h⟩)
   . refine bA (λh1=>aW ?_) (λh1=>aW ?_)
     . rw[hR];simp only[decide_eq_true_eq];exact⟨λh2=>⟨h,by omega,h2⟩,λh2=>h2.2.2⟩
     . rw[hR];exact⟨λh2=>(by cases h2),λh2=>bV h2.2.1 (by omega)⟩
   . exact aW ⟨λh'=>(by cases h'),λh'=>bV h' h⟩
theorem EY{c:Constraint}{n:Int}(hl:c.Linear.bE.length<=9223372036854775807):Tm (λN=>sa N c n) (λr=>r=true↔fM c n):=by
 unfold sa;generalize hcs:c.Linear.bE=cs at hl;have hR:fM c n↔((∀i,(h:i<cs.length)->0<=cs[i].Var/\cs[i].Var<n/\(∀(_:0<i),(cs[i-1]'(by omega)).Var<cs[i].Var))/\0<=n/\n<=512):=by subst hcs;rfl
 refine Tm.bind (Tm.loop (λs:Int=>∃k:Nat,s=k/\k<=cs.length/\∀i,(h:i<cs.length)->i<k->0<=cs[i].Var/\cs[i].Var<n/\(∀(_:0<i),(cs[i-1]'(by omega)).Var<cs[i].Var)) (λs=>cs.length-s.toNat)
  (Q:=λr=>(r=.inl ()/\∀i,(h:i<cs.length)->0<=cs[i].Var/\cs[i].Var<n/\(∀(_:0<i),(cs[i-1]'(by omega)).Var<cs[i].Var))\/(r=.inr false/\¬fM c n)) ⟨0,rfl,fV _,λi _ h=>bV h (by omega)⟩ ?_) ?_
 . rintro _ ⟨k,rfl,hk,hP⟩;dsimp only[GM]at*;rw[hcs];refine bA (λh=>?_) (λh=>aW (.inl ⟨rfl,λi hi=>hP i hi (by omega)⟩));have hkl:k<cs.length:=by omega
   refine aL (dA hkl) (Tm.bind (Q:=λr=>r=true↔¬(0<=cs[k].Var/\cs[k].Var<n/\(∀(_:0<k),(cs[k-1]'(by omega)).Var<cs[k].Var))) (bA (λh=>aW ?_) (λh=>bA (λh'=>aW ?_) (λh'=>bA (λh2=>?_) (λh2=>aW ?_)))) ?_)
   . exact⟨λ_ e=>by omega,λ_=>rfl⟩
   . exact⟨λ_ e=>by omega,λ_=>rfl⟩
   . refine aL (gW (n:=k-1) (by rw[bL]<;>omega) (by omega)) (aW ?_);simp only[decide_eq_true_eq];exact⟨λe e'=>by have:=e'.2.2 (by omega);omega,λe=>by
      rcases o9 (cs[k-1]'(by omega)).Var cs[k].Var with e'|e'
      . exact bV ⟨by omega,by omega,λ_=>e'⟩ e
      . exact e'⟩
   . exact⟨λe=>(by cases e),λe=>bV ⟨by omega,by omega,λe'=>bV e' (by omega)⟩ e⟩
   intro r hr;refine bA (λh=>aW (.inr ⟨rfl,λhr'=>hr.1 h ((hR.1 hr').1 k hkl)⟩)) (λhf=>aW ⟨⟨k+1,by rw[bL]<;>omega,by omega,λi hi hik=>?_⟩,?_⟩)
   . rcases cH i k with h'|h'
     . exact hP i hi h'
     . obtain rfl:i=k:=by omega
       exact ji λe=>hf (hr.2 e)
   . show cs.length-(iw ((k:Int)+1)).toNat<cs.length-((k:Int)).toNat;rw[bL]<;>omega
 . rintro _ (⟨rfl,h⟩|⟨rfl,h⟩)
   . refine bA (λh1=>aW ?_) (λh1=>aW ?_)
     . rw[hR];simp only[decide_eq_true_eq];exact⟨λh2=>⟨h,by omega,h2⟩,λh2=>h2.2.2⟩
     . rw[hR];exact⟨λh2=>(by cases h2),λh2=>bV h2.2.1 (by omega)⟩
   . exact aW ⟨λh'=>(by cases h'),λh'=>bV h' h⟩
def fx(xs:List aC)(vs:List Int):Prop:=xs.length=vs.length/\∀j,(h:j<xs.length)->(h':j<vs.length)->Is xs[j] vs[j]
theorem fx.uniq{xs ys:List aC}{vs:List Int}(h:fx xs vs)(h':fx ys vs):xs=ys:=by
 apply qv (h.1.trans h'.1.symm);intro i h1 h2;exact(h.2 i h1 (by rw[<-h.1];exact h1)).uniq (h'.2 i h2 (by rw[<-h.1];exact h1))
theorem fx.nil:fx [] []:=⟨rfl,λj h=>bV h (by simp)⟩
theorem is0:Is fj 0:=⟨Dg.nil,rfl⟩
theorem fx.dH{n:Nat}:fx (List.replicate n fj) (List.replicate n 0):=⟨by simp,λj h h'=>by simpa using is0⟩
theorem fx.set{xs:List aC}{vs:List Int}(h:fx xs vs){k:Nat}{x:aC}{v:Int}(hx:Is x v):fx (xs.set k x) (vs.set k v):=by
 refine⟨by simpa using h.1,λj h1 h2=>?_⟩;by_cases hj:k=j
 . subst hj;simpa using hx
 . rw[Hw hj,Hw hj];exact h.2 j (by simpa using h1) (by simpa using h2)
theorem fx.snoc{xs:List aC}{vs:List Int}(h:fx xs vs){x:aC}{v:Int}(hx:Is x v):fx (xs++[x]) (vs++[v]):=by
 refine⟨by simp[h.1],λj h1 h2=>?_⟩;rcases cH j xs.length with hj|hj
 . rw[NW hj,NW (by rw[<-h.1];exact hj)];exact h.2 j hj _
 . simp only[di,jN]at h1 h2;have hj':j=xs.length:=by omega
   have hj2:j=vs.length:=by rw[<-h.1];exact hj'
   have e1:(xs++[x])[j]?=some x:=by rw[hj'];simp
   have e2:(vs++[v])[j]?=some v:=by rw[hj2];simp
   rw[(ep.1 e1).2,(ep.1 e2).2];exact hx
theorem Is.len{x:aC}{v:Int}(h:Is x v){k:Nat}(hv:(v.natAbs:Int)<aE^k):x.aQ.length<=k:=F7 nF h.dg.bP h.dg.fm (by rw[h.dg.val];exact hv)
def p6(q:bG)(vs:List Int)(b:Int):Prop:=fx q.bE vs/\Is q.dO b
theorem p6.uniq{p q:bG}{vs:List Int}{b:Int}(h:p6 p vs b)(h':p6 q vs b):p=q:=by
 have h1:=h.1.uniq h'.1;have h2:=h.2.uniq h'.2;cases p;cases q;simp_all
def fY(z:Int):Prop:=-9223372036854775808<=z/\z<=9223372036854775807
structure oO (c:Constraint):Prop where
 len:c.Linear.bE.length<=9223372036854775807
 const:fY c.Linear.Const
 lM:∀k∈c.Linear.bE,fY k.N
def qB(l:List Int)(k:iE):List Int:=l.set k.Var.toNat k.N
def gv(c:Constraint)(n:Int)(k:Nat):List Int:=(c.Linear.bE.take k).foldl qB (List.replicate n.toNat 0)
theorem xu{c:Constraint}{n:Int}{k:Nat}(h:k<c.Linear.bE.length):gv c n (k+1)=qB (gv c n k) c.Linear.bE[k]:=by
 unfold gv;rw[qu h,NX];rfl
theorem tk{c:Constraint}{n:Int}{k:Nat}:(gv c n k).length=n.toNat:=by
 unfold gv;generalize c.Linear.bE.take k=l;have:∀(l:List iE) (v:List Int),(l.foldl qB v).length=v.length:=by
  intro l
  induction l with
  |nil=>intro v;rfl
  |cons x l ih=>intro v;rw[List.foldl_cons,ih];simp[qB]
 rw[this];simp
def oK(c:Constraint)(n:Int)(r:List bG):Prop:=(¬fM c n/\r=[])\/(fM c n/\∃q,p6 q (gv c n c.Linear.bE.length) (-c.Linear.Const)/\((c.jg=false/\r=[q])\/(c.jg=true/\∃q',p6 q' ((gv c n c.Linear.bE.length).map (λv=>-v)) c.Linear.Const/\r=[q,q'])))
theorem oK.uniq{c:Constraint}{n:Int}{r s:List bG}(h:oK c n r)(h':oK c n s):r=s:=by
 rcases h with⟨h1,rfl⟩|⟨h1,q,hq,h2⟩<;>rcases h' with⟨g1,rfl⟩|⟨g1,q',gq,g2⟩
 . rfl
 . exact bV g1 h1
 . exact bV h1 g1
 . have e:=hq.uniq gq;subst e;rcases h2 with⟨h3,rfl⟩|⟨h3,p,hp,rfl⟩<;>rcases g2 with⟨g3,rfl⟩|⟨g3,p',gp,rfl⟩
   . rfl
   . rw[h3]at g3;cases g3
   . rw[h3]at g3;cases g3
   . rw[hp.uniq gp]
theorem Bw{z:Int}{x:aC}(h:Is x z)(hz:fY z):bF aE x.aQ/\x.aQ.length<=2:=⟨h.dg.bP,h.len (by unfold fY at hz;have e:aE^2=18446744073709551616:=(by decide);omega)⟩
theorem U5{l:List aC}{vs:List Int}{bound:aC}{z:Int}(hl:fx l vs)(hv:∀v∈vs,fY v)(hb:Is bound z)(hz:fY z)(hn:l.length<=512):Tm (λN=>ya N l bound) (λr=>p6 r (vs.map (λv=>-v)) z):=by
 unfold ya;refine Tm.bind (pG hb.dg.bP (by have:=(Bw hb hz).2;omega)) ?_;rintro b ⟨hb',-⟩;rw[hb.bv]at hb';refine Tm.bind (Tm.loop (λs:List aC×Int=>∃k:Nat,s.2=k/\k<=l.length/\fx s.1 ((vs.take k).map (λv=>-v))) (λs=>l.length-s.2.toNat) (Q:=λr=>fx r (vs.map (λv=>-v))) ⟨0,rfl,fV _,by simpa using fx.nil⟩ ?_) (λr h=>aW ⟨h,hb'⟩);rintro⟨cs,i⟩ ⟨k,rfl,hk,h⟩;have hlv:=hl.1;dsimp only[Eb]at*;refine bA (λh1=>?_) (λh1=>aW ?_)
 . have hkl:k<l.length:=by omega
   have hx:=hl.2 k hkl (by omega);have hxv:=hv _ (dJ (show k<vs.length by omega));refine aL (dA hkl) (Tm.bind (Ch hx.dg.bP (by have:=(Bw hx hxv).2;omega)) ?_);rintro m ⟨hm,-⟩;rw[hx.bv]at hm;have hcl:=h.1;simp only[cT,fA]at hcl;refine aL (eb (by simp only[cJ,dZ];omega) (by decide)) (aW ⟨⟨k+1,by dsimp only;rw[bL]<;>omega,by omega,?_⟩,?_⟩)
   . rw[qu (by omega),jP];exact h.snoc hm
   . show l.length-(iw ((k:Int)+1)).toNat<l.length-((k:Int)).toNat;rw[bL]<;>omega
 . show fx cs _;rwa[fC (by omega)]at h
theorem OD{q:bG}{vs:List Int}{bound:aC}{z:Int}(hl:fx q.bE vs)(hv:∀v∈vs,fY v)(hb:Is bound z)(hz:fY z)(hn:q.bE.length<=512):Tm (λN=>rF N q bound) (λr=>p6 r (vs.map (λv=>-v)) z):=by
 unfold rF;refine Tm.bind (LW hb.dg.bP (by have:=(Bw hb hz).2;omega)) ?_;rintro b ⟨hb',-⟩;rw[hb.bv]at hb';refine Tm.bind (Tm.loop (λs:List aC×Int=>∃k:Nat,s.2=k/\k<=q.bE.length/\fx s.1 ((vs.take k).map (λv=>-v))) (λs=>q.bE.length-s.2.toNat) (Q:=λr=>fx r (vs.map (λv=>-v))) ⟨0,rfl,fV _,by simpa using fx.nil⟩ ?_) (λr h=>aW ⟨h,hb'⟩);rintro⟨cs,i⟩ ⟨k,rfl,hk,h⟩;have hlv:=hl.1;dsimp only[AK]at*;refine bA (λh1=>?_) (λh1=>aW ?_)
 . have hkl:k<q.bE.length:=by omega
   have hx:=hl.2 k hkl (by omega);have hxv:=hv _ (dJ (show k<vs.length by omega));refine aL (dA hkl) (Tm.bind (xI hx.dg.bP (by have:=(Bw hx hxv).2;omega)) ?_);rintro m ⟨hm,-⟩;rw[hx.bv]at hm;have hcl:=h.1;simp only[cT,fA]at hcl;refine aL (eb (by simp only[cJ,dZ];omega) (by decide)) (aW ⟨⟨k+1,by dsimp only;rw[bL]<;>omega,by omega,?_⟩,?_⟩)
   . rw[qu (by omega),jP];exact h.snoc hm
   . show q.bE.length-(iw ((k:Int)+1)).toNat<q.bE.length-((k:Int)).toNat;rw[bL]<;>omega
 . show fx cs _;rwa[fC (by omega)]at h
theorem Cs{c:Constraint}{n:Int}{k:Nat}(hc:oO c):∀v∈gv c n k,fY v:=by
 induction k with
 |zero=>
  intro v hv;simp only[gv,NY,NZ]at hv;rw[(zr.1 hv).2];unfold fY;omega
 |succ k ih=>
  rcases cH k c.Linear.bE.length with h|h
  . rw[xu h];intro v hv;rcases qp hv with hv|rfl
    . exact ih v hv
    . exact hc.lM _ (dJ h)
  . have e:gv c n (k+1)=gv c n k:=by
     unfold gv;rw[fC (by omega),fC h]
    rw[e];exact ih
theorem SO{c:Constraint}{n:Int}(hc:oO c):Tm (λN=>cOf N c n) (oK c n):=by
 unfold cOf;refine Tm.bind (MF hc.len) ?_;intro r hr;refine bA (λh=>aW (.inl ⟨λe=>(by rw[hr.2 e]at h;cases h),rfl⟩)) (λh=>?_);have hR:fM c n:=hr.1 (by simpa using h);refine aL (iy (n:=n.toNat) (by have:=hR.2;omega) (by have:=hR.2;omega) (by decide)) ?_;have hn:n.toNat<=512:=by have:=hR.2;omega
 refine Tm.bind (Cv hc.const.1 hc.const.2) ?_;rintro k0 ⟨hk0,hk0l⟩;refine Tm.bind (Ch hk0.dg.bP (by omega)) ?_;rintro b ⟨hb,-⟩;rw[hk0.bv]at hb;refine Tm.bind (Tm.loop (λs:List aC×Int=>∃k:Nat,s.2=k/\k<=c.Linear.bE.length/\fx s.1 (gv c n k)) (λs=>c.Linear.bE.length-s.2.toNat) (Q:=λr=>fx r (gv c n c.Linear.bE.length)) ⟨0,rfl,fV _,by simpa[gv]using fx.dH⟩ ?_) ?_
 . rintro⟨cs,i⟩ ⟨k,rfl,hk,h⟩;dsimp only[DW]at*;refine bA (λh1=>?_) (λh1=>aW ?_)
   . have hkl:k<c.Linear.bE.length:=by omega
     have hv:=hR.1 k hkl;have hx:=hc.lM _ (dJ hkl);have hcl:=h.1;rw[tk]at hcl;refine aL (dA hkl) (Tm.bind (Cv hx.1 hx.2) ?_);rintro m ⟨hm,-⟩;refine aL (gW (n:=c.Linear.bE[k].Var.toNat) (by omega) (by omega)) (aL (eE (n:=c.Linear.bE[k].Var.toNat) (by omega) (by omega)) (aW ⟨⟨k+1,by have:=hc.len;dsimp only;rw[bL]<;>omega,by omega,?_⟩,?_⟩))
     . rw[xu hkl];exact h.set hm
     . show c.Linear.bE.length-(iw ((k:Int)+1)).toNat<c.Linear.bE.length-((k:Int)).toNat;have:=hc.len;rw[bL]<;>omega
   . obtain rfl:k=c.Linear.bE.length:=by omega
     exact h
 . rintro cs hcs;refine bA (λh1=>aW (.inr ⟨hR,_,⟨hcs,hb⟩,.inl ⟨by simpa using h1,rfl⟩⟩)) (λh1=>?_);refine Tm.bind (Cv hc.const.1 hc.const.2) ?_;rintro k1 ⟨hk1,-⟩;refine Tm.bind (U5 hcs (Cs hc) hk1 hc.const (by rw[hcs.1,tk];exact hn)) ?_;rintro q' hq';exact aW (.inr ⟨hR,_,⟨hcs,hb⟩,.inr ⟨by simpa using h1,q',hq',rfl⟩⟩)
theorem Vj{c:Constraint}{n:Int}(hc:oO c):Tm (λN=>zf N c n) (oK c n):=by
 unfold zf;refine Tm.bind (EY hc.len) ?_;intro r hr;refine bA (λh=>aW (.inl ⟨λe=>(by rw[hr.2 e]at h;cases h),rfl⟩)) (λh=>?_);have hR:fM c n:=hr.1 (by simpa using h);have hn:n.toNat<=512:=by have:=hR.2;omega
 refine Tm.bind (Q:=(·=bG.mk (List.replicate n.toNat fj) fj)) ?_ ?_
 . unfold u9;exact aL (iy (n:=n.toNat) (by have:=hR.2;omega) (by omega) (by decide)) (aW rfl)
 rintro _ rfl;dsimp only;refine Tm.bind (Tm.loop (λs:List aC×Int=>∃k:Nat,s.2=k/\k<=c.Linear.bE.length/\fx s.1 (gv c n k)) (λs=>c.Linear.bE.length-s.2.toNat) (Q:=λr=>fx r (gv c n c.Linear.bE.length)) ⟨0,rfl,fV _,by simpa[gv]using fx.dH⟩ ?_) ?_
 . rintro⟨cs,i⟩ ⟨k,rfl,hk,h⟩;dsimp only[DN]at*;refine bA (λh1=>?_) (λh1=>aW ?_)
   . have hkl:k<c.Linear.bE.length:=by omega
     have hv:=hR.1 k hkl;have hx:=hc.lM _ (dJ hkl);have hcl:=h.1;rw[tk]at hcl;refine aL (dA hkl) (aL (dA hkl) (Tm.bind (px hx.1 hx.2) ?_));rintro m ⟨hm,-⟩;refine aL (gW (n:=c.Linear.bE[k].Var.toNat) (by omega) (by omega)) (aL (eE (n:=c.Linear.bE[k].Var.toNat) (by omega) (by omega)) (aW ⟨⟨k+1,by have:=hc.len;dsimp only;rw[bL]<;>omega,by omega,?_⟩,?_⟩))
     . rw[xu hkl];exact h.set hm
     . show c.Linear.bE.length-(iw ((k:Int)+1)).toNat<c.Linear.bE.length-((k:Int)).toNat;have:=hc.len;rw[bL]<;>omega
   . obtain rfl:k=c.Linear.bE.length:=by omega
     exact h
 . rintro cs hcs;refine Tm.bind (px hc.const.1 hc.const.2) ?_;rintro k0 ⟨hk0,hk0l⟩;refine Tm.bind (xI hk0.dg.bP (by omega)) ?_;rintro b ⟨hb,-⟩;rw[hk0.bv]at hb;refine bA (λh1=>aW (.inr ⟨hR,_,⟨hcs,hb⟩,.inl ⟨by simpa using h1,rfl⟩⟩)) (λh1=>?_);refine Tm.bind (OD (q:=⟨cs,b⟩) hcs (Cs hc) hk0 hc.const (by show cs.length<=_;rw[hcs.1,tk];exact hn)) ?_;rintro q' hq';exact aW (.inr ⟨hR,_,⟨hcs,hb⟩,.inr ⟨by simpa using h1,q',hq',rfl⟩⟩)
end Go.D
namespace Go.Proofs.YtipdkfmhfakbnaaGreatDoor.TB
open Go Go.RowKit Go.X Go.Q
instance:fq:=⟨[0],λ_ o=>∃t fr,o=.cells (Lib.pow10Tab.map λz=>Value.int .u64 z).toArray t fr⟩
theorem Qx{w:World}(h:∀g∈fq.l,∃o,w.heap[g]?=some o/\fq.p g o):Lib.TabIs Tryz.prog w "internal/strconv.uint64pow10" .u64 Lib.pow10Tab:=by
 obtain⟨o,h1,t,fr,rfl⟩:=h 0 (cG.2 rfl);unfold Lib.TabIs World.var?;rw[show Program.globalNamed Tryz.prog "internal/strconv.uint64pow10"=some 0 by kernel_rfl];simp[h1]
theorem OC{w:World}(h:Lib.TabIs Tryz.prog w "internal/strconv.uint64pow10" .u64 Lib.pow10Tab):∀g∈fq.l,∃o,w.heap[g]?=some o/\fq.p g o:=by
 intro g hg;obtain rfl:=cG.1 hg;unfold Lib.TabIs World.var? at h;rw[show Program.globalNamed Tryz.prog "internal/strconv.uint64pow10"=some 0 by kernel_rfl]at h;simp only[G9]at h;cases ho:w.heap[0]?with
 |none=>rw[ho]at h;cases h
 |some o=>
  rw[ho]at h;cases o with
  |cells cs t fr=>exact⟨_,rfl,t,fr,by rw[jh h]⟩
  |_=>cases h
end Go.Proofs.YtipdkfmhfakbnaaGreatDoor.TB
namespace Go.D
open Go Go.X
theorem RL:∀i,i<256->sK.getD i 0<=8/\(0<i->0<(sK.getD i 0).toNat/\2^((sK.getD i 0).toNat-1)<=i/\i<2^(sK.getD i 0).toNat):=by decide+kernel
theorem EV:sK.length=256:=by decide+kernel
theorem Ik{x:Int}{n:Nat}(h:n<=32):fL .u32 x n=x/2^n:=by
 unfold fL;rw[show min ((n:Int)).toNat IntKind.u32.bits=n by show min _ 32=n;omega];exact jQ _ (dY (ky (by decide)))
theorem Up{x:Int}(h0:0<x)(h1:x<4294967296):Tm (λN=>yn N x) (λr=>∃k:Nat,r=k/\0<k/\k<=32/\2^(k-1)<=x/\x<2^k):=by
 unfold yn;refine Tm.bind (Q:=λp:Int×Int=>∃m:Nat,p.2=m/\m<=16/\0<p.1/\p.1<65536/\p.1*2^m<=x/\x<(p.1+1)*2^m) (bA (λh=>aW ?_) (λh=>aW ?_)) ?_
 . refine⟨16,rfl,by decide,?_⟩;rw[show fL .u32 x 16=x/2^16 from Ik (n:=16) (by decide)];have e:(2:Int)^16=65536:=by decide
   dsimp only;rw[e];omega
 . exact⟨0,rfl,by decide,h0,by dsimp only;omega,by simp,by dsimp only;omega⟩
 rintro⟨y,_⟩ ⟨m,rfl,hm,y0,y1,hy,hy'⟩;dsimp only at*;refine Tm.bind (Q:=λp:Int×Int=>∃m:Nat,p.2=m/\m<=24/\0<p.1/\p.1<256/\p.1*2^m<=x/\x<(p.1+1)*2^m) (bA (λh=>aW ?_) (λh=>aW ?_)) ?_
 . refine⟨m+8,by dsimp only;rw[bL]<;>omega,by omega,?_⟩;rw[show fL .u32 y 8=y/2^8 from Ik (n:=8) (by decide)];have e:(2:Int)^8=256:=by decide
   have hp:(0:Int)<2^m:=ky (by decide);dsimp only;rw[jO,e];refine⟨by omega,by omega,?_,?_⟩
   . have:y/256*256*2^m<=y*2^m:=eU (by omega) (by omega);have e2:y/256*(2^m*256)=y/256*256*2^m:=by grind
     omega
   . have:(y+1)*2^m<=(y/256+1)*256*2^m:=eU (by omega) (by omega);have e2:(y/256+1)*(2^m*256)=(y/256+1)*256*2^m:=by grind
     omega
 . exact⟨m,rfl,by omega,y0,by dsimp only;omega,hy,hy'⟩
 rintro⟨z,_⟩ ⟨m,rfl,hm,z0,z1,hz,hz'⟩;dsimp only at*;have hu:uw8 z=(z.toNat:Int):=by unfold uw8;rw[show IntKind.u8.wrap z=z%256 from wu8];omega
 refine aL (gW (n:=z.toNat) hu (by rw[EV];omega)) (aW ?_);obtain⟨t1,t2⟩:=RL z.toNat (by omega);rw[cN,cy (by rw[EV];omega)]at t1 t2;simp only[CU]at t1 t2;generalize sK[z.toNat]'(by rw[EV];omega)=t at*;obtain⟨p0,p1,p2⟩:=t2 (by omega);have t1':t.toNat<=8:=by simpa[UInt8.le_iff_toNat_le]using t1
 have e1:iw (t.toNat:Int)=t.toNat:=by rw[bL]<;>omega
 rw[e1];have hp:(0:Int)<2^m:=ky (by decide);have p1':((2:Int)^(t.toNat-1))<=z:=by
  have h:((2^(t.toNat-1):Nat):Int)<=(z.toNat:Int):=Int.ofNat_le.2 p1;rw[Int.toNat_of_nonneg (by omega),Da]at h;exact h
 have p2':z+1<=(2:Int)^t.toNat:=by
  have h:(z.toNat:Int)<((2^t.toNat:Nat):Int):=Int.ofNat_lt.2 p2;rw[Int.toNat_of_nonneg (by omega),Da]at h;exact h
 refine⟨m+t.toNat,by rw[bL]<;>omega,by omega,by omega,?_,?_⟩
 . rw[show m+t.toNat-1=(t.toNat-1)+m by omega,jO];exact Int.le_trans (eU p1' (by omega)) hz
 . rw[Nat.add_comm,jO];exact Int.lt_of_lt_of_le hz' (eU p2' (by omega))
theorem Ty{x:Int}(h0:0<x)(h1:x<4294967296):Tm (λN=>y9 N x) (λr=>∃s:Nat,r=s/\s<=31/\2147483648<=x*2^s/\x*2^s<4294967296):=by
 unfold y9;refine Tm.bind (Up h0 h1) ?_;rintro _ ⟨k,rfl,k0,k1,hk,hk'⟩;refine aW ⟨32-k,by rw[bL]<;>omega,by omega,?_,?_⟩
 . have:=eU hk (show(0:Int)<=2^(32-k) from dY (ky (by decide)));rw[<-jO,show k-1+(32-k)=31 by omega]at this;exact this
 . have:=N3 hk' (show(0:Int)<2^(32-k) from ky (by decide));rw[<-jO,show k+(32-k)=32 by omega]at this;exact this
open Go Go.X
theorem RG{k:IntKind}{x y n:Nat}(hx:k.wrap (x:Int)=x)(hy:k.wrap (y:Int)=y)(h:x<2^n)(hm:2^n∣y):j3 k x y=((x+y:Nat):Int):=by
 rw[IG hx hy];obtain⟨q,rfl⟩:=hm;rw[Nat.or_comm,<-Nat.two_pow_add_eq_or_of_lt h,Nat.add_comm]
theorem tD{l:List Int}{n m:Nat}{y:Int}(h:n<l.length):(l.set n y).getD m 0=if n=m then y else l.getD m 0:=by
 rw[cN,cN,rM];by_cases e:n=m
 . subst e;simp[h]
 . simp[e]
theorem Jn{z:Nat}(h:z<4294967296):IntKind.u32.wrap (z:Int)=z:=by rw[show IntKind.u32.wrap (z:Int)=(z:Int)%4294967296 from wu32];omega
theorem Aa{s:Nat}(h:s<=31):(2:Int)^s*2^(32-s)=4294967296:=by rw[<-jO,show s+(32-s)=32 by omega];decide
theorem KO{a:List Int}{n:Int}{s:Nat}(hn:n=s)(hs:s<=31)(ha:bF aE a)(hl:a.length<=17592186044416):Tm (λN=>vT N a n) (λr=>bF aE r/\val aE r=val aE a*2^s/\r.length=a.length+1):=by
 unfold vT;subst hn;have hP:(0:Int)<2^s:=ky (by decide);have hQ:(0:Int)<2^(32-s):=ky (by decide);have hPQ:=Aa hs;refine aL (iy (n:=a.length+1) (by rw[bL]<;>omega) (by omega) (by decide)) ?_;refine Tm.bind (Q:=λr=>bF aE r/\val aE r=val aE a*2^s/\r.length=a.length+1)
  (Tm.loop (λt:List Int×Int=>∃k:Nat,t.2=k/\k<=a.length/\t.1.length=a.length+1/\bF aE t.1/\t.1.getD k 0<2^s/\val aE (t.1.take (k+1))=val aE (a.take k)*2^s) (λt=>a.length-t.2.toNat)
   ⟨0,rfl,fV _,by simp,bF.dH (by decide),?_,?_⟩ ?_) (λr h=>aW h)
 . show(List.replicate (a.length+1) (0:Int)).getD 0 0<_;simpa using hP
 . show val aE ((List.replicate (a.length+1) (0:Int)).take 1)=_;rw[List.take_replicate,Ck];simp[val]
 rintro⟨out,i⟩ ⟨k,rfl,hk,ho,hB,hc,hv⟩;dsimp only[GV]at*;refine bA (λh=>?_) (λh=>aW ?_)
 . have hx:=ha.get (n:=k) (by omega);have ex:a.getD k 0=a[k]'(by omega):=gA (by omega);refine aL (dA (by omega)) (aL (yM (by omega)) (aL (dA (by omega)) (aL (dA (by omega)) ?_)));generalize a[k]'(by omega)=x at*;have hco:=hB.get (n:=k) (by omega);have eo:out.getD k 0=out[k]'(by omega):=gA (by omega);have hvs:=λy=>take_set (l:=out) (n:=k) (y:=y) (by omega);rw[eo]at hc;rw[fR,eo]at hv;generalize out[k]'(by omega)=c at*;simp only[aE]at hx;have hw0:0<=x*2^s:=eW hx.1 (by omega);have hP31:(2:Int)^s<=2147483648:=by
    have:=kO (B:=2) (by decide) hs;exact this
   have hw1:x*2^s<=4294967295*2147483648:=mW (by omega) hP31 (by omega) (by decide);have ew:jx .u64 (uw x) s=x*2^s:=by
    unfold jx;rw[show uw x=x by rw[gk];omega,show min ((s:Int)).toNat IntKind.u64.bits=s by show min _ 64=s;omega];rw[show IntKind.u64.wrap (x*2^s)=(x*2^s)%18446744073709551616 from wu];omega
   rw[ew,xt,gN];have hlo:(x*2^s)%4294967296=(x%2^(32-s))*2^s:=by
    rw[<-hPQ,fD x,Int.mul_emod_mul_of_pos _ _ hP,fD]
   have hhi:x*2^s/4294967296=x/2^(32-s):=by
    rw[<-hPQ,fD ((2:Int)^s) (2^(32-s)),Int.mul_ediv_mul_of_pos_left _ _ hP]
   have hhi1:x/2^(32-s)<2^s:=Hx hQ (by rw[hPQ];omega);have hhi0:0<=x/2^(32-s):=zv hx.1 (by omega);have hlo0:0<=x%2^(32-s):=mX _ (by omega);have hlo1:x%2^(32-s)+1<=2^(32-s):=mY _ hQ;have hlo2:(x%2^(32-s))*2^s+2^s<=4294967296:=by
    have:=eU hlo1 (show(0:Int)<=2^s by omega);rw[fD (2^(32-s)) (2^s),hPQ]at this;grind
   have hor:j3 .u32 c ((x*2^s)%4294967296)=c+(x%2^(32-s))*2^s:=by
    rw[hlo];obtain⟨cn,rfl⟩:=qw hco.1;obtain⟨ln,hln⟩:=qw hlo0;rw[hln];have e1:(ln:Int)*2^s=((ln*2^s:Nat):Int):=by simp
    have hl0:0<=(ln:Int)*2^s:=eW (by omega) (by omega);rw[hln]at hlo2;rw[e1]at hlo2⊢;simp only[aE]at hco;rw[RG (n:=s) (Jn (by omega)) (Jn (by omega)) (by have:((cn:Nat):Int)<((2^s:Nat):Int):=(by simpa using hc);omega) (Nat.dvd_mul_left _ _)];omega
   rw[hor];refine aL (eE rfl (by omega)) ?_;have hB1:bF aE (out.set k (c+(x%2^(32-s))*2^s)):=hB.set (by
    have:0<=(x%2^(32-s))*2^s:=eW hlo0 (by omega);simp only[aE]at*;omega)
   have hi1:iw ((k:Int)+1)=((k+1:Nat):Int):=by rw[bL]<;>omega
   refine aL (gW hi1 (by simp;omega)) (aL (eE hi1 (by simp;omega)) ?_);have ehi:eu (x*2^s/4294967296)=x/2^(32-s):=by rw[hhi,gN];omega
   rw[ehi];refine aW ⟨⟨k+1,hi1,by omega,by simp;omega,hB1.set (by simp only[aE];omega),?_,?_⟩,?_⟩
   . show(((out.set k _).set (k+1) _).getD (k+1) 0)<2^s;rw[tD (by simp;omega),bD rfl];exact hhi1
   . show val aE (((out.set k _).set (k+1) _).take (k+1+1))=_;rw[take_set (by simp;omega),hvs,fR,ex,fu];have:=j8 x (2^(32-s));have hw:aE=2^s*2^(32-s):=hPQ.symm;have e3:aE^k*aE*(x/2^(32-s))=aE^k*(2^s*(2^(32-s)*(x/2^(32-s)))):=by
      conv=>lhs;rw[N4,show aE*(x/2^(32-s))=2^s*2^(32-s)*(x/2^(32-s)) by rw[<-hw]]
      rw[N4]
     rw[e3];grind
   . show a.length-(iw ((k:Int)+1)).toNat<a.length-((k:Int)).toNat;rw[hi1];omega
 . obtain rfl:k=a.length:=by omega
   rw[lh (by omega),lh (bO _)]at hv;exact⟨hB,hv,ho⟩
open Go Go.X
theorem gH{xs:List Int}{i:Int}{n:Nat}(e:i=(n:Int))(h:n<xs.length):idx xs i=some (xs.getD n 0):=by
 rw[gA h];exact gW e h
theorem F4{k:IntKind}{x y:Int}(h:y≠0):sdiv k x y=some (k.wrap (x.tdiv y)):=by unfold sdiv;rw[aY h]
theorem Lu{x y:Int}(h:y≠0):srem x y=some (x.tmod y):=by unfold srem;rw[aY h]
theorem BS{z:Nat}(h:z<18446744073709551616):IntKind.u64.wrap (z:Int)=z:=by rw[show IntKind.u64.wrap (z:Int)=(z:Int)%18446744073709551616 from wu];omega
theorem TF{x:Int}(h0:0<=x)(h1:x<4294967296):jx .u64 x 32=x*4294967296:=by
 unfold jx;rw[show((2:Int)^(min (32:Int).toNat IntKind.u64.bits))=4294967296 from rfl];rw[show IntKind.u64.wrap (x*4294967296)=(x*4294967296)%18446744073709551616 from wu];omega
theorem AB{x y:Int}(h0:0<=x)(h1:x<4294967296)(h2:0<=y)(h3:y<4294967296):j3 .u64 (jx .u64 x 32) y=x*4294967296+y:=by
 rw[TF h0 h1];obtain⟨a,rfl⟩:=qw h0;obtain⟨b,rfl⟩:=qw h2;rw[show(a:Int)*4294967296=((a*2^32:Nat):Int) by simp];rw[IG (BS (by omega)) (BS (by omega)),<-Nat.shiftLeft_eq,<-Nat.shiftLeft_add_eq_or_of_lt (by omega),Nat.shiftLeft_eq];omega
theorem TA{z:Int}(h0:0<=z)(h1:z<18446744073709551616):qP .u64 z 4294967295=z%4294967296:=by
 obtain⟨a,rfl⟩:=qw h0;rw[show(4294967295:Int)=((2^32-1:Nat):Int) by decide,PF (BS (by omega)) (BS (by decide)),Nat.and_two_pow_sub_one_eq_mod];omega
theorem ia{z:Int}(h0:0<=z)(h1:z<18446744073709551616):uw z=z:=by rw[gk];omega
theorem BI{x y:Int}(h:0<=x):x.tdiv y=x/y:=V1 h
theorem ER{x y:Int}(h:0<=x):x.tmod y=x%y:=V0 h
theorem HN{a:List Int}{y:Int}(ha:bF aE a)(h0:0<y)(h1:y<aE)(hl:a.length<=17592186044416):
 Tm (λN=>uZ N a y) (λr=>bF aE r.1/\val aE r.1=val aE a/y/\r.2=val aE a%y/\r.1.length=a.length):=by
 unfold uZ;refine aL (iy rfl (by omega) (by decide)) ?_;refine Tm.bind (Q:=λr:List Int×Int=>bF aE r.1/\r.1.length=a.length/\0<=r.2/\r.2<y/\val aE r.1*y+r.2=val aE a)
  (Tm.loop (λt:List Int×Int×Int=>∃k:Nat,t.2.2=(k:Int)-1/\k<=a.length/\t.1.length=a.length/\bF aE t.1/\0<=t.2.1/\t.2.1<y/\(∀j,j<k->t.1.getD j 0=0)/\val aE t.1*y+aE^k*t.2.1+val aE (a.take k)=val aE a) (λt=>(t.2.2+1).toNat)
   ⟨a.length,by rw[bL]<;>omega,bO _,by simp,bF.dH (by decide),by simp,h0,λj hj=>by rw[gA (by simpa using hj)];simp,by rw[lh (bO _),Ck];simp⟩ ?_) ?_
 . rintro⟨out,rest,i⟩ ⟨k,rfl,hk,ho,hB,r0,r1,hz,hv⟩;dsimp only[GG]at*;refine bA (λh=>?_) (λh=>aW ?_)
   . obtain⟨n,rfl⟩:∃n,k=n+1:=⟨k-1,by omega⟩;have hi:((n+1:Nat):Int)-1=(n:Int):=by omega
     rw[hi];have hx:=ha.getD (by decide) n;have hvt:=fR (B:=aE) (l:=a) (n:=n);refine aL (gH rfl (by omega)) ?_;generalize a.getD n 0=x at*;simp only[aE]at hx h1;have ex:uw x=x:=ia hx.1 (by omega);have ey:uw y=y:=ia (by omega) (by omega);rw[ex,ey,AB r0 (by omega) hx.1 hx.2];have hT0:0<=rest*4294967296+x:=by omega
     have hq1:(rest*4294967296+x)/y<4294967296:=Hx h0 (by
      have:=eU (show rest+1<=y by omega) (show(0:Int)<=4294967296 by decide);rw[fD 4294967296 y];omega)
     have hq0:0<=(rest*4294967296+x)/y:=zv hT0 (by omega);refine aL (F4 (by omega)) (aL (gH rfl (by omega)) (aL (eE rfl (by omega)) (aL (Lu (by omega)) (aW ?_))));rw[BI hT0,ER hT0,show IntKind.u64.wrap ((rest*4294967296+x)/y)=(rest*4294967296+x)/y from ia hq0 (by omega),show eu ((rest*4294967296+x)/y)=(rest*4294967296+x)/y by rw[gN];omega];have hm0:=mX (rest*4294967296+x) (show y≠0 by omega);have hm1:=mY (rest*4294967296+x) h0;have hd:=j8 (rest*4294967296+x) y;refine⟨⟨n,by show iw ((n:Int)-1)=_;rw[bL]<;>omega,by omega,by simp;omega,hB.set (by simp only[aE];omega),hm0,hm1,λj hj=>?_,?_⟩,?_⟩
     . show(out.set n _).getD j 0=0;rw[tD (by omega),aY (by omega)];exact hz j (by omega)
     . show val aE (out.set n _)*y+aE^n*((rest*4294967296+x)%y)+val aE (a.take n)=_;have hon:out[n]'(by omega)=0:=by have:=hz n (by omega);rwa[gA (by omega)]at this
       rw[wc (by omega),hon];rw[fu]at hv;have hw:aE=4294967296:=rfl;generalize(rest*4294967296+x)/y=q at*;generalize(rest*4294967296+x)%y=t at*;rw[<-hv,hvt];have e1:aE^n*aE*rest=aE^n*(rest*4294967296):=by rw[hw];grind
       have e2:aE^n*(t+y*q)=aE^n*(rest*4294967296+x):=by rw[hd]
       rw[e1];grind
     . show(iw ((n:Int)-1)+1).toNat<((n:Int)+1).toNat;rw[bL]<;>omega
   . obtain rfl:k=0:=by omega
     refine⟨hB,ho,r0,r1,?_⟩;simpa[val]using hv
 . rintro⟨out,rest⟩ ⟨hB,ho,r0,r1,hv⟩;dsimp only at*;simp only[aE]at h1;refine aW ⟨hB,?_,?_,ho⟩
   . show val aE out=_;rw[<-hv,Int.add_comm,Int.add_mul_ediv_right _ _ (by omega),N5 r0 r1];omega
   . show eu rest=_;rw[gN,<-hv,Int.add_comm,Int.add_mul_emod_self_right,C6 r0 r1];omega
section
variable {W V R v1 v2 u2 top p vl rl g rest:Int}
theorem g_dec(hp:0<p)(hV:V=(v1*W+v2)*p+vl)(hvl:0<=vl)(hR:R=(top*W+u2)*p+rl)(hrl:rl<p)(ht:top=g*v1+rest)(hg:0<=g)(h:rest*W+u2<g*v2):R<g*V:=by
 have h1:top*W+u2+1<=g*(v1*W+v2):=by
  have e:g*(v1*W+v2)=(g*v1)*W+g*v2:=by grind
  have e2:top*W=(g*v1)*W+rest*W:=by rw[ht];grind
  omega
 have h2:=eU h1 (dY hp);have h3:0<=g*vl:=eW hg hvl;have e1:g*V=g*(v1*W+v2)*p+g*vl:=by rw[hV];grind
 have e2:(top*W+u2+1)*p=(top*W+u2)*p+p:=by grind
 omega
theorem g_top(hp:0<p)(hW:0<W)(hv2:v2<W)(hV:V=(v1*W+v2)*p+vl)(hvl:vl<p)(hR:R=(top*W+u2)*p+rl)(hu2:0<=u2)(hrl:0<=rl)(h:R<W*V):top<(v1+1)*W:=by
 have h1:top*W<W*(v1*W+v2+1):=by
  rcases o9 (top*W) (W*(v1*W+v2+1))with h1|h1
  . exact h1
  . exfalso;have h2:=eU (show W*(v1*W+v2+1)<=top*W+u2 by omega) (dY hp);have h3:W*vl<W*p:=V2 hvl hW;have e1:W*V=W*(v1*W+v2)*p+W*vl:=by rw[hV];grind
    have e2:W*(v1*W+v2+1)*p=W*(v1*W+v2)*p+W*p:=by grind
    omega
 have h2:W*top<W*(v1*W+v2+1):=by rw[fD W top];exact h1
 have h3:=Hy h2 (dY hW);have e:(v1+1)*W=v1*W+W:=by grind
 omega
theorem Pq(hv1:0<v1)(ht:top=g*v1+rest)(hr:W<=rest)(h:top<(v1+1)*W):g<W:=by
 have h1:g*v1<W*v1:=by
  have e:(v1+1)*W=W*v1+W:=by grind
  omega
 exact N6 h1 (dY hv1)
theorem g_brk(hp:0<p)(hW:0<W)(hv2:0<=v2)(hv2':v2<W)(hV:V=(v1*W+v2)*p+vl)(hvl:0<=vl)(hvl':vl<p)(hR:R=(top*W+u2)*p+rl)(hu2:0<=u2)(hrl:0<=rl)
 (ht:top=g*v1+rest)(hr:W<=rest)(hg:0<=g)(hgW:g<W):g*V<=R:=by
 have h1:g*(v2*p+vl)<=W*(W*p):=by
  have:v2*p+vl<=W*p:=by
   have:=eU (show v2+1<=W by omega) (dY hp);have e:(v2+1)*p=v2*p+p:=by grind
   omega
  have h0:0<=v2*p+vl:=by have:=eW hv2 (dY hp);omega
  exact mW (by omega) this h0 (by omega)
 have h2:W*(W*p)<=rest*(W*p):=eU hr (eW (by omega) (by omega));have h3:0<=u2*p:=eW hu2 (by omega);have e1:g*V=g*v1*(W*p)+g*(v2*p+vl):=by rw[hV];grind
 have e2:R=g*v1*(W*p)+rest*(W*p)+u2*p+rl:=by rw[hR,ht];grind
 omega
theorem g_end(hp:0<p)(hW:0<W)(hv1:0<v1)(hv2:0<=v2)(hV:V=(v1*W+v2)*p+vl)(hvl:0<=vl)(hvl':vl<p)(hR:R=(top*W+u2)*p+rl)(hrl:0<=rl)
 (ht:top=g*v1+rest)(hg:0<=g)(hgW:g<W)(h:g*v2<=rest*W+u2):g*V<=R+V:=by
 have h1:g*(v1*W+v2)<=top*W+u2:=by
  have e:g*(v1*W+v2)=(g*v1)*W+g*v2:=by grind
  have e2:top*W=(g*v1)*W+rest*W:=by rw[ht];grind
  omega
 have h2:=eU h1 (dY hp);have h3:g*vl<=W*p:=mW (by omega) (by omega) hvl (by omega);have h4:W*p<=v1*(W*p):=by
  have:=eU (show 1<=v1 by omega) (show 0<=W*p from eW (by omega) (by omega));omega
 have h5:0<=v2*p:=eW hv2 (by omega);have e1:g*V=g*(v1*W+v2)*p+g*vl:=by rw[hV];grind
 have e2:V=v1*(W*p)+v2*p+vl:=by rw[hV];grind
 omega
theorem O5(hp:0<p)(hW:0<W)(hv1:0<v1)(hv2:0<=v2)(hV:V=(v1*W+v2)*p+vl)(hvl:0<=vl)(hR:R=(top*W+u2)*p+rl)(hu2:u2<W)(hrl:rl<p)
 (ht:top=g*v1+rest)(hr:rest<v1)(hg:0<=g):R<(g+1)*V:=by
 have h1:(top+1)*(W*p)<=(g+1)*v1*(W*p):=eU (by have e:(g+1)*v1=g*v1+v1:=(by grind);omega) (eW (by omega) (by omega));have h2:0<=(g+1)*(v2*p+vl):=eW (by omega) (by have:=eW hv2 (dY hp);omega);have h3:=eU (show u2+1<=W by omega) (dY hp);have e1:(g+1)*V=(g+1)*v1*(W*p)+(g+1)*(v2*p+vl):=by rw[hV];grind
 have e2:R=top*(W*p)+u2*p+rl:=by rw[hR];grind
 have e3:(top+1)*(W*p)=top*(W*p)+W*p:=by grind
 have e4:(u2+1)*p=u2*p+p:=by grind
 omega
end
theorem b2_tm{b v u:List Int}{n m:Nat}{V R v1 v2 u2 top p vl rl g0 r0:Int}(hb:b.length=m)(hv:v.length=m)(hm:2<=m)(hu:n+m<u.length)(hul:u.length<=35184372088832)
 (e1:v.getD (m-1) 0=v1)(e2:v.getD (m-2) 0=v2)(e3:u.getD (n+m-2) 0=u2)(hv1:0<v1/\v1<4294967296)(hv2:0<=v2/\v2<4294967296)(hu2:0<=u2/\u2<4294967296)
 (hp:0<p)(hV:V=(v1*4294967296+v2)*p+vl)(hvl:0<=vl/\vl<p)(hR:R=(top*4294967296+u2)*p+rl)(hrl:0<=rl/\rl<p)(hRV:R<4294967296*V)
 (ht:top=g0*v1+r0)(hr0:0<=r0/\r0<v1)(hg0:0<=g0/\g0<18446744073709551616):
 Tm (λN=>bS (AV N b v u n) N (g0,r0)) (λg=>0<=g/\g<4294967296/\R<(g+1)*V/\g*V<=R+V):=by
 have htop:=g_top hp (by decide) hv2.2 hV hvl.2 hR hu2.1 hrl.1 hRV;have hV0:0<=V:=by
  have h1:=eW (show 0<=v1*4294967296+v2 by omega) (dY hp);omega
 refine Tm.loop (λt:Int×Int=>0<=t.1/\t.1<18446744073709551616/\0<=t.2/\t.2<4294967296/\top=t.1*v1+t.2/\R<(t.1+1)*V) (λt=>t.1.toNat)
  ⟨hg0.1,hg0.2,hr0.1,by omega,ht,O5 hp (by decide) hv1.1 hv2.1 hV hvl.1 hR hu2.2 hrl.2 ht hr0.2 hg0.1⟩ ?_
 rintro⟨g,rest⟩ ⟨g1,g2,r1,r2,ht,hRg⟩;dsimp only[AV]at*;have ev2:uw v2=v2:=ia hv2.1 (by omega);have eu2:uw u2=u2:=ia hu2.1 (by omega);have ev1:uw v1=v1:=ia (by omega) (by omega);refine Tm.bind (Q:=(·=decide (4294967295<g\/rest*4294967296+u2<g*v2))) (bA (λh=>aW ?_) (λh=>?_)) ?_
 . simp[show 4294967295<g from h]
 . refine aL (gH (n:=m-2) (by rw[bL]<;>omega) (by omega)) (aL (gH (n:=n+m-2) (by rw[show iw ((n:Int)+(b.length:Int))=(n:Int)+m by rw[bL]<;>omega,bL]<;>omega) (by omega)) (aW ?_));rw[e2,e3,ev2,eu2,AB r1 r2 hu2.1 hu2.2];have hgv:0<=g*v2/\g*v2<=4294967295*4294967295:=⟨eW g1 hv2.1,mW (by omega) (by omega) hv2.1 (by decide)⟩;rw[ia hgv.1 (by omega)];have:¬4294967295<g:=h;simp[this]
 rintro _ rfl;refine bA (λh=>?_) (λh=>aW ?_)
 . have h:=iL h;have hgp:0<g:=by
    rcases h with h|h
    . omega
    . rcases o9 0 g with h'|h'
      . exact h'
      . have:g=0:=by omega
        subst this;simp at h;omega
   have hRg':R<g*V:=by
    rcases h with h|h
    . have:=eU (show 4294967296<=g by omega) hV0;omega
    . exact g_dec hp hV hvl.1 hR hrl.2 ht g1 h
   have ht':top=(g-1)*v1+(rest+v1):=by rw[ht];grind
   refine aL (gH (n:=m-1) (by rw[bL]<;>omega) (by omega)) ?_;rw[e1,ev1,ia (show 0<=g-1 by omega) (by omega),ia (show 0<=rest+v1 by omega) (by omega)];refine bA (λh1=>aW ?_) (λh1=>aW ⟨⟨by dsimp only;omega,by dsimp only;omega,by dsimp only;omega,by dsimp only;omega,ht',?_⟩,?_⟩)
   . have hgW:=Pq hv1.1 ht' (show 4294967296<=rest+v1 by omega) htop;have:=g_brk hp (by decide) hv2.1 hv2.2 hV hvl.1 hvl.2 hR hu2.1 hrl.1 ht' (show 4294967296<=rest+v1 by omega) (by omega) hgW;refine⟨by omega,hgW,?_,by omega⟩;rw[show g-1+1=g by omega];exact hRg'
   . show R<(g-1+1)*V;rw[show g-1+1=g by omega];exact hRg'
   . show(g-1).toNat<g.toNat;omega
 . have h:¬(4294967295<g\/rest*4294967296+u2<g*v2):=λe=>h (by simpa using e);refine⟨g1,by omega,hRg,?_⟩;exact g_end hp (by decide) hv1.1 hv2.1 hV hvl.1 hvl.2 hR hrl.1 ht g1 (by omega) (by omega)
open Go Go.X
theorem vO{l:List Int}{m:Nat}(h:bF aE l)(hv:val aE l<aE^m):∀j,m<=j->l.getD j 0=0:=by
 intro j hj;rcases cH j l.length with hl|hl
 . rw[gA hl];have h1:=h.get hl;rcases o9 0 l[j]with h2|h2
   . exfalso;have e:=n7 (B:=aE) (l:=l) j (by omega);rw[fJ hl,sH]at e;have p0:=gm (B:=aE) (by decide) (h.take j);have p1:=gm (B:=aE) (by decide) (h.drop (j+1));have p2:=kI (B:=aE) (by decide) j;have p3:=kO (B:=aE) (by decide) hj;have p4:aE^j*1<=aE^j*(l[j]+aE*val aE (l.drop (j+1))):=ff (by have:=eW (show(0:Int)<=aE by decide) p1;omega) (by omega);omega
   . omega
 . exact nc hl
theorem Iz{l:List Int}{m:Nat}(h:bF aE l)(hz:∀j,m<=j->l.getD j 0=0):val aE l<aE^m:=by
 rcases cH m l.length with hm|hm
 . have:=xi (B:=aE) (l:=l) (n:=m) (by omega) (λk hk hmk=>by have:=hz k hmk;rwa[gA hk]at this);rw[<-this];have h2:=iG (B:=aE) (by decide) (h.take m);rwa[fA,kx (by omega)]at h2
 . have h2:=iG (B:=aE) (by decide) h;have h3:=kO (B:=aE) (by decide) hm;omega
theorem sx{l:List Int}{n j:Nat}:(l.drop n).getD j 0=l.getD (n+j) 0:=by
 rw[cN,cN,tX]
theorem b3_tm{b v u:List Int}{n m:Nat}{g:Int}(hb:b.length=m)(hv:v.length=m)(hvB:bF aE v)(huB:bF aE u)(hu:n+m<u.length)(hul:u.length<=35184372088832)(g0:0<=g)(g1:g<4294967296):
 Tm (λN=>bS (BO N g ((n+m+1:Nat):Int) (n:Int) v) N (u,0,0,0)) (λr=>bF aE r.1/\r.1.length=u.length/\r.1.take n=u.take n/\(∀k,n+m<k->r.1.getD k 0=u.getD k 0)/\0<=r.2/\r.2<=1/\val aE r.1=val aE u-aE^n*(g*val aE v)+aE^(n+(m+1))*r.2):=by
 refine Tm.loop (λt:List Int×Int×Int×Int=>∃j:Nat,t.2.2.2=j/\j<=m+1/\bF aE t.1/\t.1.length=u.length/\t.1.take n=u.take n/\(∀k,n+j<=k->t.1.getD k 0=u.getD k 0)/\0<=t.2.1/\t.2.1<4294967296/\(m<j->t.2.1=0)/\0<=t.2.2.1/\t.2.2.1<=1/\val aE t.1=val aE u-aE^n*(g*val aE (v.take j))+aE^(n+j)*(t.2.1+t.2.2.1)) (λt=>m+1-t.2.2.2.toNat)
  ⟨0,rfl,by omega,huB,rfl,rfl,λ_ _=>rfl,by simp,by simp,λ_=>rfl,by simp,by simp,by simp[val]⟩ ?_
 rintro⟨x,carry,borrow,jj⟩ ⟨j,rfl,hj,hB,hx,htk,hup,c0,c1,hc,b0,b1,hval⟩;dsimp only[BO]at*;refine bA (λh=>?_) (λh=>aW ?_)
 . have hjm:j<=m:=by omega
   refine Tm.bind (AX hvB) ?_;rintro d rfl;have hij:(n:Int)+(j:Int)=((n+j:Nat):Int):=by omega
   refine aL (yM (by omega)) (aL (gH hij (by omega)) (aL (yM (by omega)) (aL (gH hij (by omega)) (aL (eE hij (by omega)) (aW ?_)))));have hd:=hvB.getD (by decide) j;have hvt:=fR (B:=aE) (l:=v) (n:=j);have hd0:m<=j->v.getD j 0=0:=λh=>nc (by omega);have huu:=hB.getD (by decide) (n+j);have hset:=λy=>wc (B:=aE) (l:=x) (n:=n+j) (y:=y) (by omega);rw[<-gA (l:=x) (n:=n+j) (by omega)]at hset;generalize v.getD j 0=d at*;generalize hUU:x.getD (n+j) 0=uu at*;simp only[aE]at hd huu;have hgd:0<=g*d/\g*d<=4294967295*4294967295:=⟨eW g0 hd.1,mW (by omega) (by omega) hd.1 (by decide)⟩;rw[ia hgd.1 (by omega)];have hgd0:m<=j->g*d=0:=λh=>by rw[hd0 h];simp
   generalize hC:g*d=gd at*;rw[ia (show 0<=carry+gd by omega) (by omega),TA (by omega) (by omega),xt];have e1:uw (uw (uw uu-(carry+gd)%4294967296)-borrow)=(uu-(carry+gd)%4294967296-borrow)%18446744073709551616:=by
    rw[gk,gk,gk];omega
   rw[e1,IA,gN];have hy:(uu-(carry+gd)%4294967296-borrow)%18446744073709551616%4294967296=uu-(carry+gd)%4294967296-borrow+4294967296*((uu-(carry+gd)%4294967296-borrow)%18446744073709551616/9223372036854775808):=by omega
   have hb':0<=(uu-(carry+gd)%4294967296-borrow)%18446744073709551616/9223372036854775808/\(uu-(carry+gd)%4294967296-borrow)%18446744073709551616/9223372036854775808<=1:=by omega
   have hy2:0<=(uu-(carry+gd)%4294967296-borrow)%18446744073709551616%4294967296/\(uu-(carry+gd)%4294967296-borrow)%18446744073709551616%4294967296<4294967296:=by omega
   generalize(uu-(carry+gd)%4294967296-borrow)%18446744073709551616%4294967296=y at*;generalize(uu-(carry+gd)%4294967296-borrow)%18446744073709551616/9223372036854775808=bb at*;have hdm:=j8 (carry+gd) 4294967296;refine⟨⟨j+1,by show iw ((j:Int)+1)=_;rw[bL]<;>omega,by omega,hB.set (by simp only[aE];omega),by simp;omega,?_,?_,?_,?_,?_,hb'.1,hb'.2,?_⟩,?_⟩
   . show(x.set (n+j) y).take n=_;rw[zu (by omega)];exact htk
   . intro k hk;show(x.set (n+j) y).getD k 0=_;rw[tD (by omega),aY (by omega)];exact hup k (by omega)
   . show 0<=(carry+gd)/4294967296;omega
   . show(carry+gd)/4294967296<4294967296;omega
   . intro h1;show(carry+gd)/4294967296=0;have:=hgd0 (by omega);omega
   . show val aE (x.set (n+j) y)=_+aE^(n+(j+1))*((carry+gd)/4294967296+bb);rw[hset,hval,hvt,hy];have hw:aE=4294967296:=rfl;have hp:aE^(n+(j+1))=aE^n*aE^j*4294967296:=by rw[jO,fu,hw];grind
     rw[hp,jO];generalize aE^n=P at*;generalize aE^j=Q at*;have e3:g*(val aE (v.take j)+Q*d)=g*val aE (v.take j)+Q*gd:=by rw[<-hC];grind
     rw[e3];generalize(carry+gd)/4294967296=cc at*;generalize(carry+gd)%4294967296=c2 at*;have e4:gd=c2+4294967296*cc-carry:=by omega
     rw[e4];grind
   . show m+1-(iw ((j:Int)+1)).toNat<m+1-((j:Int)).toNat;rw[bL]<;>omega
 . have hjm:j=m+1:=by omega
   subst hjm;refine⟨hB,hx,htk,λk hk=>hup k (by omega),b0,b1,?_⟩;show val aE x=_;rw[hval,hc (by omega),lh (by omega),Db]
theorem b4_tm{v u:List Int}{n m:Nat}(hv:v.length=m)(hvB:bF aE v)(huB:bF aE u)(hu:n+m<u.length)(hul:u.length<=35184372088832):
 Tm (λN=>bS (zN N v n) N (u,0,0)) (λr=>bF aE r.1/\r.1.length=u.length/\r.1.take n=u.take n/\(∀k,n+m<=k->r.1.getD k 0=u.getD k 0)/\0<=r.2/\r.2<=1/\val aE r.1=val aE u+aE^n*val aE v-aE^(n+m)*r.2):=by
 refine Tm.loop (λt:List Int×Int×Int=>∃j:Nat,t.2.2=j/\j<=m/\bF aE t.1/\t.1.length=u.length/\t.1.take n=u.take n/\(∀k,n+j<=k->t.1.getD k 0=u.getD k 0)/\0<=t.2.1/\t.2.1<=1/\val aE t.1=val aE u+aE^n*val aE (v.take j)-aE^(n+j)*t.2.1) (λt=>m-t.2.2.toNat)
  ⟨0,rfl,by omega,huB,rfl,rfl,λ_ _=>rfl,by simp,by simp,by simp[val]⟩ ?_
 rintro⟨x,carry,jj⟩ ⟨j,rfl,hj,hB,hx,htk,hup,c0,c1,hval⟩;dsimp only[zN]at*;refine bA (λh=>?_) (λh=>aW ?_)
 . have hij:iw ((n:Int)+(j:Int))=((n+j:Nat):Int):=by rw[bL]<;>omega
   refine aL (gH hij (by omega)) (aL (gH rfl (by omega)) (aL (gH hij (by omega)) (aL (eE hij (by omega)) (aW ?_))));have hd:=hvB.getD (by decide) j;have hvt:=fR (B:=aE) (l:=v) (n:=j);have huu:=hB.getD (by decide) (n+j);have hset:=λy=>wc (B:=aE) (l:=x) (n:=n+j) (y:=y) (by omega);rw[<-gA (l:=x) (n:=n+j) (by omega)]at hset;generalize v.getD j 0=d at*;generalize hUU:x.getD (n+j) 0=uu at*;simp only[aE]at hd huu;have e1:uw (carry+uw (uw uu+uw d))=carry+uu+d:=by rw[gk,gk,gk,gk];omega
   rw[e1,xt,gN];have hdm:=j8 (carry+uu+d) 4294967296;refine⟨⟨j+1,by show iw ((j:Int)+1)=_;rw[bL]<;>omega,by omega,hB.set (by simp only[aE];omega),by simp;omega,?_,?_,?_,?_,?_⟩,?_⟩
   . show(x.set (n+j) _).take n=_;rw[zu (by omega)];exact htk
   . intro k hk;show(x.set (n+j) _).getD k 0=_;rw[tD (by omega),aY (by omega)];exact hup k (by omega)
   . show 0<=(carry+uu+d)/4294967296;omega
   . show(carry+uu+d)/4294967296<=1;omega
   . show val aE (x.set (n+j) ((carry+uu+d)%4294967296))=_-aE^(n+(j+1))*((carry+uu+d)/4294967296);rw[hset,hval,hvt];have hw:aE=4294967296:=rfl;have hp:aE^(n+(j+1))=aE^n*aE^j*4294967296:=by rw[jO,fu,hw];grind
     rw[hp,jO];generalize aE^n=P at*;generalize aE^j=Q at*;generalize(carry+uu+d)/4294967296=cc at*;generalize(carry+uu+d)%4294967296=c2 at*;have e4:c2=carry+uu+d-4294967296*cc:=by omega
     rw[e4];grind
   . show m-(iw ((j:Int)+1)).toNat<m-((j:Int)).toNat;rw[bL]<;>omega
 . have hjm:j=m:=by omega
   subst hjm;rw[lh (by omega)]at hval;exact⟨hB,hx,htk,hup,c0,c1,hval⟩
theorem LM{u x:List Int}{n:Nat}{t:Int}(hu:n<=u.length)(hx:x.length=u.length)(htk:x.take n=u.take n)(h:val aE x=val aE u+aE^n*t):val aE (x.drop n)=val aE (u.drop n)+t:=by
 rw[n7 (B:=aE) (l:=x) n (by omega),n7 (B:=aE) (l:=u) n hu,htk]at h;have h1:aE^n*val aE (x.drop n)=aE^n*(val aE (u.drop n)+t):=by rw[wM];omega
 exact NN (by have:=kI (B:=aE) (by decide) n;omega) h1
theorem top3{l:List Int}{m:Nat}(h:bF aE l)(hm:2<=m)(hl:m<l.length)(hv:val aE l<aE^(m+1)):val aE l=((l.getD m 0*aE+l.getD (m-1) 0)*aE+l.getD (m-2) 0)*aE^(m-2)+val aE (l.take (m-2)):=by
 have h0:=xi (B:=aE) (l:=l) (n:=m+1) (by omega) (λk hk hmk=>by have:=vO h hv k hmk;rwa[gA hk]at this);obtain⟨k,rfl⟩:∃k,m=k+2:=⟨m-2,by omega⟩;rw[<-h0,fR,fR (n:=k+1),fR (n:=k),show k+2-1=k+1 by omega,show k+2-2=k by omega,fu,fu];grind
theorem top2{l:List Int}{m:Nat}(hm:2<=m)(hl:l.length=m):val aE l=(l.getD (m-1) 0*aE+l.getD (m-2) 0)*aE^(m-2)+val aE (l.take (m-2)):=by
 obtain⟨k,rfl⟩:∃k,m=k+2:=⟨m-2,by omega⟩;have h0:l.take (k+1+1)=l:=lh (by omega);rw[<-h0,fR,fR (n:=k),h0,show k+2-1=k+1 by omega,show k+2-2=k by omega,fu];grind
theorem b1_tm{b v u q:List Int}{m:Nat}(hb:b.length=m)(hm:2<=m)(hv:v.length=m)(hvB:bF aE v)(huB:bF aE u)(hqB:bF aE q)(hu:u.length=q.length+m)(hul:u.length<=17592186044416)(hv1:0<v.getD (m-1) 0)(h0:val aE (u.drop q.length)<val aE v):
 Tm (λN=>bS (AZ N b v) N (u,q,iw ((q.length:Int)-1))) (λr=>bF aE r.1/\r.1.length=u.length/\bF aE r.2/\r.2.length=q.length/\val aE u=val aE r.1+val aE v*val aE r.2/\val aE r.1<val aE v):=by
 refine Tm.loop (λt:List Int×List Int×Int=>∃k:Nat,t.2.2=(k:Int)-1/\k<=q.length/\bF aE t.1/\t.1.length=u.length/\bF aE t.2.1/\t.2.1.length=q.length/\val aE u=val aE t.1+aE^k*(val aE v*val aE (t.2.1.drop k))/\val aE (t.1.drop k)<val aE v) (λt=>(t.2.2+1).toNat)
  ⟨q.length,by rw[bL]<;>omega,bO _,huB,rfl,hqB,rfl,by simp[val],h0⟩ ?_
 rintro⟨x,y,ii⟩ ⟨k,rfl,hk,hxB,hx,hyB,hy,hval,hlt⟩;dsimp only[AZ]at*;refine bA (λh=>?_) (λh=>aW ?_)
 . obtain⟨n,rfl⟩:∃n,k=n+1:=⟨k-1,by omega⟩;have hi:((n+1:Nat):Int)-1=(n:Int):=by omega
   rw[hi];have him:iw ((n:Int)+(b.length:Int))=((n+m:Nat):Int):=by rw[bL]<;>omega
   have him1:iw (((n+m:Nat):Int)-1)=((n+m-1:Nat):Int):=by rw[bL]<;>omega
   have hbm:iw ((b.length:Int)-1)=((m-1:Nat):Int):=by rw[bL]<;>omega
   rw[him,him1,hbm];refine aL (gH rfl (by omega)) (aL (gH rfl (by omega)) (aL (gH rfl (by omega)) ?_));have hV:=top2 hm hv;have hVl:=gm (B:=aE) (by decide) (hvB.take (m-2));have hVl':=iG (B:=aE) (by decide) (hvB.take (m-2));rw[fA,kx (by omega)]at hVl';have hVW:val aE v<aE^m:=by have:=iG (B:=aE) (by decide) hvB;rwa[hv]at this
   have hxn:=hxB.getD (B:=aE) (by decide) n;have hRe:val aE (x.drop n)=x.getD n 0+aE*val aE (x.drop (n+1)):=by rw[fJ (by omega),sH,gA (by omega)]
   have hR0:=gm (B:=aE) (by decide) (hxB.drop n);have hRV:val aE (x.drop n)<4294967296*val aE v:=by
    rw[hRe];simp only[aE]at*;omega
   have hR1:val aE (x.drop n)<aE^(m+1):=by
    rw[fu];simp only[aE]at*;omega
   have hR:=top3 (hxB.drop n) hm (by simp;omega) hR1;have hRl:=gm (B:=aE) (by decide) ((hxB.drop n).take (m-2));have hRl':=iG (B:=aE) (by decide) ((hxB.drop n).take (m-2));rw[fA,wL,kx (by omega)]at hRl';rw[sx,sx,sx,show n+(m-1)=n+m-1 by omega,show n+(m-2)=n+m-2 by omega]at hR;have d1:=hvB.getD (B:=aE) (by decide) (m-1);have d2:=hvB.getD (B:=aE) (by decide) (m-2);have d3:=hxB.getD (B:=aE) (by decide) (n+m);have d4:=hxB.getD (B:=aE) (by decide) (n+m-1);have d5:=hxB.getD (B:=aE) (by decide) (n+m-2);have hp:=kI (B:=aE) (by decide) (m-2);have hV0:=gm (B:=aE) (by decide) hvB;simp only[aE]at d1 d2 d3 d4 d5;rw[ia (z:=x.getD (n+m) 0) d3.1 (by omega),ia (z:=x.getD (n+m-1) 0) d4.1 (by omega),ia (z:=v.getD (m-1) 0) d1.1 (by omega),AB d3.1 d3.2 d4.1 d4.2];have t0:0<=x.getD (n+m) 0*4294967296+x.getD (n+m-1) 0:=by omega
   have t1:x.getD (n+m) 0*4294967296+x.getD (n+m-1) 0<18446744073709551616:=by omega
   refine aL (F4 (by omega)) (aL (gH rfl (by omega)) ?_);rw[ia (z:=v.getD (m-1) 0) d1.1 (by omega)];refine aL (Lu (by omega)) ?_;rw[BI t0,ER t0];have hq0:=zv t0 (show 0<=v.getD (m-1) 0 by omega);have hq1:(x.getD (n+m) 0*4294967296+x.getD (n+m-1) 0)/v.getD (m-1) 0<=x.getD (n+m) 0*4294967296+x.getD (n+m-1) 0:=Int.ediv_le_self _ t0;have hm0:=mX (x.getD (n+m) 0*4294967296+x.getD (n+m-1) 0) (show v.getD (m-1) 0≠0 by omega);have hm1:=mY (x.getD (n+m) 0*4294967296+x.getD (n+m-1) 0) hv1;have hdm:=j8 (x.getD (n+m) 0*4294967296+x.getD (n+m-1) 0) (v.getD (m-1) 0);rw[show IntKind.u64.wrap ((x.getD (n+m) 0*4294967296+x.getD (n+m-1) 0)/v.getD (m-1) 0)=(x.getD (n+m) 0*4294967296+x.getD (n+m-1) 0)/v.getD (m-1) 0 from ia hq0 (by omega)];refine Tm.bind (b2_tm (b:=b) (v:=v) (u:=x) (n:=n) (m:=m) (V:=val aE v) (R:=val aE (x.drop n)) (top:=x.getD (n+m) 0*4294967296+x.getD (n+m-1) 0) hb hv hm (by omega) (by omega) rfl rfl rfl ⟨hv1,d1.2⟩ d2 d5 hp hV ⟨hVl,hVl'⟩ hR ⟨hRl,hRl'⟩ hRV
    (by have:=fD (v.getD (m-1) 0) ((x.getD (n+m) 0*4294967296+x.getD (n+m-1) 0)/v.getD (m-1) 0);omega) ⟨hm0,hm1⟩ ⟨hq0,by omega⟩) ?_
   rintro g ⟨g0,g1,hgR,hgV⟩;clear hdm hm0 hm1 hq0 hq1;generalize hRR:val aE (x.drop n)=R at*;generalize hVV:val aE v=V at*;have hsg:iw (((n+m:Nat):Int)+1)=((n+m+1:Nat):Int):=by rw[bL]<;>omega
   rw[hsg];refine aL (f:=ov _ _ _) (a:=()) (by unfold ov;rw[bD (by omega)]) ?_;refine Tm.bind (Q:=λr:Bool×List Int=>bF aE r.2/\r.2.length=x.length/\r.2.take n=x.take n/\(∀k,n+m<k->r.2.getD k 0=x.getD k 0)/\((r.1=false/\val aE (r.2.drop n)=R-g*V)\/(r.1=true/\val aE (r.2.drop n)=R-g*V+aE^(m+1)))) ?_ ?_
   . unfold Ci;refine Tm.bind (b3_tm (b:=b) (v:=v) (u:=x) (n:=n) (m:=m) (g:=g) hb hv hvB hxB (by omega) (by omega) g0 g1) ?_;rintro⟨z,bo⟩ ⟨z1,z2,z3,z4,z5,z6,z7⟩;dsimp only at*;refine aW ⟨z1,z2,z3,z4,?_⟩;have hva:=LM (u:=x) (x:=z) (n:=n) (t:=-(g*V)+aE^(m+1)*bo) (by omega) z2 z3 (by rw[z7,hVV,jO aE n (m+1)];grind);rw[hRR]at hva;rcases(show bo=0\/bo=1 by omega)with rfl|rfl
     . exact .inl ⟨rfl,by rw[hva,Dc];omega⟩
     . exact .inr ⟨rfl,by rw[hva,wN];omega⟩
   rintro⟨bz,z⟩ ⟨z1,z2,z3,z4,z5⟩;dsimp only at*;have hzn:=gm (B:=aE) (by decide) (z1.drop n);have hzW:val aE (z.drop n)<aE^(m+1):=Iz (z1.drop n) (λj hj=>by rw[sx,z4 _ (by omega)];have:=vO (hxB.drop n) (by rw[hRR];exact hR1) j hj;rwa[sx]at this);have e1:(g+1)*V=g*V+V:=by grind
   refine Tm.bind (Q:=λr:List Int×Int=>bF aE r.1/\r.1.length=x.length/\r.1.take n=x.take n/\0<=r.2/\r.2<4294967296/\val aE (r.1.drop n)=R-r.2*V/\val aE (r.1.drop n)<V) ?_ ?_
   . refine bA (λhz=>?_) (λhz=>aW ?_)
     . have z6:val aE (z.drop n)=R-g*V+aE^(m+1):=by
        rcases z5 with z5|z5
        . rw[z5.1]at hz;cases hz
        . exact z5.2
       refine Tm.bind (b4_tm (v:=v) (u:=z) (n:=n) (m:=m) hv hvB z1 (by omega) (by omega)) ?_;rintro⟨s,carry⟩ ⟨s1,s2,s3,s4,s5,s6,s7⟩;dsimp only at*;have hset:=λy=>wc (B:=aE) (l:=s) (n:=n+m) (y:=y) (by omega);rw[<-gA (l:=s) (n:=n+m) (by omega)]at hset;have hsd:=s1.getD (B:=aE) (by decide) (n+m);refine aL (gH rfl (by omega)) (aL (gH rfl (by omega)) (aL (eE rfl (by omega)) (aW ?_)));have hsu:=λk hk=>s4 k hk;generalize hD:s.getD (n+m) 0=D at*;simp only[aE]at hsd;have ec:eu (D+eu carry)=(D+carry)%4294967296:=by rw[gN,gN];omega
       rw[ec];have hdm:=j8 (D+carry) 4294967296;have hdb:0<=(D+carry)%4294967296/\(D+carry)%4294967296<4294967296:=by omega
       generalize(D+carry)%4294967296=D' at*;generalize(D+carry)/4294967296=tt at*;have hB':bF aE (s.set (n+m) D'):=s1.set (by simp only[aE];omega);have hva:=LM (u:=z) (x:=s.set (n+m) D') (n:=n) (t:=V-aE^(m+1)*tt) (by omega) (by simp;omega) (by rw[zu (by omega)];exact s3) (by
        rw[hset,s7,hVV,jO,fu];have hw:aE=4294967296:=rfl;have e4:D'=D+carry-4294967296*tt:=by omega
        rw[e4];generalize aE^n=P at*;generalize aE^m=Q at*;rw[hw];grind)
       have hlo:=gm (B:=aE) (by decide) (hB'.drop n);have hhi:val aE ((s.set (n+m) D').drop n)<aE^(m+1):=Iz (hB'.drop n) (λj hj=>by
        rw[sx,tD (by omega),aY (by omega),s4 _ (by omega),z4 _ (by omega)];have:=vO (hxB.drop n) (by rw[hRR];exact hR1) j hj;rwa[sx]at this)
       have hpp:=kI (B:=aE) (by decide) (m+1);have hgp:0<g:=by
        rcases o9 0 g with h'|h'
        . exact h'
        . have:g=0:=by omega
          subst this;rw[Int.zero_mul]at z6;omega
       have htt:tt=1:=by
        have e3:tt=0\/tt=1:=by omega
        rcases e3 with e3|e3
        . subst e3;rw[hva,z6,Dc]at hhi;omega
        . exact e3
       subst htt;have e5:(g-1)*V=g*V-V:=by grind
       refine⟨hB',by simp;omega,by dsimp only;rw[zu (by omega)];exact s3.trans z3,?_,?_,?_,?_⟩
       . show 0<=uw (g-1);rw[ia]<;>omega
       . show uw (g-1)<_;rw[ia]<;>omega
       . show val aE ((s.set (n+m) D').drop n)=R-uw (g-1)*V;rw[ia (show 0<=g-1 by omega) (by omega),hva,z6,e5,wN];omega
       . show val aE ((s.set (n+m) D').drop n)<V;rw[hva,z6,wN];omega
     . have z6:val aE (z.drop n)=R-g*V:=by
        rcases z5 with z5|z5
        . exact z5.2
        . exact bV z5.1 hz
       exact⟨z1,z2,z3,g0,g1,z6,by dsimp only;omega⟩
   rintro⟨s,g'⟩ ⟨s1,s2,s3,s4,s5,s6,s7⟩;dsimp only at*;refine aL (gH rfl (by omega)) (aL (eE rfl (by omega)) (aW ?_));have eg:eu g'=g':=by rw[gN];omega
   rw[eg];refine⟨⟨n,by show iw ((n:Int)-1)=_;rw[bL]<;>omega,by omega,s1,s2.trans hx,hyB.set (by simp only[aE];omega),by simp;omega,?_,s7⟩,?_⟩
   . show val aE u=val aE s+aE^n*(V*val aE ((y.set n g').drop n));rw[fJ (by simp;omega),sH,List.getElem_set_self,List.drop_set_of_lt (by omega),hval,n7 (B:=aE) (l:=s) n (by omega),s6,s3,n7 (B:=aE) (l:=x) n (by omega),hRR,fu];generalize aE^n=P at*;generalize aE=W at*;grind
   . show(iw ((n:Int)-1)+1).toNat<((n:Int)+1).toNat;rw[bL]<;>omega
 . obtain rfl:k=0:=by omega
   simp only[lC,Int.pow_zero,rR]at hval hlt;exact⟨hxB,hx,hyB,hy,hval,hlt⟩
open Go Go.X
theorem Sf{x:Int}{s:Nat}(hs:s<=31)(z:Int)(h:x=2^s*z):x%4294967296%2^s=0:=by
 have hPQ:=Aa hs;rw[<-hPQ,Int.emod_emod_of_dvd _ (Int.dvd_mul_right _ _),h,Int.mul_emod_right]
theorem b5_tm{u z:List Int}{n:Int}{s m:Nat}{t:Int}(hn:uw n=s)(hs:s<=31)(hz:z=List.replicate m 0)(huB:bF aE u)(hu:m<u.length)(hul:u.length<=17592186044416)(hm:0<m)(hv:val aE u<aE^m)(ht:val aE u=t*2^s):
 Tm (λN=>bS (Bq N n u z) N (z,0)) (λr=>bF aE r/\r.length=m/\val aE r=t):=by
 subst hz;have hPQ:=Aa hs;have hP:(0:Int)<2^s:=ky (by decide);have hQ:(0:Int)<2^(32-s):=ky (by decide);have hP31:(2:Int)^s<=2147483648:=kO (B:=2) (by decide) hs;have c0:u.getD 0 0%2^s=0:=by
  have h1:val aE u%4294967296=u.getD 0 0:=by
   cases u with
   |nil=>simp at hu
   |cons x l=>
    have:=huB.head;simp only[val,List.getD_cons_zero];rw[show aE*val aE l=4294967296*val aE l from rfl,Hn];simp only[aE]at this;omega
  rw[<-h1];exact Sf hs t (by rw[ht,fD])
 refine Tm.loop (λr:List Int×Int=>∃j:Nat,r.2=j/\j<=m/\bF aE r.1/\r.1.length=m/\val aE (r.1.take j)*2^s=val aE (u.take j)+aE^j*(u.getD j 0%2^s)) (λr=>m-r.2.toNat)
  ⟨0,rfl,by omega,bF.dH (by decide),by simp,by rw[c0];simp[val]⟩ ?_
 rintro⟨r,jj⟩ ⟨j,rfl,hj,hB,hr,hval⟩;dsimp only[Bq]at*;rw[lE];refine bA (λh=>?_) (λh=>aW ?_)
 . have hj1:iw ((j:Int)+1)=((j+1:Nat):Int):=by rw[bL]<;>omega
   rw[hj1,hn];refine aL (gH rfl (by omega)) (aL (gH rfl (by omega)) (aL (yM (by omega)) (aL (gH rfl (by omega)) (aL (eE rfl (by omega)) (aW ?_)))));have hx:=huB.getD (B:=aE) (by decide) j;have hy:=huB.getD (B:=aE) (by decide) (j+1);have hut:=fR (B:=aE) (l:=u) (n:=j);have hts:=λy=>take_set (l:=r) (n:=j) (y:=y) (by omega);generalize u.getD j 0=x at*;generalize hY:u.getD (j+1) 0=y at*;simp only[aE]at hx hy;rw[ia hx.1 (by omega),ia hy.1 (by omega),AB hy.1 hy.2 hx.1 hx.2];have esh:fL .u64 (y*4294967296+x) (s:Int)=(y*4294967296+x)/2^s:=by
    unfold fL;rw[show min ((s:Int)).toNat IntKind.u64.bits=s by show min _ 64=s;omega];exact jQ _ (dY hP)
   rw[esh];have hx1:=j8 x (2^s);have hy1:=j8 y (2^s);have hxm0:=mX x (show(2:Int)^s≠0 by omega);have hxm1:=mY x hP;have hym0:=mX y (show(2:Int)^s≠0 by omega);have hym1:=mY y hP;have hxd1:x/2^s<2^(32-s):=Hx hP (by rw[fD,hPQ];omega);have hxd0:0<=x/2^s:=zv hx.1 (by omega);have e1:(y*4294967296+x)/2^s=y*2^(32-s)+x/2^s:=by
    rw[<-hPQ,show y*(2^s*2^(32-s))+x=x+2^s*(y*2^(32-s)) by grind,Int.add_mul_ediv_left _ _ (by omega),Int.add_comm]
   have e2:eu (y*2^(32-s)+x/2^s)=(y%2^s)*2^(32-s)+x/2^s:=by
    have hle:(y%2^s)*2^(32-s)+2^(32-s)<=4294967296:=by
     have:=eU (show y%2^s+1<=2^s by omega) (show(0:Int)<=2^(32-s) by omega);rw[hPQ]at this;have e:(y%2^s+1)*2^(32-s)=(y%2^s)*2^(32-s)+2^(32-s):=by grind
     omega
    have hge:0<=(y%2^s)*2^(32-s):=eW hym0 (by omega);have e3:y*2^(32-s)+x/2^s=(y%2^s)*2^(32-s)+x/2^s+4294967296*(y/2^s):=by
     have e4:4294967296*(y/2^s)=2^s*2^(32-s)*(y/2^s):=by rw[hPQ]
     have e5:y*2^(32-s)=(y%2^s+2^s*(y/2^s))*2^(32-s):=by rw[hy1]
     rw[e4,e5];grind
    rw[gN,e3,Hn,C6 (by omega) (by omega)]
   rw[e1,e2];have hdig:0<=(y%2^s)*2^(32-s)+x/2^s/\(y%2^s)*2^(32-s)+x/2^s<4294967296:=by
    rw[<-e2,gN];omega
   refine⟨⟨j+1,rfl,by omega,hB.set (by simp only[aE];exact hdig),by simp;omega,?_⟩,?_⟩
   . show val aE ((r.set j _).take (j+1))*2^s=val aE (u.take (j+1))+aE^(j+1)*(u.getD (j+1) 0%2^s);rw[hY];rw[hts,hut,fu];have hw:aE=2^s*2^(32-s):=hPQ.symm;have e6:aE^j*aE*(y%2^s)=aE^j*(2^s*2^(32-s))*(y%2^s):=by rw[<-hw]
     rw[e6];have e7:aE^j*x=aE^j*(x%2^s+2^s*(x/2^s)):=by rw[hx1]
     rw[e7];generalize aE^j=P at*;generalize val aE (r.take j)=a1 at*;generalize val aE (u.take j)=a2 at*;have:(a1+P*((y%2^s)*2^(32-s)+x/2^s))*2^s=a1*2^s+P*((y%2^s)*2^(32-s)+x/2^s)*2^s:=by grind
     rw[this,hval];grind
   . show m-(((j+1:Nat):Int)).toNat<m-((j:Int)).toNat;omega
 . obtain rfl:j=m:=by omega
   rw[lh (by omega),vO huB hv j (bO _)]at hval;have h1:=xi (B:=aE) (l:=u) (n:=j) (by omega) (λk hk hmk=>by have:=vO huB hv k hmk;rwa[gA hk]at this);rw[h1,ht]at hval;simp only[Int.zero_emod,Dc,Int.add_zero]at hval;exact⟨hB,hr,Int.eq_of_mul_eq_mul_right (by omega) hval⟩
theorem Q8{l:List Int}(h:bF aE l)(hn:gh l)(hl:0<l.length):0<l.getD (l.length-1) 0:=by
 have h1:=h.getD (B:=aE) (by decide) (l.length-1);have h2:l.getD (l.length-1) 0≠0:=by
  intro e;apply hn;rw[Hq,cy (by omega)];rw[gA (by omega)]at e;rw[e]
 omega
theorem MG{a b:List Int}(ha:bF aE a)(hb:bF aE b)(na:gh a)(nb:gh b)(hb0:0<b.length)(hl:a.length<=8796093022208)(hl':b.length<=8796093022208):
 Tm (λN=>vW N a b) (λr=>Dg aE r.1 (val aE a/val aE b)/\Dg aE r.2 (val aE a%val aE b)/\r.1.length<=a.length/\r.2.length<=a.length+1):=by
 unfold vW;have hA0:=gm (B:=aE) (by decide) ha;have hB0:=w6 (B:=aE) (by decide) hb nb (by intro e;rw[e]at hb0;simp at hb0);refine Tm.bind (Ak ha hb na nb (by omega) (by omega)) ?_;rintro _ rfl;refine bA (λh=>?_) (λh=>?_)
 . have hlt:val aE a<val aE b:=by revert h;unfold bT;split<;>(try split)<;>omega
   refine Tm.bind (qg ha (by omega)) ?_;rintro r ⟨hr,hrl⟩;refine aW ⟨?_,?_,by simp,by dsimp only;omega⟩
   . rw[N5 hA0 hlt];exact Dg.nil
   . rw[C6 hA0 hlt];exact hr
 . have hge:val aE b<=val aE a:=by revert h;unfold bT;split<;>(try split)<;>omega
   have hle:b.length<=a.length:=by
    rcases cH a.length b.length with h'|h'
    . have:=nq nF ha hb nb h';omega
    . exact h'
   have hlast:=Q8 hb nb hb0;have hlast':=hb.getD (B:=aE) (by decide) (b.length-1);refine bA (λh1=>?_) (λh1=>?_)
   . have hb1:b.length=1:=by omega
     refine aL (gH (n:=0) rfl (by omega)) ?_;have hbv:val aE b=b.getD 0 0:=by
      match b,hb1 with
      |[x],_=>simp[val]
     rw[hb1]at hlast hlast';simp only[wI]at hlast hlast';refine Tm.bind (HN ha hlast hlast'.2 (by omega)) ?_;rintro⟨q,r⟩ ⟨hq,hqv,hrv,hql⟩;dsimp only at*;refine Tm.bind (qg hq (by omega)) ?_;rintro q' ⟨hq',hql'⟩;have hr0:=mX (val aE a) (show b.getD 0 0≠0 by omega);have hr1:=mY (val aE a) hlast;refine Tm.bind (qg (d:=[r]) (bF.cons (by rw[hrv];omega) bF.nil) (by simp)) ?_;rintro r' ⟨hr',hrl'⟩;refine aW ⟨?_,?_,by dsimp only;omega,by simp at hrl';dsimp only;omega⟩
     . rw[hbv,<-hqv];exact hq'
     . rw[hbv,<-hrv];simpa[val]using hr'
   . have hm:2<=b.length:=by omega
     generalize hmm:b.length=m at*;have hbm:iw ((m:Int)-1)=((m-1:Nat):Int):=by rw[bL]<;>omega
     rw[hbm];refine aL (gH rfl (by omega)) ?_;generalize hx:b.getD (m-1) 0=x at*;refine Tm.bind (Ty hlast hlast'.2) ?_;rintro _ ⟨s,rfl,hs,s1,s2⟩;have eus:uw (s:Int)=s:=ia (by omega) (by omega);refine Tm.bind (KO eus hs ha (by omega)) ?_;rintro u ⟨huB,huv,hul⟩;refine Tm.bind (KO eus hs hb (by omega)) ?_;rintro v0 ⟨hvB0,hvv0,hvl0⟩;refine aL (tR (m:=0) (n:=m) rfl rfl (by omega) (by omega)) ?_;simp only[lC];have hPQ:=Aa hs;have hP:(0:Int)<2^s:=ky (by decide);have hQ:(0:Int)<2^(32-s):=ky (by decide);have hP31:(2:Int)^s<=2147483648:=kO (B:=2) (by decide) hs;have hbt:val aE b=val aE (b.take (m-1))+aE^(m-1)*x:=by
      have:=fR (B:=aE) (l:=b) (n:=m-1);rwa[lh (by omega),hx]at this
     have hbl:=iG (B:=aE) (by decide) (hb.take (m-1));rw[fA,kx (by omega)]at hbl;have hbl0:=gm (B:=aE) (by decide) (hb.take (m-1));have pm:=kI (B:=aE) (by decide) (m-1);have pm1:aE^m=aE^(m-1)*aE:=by rw[<-fu];congr 1;omega
     have hx32:(x+1)*2^s<=4294967296:=by
      have h1:x*2^s<2^(32-s)*2^s:=by rw[fD (2^(32-s)),hPQ];exact s2
      have h2:=N6 h1 (by omega);have h3:=eU (show x+1<=2^(32-s) by omega) (show(0:Int)<=2^s by omega);rw[fD (2^(32-s)),hPQ]at h3;exact h3
     have hv0m:val aE v0<aE^m:=by
      have h1:val aE b<aE^(m-1)*(x+1):=by rw[wM];omega
      have h2:=N3 h1 hP;have h3:=ff hx32 (show 0<=aE^(m-1) by omega);have e:aE^(m-1)*(x+1)*2^s=aE^(m-1)*((x+1)*2^s):=by grind
      rw[hvv0,pm1];simp only[aE]at*;omega
     have hvv:val aE (v0.take m)=val aE b*2^s:=by
      rw[<-hvv0];exact xi (by omega) (λk hk hmk=>by have:=vO hvB0 hv0m k hmk;rwa[gA hk]at this)
     have hvl:(v0.take m).length=m:=by simp;omega
     have hvB:=hvB0.take m;generalize v0.take m=v at*;have hvge:2147483648*aE^(m-1)<=val aE v:=by
      rw[hvv];have h1:=eU (show aE^(m-1)*x<=val aE b by omega) (show(0:Int)<=2^s by omega);have h2:=ff s1 (show 0<=aE^(m-1) by omega);have e:aE^(m-1)*x*2^s=aE^(m-1)*(x*2^s):=by grind
      rw[fD 2147483648];omega
     have hv1:0<v.getD (m-1) 0:=by
      have h1:val aE v=val aE (v.take (m-1))+aE^(m-1)*v.getD (m-1) 0:=by
       have:=fR (B:=aE) (l:=v) (n:=m-1);rwa[lh (by omega)]at this
      have h2:=iG (B:=aE) (by decide) (hvB.take (m-1));rw[fA,kx (by omega)]at h2;have h3:=hvB.getD (B:=aE) (by decide) (m-1);rcases o9 0 (v.getD (m-1) 0)with h4|h4
      . exact h4
      . have h5:v.getD (m-1) 0=0:=by omega
        rw[h5]at h1;omega
     refine aL (iy (n:=a.length+1-m) (by rw[hul,bL]<;>omega) (by omega) (by decide)) ?_;have hul2:u.length=(List.replicate (a.length+1-m) (0:Int)).length+m:=by simp;omega
     refine Tm.bind (b1_tm (b:=b) (v:=v) (u:=u) (q:=List.replicate (a.length+1-m) 0) (m:=m) hmm hm hvl hvB huB (bF.dH (by decide)) hul2 (by omega) hv1 ?_) ?_
     . have h1:=n7 (B:=aE) (l:=u) (List.replicate (a.length+1-m) (0:Int)).length (by omega);rw[lE]at h1⊢;have h2:=gm (B:=aE) (by decide) (huB.take (a.length+1-m));have h3:=N3 (iG (B:=aE) (by decide) ha) hP;have p1:aE^a.length=aE^(a.length+1-m)*aE^(m-1):=by rw[<-jO];congr 1;omega
       have h4:aE^(a.length+1-m)*val aE (u.drop (a.length+1-m))<aE^(a.length+1-m)*(aE^(m-1)*2^s):=by
        rw[<-N4,<-p1];omega
       have h5:=Hy h4 (by have:=kI (B:=aE) (by decide) (a.length+1-m);omega);have h6:=ff hP31 (show 0<=aE^(m-1) by omega);rw[fD 2147483648]at hvge;omega
     rintro⟨u',q⟩ ⟨hu'B,hu'l,hqB,hql,hAv,hlt⟩;dsimp only at*;refine aL (iy (n:=m) rfl (by omega) (by decide)) ?_;have hu0:=gm (B:=aE) (by decide) hu'B;have ht:val aE u'=(val aE a-val aE b*val aE q)*2^s:=by
      rw[huv,hvv]at hAv;have e:(val aE a-val aE b*val aE q)*2^s=val aE a*2^s-val aE b*2^s*val aE q:=by grind
      omega
     have hr0:0<=val aE a-val aE b*val aE q:=by
      rcases o9 (val aE a-val aE b*val aE q) 0 with h1|h1
      . have:=eU (show val aE a-val aE b*val aE q≤-1 by omega) (show(0:Int)<=2^s by omega);omega
      . exact h1
     have hr1:val aE a-val aE b*val aE q<val aE b:=by
      rw[ht,hvv]at hlt;exact N6 hlt (by omega)
     refine Tm.bind (b5_tm (u:=u') (n:=(s:Int)) (s:=s) (m:=m) eus hs rfl hu'B (by omega) (by omega) (by omega) (by have:=iG (B:=aE) (by decide) hvB;rw[hvl]at this;omega) ht) ?_;rintro r ⟨hrB,hrl,hrv⟩;refine Tm.bind (qg hqB (by rw[hql];simp;omega)) ?_;rintro q' ⟨hq',hql'⟩;refine Tm.bind (qg hrB (by omega)) ?_;rintro r' ⟨hr',hrl'⟩;have hdm:=(Hz (a:=val aE a) (b:=val aE b) (r:=val aE a-val aE b*val aE q) (q:=val aE q) hB0).2 ⟨by omega,hr0,hr1⟩;rw[lE]at hql;refine aW ⟨?_,?_,by dsimp only;omega,by dsimp only;omega⟩
     . rw[hdm.1];exact hq'
     . rw[hdm.2,<-hrv];exact hr'
structure DivP (a b:Int)(r:aC×aC×Bool):Prop where
 ok:r.2.2=decide (b≠0)
 quo:Is r.1 (a.fdiv b)
 rem:Is r.2.1 (if b=0 then 0 else a.fmod b)
theorem Ip{x y:Int}(hx:0<=x)(hy:0<y):(-x).fdiv (-y)=x/y/\(-x).fmod (-y)=-(x%y):=by
 have h1:(-x).fdiv (-y)=x.fdiv y:=HA _ _;rw[h1,jQ _ (by omega)];refine⟨rfl,?_⟩;have h2:=HB (-x) (-y);rw[h1,jQ _ (by omega)]at h2;have h3:=j8 x y;have e:-y*(x/y)=-(y*(x/y)):=by grind
 omega
theorem Ia{x y:Int}(hy:0<y):(-x).fdiv y=(if x%y=0 then-(x/y)else-(x/y+1))/\(-x).fmod y=(if x%y=0 then 0 else y-x%y):=by
 rw[jQ _ (by omega),HC _ (by omega)];have h3:=j8 x y;have h4:=mX x (show y≠0 by omega);have h5:=mY x hy;split
 . rename_i h;have:=(Hz (a:=-x) (b:=y) (r:=0) (q:=-(x/y)) hy).2 ⟨by have e:y*-(x/y)=-(y*(x/y)):=(by grind);omega,by omega,by omega⟩;exact this
 . have:=(Hz (a:=-x) (b:=y) (r:=y-x%y) (q:=-(x/y+1)) hy).2 ⟨by have e:y*-(x/y+1)=-(y*(x/y))-y:=(by grind);omega,by omega,by omega⟩;exact this
theorem Jz{x y:Int}:x.fdiv (-y)=(-x).fdiv y/\x.fmod (-y)=-((-x).fmod y):=by
 have h1:x.fdiv (-y)=(-x).fdiv y:=by rw[<-HA x,Int.neg_neg]
 refine⟨h1,?_⟩;have h2:=HB x (-y);have h3:=HB (-x) y;rw[h1]at h2;have e:-y*(-x).fdiv y=-(y*(-x).fdiv y):=by grind
 omega
theorem inB1:bF aE [1]:=bF.cons (by decide) bF.nil
theorem Tn{a b:aC}(ha:bF aE a.aQ)(hb:bF aE b.aQ)(hl:a.aQ.length<=4398046511104)(hl':b.aQ.length<=4398046511104):
 Tm (λN=>kS N a b) (λr=>DivP (bv a) (bv b) r/\r.1.aQ.length<=a.aQ.length+2/\r.2.1.aQ.length<=max (a.aQ.length+1) b.aQ.length):=by
 unfold kS;refine Tm.bind (pG ha (by omega)) ?_;rintro x ⟨hx,hxl⟩;refine Tm.bind (pG hb (by omega)) ?_;rintro y ⟨hy,hyl⟩;have hz:=hy.dg.zero (by decide);refine bA (λh=>aW ?_) (λh=>?_)
 . have h0:bv b=0:=by have:=hz.1 (mU.1 (by omega));omega
   refine⟨⟨by simp[h0],?_,?_⟩,by simp,by simp⟩
   . rw[h0,N7];exact⟨Dg.nil,rfl⟩
   . rw[bD h0];exact⟨Dg.nil,rfl⟩
 . have h0:bv b≠0:=λe=>h (by rw[hz.2 (by omega)];rfl);have hyl0:0<y.aQ.length:=by omega
   have vx:=hx.Cy;have vy:=hy.Cy;have n1:=hx.neg;have n2:=hy.neg;have X0:=gm (B:=aE) (by decide) hx.dg.bP;refine Tm.bind (MG hx.dg.bP hy.dg.bP hx.dg.fm hy.dg.fm hyl0 (by omega) (by omega)) ?_;rintro⟨q,r⟩ ⟨hq,hr,hql,hrl⟩;dsimp only at*;generalize hX:val aE x.aQ=X at*;generalize hY:val aE y.aQ=Y at*;have Y0:0<Y:=by rw[vy];split<;>omega
   have hr0:=mX X (show Y≠0 by omega);have hr1:=mY X Y0;have hq0:=zv X0 (show 0<=Y by omega);have hrz:=hr.zero (by decide);refine bA (λhs=>?_) (λhs=>?_)
   . 
     have hab:(bv a).fdiv (bv b)=(-X).fdiv Y/\(bv a).fmod (bv b)=if y.bM=true then-((-X).fmod Y)else(-X).fmod Y:=by
      have hs':¬x.bM=y.bM:=by simpa using hs
      by_cases p:bv a<0<;>by_cases p':bv b<0<;>simp only[p,p',decide_true,decide_false,if_true,if_false]at n1 n2 vx vy
      . rw[n1,n2]at hs';exact bV rfl hs'
      . rw[n2,show bv a=-X by omega,show bv b=Y by omega];simp
      . rw[n2,show bv a=X by omega,show bv b=-Y by omega];simpa using Jz
      . rw[n1,n2]at hs';exact bV rfl hs'
     have hdd:=Ia (x:=X) Y0;refine Tm.bind (Q:=λt:List Int×List Int=>bF aE t.1/\bF aE t.2∧-(val aE t.1)=(-X).fdiv Y/\val aE t.2=(-X).fmod Y/\t.1.length<=x.aQ.length+2/\t.2.length<=max (x.aQ.length+1) y.aQ.length) (bA (λhrp=>?_) (λhrp=>aW ?_)) ?_
     . have hrne:X%Y≠0:=λe=>by have:=hrz.2 e;rw[this]at hrp;simp at hrp
       rw[aY hrne,aY hrne]at hdd;refine Tm.bind (Jo hq.bP inB1 (by omega) (by simp)) ?_;rintro q1 ⟨hq1,hq1v,hq1l⟩;have hle:r.length<=y.aQ.length:=by
        rcases cH y.aQ.length r.length with h'|h'
        . have:=nq nF hy.dg.bP hr.bP hr.fm h';rw[hY,hr.val]at this;omega
        . exact h'
       refine Tm.bind (Es hy.dg.bP hr.bP (by omega) hle (by rw[hY,hr.val];omega)) ?_;rintro r1 ⟨hr1B,hr1v,hr1l⟩;refine aW ⟨hq1,hr1B,?_,?_,?_,by dsimp only;omega⟩
       . rw[hdd.1,hq1v,hq.val];simp[val]
       . rw[hdd.2,hr1v,hY,hr.val]
       . simp only[cJ,dZ]at hq1l;dsimp only;omega
     . have hre:r=[]:=mU.1 (by omega);have hrz':=hrz.1 hre;rw[bD hrz',bD hrz']at hdd;refine⟨hq.bP,hr.bP,?_,?_,by dsimp only;omega,by dsimp only;omega⟩
       . rw[hdd.1,hq.val]
       . rw[hdd.2,hr.val,hrz']
     rintro⟨q1,r1⟩ ⟨hq1,hr1B,hq1v,hr1v,hq1l,hr1l⟩;dsimp only at*;refine Tm.bind (mE hq1 (by omega)) ?_;rintro q2 ⟨hq2,hq2l⟩;refine Tm.bind (mE hr1B (by omega)) ?_;rintro r2 ⟨hr2,hr2l⟩;refine aW ⟨⟨by simp[h0],?_,?_⟩,by dsimp only;omega,by dsimp only;omega⟩
     . rw[hab.1,<-hq1v];simpa using hq2
     . rw[aY h0,hab.2,<-hr1v];exact hr2
   . 
     have hs':x.bM=y.bM:=by simpa using hs
     have hab:(bv a).fdiv (bv b)=X/Y/\(bv a).fmod (bv b)=if y.bM=true then-(X%Y)else X%Y:=by
      by_cases p:bv a<0<;>by_cases p':bv b<0<;>simp only[p,p',decide_true,decide_false,if_true,if_false]at n1 n2 vx vy
      . rw[n2,show bv a=-X by omega,show bv b=-Y by omega];simpa using Ip X0 Y0
      . rw[n1,n2]at hs';cases hs'
      . rw[n1,n2]at hs';cases hs'
      . rw[n2,show bv a=X by omega,show bv b=Y by omega,jQ _ (by omega),HC _ (by omega)];simp
     refine Tm.bind (mE hq.bP (by omega)) ?_;rintro q2 ⟨hq2,hq2l⟩;refine Tm.bind (mE hr.bP (by omega)) ?_;rintro r2 ⟨hr2,hr2l⟩;refine aW ⟨⟨by simp[h0],?_,?_⟩,by dsimp only;omega,by dsimp only;omega⟩
     . rw[hab.1,<-hq.val];simpa using hq2
     . rw[aY h0,hab.2,<-hr.val];exact hr2
open Go Go.X
theorem FK{B:Int}(hB:1<B){a b:List Int}(ha:bF B a)(hb:bF B b)(nb:gh b)(h:val B b<=val B a):b.length<=a.length:=by
 rcases cH a.length b.length with h'|h'
 . have:=nq hB ha hb nb h';omega
 . exact h'
def u6(j:Nat):Int:=if j=0 then 0 else 2^(j-1)
theorem Bc(j:Nat):u6 (j+1)=2^j:=by simp[u6]
theorem PD(j:Nat)(hj:j<16):iw (Int.tdiv (u6 (j+1)) 2)=u6 j:=by
 rw[Bc];cases j with
 |zero=>decide
 |succ j=>
  rw[Bc,BI (dY (ky (by decide))),fu,Int.mul_ediv_cancel _ (by decide)];have h1:=kI (B:=2) (by decide) j;have h2:=kO (B:=2) (by decide) (show j<=15 by omega);have e:(2:Int)^15=32768:=by decide
  rw[bL]<;>omega
theorem PI{x:Int}(hx:0<=x)(j:Nat):x/2^j=2*(x/2^(j+1))+x/2^j%2:=by
 have h:=j8 (x/2^j) 2;have e:x/2^j/2=x/2^(j+1):=by rw[Int.ediv_ediv_of_nonneg (dY (ky (by decide))),fu]
 rw[e]at h;omega
theorem Tf{a b q r:List Int}{n:Nat}{H Qh:Int}(ha:bF aX a)(hb:bF aX b)(nb:gh b)(hb0:0<val aX b)(hla:a.length<=4398046511104)(hlb:b.length<=4398046511104)(hn:n<a.length)(hq:q.length=a.length)(hqB:bF aX q)(hqn:q.getD n 0=0)
 (hr:Dg aX r (val aX r))(hrlt:val aX r<val aX b)(hI:H=val aX b*Qh+val aX r):
 Tm (λN=>bS (zT N a b n) N (q,r,32768)) (λt=>t.1.length=a.length/\bF aX t.1/\Dg aX t.2 (val aX t.2)/\val aX t.2<val aX b/\(∀m,m≠n->t.1.getD m 0=q.getD m 0)/\H*65536+a.getD n 0=val aX b*(Qh*65536+t.1.getD n 0)+val aX t.2):=by
 have hx:=ha.getD (B:=aX) (by decide) n;generalize hxx:a.getD n 0=x at*;simp only[aX]at hx;have key:∀r:List Int,Dg aX r (val aX r)->val aX r<val aX b->r.length<=b.length:=λr h1 h2=>FK oh hb h1.bP h1.fm (by omega);refine Tm.loop (λt:List Int×List Int×Int=>∃(j:Nat) (y:Int),t.2.2=u6 j/\j<=16/\t.1.length=a.length/\bF aX t.1/\Dg aX t.2.1 (val aX t.2.1)/\val aX t.2.1<val aX b/\(∀m,m≠n->t.1.getD m 0=q.getD m 0)/\0<=y/\y<2^(16-j)/\t.1.getD n 0=y*2^j/\H*2^(16-j)+x/2^j=val aX b*(Qh*2^(16-j)+y)+val aX t.2.1) (λt=>t.2.2.toNat)
  ⟨16,0,rfl,bO _,hq,hqB,hr,hrlt,λ_ _=>rfl,by simp,by simp,by rw[hqn];simp,?_⟩ ?_
 . show H*2^(16-16)+x/2^16=_;have e:(2:Int)^16=65536:=by decide
   rw[e,N5 hx.1 hx.2];simp;omega
 rintro⟨qq,rr,bit⟩ ⟨j,y,rfl,hj,hql,hqqB,hrr,hrrlt,hoth,y0,y1,hy,hI2⟩;dsimp only[zT]at*;have hr0:=hrr.xR (by decide);cases j with
 |zero=>
  refine cD (by decide) (aW ⟨hql,hqqB,hrr,hrrlt,hoth,?_⟩);simp only[Nat.sub_zero,Int.pow_zero,wN,Int.ediv_one]at hy hI2;have e:(2:Int)^16=65536:=by decide
  rw[e]at hI2;show H*65536+x=val aX b*(Qh*65536+qq.getD n 0)+val aX rr;rw[hy];exact hI2
 |succ j=>
  have hhalf:=PD j (by omega);rw[hhalf];rw[Bc];have hP:=ky (n:=2) (m:=j) (by decide);have hP2:(2:Int)^j<=32768:=kO (B:=2) (by decide) (show j<=15 by omega);refine cR (by omega) ?_;have hrl:=key rr hrr hrrlt;refine Tm.bind (As hrr.bP hrr.bP (by omega) (by omega)) ?_;rintro r2 ⟨hr2,hr2l⟩;refine aL (gH rfl (by omega)) ?_;rw[hxx];refine aL (F4 (by omega)) ?_;rw[BI hx.1];have hd0:=zv hx.1 (show(0:Int)<=2^j by omega);have hd1:x/2^j<=x:=Int.ediv_le_self _ hx.1;rw[show IntKind.i64.wrap (x/2^j)=x/2^j from wi64 (by omega) (by omega),ER hd0];have hhb:=PI hx.1 j;have hv:val aX r2=val aX rr+val aX rr:=hr2.val;have r3:Tm (λN=>if x/2^j%2=1 then(pC N r2 [1]).bind λr1352=>some r1352 else some r2) (λt=>Dg aX t (2*val aX rr+x/2^j%2)/\t.length<=b.length+2):=by
   refine bA (λh=>?_) (λh=>aW ⟨?_,by omega⟩)
   . refine Tm.bind (As hr2.bP (bF.cons (by decide) bF.nil) (by omega) (by simp)) ?_;rintro t ⟨ht,htl⟩;refine aW ⟨?_,by simp only[cJ,dZ]at htl;omega⟩;rw[hv]at ht;simp only[val]at ht;rw[h,show 2*val aX rr+1=val aX rr+val aX rr+(1+aX*0) by omega];exact ht
   . rw[show 2*val aX rr+x/2^j%2=val aX rr+val aX rr by omega];exact hr2
  refine Tm.bind r3 ?_;rintro r3 ⟨h3,h3l⟩;refine Tm.bind (DP h3.bP hb h3.fm nb (by omega) (by omega)) ?_;rintro _ rfl;rw[h3.val];have hbit:0<=x/2^j%2/\x/2^j%2<=1:=by omega
  have hsub:16-j=(16-(j+1))+1:=by omega
  have hy2:(2:Int)^(16-j)=2*2^(16-(j+1)):=by rw[hsub,fu,fD]
  have hyj:y*2^(j+1)=2*y*2^j:=by rw[fu];grind
  have hmeas:(u6 j).toNat<((2:Int)^j).toNat:=by
   cases j with
   |zero=>decide
   |succ j=>
    rw[Bc,fu];have:=ky (n:=2) (m:=j) (by decide);omega
  refine bA (λh=>?_) (λh=>aW ⟨⟨j,2*y,rfl,by omega,hql,hqqB,by rw[h3.val];exact h3,?_,hoth,by omega,by omega,by rw[hy,hyj],?_⟩,hmeas⟩)
  . have hge:val aX b<=2*val aX rr+x/2^j%2:=by revert h;unfold bT;split<;>(try split)<;>omega
    have hle:b.length<=r3.length:=FK oh h3.bP hb nb (by rw[h3.val];exact hge);refine Tm.bind (FI h3.bP hb (by omega) hle (by rw[h3.val];exact hge)) ?_;rintro r4 ⟨h4,h4l⟩;rw[h3.val]at h4;have hqn:=hqqB.getD (B:=aX) (by decide) n;refine aL (gH rfl (by omega)) (aL (gH rfl (by omega)) (aL (eE rfl (by omega)) (aW ?_)));simp only[aX]at hqn;rw[hy,hyj]at hqn⊢;have hq2:2*y*2^j+2^j=(2*y+1)*2^j:=by grind
    have hlt:(2*y+1)*2^j<65536:=by
     have h5:=eU (show 2*y+1+1<=2^(16-j) by omega) (show(0:Int)<=2^j by omega);rw[<-jO,show 16-j+j=16 by omega]at h5;have e:(2:Int)^16=65536:=by decide
     have e2:(2*y+1+1)*2^j=(2*y+1)*2^j+2^j:=by grind
     omega
    rw[show iw (2*y*2^j+2^j)=(2*y+1)*2^j by rw[bL]<;>omega];refine⟨⟨j,2*y+1,rfl,by omega,by simp;omega,hqqB.set (by simp only[aX];omega),by rw[h4.val];exact h4,by dsimp only;rw[h4.val];omega,λm hm=>?_,by omega,by omega,?_,?_⟩,hmeas⟩
    . show(qq.set n _).getD m 0=_;rw[tD (by omega),aY (λe=>hm e.symm)];exact hoth m hm
    . show(qq.set n _).getD n 0=_;rw[tD (by omega),bD rfl]
    . show H*2^(16-j)+x/2^j=val aX b*(Qh*2^(16-j)+(2*y+1))+val aX r4;rw[h4.val,hy2,hhb];generalize val aX b=B at*;generalize val aX rr=R at*;generalize(2:Int)^(16-(j+1))=T at*;generalize x/2^(j+1)=X at*;generalize x/2^j%2=z at*;grind
  . show val aX r3<val aX b;rw[h3.val];revert h;unfold bT;split<;>(try split)<;>omega
  . show H*2^(16-j)+x/2^j=val aX b*(Qh*2^(16-j)+2*y)+val aX r3;rw[h3.val,hy2,hhb];generalize val aX b=B at*;generalize val aX rr=R at*;generalize(2:Int)^(16-(j+1))=T at*;generalize x/2^(j+1)=X at*;generalize x/2^j%2=z at*;grind
theorem VE{a b:List Int}(ha:bF aX a)(hb:bF aX b)(nb:gh b)(hb0:0<val aX b)(hla:a.length<=4398046511104)(hlb:b.length<=4398046511104):
 Tm (λN=>yK N a b) (λt=>Dg aX t.1 (val aX a/val aX b)/\Dg aX t.2 (val aX a%val aX b)/\t.1.length<=a.length/\t.2.length<=b.length):=by
 unfold yK;refine aL (iy rfl (by omega) (by decide)) ?_;refine Tm.bind (Q:=λt:List Int×List Int=>t.1.length=a.length/\bF aX t.1/\Dg aX t.2 (val aX t.2)/\val aX t.2<val aX b/\val aX a=val aX b*val aX t.1+val aX t.2)
  (Tm.loop (λt:List Int×List Int×Int=>∃k:Nat,t.2.2=(k:Int)-1/\k<=a.length/\t.1.length=a.length/\bF aX t.1/\Dg aX t.2.1 (val aX t.2.1)/\val aX t.2.1<val aX b/\(∀m,m<k->t.1.getD m 0=0)/\val aX (a.drop k)=val aX b*val aX (t.1.drop k)+val aX t.2.1) (λt=>(t.2.2+1).toNat)
   ⟨a.length,by rw[bL]<;>omega,bO _,by simp,bF.dH (by decide),Dg.nil,by simpa[val]using hb0,λm hm=>by rw[gA (by simpa using hm)];simp,by simp[val]⟩ ?_) ?_
 . rintro⟨q,r,i⟩ ⟨k,rfl,hk,hq,hqB,hr,hrlt,hz,hv⟩;dsimp only[Eo]at*;refine bA (λh=>?_) (λh=>aW ?_)
   . obtain⟨n,rfl⟩:∃n,k=n+1:=⟨k-1,by omega⟩;have hi:((n+1:Nat):Int)-1=(n:Int):=by omega
     rw[hi];refine Tm.bind (Tf (n:=n) ha hb nb hb0 hla hlb (by omega) hq hqB (hz n (by omega)) hr hrlt hv) ?_;rintro⟨q',r'⟩ ⟨h1,h2,h3,h4,h5,h6⟩;dsimp only at*;refine aW ⟨⟨n,by show iw ((n:Int)-1)=_;rw[bL]<;>omega,by omega,h1,h2,h3,h4,λm hm=>?_,?_⟩,?_⟩
     . show q'.getD m 0=0;rw[h5 m (by omega)];exact hz m (by omega)
     . show val aX (a.drop n)=val aX b*val aX (q'.drop n)+val aX r';have hqd:q'.drop (n+1)=q.drop (n+1):=by
        apply qv (by simp;omega);intro i g1 g2;rw[Ho,Ho];have:=h5 (n+1+i) (by omega);simp only[wL]at g1 g2;rwa[gA (by omega),gA (by omega)]at this
       rw[fJ (l:=a) (by omega),fJ (l:=q') (by omega),sH,sH,hqd,<-gA (l:=a),<-gA (l:=q')];have hw:aX=65536:=rfl;rw[hw]at*;generalize val 65536 (a.drop (n+1))=H at*;generalize val 65536 (q.drop (n+1))=Qh at*;have e1:a.getD n 0+65536*H=H*65536+a.getD n 0:=by omega
       have e2:q'.getD n 0+65536*Qh=Qh*65536+q'.getD n 0:=by omega
       rw[e1,e2];exact h6
     . show(iw ((n:Int)-1)+1).toNat<((n:Int)+1).toNat;rw[bL]<;>omega
   . obtain rfl:k=0:=by omega
     simp only[lC]at hv;exact⟨hq,hqB,hr,hrlt,hv⟩
 . rintro⟨q,r⟩ ⟨hq,hqB,hr,hrlt,hv⟩;dsimp only at*;refine Tm.bind (u4 hqB (by omega)) ?_;rintro q' ⟨hq',hql⟩;have hr0:=hr.xR (by decide);have hdm:=(Hz (a:=val aX a) (b:=val aX b) (r:=val aX r) (q:=val aX q) hb0).2 ⟨by omega,hr0,hrlt⟩;refine aW ⟨?_,?_,by dsimp only;omega,FK oh hb hr.bP hr.fm (show val aX r<=val aX b by omega)⟩
   . rw[hdm.1];exact hq'
   . rw[hdm.2];exact hr
theorem M8{a b:aC}(ha:bF aE a.aQ)(hb:bF aE b.aQ)(hl:a.aQ.length<=1099511627776)(hl':b.aQ.length<=1099511627776):
 Tm (λN=>uK N a b) (λr=>DivP (bv a) (bv b) r):=by
 unfold uK;refine Tm.bind (mr hb (by omega)) ?_;rintro _ rfl;refine bA (λh=>aW ?_) (λh=>?_)
 . have h0:bv b=0:=by revert h;unfold bT;split<;>(try split)<;>omega
   exact⟨by simp[h0],by rw[h0,N7];exact⟨Dg.nil,rfl⟩,by rw[bD h0];exact⟨Dg.nil,rfl⟩⟩
 . have h0:bv b≠0:=by revert h;unfold bT;split<;>(try split)<;>omega
   refine Tm.bind (mL ha (by omega)) ?_;rintro l ⟨hl1,hl2⟩;refine Tm.bind (mL hb (by omega)) ?_;rintro m ⟨hm1,hm2⟩;have A0:=gm (B:=aE) (by decide) ha;have B0:=gm (B:=aE) (by decide) hb;have hbv:bv b=if b.bM=true then-val aE b.aQ else val aE b.aQ:=rfl;have hav:bv a=if a.bM=true then-val aE a.aQ else val aE a.aQ:=rfl;have B1:0<val aE b.aQ:=by revert h0;rw[hbv];split<;>omega
   refine Tm.bind (VE hl1.bP hm1.bP hm1.fm (by rw[hm1.val];exact B1) (by omega) (by omega)) ?_;rintro⟨q,r⟩ ⟨hq,hr,hql,hrl⟩;rw[hl1.val,hm1.val]at hq hr;dsimp only at*;refine Tm.bind (pN (neg:=!(a.bM==b.bM)) hq.bP (by omega)) ?_;rintro q1 ⟨hq1,hq1l⟩;refine Tm.bind (pN (neg:=a.bM) hr.bP (by omega)) ?_;rintro r1 ⟨hr1,hr1l⟩;rw[hq.val]at hq1;rw[hr.val]at hr1;generalize hA:val aE a.aQ=A at*;generalize hB:val aE b.aQ=B at*;have m0:=mX A (show B≠0 by omega);have m1:=mY A B1;have hdd:=Ia (x:=A) B1;have hds:=Ip A0 B1;have hdn:=Jz (x:=A) (y:=B);generalize hQ:(if(!(a.bM==b.bM))=true then-(A/B)else A/B)=Q at*;generalize hR:(if a.bM=true then-(A%B)else A%B)=R at*;have hfd:(bv a).fdiv (bv b)=(if bT R 0≠0/\bT R 0≠bT (bv b) 0 then Q-1 else Q)/\(bv a).fmod (bv b)=(if bT R 0≠0/\bT R 0≠bT (bv b) 0 then R+bv b else R):=by
    have sp:bT B 0=1:=by unfold bT;rw[aY (by omega),bD (by omega)]
    have sn:bT (-B) 0=-1:=by unfold bT;rw[bD (by omega)]
    rw[hav,hbv];cases hna:a.bM<;>cases hnb:b.bM<;>simp only[hna,hnb]at hQ hR<;>simp at hQ hR<;>subst hQ<;>subst hR
    . simp only[lr,if_false,sp];have e:¬(bT (A%B) 0≠0/\bT (A%B) 0≠1):=by unfold bT;rw[aY (by omega)];split<;>omega
      rw[aY e,aY e,jQ _ (by omega),HC _ (by omega)];exact⟨rfl,rfl⟩
    . simp only[lr,if_false,if_true,sn];rw[hdn.1,hdn.2,hdd.1,hdd.2];by_cases e0:A%B=0
      . have e:¬(bT (A%B) 0≠0/\bT (A%B) 0≠-1):=by rw[e0];decide
        rw[aY e,aY e,bD e0,bD e0];omega
      . have e:bT (A%B) 0≠0/\bT (A%B) 0≠-1:=by unfold bT;rw[aY (by omega),bD (by omega)];decide
        rw[bD e,bD e,aY e0,aY e0];omega
    . simp only[lr,if_false,if_true,sp];rw[hdd.1,hdd.2];by_cases e0:A%B=0
      . have e:¬(bT (-(A%B)) 0≠0/\bT (-(A%B)) 0≠1):=by rw[e0];decide
        rw[aY e,aY e,bD e0,bD e0];omega
      . have e:bT (-(A%B)) 0≠0/\bT (-(A%B)) 0≠1:=by unfold bT;rw[bD (by omega)];decide
        rw[bD e,bD e,aY e0,aY e0];omega
    . simp only[if_true,sn];have e:¬(bT (-(A%B)) 0≠0/\bT (-(A%B)) 0≠-1):=by unfold bT;split<;>(try split)<;>omega
      rw[aY e,aY e];exact hds
   have hr1v:=hr1.bv;refine Tm.bind (Q:=(·=decide (bT R 0≠0/\bT R 0≠bT (bv b) 0))) (Tm.bind (mr hr1.dg.bP (by omega)) ?_) ?_
   . rintro _ rfl;rw[hr1v];refine bA (λh1=>?_) (λh1=>aW ?_)
     . refine Tm.bind (mr hr1.dg.bP (by omega)) ?_;rintro _ rfl;refine Tm.bind (mr hb (by omega)) ?_;rintro _ rfl;rw[hr1v];refine aW ?_;simp[h1]
     . simp at h1;simp[h1]
   rintro _ rfl;refine Tm.bind (Q:=λt:aC×aC=>Is t.1 ((bv a).fdiv (bv b))/\Is t.2 ((bv a).fmod (bv b))) ?_ ?_
   . rw[hfd.1,hfd.2];refine bA (λh1=>?_) (λh1=>aW ?_)
     . have h1:=iL h1;refine Tm.bind (px (n:=1) (by decide) (by decide)) ?_;rintro o ⟨ho,hol⟩;refine Tm.bind (Kh hq1.dg.bP ho.dg.bP (by omega) (by omega)) ?_;rintro q2 ⟨hq2,_⟩;refine Tm.bind (ye hr1.dg.bP hb (by omega) (by omega)) ?_;rintro r2 ⟨hr2,_⟩;rw[hq1.bv,ho.bv]at hq2;rw[hr1v]at hr2;refine aW ⟨?_,?_⟩
       . rw[bD h1];exact hq2
       . rw[bD h1];exact hr2
     . have h1:¬(bT R 0≠0/\bT R 0≠bT (bv b) 0):=by simpa using h1
       rw[aY h1,aY h1];exact⟨hq1,hr1⟩
   . rintro⟨q2,r2⟩ ⟨hq2,hr2⟩;exact aW ⟨by simp[h0],hq2,by rw[aY h0];exact hr2⟩
open Go Go.X
abbrev lX:bG:=⟨[],⟨false,[]⟩⟩
theorem wq{xs:List aC}{i:Int}{n:Nat}(e:i=(n:Int))(h:n<xs.length):idx xs i=some (xs.getD n fj):=by
 rw[sy h];exact gW e h
theorem F2{xs:List bG}{i:Int}{n:Nat}(e:i=(n:Int))(h:n<xs.length):idx xs i=some (xs.getD n lX):=by
 rw[cN,cy h];exact gW e h
theorem JE{l:List aC}{n m:Nat}{y:aC}(h:n<l.length):(l.set n y).getD m fj=if n=m then y else l.getD m fj:=by
 rw[cN,cN,rM];by_cases e:n=m
 . subst e;simp[h]
 . simp[e]
theorem Gt{l:List bG}{n:Nat}(h:n<l.length):l.getD n lX∈l:=by
 rw[cN,cy h];exact dJ h
theorem Na{l:List aC}{n:Nat}(h:n<l.length):l.getD n fj∈l:=by
 rw[cN,cy h];exact dJ h
def iQ(n:Nat)(c:List aC)(f:Nat->Int):Prop:=c.length=n/\∀j,j<n->Is (c.getD j fj) (f j)
theorem iQ.uniq{n:Nat}{c c':List aC}{f:Nat->Int}(h:iQ n c f)(h':iQ n c' f):c=c':=by
 apply qv (h.1.trans h'.1.symm);intro i h1 h2;have g1:=h.2 i (by rw[<-h.1];exact h1);have g2:=h'.2 i (by rw[<-h.1];exact h1);rw[sy h1]at g1;rw[sy h2]at g2;exact g1.uniq g2
theorem Lh{ρ:Type}{body:Nat->List aC×Int->Option (aJ (List aC×Int) ρ)}{fin:List aC->ρ}{bad:ρ}{n K K':Nat}{f g:Nat->Int}{F:Nat->Prop}{c0:List aC}(hn:n<=1073741824)(h0:iQ n c0 f)(hk0:∀j,j<n->(c0.getD j fj).aQ.length<=K)
 (step:∀k,k<n->∀c:List aC,c.length=n->Is (c.getD k fj) (f k)->(c.getD k fj).aQ.length<=K->
  Tm (λN=>body N (c,(k:Int))) (λs=>(∃y,s=.next (c.set k y,iw ((k:Int)+1))/\Is y (g k)/\y.aQ.length<=K'/\¬F k)\/(s=.done bad/\F k)))
 (stop:∀c:List aC,c.length=n->Tm (λN=>body N (c,(n:Int))) (λs=>s=.done (fin c))):
 Tm (λN=>bS (body N) N (c0,0)) (λr=>(∃c,r=fin c/\iQ n c g/\(∀j,j<n->(c.getD j fj).aQ.length<=K')/\∀k,k<n->¬F k)\/(r=bad/\∃k,k<n/\F k)):=by
 refine Tm.loop (λt:List aC×Int=>∃k:Nat,t.2=k/\k<=n/\t.1.length=n/\(∀j,j<k->Is (t.1.getD j fj) (g j)/\(t.1.getD j fj).aQ.length<=K'/\¬F j)/\∀j,k<=j->j<n->Is (t.1.getD j fj) (f j)/\(t.1.getD j fj).aQ.length<=K) (λt=>n-t.2.toNat)
  ⟨0,rfl,fV _,h0.1,λj hj=>bV hj (by omega),λj _ hj=>⟨h0.2 j hj,hk0 j hj⟩⟩ ?_
 rintro⟨c,kk⟩ ⟨k,rfl,hk,hc,h1,h2⟩;dsimp only at*;rcases cH k n with hkn|hkn
 . refine(step k hkn c hc (h2 k (bO _) hkn).1 (h2 k (bO _) hkn).2).mono ?_;rintro s (⟨y,rfl,hy,hyl,hF⟩|⟨rfl,hF⟩)
   . refine⟨⟨k+1,by show iw ((k:Int)+1)=_;rw[bL]<;>omega,by omega,by simp;omega,λj hj=>?_,λj hj hjn=>?_⟩,?_⟩
     . show Is ((c.set k y).getD j fj) (g j)/\((c.set k y).getD j fj).aQ.length<=K'/\¬F j;rw[JE (by omega)];by_cases e:k=j
       . subst e;rw[bD rfl];exact⟨hy,hyl,hF⟩
       . rw[aY e];exact h1 j (by omega)
     . show Is ((c.set k y).getD j fj) (f j)/\((c.set k y).getD j fj).aQ.length<=K;rw[JE (by omega),aY (by omega)];exact h2 j (by omega) hjn
     . show n-(iw ((k:Int)+1)).toNat<n-((k:Int)).toNat;rw[bL]<;>omega
   . exact .inr ⟨rfl,k,hkn,hF⟩
 . obtain rfl:k=n:=by omega
   refine(stop c hc).mono ?_;rintro s rfl;exact .inl ⟨c,rfl,⟨hc,λj hj=>(h1 j hj).1⟩,λj hj=>(h1 j hj).2.1,λj hj=>(h1 j hj).2.2⟩
def nV(l:List bG):Nat:=(l.getD 0 lX).bE.length
def mM(l:List bG):Prop:=∀q∈l,q.bE.length=nV l
instance (l:List bG):Decidable (mM l):=inferInstanceAs (Decidable (∀q∈l,q.bE.length=nV l))
def nC(l:List bG)(u:eh):Prop:=u.Index<0\/(l.length:Int)<=u.Index\/bv u.N<0
instance (l:List bG)(u:eh):Decidable (nC l u):=inferInstanceAs (Decidable (_\/_\/_))
def wW(l:List bG)(u:eh)(a:(Nat->Int)×Int):(Nat->Int)×Int:=(λj=>a.1 j+bv u.N*bv ((l.getD u.Index.toNat lX).bE.getD j fj),a.2+bv u.N*bv (l.getD u.Index.toNat lX).dO)
def mz(l:List bG):List eh->(Nat->Int)×Int->Option ((Nat->Int)×Int)
 |[],a=>some a
 |u::us,a=>if nC l u then none else mz l us (wW l u a)
def nO(l:List bG)(s:Step)(r:bG×Bool):Prop:= if mM l/\0<bv s.gB then match mz l s.Uses (λ_=>0,0)with
  |none=>r=(lX,false)
  |some (f,b)=>if∀j,j<nV l->f j%bv s.gB=0 then r.2=true/\iQ (nV l) r.1.bE (λj=>f j/bv s.gB)/\Is r.1.dO (b/bv s.gB)else r=(lX,false) else r=(lX,false)
theorem nO.uniq{l:List bG}{s:Step}{r r':bG×Bool}(h:nO l s r)(h':nO l s r'):r=r':=by
 unfold nO at h h';split at h
 . rename_i hc;rw[bD hc]at h';cases hs:mz l s.Uses (λ_=>0,0)with
   |none=>rw[hs]at h h';exact h.trans h'.symm
   |some a=>
    rw[hs]at h h';obtain⟨f,b⟩:=a;dsimp only at h h';split at h
    . rename_i hd;rw[bD hd]at h';obtain⟨⟨c,d⟩,t⟩:=r;obtain⟨⟨c',d'⟩,t'⟩:=r';have h1:c=c':=h.2.1.uniq h'.2.1;have h2:d=d':=h.2.2.uniq h'.2.2;have h3:t=t':=h.1.trans h'.1.symm;subst h1;subst h2;subst h3;rfl
    . rename_i hd;rw[aY hd]at h';exact h.trans h'.symm
 . rename_i hc;rw[aY hc]at h';exact h.trans h'.symm
theorem To{a:Int}:0<bT a 0↔0<a:=by unfold bT;(repeat' split)<;>omega
structure OkS (s:Step):Prop where
 len:s.Uses.length<=12
 use:∀u∈s.Uses,jY 4 u.N
 div:jY 4 s.gB
theorem Ei{l:List bG}(hl:l.length<=9223372036854775807):Tm (λN=>uJ N l) (λr=>r=decide (mM l)):=by
 unfold uJ;refine Tm.bind (Tm.each (body:=λN=>xY N l) l (λq=>q.bE.length=nV l) (Q:=λr=>(r=.inl ()/\mM l)\/(r=.inr false/\¬mM l)) hl ?_ ?_) ?_
 . intro n hn hP;dsimp only[xY];refine cR (by omega) (aL (dA hn) (aL (F2 (n:=0) rfl (by omega)) ?_));refine bA (λh=>aW (.inr ⟨_,rfl,.inr ⟨rfl,λhe=>?_⟩⟩)) (λh=>aW (.inl ⟨rfl,?_⟩))
   . have:=he _ (dJ hn);unfold nV at this;omega
   . unfold nV;omega
 . intro hP;dsimp only[xY];exact cD (by omega) (aW ⟨_,rfl,.inl ⟨rfl,hP⟩⟩)
 . rintro _ (⟨rfl,h⟩|⟨rfl,h⟩)
   . exact aW (by simp[h])
   . exact aW (by simp[h])
theorem mM.get{l:List bG}(h:mM l){n:Nat}(hn:n<l.length):(l.getD n lX).bE.length=nV l:=h _ (Gt hn)
theorem iQ.dH{n:Nat}:iQ n (List.replicate n fj) (λ_=>0):=⟨by simp,λj hj=>by rw[sy (by simpa using hj)];simpa using is0⟩
theorem drop_cons{l:List eh}{k:Nat}(h:k<l.length):l.drop k=l[k]::l.drop (k+1):=fJ h
open Go Go.X
theorem p6.same{q:bG}{vs:List Int}{b:Int}(h:p6 q vs b)(hv:∀v∈vs,(v.natAbs:Int)<aE^2)(hb:(b.natAbs:Int)<aE^2)(hl:vs.length<=512):qC 512 q:=by
 refine⟨by rw[h.1.1];exact hl,λx hx=>?_,h.2.dg.bP,by have:=h.2.len hb;omega⟩;obtain⟨j,hj,rfl⟩:=Hl.1 hx;have:=h.1.2 j hj (by rw[<-h.1.1];exact hj);exact⟨this.dg.bP,by have:=this.len (hv _ (dJ _));omega⟩
theorem Ni{z:Int}(h:fY z):(z.natAbs:Int)<aE^2:=by unfold fY at h;have e:aE^2=18446744073709551616:=(by decide);omega
theorem No{z:Int}(h:fY z):((-z).natAbs:Int)<aE^2:=by unfold fY at h;have e:aE^2=18446744073709551616:=(by decide);omega
theorem oK.ok{c:Constraint}{n:Int}{r:List bG}(hc:oO c)(h:oK c n r):r.length<=2/\∀q∈r,qC 512 q:=by
 rcases h with⟨_,rfl⟩|⟨hR,q,hq,h⟩
 . exact⟨by simp,λq hq=>by cases hq⟩
 . have hn:(gv c n c.Linear.bE.length).length<=512:=by rw[tk];have:=hR.2;omega
   have h1:qC 512 q:=hq.same (λv hv=>Ni (Cs hc v hv)) (No hc.const) hn;rcases h with⟨_,rfl⟩|⟨_,q',hq',rfl⟩
   . exact⟨by simp,λp hp=>by simp at hp;exact hp▸h1⟩
   . have h2:qC 512 q':=hq'.same (λv hv=>by obtain⟨u,hu,rfl⟩:=dR.1 hv;exact No (Cs hc u hu)) (Ni hc.const) (by simpa using hn);refine⟨by simp,λp hp=>?_⟩;simp only[ej,NR,or_false]at hp;rcases hp with rfl|rfl
     . exact h1
     . exact h2
def lq(n:Int):List Constraint->List bG->Prop
 |[],r=>r=[]
 |c::l,r=>∃a b,oK c n a/\lq n l b/\r=a++b
theorem lq.uniq{n:Int}:∀{l:List Constraint} {r s:List bG},lq n l r->lq n l s->r=s
 |[],_,_,h,h'=>h.trans h'.symm
 |_::_,_,_,⟨a,b,h1,h2,h3⟩,⟨a',b',g1,g2,g3⟩=>by rw[h3,g3,h1.uniq g1,lq.uniq h2 g2]
theorem lq.snoc{n:Int}:∀{l:List Constraint} {c:Constraint} {r a:List bG},lq n l r->oK c n a->lq n (l++[c]) (r++a)
 |[],_,_,a,h,h'=>⟨a,[],h',rfl,by rw[show _=[] from h];simp⟩
 |_::_,_,_,_,⟨x,y,h1,h2,h3⟩,h'=>⟨x,_,h1,h2.snoc h',by rw[h3];simp⟩
theorem lq.ok{n:Int}:∀{l:List Constraint} {r:List bG},(∀c∈l,oO c)->lq n l r->r.length<=2*l.length/\∀q∈r,qC 512 q
 |[],_,_,h=>by rw[show _=[] from h];exact⟨by simp,λq hq=>by cases hq⟩
 |c::l,_,hc,⟨a,b,h1,h2,h3⟩=>by
  have e1:=h1.ok (hc c cX);have e2:=h2.ok (λc h=>hc c (cO _ h));subst h3;refine⟨by simp;omega,λq hq=>?_⟩;rcases fe.1 hq with h|h
  . exact e1.2 q h
  . exact e2.2 q h
def rh(l:List Constraint)(n:Int)(r:List bG):Prop:=((∀c∈l,fM c n)/\lq n l r)\/(¬(∀c∈l,fM c n)/\r=[])
theorem rh.uniq{l:List Constraint}{n:Int}{r s:List bG}(h:rh l n r)(h':rh l n s):r=s:=by
 rcases h with⟨h1,h2⟩|⟨h1,rfl⟩<;>rcases h' with⟨g1,g2⟩|⟨g1,rfl⟩
 . exact h2.uniq g2
 . exact bV h1 g1
 . exact bV g1 h1
 . rfl
theorem J3{l:List Constraint}{n:Int}(hc:∀c∈l,oO c)(hl:l.length<=1000):Tm (λN=>uT N l n) (rh l n):=by
 unfold uT;refine Tm.bind (Tm.loop (λs:List bG×Int=>∃k:Nat,s.2=k/\k<=l.length/\(∀c∈l.take k,fM c n)/\lq n (l.take k) s.1) (λs=>l.length-s.2.toNat)
  (Q:=λr=>rh l n (match r with|.inl a=>a|.inr a=>a)) ⟨0,rfl,fV _,by simp,rfl⟩ ?_) (λr h=>by cases r<;>exact aW h)
 rintro⟨out,i⟩ ⟨k,rfl,hk,hR,hS⟩;dsimp only[Fb]at*;refine bA (λh1=>?_) (λh1=>aW ?_)
 . have hkl:k<l.length:=by omega
   have hck:=hc _ (dJ hkl);refine aL (dA hkl) (Tm.bind (MF hck.len) ?_);intro r hr;refine bA (λh=>aW (.inr ⟨λe=>?_,rfl⟩)) (λh=>Tm.bind (SO hck) ?_)
   . rw[hr.2 (e _ (dJ hkl))]at h;cases h
   . intro a ha;have h2:=hS.ok (λc h=>hc c (uc h));have h3:=ha.ok hck;have h4:(l.take k).length<=1000:=by simp;omega
     refine aL (eb (by omega) (by decide)) (aW ⟨⟨k+1,by dsimp only;rw[bL]<;>omega,by omega,?_,?_⟩,?_⟩)
     . rw[qu hkl];intro c hc';rcases fe.1 hc' with h'|h'
       . exact hR c h'
       . rw[cG.1 h'];exact hr.1 (by simpa using h)
     . rw[qu hkl];exact hS.snoc ha
     . show l.length-(iw ((k:Int)+1)).toNat<l.length-((k:Int)).toNat;rw[bL]<;>omega
 . rw[fC (by omega)]at hR hS;exact .inl ⟨hR,hS⟩
theorem O4{l:List Constraint}{n:Int}(hc:∀c∈l,oO c)(hl:l.length<=1000):Tm (λN=>xS N l n) (rh l n):=by
 unfold xS;refine Tm.bind (Tm.loop (λs:List bG×Int=>∃k:Nat,s.2=k/\k<=l.length/\(∀c∈l.take k,fM c n)/\lq n (l.take k) s.1) (λs=>l.length-s.2.toNat)
  (Q:=λr=>rh l n (match r with|.inl a=>a|.inr a=>a)) ⟨0,rfl,fV _,by simp,rfl⟩ ?_) (λr h=>by cases r<;>exact aW h)
 rintro⟨out,i⟩ ⟨k,rfl,hk,hR,hS⟩;dsimp only[EN]at*;refine bA (λh1=>?_) (λh1=>aW ?_)
 . have hkl:k<l.length:=by omega
   have hck:=hc _ (dJ hkl);refine aL (dA hkl) (Tm.bind (EY hck.len) ?_);intro r hr;refine bA (λh=>aW (.inr ⟨λe=>?_,rfl⟩)) (λh=>aL (dA hkl) (Tm.bind (Vj hck) ?_))
   . rw[hr.2 (e _ (dJ hkl))]at h;cases h
   . intro a ha;have h2:=hS.ok (λc h=>hc c (uc h));have h3:=ha.ok hck;have h4:(l.take k).length<=1000:=by simp;omega
     refine aL (eb (by omega) (by decide)) (aW ⟨⟨k+1,by dsimp only;rw[bL]<;>omega,by omega,?_,?_⟩,?_⟩)
     . rw[qu hkl];intro c hc';rcases fe.1 hc' with h'|h'
       . exact hR c h'
       . rw[cG.1 h'];exact hr.1 (by simpa using h)
     . rw[qu hkl];exact hS.snoc ha
     . show l.length-(iw ((k:Int)+1)).toNat<l.length-((k:Int)).toNat;rw[bL]<;>omega
 . rw[fC (by omega)]at hR hS;exact .inl ⟨hR,hS⟩
open Go Go.X
def nY(vs xs:List Int):Nat->Int
 |0=>0
 |n+1=>nY vs xs n+vs.getD n 0*xs.getD n 0
theorem I6{l xs:List Int}{v:Nat}{y:Int}(hv:v<l.length):∀n,nY (l.set v y) xs n=nY l xs n+(if v<n then(y-l.getD v 0)*xs.getD v 0 else 0)
 |0=>by simp[nY]
 |n+1=>by
  rw[nY,nY,I6 hv n];rcases N8 v n with h|h|h
  . have:(l.set v y).getD n 0=l.getD n 0:=by rw[cN,cN,wJ (by omega)]
    rw[this,bD h,bD (by omega)];grind
  . subst h;have:(l.set v y).getD v 0=y:=by rw[cN,zl hv];rfl
    rw[this,aY (by omega),bD (by omega)];grind
  . have:(l.set v y).getD n 0=l.getD n 0:=by rw[cN,cN,wJ (by omega)]
    rw[this,aY (by omega),aY (by omega)];grind
theorem KW{xs:List Int}{m:Nat}:∀n,nY (List.replicate m 0) xs n=0
 |0=>rfl
 |n+1=>by
  rw[nY,KW n];have:(List.replicate m (0:Int)).getD n 0=0:=by
   rcases cH n m with hn|hn
   . rw[gA (by simpa using hn)];simp
   . rw[nc (by simpa using hn)]
  rw[this];simp
theorem IC{c:Constraint}{n:Int}(h:fM c n):∀{i k:Nat},(hik:i<k)->(hk:k<c.Linear.bE.length)->(c.Linear.bE[i]'(by omega)).Var<c.Linear.bE[k].Var:=by
 intro i k
 induction k with
 |zero=>intro h;omega
 |succ k ih=>
  intro hik hk;have h1:=(h.1 (k+1) hk).2.2 (by omega);simp only[NL]at h1;rcases cH i k with h2|h2
  . have:=ih h2 (by omega);omega
  . obtain rfl:i=k:=by omega
    exact h1
theorem Tx{c:Constraint}{n:Int}(h:fM c n):(c.Linear.bE.length:Int)<=n:=by
 have key:∀k,(hk:k<c.Linear.bE.length)->(k:Int)<=c.Linear.bE[k].Var:=by
  intro k
  induction k with
  |zero=>intro hk;have:=(h.1 0 hk).1;omega
  |succ k ih=>intro hk;have:=ih (by omega);have:=IC h (show k<k+1 by omega) hk;omega
 rcases gQ c.Linear.bE.length with h0|h0
 . have:=h.2;omega
 . have h1:=key (c.Linear.bE.length-1) (by omega);have h2:=(h.1 (c.Linear.bE.length-1) (by omega)).2.1;omega
theorem Rb{c:Constraint}{n:Int}(h:fM c n){k:Nat}(hk:k<=c.Linear.bE.length){j:Nat}(hj:∀i,(hi:i<k)->(c.Linear.bE[i]'(by omega)).Var≠j):(gv c n k).getD j 0=0:=by
 induction k with
 |zero=>
  simp only[gv,NY,NZ];rcases cH j n.toNat with hn|hn
  . rw[gA (by simpa using hn)];simp
  . rw[nc (by simpa using hn)]
 |succ k ih=>
  rw[xu (by omega),qB,cN,wJ]
  . rw[<-cN];exact ih (by omega) (λi hi=>hj i (by omega))
  . have h1:=hj k (by omega);have h2:=(h.1 k (by omega)).1;omega
def ri(c:Constraint)(x:List Int):Nat->Int
 |0=>0
 |k+1=>ri c x k+(c.Linear.bE.getD k ⟨0,0⟩).N*x.getD (c.Linear.bE.getD k ⟨0,0⟩).Var.toNat 0
theorem getDc{l:List iE}{n:Nat}(h:n<l.length):l.getD n ⟨0,0⟩=l[n]:=by rw[cN,cy h];rfl
theorem RR{c:Constraint}{x:List Int}(h:fM c x.length):∀{k:Nat},k<=c.Linear.bE.length->nY (gv c x.length k) x x.length=ri c x k:=by
 intro k
 induction k with
 |zero=>intro _;simp only[gv,NY,NZ];rw[KW];rfl
 |succ k ih=>
  intro hk;have hv:=h.1 k (by omega);have hz:(gv c x.length k).getD c.Linear.bE[k].Var.toNat 0=0:=Rb h (by omega) (λi hi=>by have:=IC h hi (by omega);omega);rw[xu (by omega),qB,I6 (by rw[tk];omega),ih (by omega),bD (by omega),hz,ri,getDc (by omega)];grind
open Go Go.X
theorem jY.abs{K:Nat}{x:aC}(h:jY K x):((bv x).natAbs:Int)<aE^K:=by
 have h0:=gm (B:=aE) (by decide) h.1;have h1:=iG (B:=aE) (by decide) h.1;have h2:=kO (B:=aE) (by decide) h.2;unfold bv;split<;>omega
theorem RM{K:Nat}{l:List bG}{s:Step}(hK:K<=536870912)(hl:l.length<=1073741824)(hq:∀q∈l,qC K q)(hs:OkS s):Tm (λN=>yO N l s) (λr=>nO l s r):=by
 unfold yO;refine Tm.bind (Q:=(·=decide (¬(mM l/\0<bv s.gB)))) (Tm.bind (Ei (by omega)) ?_) ?_
 . rintro _ rfl;refine bA (λh=>aW ?_) (λh=>?_)
   . have:¬mM l:=by simpa using h
     simp[this]
   . have he:mM l:=by simpa using h
     refine Tm.bind (mr hs.div.1 (by have:=hs.div.2;omega)) ?_;rintro _ rfl;refine aW ?_;have:=To (a:=bv s.gB);by_cases h1:0<bv s.gB
     . have h2:=this.2 h1;simp[he,h1];omega
     . have h2:¬0<bT (bv s.gB) 0:=λe=>h1 (this.1 e);simp[h1];omega
 rintro _ rfl;refine bA (λh=>aW ?_) (λh=>?_)
 . unfold nO;rw[aY (iL h)]
 . have hc:mM l/\0<bv s.gB:=by simpa using h
   obtain⟨he,hd⟩:=hc;have hn:nV l<=K:=by
    rcases gQ l.length with h0|h0
    . have:l=[]:=mU.1 h0;subst this;simp[nV]
    . exact(hq _ (Gt h0)).1
   refine Tm.bind (Q:=(·=(nV l:Int))) (bA (λh1=>aL (F2 (n:=0) rfl (by omega)) (aW rfl)) (λh1=>aW ?_)) ?_
   . have:l=[]:=mU.1 (by omega);subst this;simp[nV]
   rintro _ rfl;refine Tm.bind (Q:=(·=⟨List.replicate (nV l) fj,fj⟩)) (by unfold u9;exact aL (iy rfl (by omega) (by decide)) (aW rfl)) ?_;rintro _ rfl;dsimp only;refine Tm.bind (Q:=λr:Sum (List aC×Bool×List Int) (bG×Bool)=>(∃f c neg ds,r=.inl (c,neg,ds)/\mz l s.Uses (λ_=>0,0)=some (f,bv ⟨neg,ds⟩)/\iQ (nV l) c f/\(∀j,j<nV l->(c.getD j fj).aQ.length<=K+16)/\jY (K+16) ⟨neg,ds⟩)\/(r=.inr (lX,false)/\mz l s.Uses (λ_=>0,0)=none))
    (Tm.loop (λt:List aC×Bool×List Int×Int=>∃(k:Nat) (f:Nat->Int),t.2.2.2=k/\k<=s.Uses.length/\mz l s.Uses (λ_=>0,0)=mz l (s.Uses.drop k) (f,bv ⟨t.2.1,t.2.2.1⟩)/\iQ (nV l) t.1 f/\(∀j,j<nV l->(t.1.getD j fj).aQ.length<=K+4+k)/\jY (K+4+k) ⟨t.2.1,t.2.2.1⟩) (λt=>s.Uses.length-t.2.2.2.toNat)
     ⟨0,λ_=>0,rfl,fV _,by rw[lC,T5],iQ.dH,λj hj=>by rw[sy (by simpa using hj)];simp,.nil⟩ ?_) ?_
   . rintro⟨c,neg,ds,kk⟩ ⟨k,f,rfl,hk,hsum,hcf,hcl,hb⟩;have hlen:=hs.len;dsimp only[Dj]at*;refine bA (λh1=>?_) (λh1=>aW ?_)
     . have hku:k<s.Uses.length:=by omega
       refine aL (dA hku) ?_;have hu:=hs.use _ (dJ hku);rw[drop_cons hku]at hsum;generalize s.Uses[k]=u at*;simp only[mz]at hsum;refine Tm.bind (Q:=(·=decide (nC l u))) (bA (λh2=>aW ?_) (λh2=>bA (λh3=>aW ?_) (λh3=>?_))) ?_
       . have:nC l u:=.inl h2;simp[this]
       . have:nC l u:=.inr (.inl (by omega));simp[this]
       . refine Tm.bind (mr hu.1 (by have:=hu.2;omega)) ?_;rintro _ rfl;refine aW ?_;have:=B3 (a:=bv u.N);unfold nC;by_cases h4:bv u.N<0
         . simp[h4,this.2 h4]
         . have:¬bT (bv u.N) 0<0:=λe=>h4 (this.1 e);simp[h4,this];omega
       rintro _ rfl;refine bA (λh2=>aW ?_) (λh2=>?_)
       . rw[bD (iL h2)]at hsum;exact .inr ⟨rfl,hsum⟩
       . have hbu:¬nC l u:=by simpa using h2
         rw[aY hbu]at hsum;have hi:0<=u.Index/\u.Index<l.length/\0<=bv u.N:=by unfold nC at hbu;omega
         have hii:u.Index=(u.Index.toNat:Int):=by omega
         have hil:u.Index.toNat<l.length:=by omega
         refine aL (F2 hii hil) ?_;have hqq:=hq _ (Gt hil);have hqn:=he.get hil;generalize hQ:l.getD u.Index.toNat lX=q at*;have hu4:=hu.2;have hqb:=hqq.2.2.2;have inner:=Lh (ρ:=List aC) (body:=λN=>za N (nV l:Int) u q) (fin:=λc=>c) (bad:=[]) (n:=nV l) (K:=K+4+k) (K':=K+4+(k+1)) (f:=f) (g:=λj=>f j+bv u.N*bv (q.bE.getD j fj)) (F:=λ_=>False) (c0:=c) (by omega) hcf hcl
          (λj hj c' hc' h3 h4=>by
           dsimp only[za];have hqj:=hqq.2.1 _ (Na (l:=q.bE) (n:=j) (by omega));have:=hqj.2;refine cR (by omega) (aL (wq rfl (by omega)) (aL (wq rfl (by omega)) (Tm.bind (F6 hqj.1 hu.1 (by omega) (by omega)) ?_)));rintro m ⟨hm,hml⟩;refine Tm.bind (ye h3.dg.bP hm.dg.bP (by omega) (by omega)) ?_;rintro a ⟨ha,hal⟩;refine aL (wq rfl (by omega)) (aL (eE rfl (by omega)) (aW (.inl ⟨a,rfl,?_,by omega,λe=>e⟩)));rw[h3.bv,hm.bv,fD]at ha;exact ha)
          (λc' hc'=>by dsimp only[za];exact cD (by omega) (aW rfl))
         refine Tm.bind inner ?_;rintro c2 (⟨_,rfl,hc2,hc2l,-⟩|⟨-,j,hj,hF⟩)
         . refine Tm.bind (F6 hqq.2.2.1 hu.1 (by omega) (by omega)) ?_;rintro m ⟨hm,hml⟩;have hb2:ds.length<=K+4+k:=hb.2;refine Tm.bind (ye hb.1 hm.dg.bP (show ds.length<=_ by omega) (by omega)) ?_;rintro a ⟨ha,hal⟩;dsimp only at hal;refine aW ⟨⟨k+1,_,by show iw ((k:Int)+1)=_;rw[bL]<;>omega,by omega,?_,hc2,hc2l,ha.ok ?_⟩,?_⟩
           . show mz l s.Uses (λ_=>0,0)=mz l (s.Uses.drop (k+1)) (_,bv a);rw[ha.bv,hm.bv,hsum,fD (bv q.dO)];unfold wW;rw[hQ]
           . omega
           . show s.Uses.length-(iw ((k:Int)+1)).toNat<s.Uses.length-((k:Int)).toNat;rw[bL]<;>omega
         . exact hF.elim
     . have hkL:k=s.Uses.length:=by omega
       subst hkL;rw[Dd]at hsum;exact .inl ⟨f,c,neg,ds,rfl,hsum,hcf,λj hj=>by have:=hcl j hj;omega,hb.mono (by omega)⟩
   . rintro _ (⟨f,c,neg,ds,rfl,hsum,hcf,hcl,hb⟩|⟨rfl,hsum⟩)
     . dsimp only;have hb2:ds.length<=K+16:=hb.2;have hdv:=hs.div.2;have inner:=Lh (ρ:=Sum (List aC) (bG×Bool)) (body:=λN=>xK N s (nV l:Int)) (fin:=λc=>.inl c) (bad:=.inr (lX,false)) (n:=nV l) (K:=K+16) (K':=K+20) (f:=f) (g:=λj=>f j/bv s.gB) (F:=λj=>¬f j%bv s.gB=0) (c0:=c) (by omega) hcf hcl
        (λj hj c' hc' h3 h4=>by
         dsimp only[xK];refine cR (by have:=hcf.1;omega) (aL (wq rfl (by omega)) (Tm.bind (M8 h3.dg.bP hs.div.1 (by omega) (by omega)) ?_));rintro⟨qq,rr,oo⟩ hD;have hquo:=hD.quo;have hrem:=hD.rem;dsimp only at hquo hrem;rw[h3.bv,jQ _ (by omega)]at hquo;rw[h3.bv,aY (by omega),HC _ (by omega)]at hrem;have hrl:=hrem.len (k:=4) (by have:=hs.div.abs;have m0:=mX (f j) (show bv s.gB≠0 by omega);have m1:=mY (f j) hd;omega);have hql:=hquo.len (k:=K+16) (by have:=(h3.ok h4).abs;rw[h3.bv]at this;have:=Int.natAbs_ediv_le_natAbs (f j) (bv s.gB);omega);refine Tm.bind (mr hrem.dg.bP (show rr.aQ.length<=_ by omega)) ?_;rintro _ rfl;rw[hrem.bv];refine bA (λh5=>aW (.inr ⟨rfl,λe=>h5 (Ar.2 e)⟩)) (λh5=>?_);refine aL (wq rfl (by omega)) (aL (eE rfl (by omega)) (aW (.inl ⟨qq,rfl,hquo,by omega,λe=>e (Ar.1 (by omega))⟩))))
        (λc' hc'=>by dsimp only[xK];exact cD (by have:=hcf.1;omega) (aW rfl))
       refine Tm.bind inner ?_;rintro _ (⟨c2,rfl,hc2,hc2l,hall⟩|⟨rfl,j,hj,hF⟩)
       . refine Tm.bind (M8 hb.1 hs.div.1 (show ds.length<=_ by omega) (by omega)) ?_;rintro⟨qq,rr,oo⟩ hD;have hquo:=hD.quo;dsimp only at hquo;rw[jQ _ (by omega)]at hquo;refine aW ?_;unfold nO;rw[bD ⟨he,hd⟩,hsum];dsimp only;rw[bD (λj hj=>ug.1 (hall j hj))];exact⟨rfl,hc2,hquo⟩
       . refine aW ?_;unfold nO;rw[bD ⟨he,hd⟩,hsum];dsimp only;rw[aY (λh=>hF (h j hj))]
     . refine aW ?_;unfold nO;rw[bD ⟨he,hd⟩,hsum]
open Go Go.X
def rk(n:Nat):List Int:=if h:n=0 then[]else((n%4294967296:Nat):Int)::rk (n/4294967296)
termination_by n
decreasing_by omega
theorem PN(n:Nat):Dg aE (rk n) n:=by
 induction n using Nat.strongRecOn with
 |ind n ih=>
  rw[rk];split
  . rename_i h;subst h;exact Dg.nil
  . rename_i h;have h1:=ih (n/4294967296) (by omega);refine⟨h1.bP.cons ⟨by omega,by show((n%4294967296:Nat):Int)<4294967296;omega⟩,?_,?_⟩
    . unfold gh;cases hd:rk (n/4294967296)with
      |nil=>
       have:n/4294967296=0:=by have:=(h1.zero (by decide)).1 hd;omega
       simp;omega
      |cons x r=>rw[VY,<-hd];exact h1.fm
    . rw[sH,h1.val];show((n%4294967296:Nat):Int)+4294967296*((n/4294967296:Nat):Int)=n;omega
def B(v:Int):aC:=⟨decide (v<0),rk v.natAbs⟩
theorem ni(v:Int):Is (B v) v:=⟨PN _,rfl⟩
theorem qf{x:aC}{v:Int}(h:Is x v):x=B v:=h.uniq (ni v)
theorem gI(v:Int):bv (B v)=v:=(ni v).bv
theorem bP(v:Int):bF aE (B v).aQ:=(ni v).dg.bP
theorem B0:B 0=⟨false,[]⟩:=by unfold B;rw[show(0:Int).natAbs=0 from rfl,rk];rfl
def dl(v:Int):Nat:=(B v).aQ.length
theorem okB{v:Int}{K:Nat}(h:dl v<=K):jY K (B v):=⟨bP v,h⟩
theorem p7{v:Int}{k:Nat}(h:(v.natAbs:Int)<aE^k):dl v<=k:=(ni v).len h
theorem rB(v:Int):(v.natAbs:Int)<aE^dl v:=by have:=(okB (v:=v) (bO _)).abs;rwa[gI]at this
theorem tO{a b:Int}(h:a.natAbs<=b.natAbs):dl a<=dl b:=p7 (by have:=rB b;omega)
theorem wx{m n:Nat}(h:m<=n):aE^m<=aE^n:=kO (by decide) h
theorem oz{a b:Int}{K:Nat}(ha:dl a<=K)(hb:dl b<=K):dl (a+b)<=K+1:=by
 apply p7;have h1:=rB a;have h2:=rB b;have h3:=wx ha;have h4:=wx hb;rw[fu];have h5:=kI (B:=aE) (by decide) K;have h6:aE^K*2<=aE^K*aE:=ff (by decide) (dY h5);omega
theorem gx(a:Int):dl (-a)=dl a:=Nat.le_antisymm (tO (by omega)) (tO (by omega))
theorem jW{a b:Int}{K:Nat}(ha:dl a<=K)(hb:dl b<=K):dl (a-b)<=K+1:=by
 rw[Hu];exact oz ha (by rw[gx];exact hb)
theorem kD(a b:Int):dl (a*b)<=dl a+dl b:=by
 apply p7;have h1:=rB a;have h2:=rB b;rw[zw,Hi,jO];exact Int.mul_lt_mul' (dY h1) h2 (by omega) (by omega)
theorem iq:dl 0=0:=by unfold dl;rw[B0];rfl
theorem jB{a:Int}(h:a.natAbs<4294967296):dl a<=1:=p7 (by show(a.natAbs:Int)<4294967296^1;omega)
theorem Fv{a:Int}(h:a.natAbs<18446744073709551616):dl a<=2:=p7 (by show(a.natAbs:Int)<4294967296^2;omega)
theorem jL:dl 1<=1:=jB (by decide)
theorem Nd{a b:Int}:(a.fdiv b).natAbs<=a.natAbs:=by
 rcases qx b 0 with h|h|h
 . have e:a.fdiv b=(-a).fdiv (-b):=(HA a b).symm;rw[e,jQ _ (by omega)];have h1:0< -b:=by omega
   generalize-b=c at h1;have h2:=j8 (-a) c;have h3:=mX (-a) (show c≠0 by omega);have h4:=mY (-a) h1;generalize(-a)/c=q at*;generalize(-a)%c=r at*;rcases o9 q 0 with hq|hq
   . have:=eU (show(1:Int)<=c by omega) (show 0≤-q by omega);have e2:c*-q=-(c*q):=by grind
     have:c+c*q<=0:=by
      have:=ff (show q≤-1 by omega) (show 0<=c by omega);omega
     have h7:(c-1)*(-q-1)≥0:=eW (by omega) (by omega);have e3:(c-1)*(-q-1)=-(c*q)-c+q+1:=by grind
     omega
   . have:=eU (show(1:Int)<=c by omega) hq;omega
 . subst h;rw[N7];omega
 . rw[jQ _ (by omega)];have h2:=j8 a b;have h3:=mX a (show b≠0 by omega);have h4:=mY a h;generalize a/b=q at*;generalize a%b=r at*;rcases o9 q 0 with hq|hq
   . have:b+b*q<=0:=by
      have:=ff (show q≤-1 by omega) (show 0<=b by omega);omega
     have h7:(b-1)*(-q-1)≥0:=eW (by omega) (by omega);have e3:(b-1)*(-q-1)=-(b*q)-b+q+1:=by grind
     omega
   . have:=eU (show(1:Int)<=b by omega) hq;omega
theorem rU(a b:Int):dl (a.fdiv b)<=dl a:=tO Nd
theorem D6{a b:Int}(h:0<=b):dl (a/b)<=dl a:=by rw[<-jQ a h];exact rU a b
abbrev dh:Nat:=1099511627776
section
variable {a b:Int}
theorem mf(ha:dl a<=dh)(hb:dl b<=dh):Tm (λN=>js N (B a) (B b)) (·=B (a+b)):=
 (LG (bP a) (bP b) (bU ha (by decide)) (bU hb (by decide))).mono λr h=>by rw[gI,gI]at h;exact qf h.1
theorem ld(ha:dl a<=dh)(hb:dl b<=dh):Tm (λN=>jk N (B a) (B b)) (·=B (a-b)):=
 (UM (bP a) (bP b) (bU ha (by decide)) (bU hb (by decide))).mono λr h=>by rw[gI,gI]at h;exact qf h.1
theorem ox(ha:dl a<=dh)(hb:dl b<=dh):Tm (λN=>kB N (B a) (B b)) (·=B (a*b)):=
 (Uk (bP a) (bP b) (bU ha (by decide)) (bU hb (by decide))).mono λr h=>by rw[gI,gI]at h;exact qf h.1
theorem ou(ha:dl a<=dh):Tm (λN=>jA N (B a)) (·=B (-a)):=
 (Ch (bP a) (bU ha (by decide))).mono λr h=>by rw[gI]at h;exact qf h.1
theorem jK(ha:dl a<=dh):Tm (λN=>gV N (B a)) (·=bT a 0):=
 (QS (bP a) (bU ha (by decide))).mono λr h=>by rw[gI]at h;exact h
theorem ko(ha:dl a<=dh)(hb:dl b<=dh):Tm (λN=>iY N (B a) (B b)) (·=bT a b):=
 (R7 (bP a) (bP b) (bU ha (by decide)) (bU hb (by decide))).mono λr h=>by rw[gI,gI]at h;exact h
theorem pP(ha:dl a<=dh)(hb:dl b<=dh):Tm (λN=>kS N (B a) (B b)) (λr=>r.1=B (a.fdiv b)):=
 (Tn (bP a) (bP b) (bU ha (by decide)) (bU hb (by decide))).mono λr h=>by have:=h.1.quo;rw[gI,gI]at this;exact qf this
theorem iO{n:Int}(h1:-9223372036854775808<=n)(h2:n<=9223372036854775807):Tm (λN=>gj N n) (·=B n):=(Cv h1 h2).mono λr h=>qf h.1
end
theorem Q6{x y:Int}(hx:0<=x)(hy:0<=y):Nat.gcd y.toNat (x%y).toNat=Nat.gcd x.toNat y.toNat:=by
 obtain⟨m,rfl⟩:=qw hx;obtain⟨n,rfl⟩:=qw hy;rw[<-Int.natCast_emod,mh,mh,mh,Nat.gcd_comm n,<-Nat.gcd_rec,Nat.gcd_comm]
def gOf(a b:aC):Nat:=Nat.gcd (val aE a.aQ).toNat (val aE b.aQ).toNat
theorem T7{a b:aC}{K:Nat}(hK:K<=dh)(ha:bF aE a.aQ)(hb:bF aE b.aQ)(la:a.aQ.length<=K)(lb:b.aQ.length<=K):
 Tm (λN=>uE N a b) (λr=>Is r (gOf a b:Int)):=by
 have hL:dh=1099511627776:=rfl;unfold uE;refine Tm.bind (qg ha (by omega)) (λx ⟨hx,lx⟩=>Tm.bind (qg hb (by omega)) (λy ⟨hy,ly⟩=>?_));refine Tm.bind (Tm.loop (λs:List Int×List Int=>bF aE s.1/\gh s.1/\s.1.length<=K/\bF aE s.2/\gh s.2/\s.2.length<=K/\Nat.gcd (val aE s.1).toNat (val aE s.2).toNat=gOf a b) (λs=>(val aE s.2).toNat)
  (Q:=λr=>bF aE r/\r.length<=K/\val aE r=gOf a b) ⟨hx.bP,hx.fm,by show x.length<=K;omega,hy.bP,hy.fm,by show y.length<=K;omega,by rw[hx.val,hy.val];rfl⟩ ?_) ?_
 . rintro⟨u,v⟩ ⟨u1,u2,u3,v1,v2,v3,hg⟩;dsimp only[DG]at*;refine bA (λh=>?_) (λh=>aW ?_)
   . have hv0:v≠[]:=λe=>by rw[e]at h;simp at h
     have hvp:=w6 (B:=aE) (by decide) v1 v2 hv0;have hup:=gm (B:=aE) (by decide) u1;refine Tm.bind (MG u1 v1 u2 v2 (by omega) (by omega) (by omega)) (λr ⟨_,hr,_,_⟩=>aW ?_);have hm:=hr.val;have h1:=mY (val aE u) hvp;have h2:=mX (val aE u) (show val aE v≠0 by omega);have h3:=iG (B:=aE) (by decide) v1;have hlen:r.2.length<=v.length:=F7 nF hr.bP hr.fm (by rw[hm];omega);exact⟨⟨v1,v2,v3,hr.bP,hr.fm,by show r.2.length<=K;omega,by rw[hm,Q6 hup (dY hvp)];exact hg⟩,by show(val aE r.2).toNat<(val aE v).toNat;rw[hm];omega⟩
   . have hv0:v=[]:=mU.1 (by omega);have hup:=gm (B:=aE) (by decide) u1;rw[hv0]at hg;refine⟨u1,u3,?_⟩;rw[<-hg];simp[val];omega
 . rintro r ⟨r1,r2,r3⟩;refine Tm.bind (mE (neg:=false) r1 (by omega)) (λz ⟨hz,lz⟩=>aW ?_);rw[<-r3];exact hz
theorem gOf_B(a b:Int):gOf (B a) (B b)=Int.gcd a b:=by
 unfold gOf Int.gcd;rw[(ni a).dg.val,(ni b).dg.val,mh,mh]
theorem tmGcd{a b:Int}(ha:dl a<=dh)(hb:dl b<=dh):Tm (λN=>uE N (B a) (B b)) (·=B (Int.gcd a b)):=
 (T7 (bO _) (bP a) (bP b) ha hb).mono λr h=>by rw[gOf_B]at h;exact qf h
open Go Go.X
def sG(N:Nat)(pa:Int)(c:Int):Option Constraint:= some (Constraint.mk (Linear.mk (iw (0-c)) [(iE.mk pa 1)]) false)
def oIs(N:Nat)(pa:Int)(c:Int):Option Constraint:= some (Constraint.mk (Linear.mk (iw (0-c)) [(iE.mk pa 1)]) true)
def FM(N:Nat)(f:Linear)(x:(List aC)):(aC×Int)->Option (aJ (aC×Int) aC)
 |(b,a)=>(if(a:Int)<(List.length f.bE:Int)then (idx f.bE a).bind λc=>(jX N c.N).bind λd=>(idx f.bE a).bind λe=>(idx x e.Var).bind λg=>(sJ N d g).bind λi=>(pR N b i).bind λj=>some (aJ.next (j,(iw (a+1)))) else some (aJ.done b))
def xa(N:Nat)(f:Linear)(x:(List aC)):Option aC:=(jX N f.Const).bind λa=>(bS (FM N f x) N (a,0)).bind λss=>match ss with
  |b=>some b
def xP(N:Nat)(l:(List Constraint))(x:(List aC)):Int->Option (aJ Int (Sum Unit Bool))
 |a=>(if(a:Int)<(List.length l:Int)then (idx l a).bind λc=>(xa N c.Linear x).bind λd=>(kq N d).bind λb=>(((if(b:Int)>0 then some true else (if(b:Int)<0 then (idx l a).bind λe=>some e.jg else some false)):Option Bool)).bind λss=>match ss with
    |f=>(if f=true then some (aJ.done (Sum.inr false)) else some (aJ.next (iw (a+1)))) else some (aJ.done (Sum.inl ())))
def uv(N:Nat)(l:(List Constraint))(x:(List aC)):Option Bool:=(bS (xP N l x) N 0).bind λss=>match ss with
  |(Sum.inl _)=>some true
  |(Sum.inr a)=>some a
def xH(N:Nat)(l:(List Constraint))(n:Int):Int->Option (aJ Int (Sum Unit Bool))
 |a=>(if(a:Int)<(List.length l:Int)then (idx l a).bind λb=>(sa N b n).bind λc=>(if(!c)=true then some (aJ.done (Sum.inr false)) else some (aJ.next (iw (a+1)))) else some (aJ.done (Sum.inl ())))
def xN(N:Nat)(n:Int)(l:(List Constraint)):Option Bool:=(bS (xH N l n) N 0).bind λss=>match ss with
  |(Sum.inl _)=>(if(n:Int)≥0 then some (decide ((n:Int)<=512)) else some false)
  |(Sum.inr a)=>some a
def xn(N:Nat)(most:Int)(b:Constraint):Int->Option (aJ Int (Sum Unit Bool))
 |a=>(if(a:Int)<(List.length b.Linear.bE:Int)then (((idx b.Linear.bE a).bind λc=>(if(c.N:Int)>most then some true else (idx b.Linear.bE a).bind λd=>some (decide ((d.N:Int)<(iw (0-most))))):Option Bool)).bind λss=>match ss with
    |e=>(if e=true then some (aJ.done (Sum.inr false)) else some (aJ.next (iw (a+1)))) else some (aJ.done (Sum.inl ())))
def ym(N:Nat)(l:(List Constraint))(most:Int):Int->Option (aJ Int (Sum Unit Bool))
 |a=>(if(a:Int)<(List.length l:Int)then (idx l a).bind λb=>(((if(b.Linear.Const:Int)>1000000 then some true else some (decide ((b.Linear.Const:Int)<(-1000000)))):Option Bool)).bind λss=>match ss with
    |c=>(if c=true then some (aJ.done (Sum.inr false)) else (bS (xn N most b) N 0).bind λss=>match ss with
       |(Sum.inl _)=>some (aJ.next (iw (a+1)))
       |(Sum.inr d)=>some (aJ.done (Sum.inr d))) else some (aJ.done (Sum.inl ())))
def xb(N:Nat)(n:Int)(l:(List Constraint))(most:Int):Option Bool:=(bS (ym N l most) N 0).bind λss=>match ss with
  |(Sum.inl _)=>(if(n:Int)<=4 then (if((List.length l:Int):Int)<=6 then (xN N n l).bind λa=>some a else some false) else some false)
  |(Sum.inr b)=>some b
def sh(N:Nat)(n:Int)(l:(List Constraint))(p:Proof):Option Bool:=(xS N l n).bind λr6=>(td N r6 p).bind λa=>some a
open Go Go.X
def oP(N:Nat)(s:(List aC)):Option (List aC):=(cZ 32 ([]:(List aC)) s).bind λa=>some a
def rE(N:Nat)(s:(List bB)):Option (List bB):=(cZ 32 ([]:(List bB)) s).bind λa=>some a
def zU(N:Nat)(s:(List (List aC))):Option (List (List aC)):=(cZ 24 ([]:(List (List aC))) s).bind λa=>some a
def By(N:Nat)(s:(List Int)):Option (List Int):=(cZ 8 ([]:(List Int)) s).bind λa=>some a
def E7(N:Nat)(s:(List Step)):Option (List Step):= some s
def El(N:Nat)(s:(List dW)):Option (List dW):= some s
def yL(N:Nat)(f:(bB->Option Bool))(s:(List bB)):Int->Option (aJ Int (Sum Unit Int))
 |a=>(if(a:Int)<(List.length s:Int)then (idx s a).bind λb=>(f b).bind λc=>(if c=true then some (aJ.done (Sum.inr a)) else some (aJ.next (iw (a+1)))) else some (aJ.done (Sum.inl ())))
def uL(N:Nat)(s:(List bB))(f:(bB->Option Bool)):Option Int:=(bS (yL N f s) N 0).bind λss=>match ss with
  |(Sum.inl _)=>some (-1)
  |(Sum.inr a)=>some a
def AL(N:Nat)(s:(List bB))(f:(bB->Option Bool)):Option Bool:=(uL N s f).bind λr1=>some (decide ((r1:Int)≥0))
def xf(N:Nat)(eq:(aC->aC->Option Bool))(pb:(List aC))(s:(List aC)):Int->Option (aJ Int (Sum Unit Bool))
 |a=>(if(a:Int)<(List.length s:Int)then (idx s a).bind λb=>(idx pb a).bind λc=>(eq b c).bind λd=>(if(!d)=true then some (aJ.done (Sum.inr false)) else some (aJ.next (iw (a+1)))) else some (aJ.done (Sum.inl ())))
def w8(N:Nat)(s:(List aC))(pb:(List aC))(eq:(aC->aC->Option Bool)):Option Bool:=(if((List.length s:Int):Int)≠(List.length pb:Int)then some false else (bS (xf N eq pb s) N 0).bind λss=>match ss with
   |(Sum.inl _)=>some true
   |(Sum.inr a)=>some a)
def Fo(N:Nat)(del:(bB->Option Bool)):((List bB)×Int×Int)->Option (aJ ((List bB)×Int×Int) ((List bB)×Int))
 |(a,b,c)=>(if(c:Int)<(List.length a:Int)then ((((idx a c).bind λd=>(del d).bind λe=>(if(!e)=true then (idx a b).bind λj=>(dM a b d).bind λf=>some (f,(iw (b+1))) else some (a,b))):Option ((List bB)×Int))).bind λss=>match ss with
    |(g,i)=>some (aJ.next (g,i,(iw (c+1)))) else some (aJ.done (a,b)))
def xC(N:Nat)(s:(List bB))(del:(bB->Option Bool)):Option (List bB):=(uL N s del).bind λr1=>(if(r1:Int)=(-1)then some s else (bS (Fo N del) N (s,r1,(iw (r1+1)))).bind λss=>match ss with
   |(a,b)=>(ov a b (List.length a:Int)).bind λ_=>(cut (qO a b (List.length a:Int) (bB.mk 0 ([]:(List aC)))) 0 b).bind λc=>some c)
def BM(N:Nat)(n:Int):Option (List bB):=(if(n:Int)<0 then none else ((((if((iw (n-(iw (0-0)))):Int)>0 then (cZ 32 [] (List.replicate (Int.toNat (iw (n-(iw (0-0))))) ((bB.mk 0 ([]:(List aC))):bB))).bind λa=>(cut a 0 0).bind λb=>some b else some ([]:(List bB)))):Option (List bB))).bind λss=>match ss with
   |s8=>some s8)
def yZ(N:Nat)(slices:(List (List bB))):(Int×Int)->Option (aJ (Int×Int) Int)
 |(a,b)=>(if(b:Int)<(List.length slices:Int)then (idx slices b).bind λc=>(if((iw (a+(List.length c:Int))):Int)<0 then none else some (aJ.next ((iw (a+(List.length c:Int))),(iw (b+1))))) else some (aJ.done a))
def yH(N:Nat)(slices:(List (List bB))):((List bB)×Int)->Option (aJ ((List bB)×Int) (List bB))
 |(b,a)=>(if(a:Int)<(List.length slices:Int)then (idx slices a).bind λc=>(cZ 32 b c).bind λd=>some (aJ.next (d,(iw (a+1)))) else some (aJ.done b))
def vz(N:Nat)(slices:(List (List bB))):Option (List bB):=(bS (yZ N slices) N (0,0)).bind λss=>match ss with
  |a=>(BM N a).bind λb=>(bS (yH N slices) N (b,0)).bind λss=>match ss with
    |c=>some c
end Go.D

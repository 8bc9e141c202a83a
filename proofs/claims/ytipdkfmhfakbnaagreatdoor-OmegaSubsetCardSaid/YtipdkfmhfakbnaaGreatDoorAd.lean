/- Plain theorems and definitions of this seat, several texts in one. -/
import Derived.Test.YtipdkfmhfakbnaaGreatDoorAa
import Derived.Lib.Repeat
import Derived.Lib.Join
import Derived.Lib.Strings
import Derived.Lib.ItoaNum
import Derived.Test.YtipdkfmhfakbnaaGreatDoorProg
import Derived.Test.YtipdkfmhfakbnaaGreatDoorAc
import Derived.Lib.AppendIntMem
set_option linter.unusedVariables false
set_option linter.unusedSimpArgs false
set_option linter.unusedSectionVars false
namespace Go.D
open Go Go.X
structure aB where
 bF:Bool
 aP:(List Int)
 deriving DecidableEq
def aA:bP aB:=⟨2,fun H vs x=>∃v0,vs=[Value.bool x.bF,v0]/\Rs (aD .u32) H v0 x.aP/\True,
 fun H H' vs x hle h=>by obtain⟨v0,h0,k0,-⟩:=h;exact⟨v0,h0,k0.mono hle,trivial⟩,
 fun H vs x h=>by obtain⟨v0,h0,k0,-⟩:=h;rw[h0];rfl,
 fun H vs x h=>by obtain⟨v0,h0,k0,-⟩:=h;rw[h0];exact(dD rfl (dD k0.one kE))⟩
theorem PX{H:Hp}{vs:List Value}{x:aB}(h:aA.R H vs x):∃v0,vs=[Value.bool x.bF,v0]/\Rs (aD .u32) H v0 x.aP/\True:=h
theorem Sz{H:Hp}{vs:List Value}{x:aB}(h:∃v0,vs=[Value.bool x.bF,v0]/\Rs (aD .u32) H v0 x.aP/\True):aA.R H vs x:=h
structure jK where
 Var:Int
 N:Int
 deriving DecidableEq
def iv:bP jK:=⟨2,fun H vs x=>vs=[Value.int .i64 x.Var,Value.int .i64 x.N]/\True,
 fun H H' vs x hle h=>by obtain⟨h0,-⟩:=h;exact⟨h0,trivial⟩,
 fun H vs x h=>by obtain⟨h0,-⟩:=h;rw[h0];rfl,
 fun H vs x h=>by obtain⟨h0,-⟩:=h;rw[h0];exact(dD rfl (dD rfl kE))⟩
theorem RO{H:Hp}{vs:List Value}{x:jK}(h:iv.R H vs x):vs=[Value.int .i64 x.Var,Value.int .i64 x.N]/\True:=h
theorem Ny{H:Hp}{vs:List Value}{x:jK}(h:vs=[Value.int .i64 x.Var,Value.int .i64 x.N]/\True):iv.R H vs x:=h
structure Linear where
 Const:Int
 aZ:(List jK)
 deriving DecidableEq
def n5:bP Linear:=⟨2,fun H vs x=>∃v0,vs=[Value.int .i64 x.Const,v0]/\Rs iv H v0 x.aZ/\True,
 fun H H' vs x hle h=>by obtain⟨v0,h0,k0,-⟩:=h;exact⟨v0,h0,k0.mono hle,trivial⟩,
 fun H vs x h=>by obtain⟨v0,h0,k0,-⟩:=h;rw[h0];rfl,
 fun H vs x h=>by obtain⟨v0,h0,k0,-⟩:=h;rw[h0];exact(dD rfl (dD k0.one kE))⟩
theorem Od{H:Hp}{vs:List Value}{x:Linear}(h:n5.R H vs x):∃v0,vs=[Value.int .i64 x.Const,v0]/\Rs iv H v0 x.aZ/\True:=h
theorem Oy{H:Hp}{vs:List Value}{x:Linear}(h:∃v0,vs=[Value.int .i64 x.Const,v0]/\Rs iv H v0 x.aZ/\True):n5.R H vs x:=h
structure Constraint where
 Linear:Linear
 iI:Bool
 deriving DecidableEq
def dG:bP Constraint:=⟨3,fun H vs x=>∃v0,vs=[Value.int .i64 x.Linear.Const,v0,Value.bool x.iI]/\Rs iv H v0 x.Linear.aZ/\True,
 fun H H' vs x hle h=>by obtain⟨v0,h0,k0,-⟩:=h;exact⟨v0,h0,k0.mono hle,trivial⟩,
 fun H vs x h=>by obtain⟨v0,h0,k0,-⟩:=h;rw[h0];rfl,
 fun H vs x h=>by obtain⟨v0,h0,k0,-⟩:=h;rw[h0];exact(dD rfl (dD k0.one (dD rfl kE)))⟩
theorem NS{H:Hp}{vs:List Value}{x:Constraint}(h:dG.R H vs x):∃v0,vs=[Value.int .i64 x.Linear.Const,v0,Value.bool x.iI]/\Rs iv H v0 x.Linear.aZ/\True:=h
theorem Ox{H:Hp}{vs:List Value}{x:Constraint}(h:∃v0,vs=[Value.int .i64 x.Linear.Const,v0,Value.bool x.iI]/\Rs iv H v0 x.Linear.aZ/\True):dG.R H vs x:=h
structure bB where
 aZ:(List aB)
 dz:aB
 deriving DecidableEq
def aE:bP bB:=⟨3,fun H vs x=>∃v0 v1,vs=[v0,Value.bool x.dz.bF,v1]/\Rs aA H v0 x.aZ/\Rs (aD .u32) H v1 x.dz.aP/\True,
 fun H H' vs x hle h=>by obtain⟨v0,v1,h0,k0,k1,-⟩:=h;exact⟨v0,v1,h0,k0.mono hle,k1.mono hle,trivial⟩,
 fun H vs x h=>by obtain⟨v0,v1,h0,k0,k1,-⟩:=h;rw[h0];rfl,
 fun H vs x h=>by obtain⟨v0,v1,h0,k0,k1,-⟩:=h;rw[h0];exact(dD k0.one (dD rfl (dD k1.one kE)))⟩
theorem NF{H:Hp}{vs:List Value}{x:bB}(h:aE.R H vs x):∃v0 v1,vs=[v0,Value.bool x.dz.bF,v1]/\Rs aA H v0 x.aZ/\Rs (aD .u32) H v1 x.dz.aP/\True:=h
theorem Nw{H:Hp}{vs:List Value}{x:bB}(h:∃v0 v1,vs=[v0,Value.bool x.dz.bF,v1]/\Rs aA H v0 x.aZ/\Rs (aD .u32) H v1 x.dz.aP/\True):aE.R H vs x:=h
structure dQ where
 Index:Int
 N:aB
 deriving DecidableEq
def eD:bP dQ:=⟨3,fun H vs x=>∃v0,vs=[Value.int .i64 x.Index,Value.bool x.N.bF,v0]/\Rs (aD .u32) H v0 x.N.aP/\True,
 fun H H' vs x hle h=>by obtain⟨v0,h0,k0,-⟩:=h;exact⟨v0,h0,k0.mono hle,trivial⟩,
 fun H vs x h=>by obtain⟨v0,h0,k0,-⟩:=h;rw[h0];rfl,
 fun H vs x h=>by obtain⟨v0,h0,k0,-⟩:=h;rw[h0];exact(dD rfl (dD rfl (dD k0.one kE)))⟩
theorem OS{H:Hp}{vs:List Value}{x:dQ}(h:eD.R H vs x):∃v0,vs=[Value.int .i64 x.Index,Value.bool x.N.bF,v0]/\Rs (aD .u32) H v0 x.N.aP/\True:=h
theorem Nl{H:Hp}{vs:List Value}{x:dQ}(h:∃v0,vs=[Value.int .i64 x.Index,Value.bool x.N.bF,v0]/\Rs (aD .u32) H v0 x.N.aP/\True):eD.R H vs x:=h
structure Step where
 Uses:(List dQ)
 fY:aB
 deriving DecidableEq
def aJ:bP Step:=⟨3,fun H vs x=>∃v0 v1,vs=[v0,Value.bool x.fY.bF,v1]/\Rs eD H v0 x.Uses/\Rs (aD .u32) H v1 x.fY.aP/\True,
 fun H H' vs x hle h=>by obtain⟨v0,v1,h0,k0,k1,-⟩:=h;exact⟨v0,v1,h0,k0.mono hle,k1.mono hle,trivial⟩,
 fun H vs x h=>by obtain⟨v0,v1,h0,k0,k1,-⟩:=h;rw[h0];rfl,
 fun H vs x h=>by obtain⟨v0,v1,h0,k0,k1,-⟩:=h;rw[h0];exact(dD k0.one (dD rfl (dD k1.one kE)))⟩
theorem Tz{H:Hp}{vs:List Value}{x:Step}(h:aJ.R H vs x):∃v0 v1,vs=[v0,Value.bool x.fY.bF,v1]/\Rs eD H v0 x.Uses/\Rs (aD .u32) H v1 x.fY.aP/\True:=h
theorem Np{H:Hp}{vs:List Value}{x:Step}(h:∃v0 v1,vs=[v0,Value.bool x.fY.bF,v1]/\Rs eD H v0 x.Uses/\Rs (aD .u32) H v1 x.fY.aP/\True):aJ.R H vs x:=h
structure Proof where
 Steps:(List Step)
 Form:(List aB)
 dz:aB
 lO:(List Proof)
def pW:Nat->Hp->List Value->Proof->Prop
 |0,_,_,_=>False
 |n+1,H,vs,x=>∃v0 v1 v2 v3,vs=[v0,v1,Value.bool x.dz.bF,v2,v3]/\Rs aJ H v0 x.Steps/\Rs aA H v1 x.Form/\Rs (aD .u32) H v2 x.dz.aP/\Sl 5 (pW n) H v3 x.lO/\True
theorem Lg:∀(n:Nat) {H H':Hp} {vs:List Value} {x:Proof},Le H H'->pW n H vs x->pW n H' vs x
 |0,_,_,_,_,_,h=>h.elim
 |n+1,_,_,_,_,hle,h=>by obtain⟨v0,v1,v2,v3,h0,k0,k1,k2,k3,-⟩:=h;exact⟨v0,v1,v2,v3,h0,k0.mono hle,k1.mono hle,k2.mono hle,Sl.mono (R:=pW n) (fun _ _ _ _ a b=>Lg n a b) hle k3,trivial⟩
theorem KJ:∀{n m:Nat} {H:Hp} {vs:List Value} {x:Proof},n<=m->pW n H vs x->pW m H vs x
 |0,_,_,_,_,_,h=>h.elim
 |n+1,0,_,_,_,hm,_=>by omega
 |n+1,m+1,_,_,_,hm,h=>by have hm:n<=m:=(by omega);obtain⟨v0,v1,v2,v3,h0,k0,k1,k2,k3,-⟩:=h;exact⟨v0,v1,v2,v3,h0,k0,k1,k2,Ki (fun _ _=>KJ hm) k3,trivial⟩
def iX:bP Proof:=⟨5,fun H vs x=>∃n,pW n H vs x,fun _ _ _ _ hle ⟨n,h⟩=>⟨n,Lg n hle h⟩,
 fun H vs x h=>by obtain⟨n,h⟩:=h;cases n with|zero=>exact h.elim|succ n=>obtain⟨v0,v1,v2,v3,h0,k0,k1,k2,k3,-⟩:=h;rw[h0];rfl,
 fun H vs x h=>by obtain⟨n,h⟩:=h;cases n with|zero=>exact h.elim|succ n=>obtain⟨v0,v1,v2,v3,h0,k0,k1,k2,k3,-⟩:=h;rw[h0];exact(dD k0.one (dD k1.one (dD rfl (dD k2.one (dD (Sl.one k3) kE)))))⟩
theorem S6{H:Hp}{vs:List Value}{x:Proof}(h:iX.R H vs x):∃v0 v1 v2 v3,vs=[v0,v1,Value.bool x.dz.bF,v2,v3]/\Rs aJ H v0 x.Steps/\Rs aA H v1 x.Form/\Rs (aD .u32) H v2 x.dz.aP/\Rs iX H v3 x.lO/\True:=by
 obtain⟨n,h⟩:=h;cases n with|zero=>exact h.elim|succ n=>obtain⟨v0,v1,v2,v3,h0,k0,k1,k2,k3,-⟩:=h;exact⟨v0,v1,v2,v3,h0,k0,k1,k2,Ki (fun _ _ h=>⟨n,h⟩) k3,trivial⟩
theorem Tj{H:Hp}{vs:List Value}{x:Proof}(h:∃v0 v1 v2 v3,vs=[v0,v1,Value.bool x.dz.bF,v2,v3]/\Rs aJ H v0 x.Steps/\Rs aA H v1 x.Form/\Rs (aD .u32) H v2 x.dz.aP/\Rs iX H v3 x.lO/\True):iX.R H vs x:=by
 obtain⟨v0,v1,v2,v3,h0,k0,k1,k2,k3,-⟩:=h;obtain⟨n,hn⟩:=Sd (Rn:=pW) (fun _ _ _ _ hm h=>KJ hm h) k3;exact⟨n+1,v0,v1,v2,v3,h0,k0,k1,k2,hn,trivial⟩
structure aX where
 pos:Int
 g:(List aB)
 deriving DecidableEq
def aH:bP aX:=⟨2,fun H vs x=>∃v0,vs=[Value.int .i64 x.pos,v0]/\Rs aA H v0 x.g/\True,
 fun H H' vs x hle h=>by obtain⟨v0,h0,k0,-⟩:=h;exact⟨v0,h0,k0.mono hle,trivial⟩,
 fun H vs x h=>by obtain⟨v0,h0,k0,-⟩:=h;rw[h0];rfl,
 fun H vs x h=>by obtain⟨v0,h0,k0,-⟩:=h;rw[h0];exact(dD rfl (dD k0.one kE))⟩
theorem Nb{H:Hp}{vs:List Value}{x:aX}(h:aH.R H vs x):∃v0,vs=[Value.int .i64 x.pos,v0]/\Rs aA H v0 x.g/\True:=h
theorem Se{H:Hp}{vs:List Value}{x:aX}(h:∃v0,vs=[Value.int .i64 x.pos,v0]/\Rs aA H v0 x.g/\True):aH.R H vs x:=h
structure dI where
 v:Int
 items:(List Int)
 dw:Bool
 deriving DecidableEq
def aL:bP dI:=⟨3,fun H vs x=>∃v0,vs=[Value.int .i64 x.v,v0,Value.bool x.dw]/\Rs (aD .i64) H v0 x.items/\True,
 fun H H' vs x hle h=>by obtain⟨v0,h0,k0,-⟩:=h;exact⟨v0,h0,k0.mono hle,trivial⟩,
 fun H vs x h=>by obtain⟨v0,h0,k0,-⟩:=h;rw[h0];rfl,
 fun H vs x h=>by obtain⟨v0,h0,k0,-⟩:=h;rw[h0];exact(dD rfl (dD k0.one (dD rfl kE)))⟩
theorem RT{H:Hp}{vs:List Value}{x:dI}(h:aL.R H vs x):∃v0,vs=[Value.int .i64 x.v,v0,Value.bool x.dw]/\Rs (aD .i64) H v0 x.items/\True:=h
theorem Qn{H:Hp}{vs:List Value}{x:dI}(h:∃v0,vs=[Value.int .i64 x.v,v0,Value.bool x.dw]/\Rs (aD .i64) H v0 x.items/\True):aL.R H vs x:=h
structure aR where
 n:Int
 known:(List bB)
 steps:(List Step)
 u:(List (List aB))
 status:(List Int)
 value:(List aB)
 items:(List aX)
 stack:(List dI)
 deriving DecidableEq
def DQ:bP aR:=⟨8,fun H vs x=>∃v0 v1 v2 v3 v4 v5 v6,vs=[Value.int .i64 x.n,v0,v1,v2,v3,v4,v5,v6]/\Rs aE H v0 x.known/\Rs aJ H v1 x.steps/\Rs (aT aA) H v2 x.u/\Rs (aD .i64) H v3 x.status/\Rs aA H v4 x.value/\Rs aH H v5 x.items/\Rs aL H v6 x.stack/\True,
 fun H H' vs x hle h=>by obtain⟨v0,v1,v2,v3,v4,v5,v6,h0,k0,k1,k2,k3,k4,k5,k6,-⟩:=h;exact⟨v0,v1,v2,v3,v4,v5,v6,h0,k0.mono hle,k1.mono hle,k2.mono hle,k3.mono hle,k4.mono hle,k5.mono hle,k6.mono hle,trivial⟩,
 fun H vs x h=>by obtain⟨v0,v1,v2,v3,v4,v5,v6,h0,k0,k1,k2,k3,k4,k5,k6,-⟩:=h;rw[h0];rfl,
 fun H vs x h=>by obtain⟨v0,v1,v2,v3,v4,v5,v6,h0,k0,k1,k2,k3,k4,k5,k6,-⟩:=h;rw[h0];exact(dD rfl (dD k0.one (dD k1.one (dD k2.one (dD k3.one (dD k4.one (dD k5.one (dD k6.one kE))))))))⟩
theorem Nz{H:Hp}{vs:List Value}{x:aR}(h:DQ.R H vs x):∃v0 v1 v2 v3 v4 v5 v6,vs=[Value.int .i64 x.n,v0,v1,v2,v3,v4,v5,v6]/\Rs aE H v0 x.known/\Rs aJ H v1 x.steps/\Rs (aT aA) H v2 x.u/\Rs (aD .i64) H v3 x.status/\Rs aA H v4 x.value/\Rs aH H v5 x.items/\Rs aL H v6 x.stack/\True:=h
theorem Pr{H:Hp}{vs:List Value}{x:aR}(h:∃v0 v1 v2 v3 v4 v5 v6,vs=[Value.int .i64 x.n,v0,v1,v2,v3,v4,v5,v6]/\Rs aE H v0 x.known/\Rs aJ H v1 x.steps/\Rs (aT aA) H v2 x.u/\Rs (aD .i64) H v3 x.status/\Rs aA H v4 x.value/\Rs aH H v5 x.items/\Rs aL H v6 x.stack/\True):DQ.R H vs x:=h
structure bX where
 kind:Int
 x:(List aB)
 proof:Proof
 v:Int
def fu:bP bX:=⟨8,fun H vs x=>∃v0 v1 v2 v3 v4,vs=[Value.int .i64 x.kind,v0,v1,v2,Value.bool x.proof.dz.bF,v3,v4,Value.int .i64 x.v]/\Rs aA H v0 x.x/\Rs aJ H v1 x.proof.Steps/\Rs aA H v2 x.proof.Form/\Rs (aD .u32) H v3 x.proof.dz.aP/\Rs iX H v4 x.proof.lO/\True,
 fun H H' vs x hle h=>by obtain⟨v0,v1,v2,v3,v4,h0,k0,k1,k2,k3,k4,-⟩:=h;exact⟨v0,v1,v2,v3,v4,h0,k0.mono hle,k1.mono hle,k2.mono hle,k3.mono hle,k4.mono hle,trivial⟩,
 fun H vs x h=>by obtain⟨v0,v1,v2,v3,v4,h0,k0,k1,k2,k3,k4,-⟩:=h;rw[h0];rfl,
 fun H vs x h=>by obtain⟨v0,v1,v2,v3,v4,h0,k0,k1,k2,k3,k4,-⟩:=h;rw[h0];exact(dD rfl (dD k0.one (dD k1.one (dD k2.one (dD rfl (dD k3.one (dD k4.one (dD rfl kE))))))))⟩
theorem OU{H:Hp}{vs:List Value}{x:bX}(h:fu.R H vs x):∃v0 v1 v2 v3 v4,vs=[Value.int .i64 x.kind,v0,v1,v2,Value.bool x.proof.dz.bF,v3,v4,Value.int .i64 x.v]/\Rs aA H v0 x.x/\Rs aJ H v1 x.proof.Steps/\Rs aA H v2 x.proof.Form/\Rs (aD .u32) H v3 x.proof.dz.aP/\Rs iX H v4 x.proof.lO/\True:=h
theorem NL{H:Hp}{vs:List Value}{x:bX}(h:∃v0 v1 v2 v3 v4,vs=[Value.int .i64 x.kind,v0,v1,v2,Value.bool x.proof.dz.bF,v3,v4,Value.int .i64 x.v]/\Rs aA H v0 x.x/\Rs aJ H v1 x.proof.Steps/\Rs aA H v2 x.proof.Form/\Rs (aD .u32) H v3 x.proof.dz.aP/\Rs iX H v4 x.proof.lO/\True):fu.R H vs x:=h
structure gH where
 up:aX
 low:aB
 high:aB
 deriving DecidableEq
def jq:bP gH:=⟨6,fun H vs x=>∃v0 v1 v2,vs=[Value.int .i64 x.up.pos,v0,Value.bool x.low.bF,v1,Value.bool x.high.bF,v2]/\Rs aA H v0 x.up.g/\Rs (aD .u32) H v1 x.low.aP/\Rs (aD .u32) H v2 x.high.aP/\True,
 fun H H' vs x hle h=>by obtain⟨v0,v1,v2,h0,k0,k1,k2,-⟩:=h;exact⟨v0,v1,v2,h0,k0.mono hle,k1.mono hle,k2.mono hle,trivial⟩,
 fun H vs x h=>by obtain⟨v0,v1,v2,h0,k0,k1,k2,-⟩:=h;rw[h0];rfl,
 fun H vs x h=>by obtain⟨v0,v1,v2,h0,k0,k1,k2,-⟩:=h;rw[h0];exact(dD rfl (dD k0.one (dD rfl (dD k1.one (dD rfl (dD k2.one kE))))))⟩
theorem Rz{H:Hp}{vs:List Value}{x:gH}(h:jq.R H vs x):∃v0 v1 v2,vs=[Value.int .i64 x.up.pos,v0,Value.bool x.low.bF,v1,Value.bool x.high.bF,v2]/\Rs aA H v0 x.up.g/\Rs (aD .u32) H v1 x.low.aP/\Rs (aD .u32) H v2 x.high.aP/\True:=h
theorem QW{H:Hp}{vs:List Value}{x:gH}(h:∃v0 v1 v2,vs=[Value.int .i64 x.up.pos,v0,Value.bool x.low.bF,v1,Value.bool x.high.bF,v2]/\Rs aA H v0 x.up.g/\Rs (aD .u32) H v1 x.low.aP/\Rs (aD .u32) H v2 x.high.aP/\True):jq.R H vs x:=h
def vO(N:Nat)(i b:Int):Option (List UInt8):=if 0<=i/\i<18446744073709551616/\b=10 then some (Go.Lib.decDigits i.toNat)else none
def xH(N:Nat)(s:List UInt8)(c:Int):Option (List UInt8):=if 0<=c/\c<=9223372036854775807/\(s.length:Int)*c<=140737488355328 then some (Go.Lib.repeatL s c.toNat)else none
def qD(N:Nat)(xs:List (List UInt8))(s:List UInt8):Option (List UInt8):=if xs.length<=140737488355328/\(Go.Lib.join xs s).length<=140737488355328 then some (Go.Lib.join xs s)else none
def xL(N:Nat)(xs:List (List UInt8)):Option (List (List UInt8)):=if xs.length<=9223372036854775807 then some xs.reverse else none
theorem Q5{xs Y:List (List UInt8)}{N:Nat}(h:xL N xs=some Y):xs.length<=9223372036854775807/\Y=xs.reverse:=by
 unfold xL at h;split at h
 . exact⟨by assumption,(iN h).symm⟩
 . cases h
open Go Go.X
def xC(N:Nat)(s:(List Int)):Option (List Int):=(cP 4 ([]:(List Int)) s).bind fun a=>some a
def digit(N:Nat)(d:(List Int))(i:Int):Option Int:=(if(i:Int)<(List.length d:Int)then (idx d i).bind fun x2=>some (uw x2) else some 0)
def Ap(N:Nat)(n:Int):Option Int:= some (wo (imax n (-1)) 1)
def Fu(N:Nat)(d:(List Int)):Int->Option (aK Int Int)
 |a=>(((if(a:Int)>0 then (idx d (iw (a-1))).bind fun b=>some (decide ((b:Int)=0)) else some false):Option Bool)).bind fun ss=>match ss with
   |c=>(if c=true then some (aK.next (iw (a-1))) else some (aK.done a))
def lg(N:Nat)(d:(List Int)):Option (List Int):=(bK (Fu N d) N (List.length d:Int)).bind fun ss=>match ss with
  |a=>(cut d 0 a).bind fun b=>(xC N b).bind fun c=>some c
def jG(N:Nat)(negative:Bool)(d:(List Int)):Option aB:=(lg N d).bind fun r6=>(if((List.length r6:Int):Int)=0 then some (aB.mk false []) else some (aB.mk negative r6))
def D8(N:Nat)(a:(List Int))(b:(List Int)):Int->Option (aK Int (Sum Unit Int))
 |c=>(if(c:Int)≥0 then (idx a c).bind fun d=>(idx b c).bind fun e=>(if(d:Int)<e then some (aK.done (Sum.inr (-1))) else (idx a c).bind fun f=>(idx b c).bind fun g=>(if(f:Int)>g then some (aK.done (Sum.inr 1)) else some (aK.next (iw (c-1))))) else some (aK.done (Sum.inl ())))
def qH(N:Nat)(a:(List Int))(b:(List Int)):Option Int:=(if((List.length a:Int):Int)≠(List.length b:Int)then (Ap N (iw ((List.length a:Int)-(List.length b:Int)))).bind fun r2=>some r2 else (bK (D8 N a b) N (iw ((List.length a:Int)-1))).bind fun ss=>match ss with
   |(Sum.inl _)=>some 0
   |(Sum.inr c)=>some c)
def DI(N:Nat)(a:(List Int))(b:(List Int))(x2:(List Int)):((List Int)×Int×Int)->Option (aK ((List Int)×Int×Int) (List Int))
 |(d,e,c)=>(if(c:Int)<(List.length x2:Int)then (digit N a c).bind fun f=>(digit N b c).bind fun g=>(idx d c).bind fun j=>(di d c (dU (uw (e+(uw (f+g)))))).bind fun i=>some (aK.next (i,(fp .u64 (uw (e+(uw (f+g)))) 32),(iw (c+1)))) else some (aK.done d))
def uz(N:Nat)(a:(List Int))(b:(List Int)):Option (List Int):=(fX (α:=Int) 4 0 (iw ((imax (List.length a:Int) (List.length b:Int))+1))).bind fun x2=>(bK (DI N a b x2) N (x2,0,0)).bind fun ss=>match ss with
  |c=>some c
def C8(N:Nat)(a:(List Int))(b:(List Int)):((List Int)×Int×Int)->Option (aK ((List Int)×Int×Int) (List Int))
 |(d,e,c)=>(if(c:Int)<(List.length a:Int)then (idx a c).bind fun f=>(digit N b c).bind fun g=>(idx d c).bind fun j=>(di d c (dU (uw ((uw ((uw f)-g))-e)))).bind fun i=>some (aK.next (i,(fp .u64 (uw ((uw ((uw f)-g))-e)) 63),(iw (c+1)))) else some (aK.done d))
def rS(N:Nat)(a:(List Int))(b:(List Int)):Option (List Int):=(fX (α:=Int) 4 0 (List.length a:Int)).bind fun x2=>(bK (C8 N a b) N (x2,0,0)).bind fun ss=>match ss with
  |c=>some c
def CV(N:Nat)(b:(List Int))(d:Int)(f:Int):((List Int)×Int×Int)->Option (aK ((List Int)×Int×Int) ((List Int)×Int))
 |(c,e,a)=>(if(a:Int)<(List.length b:Int)then (idx b a).bind fun g=>(idx c (iw (d+a))).bind fun i=>(idx c (iw (d+a))).bind fun k=>(di c (iw (d+a)) (dU (uw (e+(uw ((uw ((uw f)*(uw g)))+(uw i))))))).bind fun j=>some (aK.next (j,(fp .u64 (uw (e+(uw ((uw ((uw f)*(uw g)))+(uw i))))) 32),(iw (a+1)))) else some (aK.done (c,e)))
def E4(N:Nat)(a:(List Int))(b:(List Int)):((List Int)×Int)->Option (aK ((List Int)×Int) (List Int))
 |(d,c)=>(if(c:Int)<(List.length a:Int)then (idx a c).bind fun f=>(bK (CV N b c f) N (d,0,0)).bind fun ss=>match ss with
    |(e,g)=>(idx e (iw (c+(List.length b:Int)))).bind fun j=>(di e (iw (c+(List.length b:Int))) (dU g)).bind fun i=>some (aK.next (i,(iw (c+1)))) else some (aK.done d))
def wD(N:Nat)(a:(List Int))(b:(List Int)):Option (List Int):=(fX (α:=Int) 4 0 (iw ((List.length a:Int)+(List.length b:Int)))).bind fun x2=>(bK (E4 N a b) N (x2,0)).bind fun ss=>match ss with
  |c=>some c
def Ea(N:Nat)(a:(List Int))(pb:Int):((List Int)×Int×Int)->Option (aK ((List Int)×Int×Int) ((List Int)×Int))
 |(d,c,b)=>(if(b:Int)≥0 then (idx a b).bind fun e=>(sdiv .u64 (jC .u64 (iZ .u64 c 32) (uw e)) (uw pb)).bind fun f=>(idx d b).bind fun i=>(di d b (dU f)).bind fun g=>(srem (jC .u64 (iZ .u64 c 32) (uw e)) (uw pb)).bind fun j=>some (aK.next (g,(Int.tmod (jC .u64 (iZ .u64 c 32) (uw e)) (uw pb)),(iw (b-1)))) else some (aK.done (d,c)))
def uj(N:Nat)(a:(List Int))(pb:Int):Option ((List Int)×Int):=(fX (α:=Int) 4 0 (List.length a:Int)).bind fun x2=>(bK (Ea N a pb) N (x2,0,(iw ((List.length a:Int)-1)))).bind fun ss=>match ss with
  |(b,c)=>some (b,(dU c))
def Dv(N:Nat)(a:(List Int))(n:Int):((List Int)×Int)->Option (aK ((List Int)×Int) (List Int))
 |(c,b)=>(if(b:Int)<(List.length a:Int)then (idx a b).bind fun d=>(lq (¬(n:Int)<0)).bind fun _=>(idx c b).bind fun f=>(idx c b).bind fun i=>(di c b (jC .u32 f (dU (iZ .u64 (uw d) n)))).bind fun e=>(idx e (iw (b+1))).bind fun j=>(di e (iw (b+1)) (dU (fp .u64 (iZ .u64 (uw d) n) 32))).bind fun g=>some (aK.next (g,(iw (b+1)))) else some (aK.done c))
def uQ(N:Nat)(a:(List Int))(n:Int):Option (List Int):=(fX (α:=Int) 4 0 (iw ((List.length a:Int)+1))).bind fun x2=>(bK (Dv N a n) N (x2,0)).bind fun ss=>match ss with
  |b=>some b
open Go Go.X
def Df(N:Nat):(List Int)->Option (aK (List Int) (List Int))
 |a=>(((if((List.length a:Int):Int)>0 then (idx a (iw ((List.length a:Int)-1))).bind fun b=>some (decide ((b:Int)=0)) else some false):Option Bool)).bind fun ss=>match ss with
   |c=>(if c=true then (cut a 0 (iw ((List.length a:Int)-1))).bind fun d=>some (aK.next d) else some (aK.done a))
def nr(N:Nat)(l:(List Int)):Option (List Int):=(bK (Df N) N l).bind fun ss=>match ss with
  |a=>some a
def De(N:Nat)(x:aB):((List Int)×Int)->Option (aK ((List Int)×Int) (List Int))
 |(b,a)=>(if(a:Int)<(List.length x.aP:Int)then (idx x.aP a).bind fun c=>(idx x.aP a).bind fun d=>(cP 8 b [(iw (Int.tmod c 65536)),(iw (dU (Int.tdiv d 65536)))]).bind fun e=>some (aK.next (e,(iw (a+1)))) else some (aK.done b))
def kS(N:Nat)(x:aB):Option (List Int):=(bK (De N x) N (([]:(List Int)),0)).bind fun ss=>match ss with
  |a=>(nr N a).bind fun b=>some b
def Ct(N:Nat)(r6:(List Int)):((List Int)×Int)->Option (aK ((List Int)×Int) (List Int))
 |(b,a)=>(if(a:Int)<(List.length r6:Int)then (idx r6 a).bind fun c=>(((if((iw (a+1)):Int)<(List.length r6:Int)then (idx r6 (iw (a+1))).bind fun d=>some (dU ((dU c)+(dU (65536*(dU d))))) else some (dU c)):Option Int)).bind fun ss=>match ss with
    |e=>(cP 4 b [e]).bind fun f=>some (aK.next (f,(iw (a+2)))) else some (aK.done b))
def kQ(N:Nat)(negative:Bool)(l:(List Int)):Option aB:=(nr N l).bind fun r6=>(((if negative=true then some (decide (((List.length r6:Int):Int)>0)) else some false):Option Bool)).bind fun ss=>match ss with
  |a=>(bK (Ct N r6) N (([]:(List Int)),0)).bind fun ss=>match ss with
    |b=>some (aB.mk a b)
def yc(N:Nat)(x:aB):Option aB:=(kS N x).bind fun a=>(kQ N x.bF a).bind fun b=>some b
def DG(N:Nat)(a:(List Int))(b:(List Int)):Int->Option (aK Int (Sum Unit Int))
 |c=>(if(c:Int)≥0 then (idx a c).bind fun d=>(idx b c).bind fun e=>(if(d:Int)<e then some (aK.done (Sum.inr (-1))) else (idx a c).bind fun f=>(idx b c).bind fun g=>(if(f:Int)>g then some (aK.done (Sum.inr 1)) else some (aK.next (iw (c-1))))) else some (aK.done (Sum.inl ())))
def uR(N:Nat)(a:(List Int))(b:(List Int)):Option Int:=(if((List.length a:Int):Int)≠(List.length b:Int)then (if((List.length a:Int):Int)<(List.length b:Int)then some (-1) else some 1) else (bK (DG N a b) N (iw ((List.length a:Int)-1))).bind fun ss=>match ss with
   |(Sum.inl _)=>some 0
   |(Sum.inr c)=>some c)
def CM(N:Nat)(a:(List Int))(b:(List Int)):((List Int)×Int×Int)->Option (aK ((List Int)×Int×Int) (List Int))
 |(e,d,c)=>(((if(c:Int)<(List.length a:Int)then some true else (if(c:Int)<(List.length b:Int)then some true else some (decide ((d:Int)>0)))):Option Bool)).bind fun ss=>match ss with
   |i=>(if i=true then (((if(c:Int)<(List.length a:Int)then (idx a c).bind fun j=>some (iw (d+j)) else some d):Option Int)).bind fun ss=>match ss with
      |f=>(((if(c:Int)<(List.length b:Int)then (idx b c).bind fun k=>some (iw (f+k)) else some f):Option Int)).bind fun ss=>match ss with
        |g=>(cP 8 e [(Int.tmod g 65536)]).bind fun l=>some (aK.next (l,(iw (Int.tdiv g 65536)),(iw (c+1)))) else some (aK.done e))
def oH(N:Nat)(a:(List Int))(b:(List Int)):Option (List Int):=(bK (CM N a b) N (([]:(List Int)),0,0)).bind fun ss=>match ss with
  |c=>(nr N c).bind fun d=>some d
def EM(N:Nat)(a:(List Int))(b:(List Int)):((List Int)×Int×Int)->Option (aK ((List Int)×Int×Int) (List Int))
 |(e,f,c)=>(if(c:Int)<(List.length a:Int)then (idx a c).bind fun g=>(((if(c:Int)<(List.length b:Int)then (idx b c).bind fun i=>some (iw ((iw (g-f))-i)) else some (iw (g-f))):Option Int)).bind fun ss=>match ss with
    |d=>(((if(d:Int)<0 then some (1,(iw (d+65536))) else some (0,d)):Option (Int×Int))).bind fun ss=>match ss with
      |(j,k)=>(cP 8 e [k]).bind fun l=>some (aK.next (l,j,(iw (c+1)))) else some (aK.done e))
def rR(N:Nat)(a:(List Int))(b:(List Int)):Option (List Int):=(bK (EM N a b) N (([]:(List Int)),0,0)).bind fun ss=>match ss with
  |c=>(nr N c).bind fun d=>some d
def kG(N:Nat)(x:aB):Option Int:=(kS N x).bind fun r6=>(if((List.length r6:Int):Int)=0 then some 0 else (if x.bF=true then some (-1) else some 1))
def qa(N:Nat)(x:aB):Option aB:=(kS N x).bind fun a=>(kQ N (!x.bF) a).bind fun b=>some b
def oS(N:Nat)(a:aB)(b:aB):Option aB:=(kS N a).bind fun c=>(kS N b).bind fun d=>(if(a.bF==b.bF)=true then (oH N c d).bind fun e=>(kQ N a.bF e).bind fun f=>some f else (uR N c d).bind fun g=>(if(g:Int)≥0 then (rR N c d).bind fun i=>(kQ N a.bF i).bind fun j=>some j else (rR N d c).bind fun k=>(kQ N b.bF k).bind fun l=>some l))
def vE(N:Nat)(a:aB)(b:aB):Option aB:=(qa N b).bind fun c=>(oS N a c).bind fun d=>some d
def Dm(N:Nat)(a:(List Int))(d:Int):((List Int)×Int×Int)->Option (aK ((List Int)×Int×Int) (List Int))
 |(e,c,b)=>(((if(b:Int)<(List.length a:Int)then some true else some (decide ((c:Int)>0))):Option Bool)).bind fun ss=>match ss with
   |g=>(if g=true then (((if(b:Int)<(List.length a:Int)then (idx a b).bind fun i=>some (iw (c+(iw (i*d)))) else some c):Option Int)).bind fun ss=>match ss with
      |f=>(cP 8 e [(Int.tmod f 65536)]).bind fun j=>some (aK.next (j,(iw (Int.tdiv f 65536)),(iw (b+1)))) else some (aK.done e))
def wq(N:Nat)(a:(List Int))(d:Int):Option (List Int):=(bK (Dm N a d) N (([]:(List Int)),0,0)).bind fun ss=>match ss with
  |b=>(nr N b).bind fun c=>some c
def DH(N:Nat)(c:(List Int))(d:(List Int)):((List Int)×Int)->Option (aK ((List Int)×Int) (List Int))
 |(b,a)=>(if(a:Int)≥0 then (cP 8 [0] b).bind fun e=>(idx d a).bind fun f=>(wq N c f).bind fun g=>(oH N e g).bind fun i=>some (aK.next (i,(iw (a-1)))) else some (aK.done b))
def sa(N:Nat)(a:aB)(b:aB):Option aB:=(kS N a).bind fun d=>(kS N b).bind fun c=>(bK (DH N d c) N (([]:(List Int)),(iw ((List.length c:Int)-1)))).bind fun ss=>match ss with
  |e=>(kQ N (!(a.bF==b.bF)) e).bind fun f=>some f
def An(N:Nat)(a:(List Int))(b:(List Int))(e:Int):((List Int)×(List Int)×Int)->Option (aK ((List Int)×(List Int)×Int) ((List Int)×(List Int)))
 |(c,f,d)=>(if(d:Int)>0 then (oH N f f).bind fun i=>(idx a e).bind fun j=>(sdiv .i64 j d).bind fun k=>(((if((Int.tmod k 2):Int)=1 then (oH N i [1]).bind fun l=>some l else some i):Option (List Int))).bind fun ss=>match ss with
    |g=>(uR N g b).bind fun m=>(if(m:Int)≥0 then (rR N g b).bind fun n=>(idx c e).bind fun o=>(idx c e).bind fun s=>(di c e (iw (o+d))).bind fun p=>some (aK.next (p,n,(iw (Int.tdiv d 2)))) else some (aK.next (c,g,(iw (Int.tdiv d 2))))) else some (aK.done (c,f)))
def C2(N:Nat)(a:(List Int))(b:(List Int)):((List Int)×(List Int)×Int)->Option (aK ((List Int)×(List Int)×Int) ((List Int)×(List Int)))
 |(d,e,c)=>(if(c:Int)≥0 then (bK (An N a b c) N (d,e,32768)).bind fun ss=>match ss with
    |(f,g)=>some (aK.next (f,g,(iw (c-1)))) else some (aK.done (d,e)))
def xW(N:Nat)(a:(List Int))(b:(List Int)):Option ((List Int)×(List Int)):=(fX (α:=Int) 8 0 (List.length a:Int)).bind fun x2=>(bK (C2 N a b) N (x2,([]:(List Int)),(iw ((List.length a:Int)-1)))).bind fun ss=>match ss with
  |(c,d)=>(nr N c).bind fun e=>some (e,d)
def CS(N:Nat):(Int×(List Int))->Option (aK (Int×(List Int)) (List Int))
 |(a,b)=>(if(a:Int)>0 then (cP 8 b [(iw (Int.tmod a 65536))]).bind fun c=>some (aK.next ((uw (Int.tdiv a 65536)),c)) else some (aK.done b))
def kT(N:Nat)(n:Int):Option aB:=(((if(n:Int)<0 then some (uw ((uw (iw (0-(iw (n+1)))))+1)) else some (uw n)):Option Int)).bind fun ss=>match ss with
  |u8=>(bK (CS N) N (u8,([]:(List Int)))).bind fun ss=>match ss with
    |a=>(kQ N (decide ((n:Int)<0)) a).bind fun b=>some b
def tC(N:Nat)(a:aB)(b:aB):Option (aB×aB×Bool):=(kG N b).bind fun f=>(if(f:Int)=0 then some ((aB.mk false []),(aB.mk false []),false) else (kS N a).bind fun g=>(kS N b).bind fun i=>(xW N g i).bind fun d=>(kQ N (!(a.bF==b.bF)) d.1).bind fun e=>(kQ N a.bF d.2).bind fun c=>(((kG N c).bind fun j=>(if(j:Int)≠0 then (kG N c).bind fun k=>(kG N b).bind fun l=>some (decide ((k:Int)≠l)) else some false):Option Bool)).bind fun ss=>match ss with
   |m=>(((if m=true then (kT N 1).bind fun n=>(vE N e n).bind fun o=>(oS N c b).bind fun p=>some (o,p) else some (e,c)):Option (aB×aB))).bind fun ss=>match ss with
     |(s,u)=>some (s,u,true))
def HP(N:Nat)(a:aB)(b:aB):Int->Option (aK Int (Sum Unit Bool))
 |c=>(if(c:Int)<(List.length a.aP:Int)then (idx a.aP c).bind fun d=>(idx b.aP c).bind fun e=>(if(d:Int)≠e then some (aK.done (Sum.inr false)) else some (aK.next (iw (c+1)))) else some (aK.done (Sum.inl ())))
def xb(N:Nat)(a:aB)(b:aB):Option Bool:=(((if(!(a.bF==b.bF))=true then some true else some (decide (((List.length a.aP:Int):Int)≠(List.length b.aP:Int)))):Option Bool)).bind fun ss=>match ss with
  |c=>(if c=true then some false else (bK (HP N a b) N 0).bind fun ss=>match ss with
     |(Sum.inl _)=>some true
     |(Sum.inr d)=>some d)
open Go Go.X
def rk:List UInt8:=[0,1,2,2,3,3,3,3,4,4,4,4,4,4,4,4,5,5,5,5,5,5,5,5,5,5,5,5,5,5,5,5,6,6,6,6,6,6,6,6,6,6,6,6,6,6,6,6,6,6,6,6,6,6,6,6,6,6,6,6,6,6,6,6,7,7,7,7,7,7,7,7,7,7,7,7,7,7,7,7,7,7,7,7,7,7,7,7,7,7,7,7,7,7,7,7,7,7,7,7,7,7,7,7,7,7,7,7,7,7,7,7,7,7,7,7,7,7,7,7,7,7,7,7,7,7,7,7,8,8,8,8,8,8,8,8,8,8,8,8,8,8,8,8,8,8,8,8,8,8,8,8,8,8,8,8,8,8,8,8,8,8,8,8,8,8,8,8,8,8,8,8,8,8,8,8,8,8,8,8,8,8,8,8,8,8,8,8,8,8,8,8,8,8,8,8,8,8,8,8,8,8,8,8,8,8,8,8,8,8,8,8,8,8,8,8,8,8,8,8,8,8,8,8,8,8,8,8,8,8,8,8,8,8,8,8,8,8,8,8,8,8,8,8,8,8,8,8,8,8,8,8,8,8,8,8]
def xK(N:Nat)(x:Int):Option Int:=(((if(x:Int)≥65536 then some ((fp .u32 x 16),16) else some (x,0)):Option (Int×Int))).bind fun ss=>match ss with
  |(x2,n3)=>(((if(x2:Int)≥256 then some ((fp .u32 x2 8),(iw (n3+8))) else some (x2,n3)):Option (Int×Int))).bind fun ss=>match ss with
    |(a,b)=>(idx rk (uw8 a)).bind fun c=>some (iw (b+(iw (UInt8.toNat c:Int))))
def wF(N:Nat)(x:Int):Option Int:=(xK N x).bind fun r1=>some (iw (32-r1))
def yM(N:Nat)(n:Int)(pa_hi:Int)(pa_lo:Int)(pb:(List Int)):((List Int)×Int×Int×Int)->Option (aK ((List Int)×Int×Int×Int) ((List Int)×Int))
 |(b,c,d,a)=>(if(a:Int)<(pa_hi-pa_lo)then (digit N pb a).bind fun e=>(lq (0<=a/\a<pa_hi-pa_lo)).bind fun _=>(idx b (pa_lo+a)).bind fun f=>(lq (0<=a/\a<pa_hi-pa_lo)).bind fun _=>(idx b (pa_lo+a)).bind fun i=>(di b (pa_lo+a) (dU (uw ((uw ((uw f)-(pZ .u64 (uw (c+(uw (n*e)))) 4294967295)))-d)))).bind fun g=>some (aK.next (g,(fp .u64 (uw (c+(uw (n*e)))) 32),(fp .u64 (uw ((uw ((uw f)-(pZ .u64 (uw (c+(uw (n*e)))) 4294967295)))-d)) 63),(iw (a+1)))) else some (aK.done (b,d)))
def zL(N:Nat)(pa:(List Int))(pa_lo:Int)(pa_hi:Int)(pb:(List Int))(n:Int):Option (Bool×(List Int)):=(bK (yM N n pa_hi pa_lo pb) N (pa,0,0,0)).bind fun ss=>match ss with
  |(a,b)=>some ((decide ((b:Int)≠0)),a)
def Bd(N:Nat)(b:(List Int))(d:(List Int))(f:(List Int))(g:Int):(Int×Int)->Option (aK (Int×Int) Int)
 |(a,c)=>(((if(a:Int)>4294967295 then some true else (idx d (iw ((List.length b:Int)-2))).bind fun i=>(idx f (iw ((iw (g+(List.length b:Int)))-2))).bind fun j=>some (decide (((uw (a*(uw i))):Int)>(jC .u64 (iZ .u64 c 32) (uw j))))):Option Bool)).bind fun ss=>match ss with
   |k=>(if k=true then (idx d (iw ((List.length b:Int)-1))).bind fun e=>(if((uw (c+(uw e))):Int)>4294967295 then some (aK.done (uw (a-1))) else some (aK.next ((uw (a-1)),(uw (c+(uw e)))))) else some (aK.done a))
def zr(N:Nat)(e:(List Int))(c:Int):((List Int)×Int×Int)->Option (aK ((List Int)×Int×Int) ((List Int)×Int))
 |(b,d,a)=>(if(a:Int)<(List.length e:Int)then (idx b (iw (c+a))).bind fun f=>(idx e a).bind fun g=>(idx b (iw (c+a))).bind fun j=>(di b (iw (c+a)) (dU (uw (d+(uw ((uw f)+(uw g))))))).bind fun i=>some (aK.next (i,(fp .u64 (uw (d+(uw ((uw f)+(uw g))))) 32),(iw (a+1)))) else some (aK.done (b,d)))
def AP(N:Nat)(b:(List Int))(d:(List Int)):((List Int)×(List Int)×Int)->Option (aK ((List Int)×(List Int)×Int) ((List Int)×(List Int)))
 |(c,e,a)=>(if(a:Int)≥0 then (idx c (iw (a+(List.length b:Int)))).bind fun f=>(idx c (iw ((iw (a+(List.length b:Int)))-1))).bind fun g=>(idx d (iw ((List.length b:Int)-1))).bind fun m=>(sdiv .u64 (jC .u64 (iZ .u64 (uw f) 32) (uw g)) (uw m)).bind fun n=>(idx d (iw ((List.length b:Int)-1))).bind fun l=>(srem (jC .u64 (iZ .u64 (uw f) 32) (uw g)) (uw l)).bind fun a0=>(bK (Bd N b d c a) N (n,(Int.tmod (jC .u64 (iZ .u64 (uw f) 32) (uw g)) (uw l)))).bind fun ss=>match ss with
    |i=>(nX c a (iw ((iw (a+(List.length b:Int)))+1))).bind fun _=>(zL N c a (iw ((iw (a+(List.length b:Int)))+1)) d i).bind fun j=>(((if j.1=true then (bK (zr N d a) N (j.2,0,0)).bind fun ss=>match ss with
       |(k,o)=>(idx k (iw (a+(List.length b:Int)))).bind fun p=>(idx k (iw (a+(List.length b:Int)))).bind fun a1=>(di k (iw (a+(List.length b:Int))) (dU (p+(dU o)))).bind fun s=>some (s,(uw (i-1))) else some (j.2,i)):Option ((List Int)×Int))).bind fun ss=>match ss with
      |(u,v)=>(idx e a).bind fun a2=>(di e a (dU v)).bind fun y=>some (aK.next (u,y,(iw (a-1)))) else some (aK.done (c,e)))
def Bi(N:Nat)(c:Int)(d:(List Int))(e:(List Int)):((List Int)×Int)->Option (aK ((List Int)×Int) (List Int))
 |(b,a)=>(if(a:Int)<(List.length e:Int)then (idx d (iw (a+1))).bind fun f=>(idx d a).bind fun g=>(lq (¬((uw c):Int)<0)).bind fun _=>(idx b a).bind fun j=>(di b a (dU (fp .u64 (jC .u64 (iZ .u64 (uw f) 32) (uw g)) (uw c)))).bind fun i=>some (aK.next (i,(iw (a+1)))) else some (aK.done b))
def vn(N:Nat)(a:(List Int))(b:(List Int)):Option ((List Int)×(List Int)):=(qH N a b).bind fun r1=>(if(r1:Int)<0 then (lg N a).bind fun r9=>some (([]:(List Int)),r9) else (if((List.length b:Int):Int)=1 then (idx b 0).bind fun i=>(uj N a i).bind fun d=>(lg N d.1).bind fun j=>(lg N [d.2]).bind fun k=>some (j,k) else (idx b (iw ((List.length b:Int)-1))).bind fun l=>(wF N l).bind fun c=>(uQ N a (uw c)).bind fun e=>(uQ N b (uw c)).bind fun m=>(cut m 0 (List.length b:Int)).bind fun n=>(fX (α:=Int) 4 0 (iw ((List.length e:Int)-(List.length b:Int)))).bind fun f=>(bK (AP N b n) N (e,f,(iw ((List.length f:Int)-1)))).bind fun ss=>match ss with
    |(o,p)=>(fX (α:=Int) 4 0 (List.length b:Int)).bind fun g=>(bK (Bi N c o g) N (g,0)).bind fun ss=>match ss with
      |s=>(lg N p).bind fun u=>(lg N s).bind fun v=>some (u,v)))
def fL(N:Nat)(n:Int):Option aB:=(((if(n:Int)<0 then some (uw (0-(uw n))) else some (uw n)):Option Int)).bind fun ss=>match ss with
  |u8=>(jG N (decide ((n:Int)<0)) [(dU u8),(dU (fp .u64 u8 32))]).bind fun a=>some a
def lC(N:Nat)(x:aB):Option aB:=(jG N x.bF x.aP).bind fun a=>some a
def gx(N:Nat)(x:aB):Option Int:=(lC N x).bind fun r6=>(if((List.length r6.aP:Int):Int)=0 then some 0 else (if r6.bF=true then some (-1) else some 1))
def iE(N:Nat)(a:aB)(b:aB):Option Int:=(lC N a).bind fun c=>(lC N b).bind fun d=>(((if(!(c.bF==d.bF))=true then some c.bF else some false):Option Bool)).bind fun ss=>match ss with
  |e=>(if e=true then some (-1) else (if(!(c.bF==d.bF))=true then some 1 else (if c.bF=true then (qH N d.aP c.aP).bind fun f=>some f else (qH N c.aP d.aP).bind fun g=>some g)))
def ji(N:Nat)(x:aB):Option aB:=(jG N (!x.bF) x.aP).bind fun a=>some a
def iW(N:Nat)(a:aB)(b:aB):Option aB:=(lC N a).bind fun c=>(lC N b).bind fun d=>(if(c.bF==d.bF)=true then (uz N c.aP d.aP).bind fun e=>(jG N c.bF e).bind fun f=>some f else (qH N c.aP d.aP).bind fun g=>(if(g:Int)<0 then (rS N d.aP c.aP).bind fun i=>(jG N d.bF i).bind fun j=>some j else (rS N c.aP d.aP).bind fun k=>(jG N c.bF k).bind fun l=>some l))
def iT(N:Nat)(a:aB)(b:aB):Option aB:=(ji N b).bind fun c=>(iW N a c).bind fun d=>some d
def j1(N:Nat)(a:aB)(b:aB):Option aB:=(wD N a.aP b.aP).bind fun c=>(jG N (!(a.bF==b.bF)) c).bind fun d=>some d
def kA(N:Nat)(a:aB)(b:aB):Option (aB×aB×Bool):=(lC N a).bind fun e=>(lC N b).bind fun d=>(if((List.length d.aP:Int):Int)=0 then some ((aB.mk false []),(aB.mk false []),false) else (vn N e.aP d.aP).bind fun c=>(if(!(e.bF==d.bF))=true then (((if((List.length c.2:Int):Int)>0 then (uz N c.1 [1]).bind fun f=>(rS N d.aP c.2).bind fun g=>some (f,g) else some (c.1,c.2)):Option ((List Int)×(List Int)))).bind fun ss=>match ss with
    |(i,j)=>(jG N true i).bind fun k=>(jG N d.bF j).bind fun l=>some (k,l,true) else (jG N false c.1).bind fun m=>(jG N d.bF c.2).bind fun n=>some (m,n,true)))
def C9(N:Nat):((List Int)×(List Int))->Option (aK ((List Int)×(List Int)) (List Int))
 |(b,a)=>(if((List.length a:Int):Int)>0 then (vn N b a).bind fun c=>some (aK.next (a,c.2)) else some (aK.done b))
def uq(N:Nat)(a:aB)(b:aB):Option aB:=(lg N a.aP).bind fun c=>(lg N b.aP).bind fun d=>(bK (C9 N) N (c,d)).bind fun ss=>match ss with
  |e=>(jG N false e).bind fun f=>some f
def CH(N:Nat):((List (List UInt8))×(List Int))->Option (aK ((List (List UInt8))×(List Int)) (List (List UInt8)))
 |(b,c)=>(if((List.length c:Int):Int)>0 then (uj N c 1000000000).bind fun d=>(lg N d.1).bind fun e=>(vO N (uw d.2) 10).bind fun a=>(((if((List.length e:Int):Int)>0 then (xH N ([48]:List UInt8) (iw (9-(List.length a:Int)))).bind fun f=>(lq ((List.length f:Int)+List.length a<=9223372036854775807)).bind fun _=>some (f++a) else some a):Option (List UInt8))).bind fun ss=>match ss with
    |g=>(cP 16 b [g]).bind fun i=>some (aK.next (i,e)) else some (aK.done b))
def uN(N:Nat)(x:aB):Option (List UInt8):=(lC N x).bind fun r6=>(if((List.length r6.aP:Int):Int)=0 then some ([48]:List UInt8) else (bK (CH N) N (([]:(List (List UInt8))),r6.aP)).bind fun ss=>match ss with
   |a=>(((if r6.bF=true then (cP 16 a [([45]:List UInt8)]).bind fun b=>some b else some a):Option (List (List UInt8)))).bind fun ss=>match ss with
     |c=>(xL N c).bind fun d=>(qD N d ([]:List UInt8)).bind fun e=>some e)
open Go Go.X
abbrev aC:Int:=4294967296
theorem mJ:(1:Int)<aC:=by decide
theorem Rd{s:List Int}(hl:s.length<=35184372088832):Tm (fun N=>xC N s) (fun r=>r=s):=by
 unfold xC;exact aN (dO (by simp only[dP];omega) (by decide)) (aS rfl)
theorem oQ{d:List Int}(hd:bA aC d)(hl:d.length<=35184372088832):Tm (fun N=>lg N d) (fun r=>Dg aC r (val aC d)/\r.length<=d.length):=by
 unfold lg;refine Tm.bind (Q:=fun n:Int=>∃k:Nat,n=k/\k<=d.length/\(∀j,(hj:j<d.length)->k<=j->d[j]=0)/\(k=0\/∃hk:k-1<d.length,d[k-1]≠0))
  (Tm.loop (fun n:Int=>∃k:Nat,n=k/\k<=d.length/\∀j,(hj:j<d.length)->k<=j->d[j]=0) (fun n=>n.toNat) ⟨d.length,rfl,bI _,fun j h1 h2=>absurd h1 (by omega)⟩ ?_) ?_
 . rintro _ ⟨k,rfl,hk,h0⟩;dsimp only[Fu];rcases gv k with rfl|hk0
   . refine Tm.bind (Q:=(·=false)) (cz (by omega) (aS rfl)) ?_;rintro _ rfl;exact cz (by simp) (aS ⟨0,rfl,hk,h0,.inl rfl⟩)
   . refine Tm.bind (Q:=(·=decide (d[k-1]=0))) (cT (by omega) (aN (gw (n:=k-1) (by rw[bJ]<;>omega) (by omega)) (aS rfl))) ?_;rintro _ rfl;by_cases h:d[k-1]=0
     . refine cT (by simpa using h) (aS ⟨⟨k-1,by rw[bJ]<;>omega,by omega,fun j h1 h2=>?_⟩,?_⟩)
       . rcases Nat.eq_or_lt_of_le h2 with rfl|h3
         . exact h
         . exact h0 j h1 (by omega)
       . show(iw ((k:Int)-1)).toNat<((k:Int)).toNat;rw[bJ]<;>omega
     . exact cz (by simpa using h) (aS ⟨k,rfl,hk,h0,.inr ⟨by omega,h⟩⟩)
 . rintro _ ⟨k,rfl,hk,h0,h1⟩;refine aN (oT (m:=0) (n:=k) rfl rfl (by omega) hk) ?_;refine Tm.bind (Rd (by simp;omega)) ?_;rintro _ rfl;refine aS ⟨by simpa using DK hk hd h0 h1,by simp;omega⟩
def bv(x:aB):Int:=if x.bF=true then-val aC x.aP else val aC x.aP
structure Is (x:aB)(v:Int):Prop where
 dg:Dg aC x.aP v.natAbs
 neg:x.bF=decide (v<0)
theorem Is.bv{x:aB}{v:Int}(h:Is x v):bv x=v:=by
 unfold D.bv;rw[h.neg,h.dg.val];by_cases hv:v<0
 . simp[hv];omega
 . simp[hv];omega
theorem Is.uniq{x y:aB}{v:Int}(h:Is x v)(h':Is y v):x=y:=by
 have h1:=h.dg.uniq mJ h'.dg;have h2:=h.neg.trans h'.neg.symm;cases x;cases y;simp_all
theorem lK{neg:Bool}{d:List Int}(hd:bA aC d)(hl:d.length<=35184372088832):Tm (fun N=>jG N neg d) (fun r=>Is r (if neg=true then-val aC d else val aC d)/\r.aP.length<=d.length):=by
 unfold jG;refine Tm.bind (oQ hd hl) ?_;rintro r ⟨hr,hl'⟩;have h0:=hr.xT (by decide);refine aY (fun h=>aS ?_) (fun h=>aS ?_)
 . have he:r=[]:=mh.1 (by omega);have hv:=(hr.zero (by decide)).1 he;refine⟨⟨?_,?_⟩,by simp⟩
   . simp only[hv];simp;exact Dg.nil
   . simp[hv]
 . have he:r≠[]:=fun e=>h (by simp[e]);have hv:val aC d≠0:=fun e=>he ((hr.zero (by decide)).2 e);refine⟨⟨?_,?_⟩,hl'⟩
   . cases neg<;>simp<;>rw[show((val aC d).natAbs:Int)=val aC d by omega]<;>exact hr
   . cases neg<;>simp<;>omega
theorem px{x:aB}(hd:bA aC x.aP)(hl:x.aP.length<=35184372088832):Tm (fun N=>lC N x) (fun r=>Is r (bv x)/\r.aP.length<=x.aP.length):=by
 unfold lC;exact Tm.bind (lK hd hl) (fun r h=>aS h)
theorem Ae{x:aB}(hd:bA aC x.aP)(hl:x.aP.length<=35184372088832):Tm (fun N=>ji N x) (fun r=>Is r (-bv x)/\r.aP.length<=x.aP.length):=by
 unfold ji;refine Tm.bind (lK hd hl) (fun r h=>aS ?_);refine⟨?_,h.2⟩;have:=h.1;unfold bv;cases hx:x.bF<;>rw[hx]at this<;>simpa using this
theorem T3{x:aB}(hd:bA aC x.aP)(hl:x.aP.length<=35184372088832):Tm (fun N=>gx N x) (fun r=>r=bM (bv x) 0):=by
 unfold gx;refine Tm.bind (px hd hl) ?_;rintro r ⟨hr,-⟩;have hz:=hr.dg.zero (by decide);refine aY (fun h=>aS ?_) (fun h=>?_)
 . have:=hz.1 (mh.1 (by omega));unfold bM;rw[if_neg (by omega),if_neg (by omega)]
 . have:bv x≠0:=fun e=>h (by rw[hz.2 (by omega)];rfl);refine aY (fun h'=>aS ?_) (fun h'=>aS ?_)
   . have:=hr.neg.symm.trans h';simp at this;unfold bM;rw[if_pos (by omega)]
   . have:¬bv x<0:=fun e=>h' (by rw[hr.neg];simpa using e);unfold bM;rw[if_neg (by omega),if_pos (by omega)]
theorem Bb{n:Int}(h1:-9223372036854775808<=n)(h2:n<=9223372036854775807):Tm (fun N=>fL N n) (fun r=>Is r n/\r.aP.length<=2):=by
 unfold fL;refine Tm.bind (Q:=(·=(n.natAbs:Int))) (aY (fun h=>aS ?_) (fun h=>aS ?_)) ?_
 . rw[fI,fI];omega
 . rw[fI];omega
 rintro _ rfl;have hs:fp .u64 (n.natAbs:Int) 32=(n.natAbs:Int)/4294967296:=by
  unfold fp;rw[show((2:Int)^(min (32:Int).toNat IntKind.u64.bits))=4294967296 from rfl,jo _ (by decide)]
 refine Tm.bind (lK (d:=[dU (n.natAbs:Int),dU (fp .u64 (n.natAbs:Int) 32)]) ?_ (by simp)) (fun r h=>aS ?_)
 . rw[hs,gk,gk];exact bA.cons (B:=4294967296) (by omega) (bA.cons (by omega) bA.nil)
 . refine⟨?_,h.2⟩;have hv:val aC [dU (n.natAbs:Int),dU (fp .u64 (n.natAbs:Int) 32)]=n.natAbs:=by
    rw[hs,gk,gk];simp only[val,aC];omega
   have h:=h.1;rw[hv]at h;by_cases hn:n<0
   . simp only[hn,decide_true,if_true]at h;rwa[show-(n.natAbs:Int)=n by omega]at h
   . simp only[hn,decide_false,mf,if_false]at h;rwa[show(n.natAbs:Int)=n by omega]at h
theorem Tq{n:Int}:wo (imax n (-1)) 1=bM n 0:=by
 unfold wo imax bM;by_cases h:-1>n<;>simp only[h,if_true,if_false]<;>(repeat' split)<;>omega
theorem zu{a b:List Int}(ha:bA aC a)(hb:bA aC b)(na:fH a)(nb:fH b)(hl:a.length<=35184372088832)(hl':b.length<=35184372088832):Tm (fun N=>qH N a b) (fun r=>r=bM (val aC a) (val aC b)):=by
 unfold qH;refine aY (fun h=>?_) (fun h=>?_)
 . unfold Ap;refine aN rfl (aS ?_);rw[bJ (by omega) (by omega),Tq];unfold bM;rcases cv a.length b.length with h'|h'
   . have:=mN mJ ha hb nb h';rw[if_pos this];(repeat' split)<;>omega
   . have:=mN mJ hb ha na (by omega);rw[if_neg (by omega),if_pos this];(repeat' split)<;>omega
 . have hle:a.length=b.length:=by omega
   refine Tm.bind (Q:=fun r:Sum Unit Int=>(match r with|.inl _=>0|.inr z=>z)=bM (val aC a) (val aC b))
    (Tm.loop (fun i:Int=>∃n:Nat,i=(n:Int)-1/\n<=a.length/\a.drop n=b.drop n) (fun i=>(i+1).toNat) ⟨a.length,by rw[bJ]<;>omega,bI _,by rw[yi (bI _),yi (by omega)]⟩ ?_) ?_
   . rintro _ ⟨n,rfl,hn,hd⟩;dsimp only[D8];refine aY (fun h1=>?_) (fun h1=>?_)
     . have hna:n-1<a.length:=by omega
       have hnb:n-1<b.length:=by omega
       refine aN (gw (n:=n-1) (by omega) hna) (aN (gw (n:=n-1) (by omega) hnb) (aY (fun h2=>?_) (fun h2=>?_)))
       . have:=yA mJ ha hb hle hna (by rw[show n-1+1=n by omega];exact hd) h2;refine aS ?_;show(-1:Int)=_;unfold bM;rw[if_pos this]
       . refine aN (gw (n:=n-1) (by omega) hna) (aN (gw (n:=n-1) (by omega) hnb) (aY (fun h3=>?_) (fun h3=>?_)))
         . have:=yA mJ hb ha hle.symm hnb (by rw[show n-1+1=n by omega];exact hd.symm) h3;refine aS ?_;show(1:Int)=_;unfold bM;rw[if_neg (by omega),if_pos this]
         . refine aS ⟨⟨n-1,by rw[bJ]<;>omega,by omega,?_⟩,?_⟩
           . rw[fx hna,fx hnb,show n-1+1=n by omega,hd,show a[n-1]=b[n-1] by omega]
           . show(iw ((n:Int)-1-1)+1).toNat<((n:Int)-1+1).toNat;rw[bJ]<;>omega
     . have:n=0:=by omega
       subst this;refine aS ?_;show(0:Int)=_;have:a=b:=by simpa using hd
       rw[this];unfold bM;rw[if_neg (by omega),if_neg (by omega)]
   . rintro(_|z) h<;>exact aS h
theorem Bh{d:List Int}(hd:bA aC d){i:Nat}:Tm (fun N=>digit N d (i:Int)) (fun r=>r=d.getD i 0):=by
 unfold digit;have h0:=hd.getD (by decide) i;refine aY (fun h=>?_) (fun h=>aS ?_)
 . refine aN (dd (by omega)) (aS ?_);rw[cy,bV (by omega)]at*;simp only[BL,aC]at*;rw[fI];omega
 . rw[cy,fN (by omega)];rfl
theorem wC{x:Int}:fp .u64 x 32=x/4294967296:=by
 unfold fp;rw[show((2:Int)^(min (32:Int).toNat IntKind.u64.bits))=4294967296 from rfl,jo _ (by decide)]
theorem Kn{x:Int}:fp .u64 x 63=x/9223372036854775808:=by
 unfold fp;rw[show((2:Int)^(min (63:Int).toNat IntKind.u64.bits))=9223372036854775808 from rfl,jo _ (by decide)]
theorem take_set{l:List Int}{n:Nat}{y:Int}(h:n<l.length):val aC ((l.set n y).take (n+1))=val aC (l.take n)+aC^n*y:=by
 rw[fk,yp (bI n),cy,yg h];rfl
theorem Gn{a b:List Int}(ha:bA aC a)(hb:bA aC b)(hl:a.length<=17592186044416)(hl':b.length<=17592186044416):Tm (fun N=>uz N a b) (fun r=>bA aC r/\val aC r=val aC a+val aC b/\r.length=max a.length b.length+1):=by
 unfold uz;have hi:iw (imax (a.length:Int) (b.length:Int)+1)=((max a.length b.length+1:Nat):Int):=by
  unfold imax;split<;>rw[bJ]<;>omega
 refine aN (ia hi (by omega) (by decide)) ?_;generalize hL:max a.length b.length+1=L;refine Tm.bind (Q:=fun r=>bA aC r/\val aC r=val aC a+val aC b/\r.length=L)
  (Tm.loop (fun s:List Int×Int×Int=>∃n:Nat,s.2.2=n/\n<=L/\s.1.length=L/\bA aC s.1/\0<=s.2.1/\s.2.1<=1/\val aC (s.1.take n)+aC^n*s.2.1=val aC (a.take n)+val aC (b.take n)) (fun s=>L-s.2.2.toNat)
   ⟨0,rfl,fy _,by simp,bA.df (by decide),by simp,by simp,by simp[val]⟩ ?_) (fun r h=>aS h)
 rintro⟨out,carry,i⟩ ⟨n,rfl,hn,ho,hB,h0,h1,hv⟩;dsimp only[DI]at*;simp only[kL];refine aY (fun h=>?_) (fun h=>aS ?_)
 . refine Tm.bind (Bh ha) ?_;rintro x rfl;refine Tm.bind (Bh hb) ?_;rintro y rfl;refine aN (dd (by omega)) ?_;refine aN (eh rfl (by omega)) (aS ?_);have hx:=ha.getD (by decide) n;have hy:=hb.getD (by decide) n;generalize ex:a.getD n 0=x at*;generalize ey:b.getD n 0=y at*;have e1:uw (carry+uw (x+y))=carry+x+y:=by
    simp only[aC]at*;rw[fI,fI];omega
   rw[e1,wC,gk];refine⟨⟨n+1,?_,by omega,by simp;omega,hB.set (by simp only[aC];omega),?_,?_,?_⟩,?_⟩
   . show iw ((n:Int)+1)=_;rw[bJ]<;>omega
   . show 0<=(carry+x+y)/4294967296;omega
   . show(carry+x+y)/4294967296<=1;simp only[aC]at*;omega
   . show val aC ((out.set n ((carry+x+y)%4294967296)).take (n+1))+aC^(n+1)*((carry+x+y)/4294967296)=_;rw[take_set (by omega),fk,fk,ex,ey,fi];have:=jF (carry+x+y) 4294967296;have hw:aC=4294967296:=rfl;grind
   . show L-(iw ((n:Int)+1)).toNat<L-((n:Int)).toNat;rw[bJ]<;>omega
 . have hnL:n=L:=by omega
   subst hnL;rw[fh (by omega),fh (by omega),fh (by omega)]at hv;refine⟨hB,?_,ho⟩;show val aC out=_;have l1:=gW (by decide) ha;have l2:=gW (by decide) hb;have l3:=gF (by decide) hB;have p1:=km (B:=aC) (by decide) (show a.length<=n-1 by omega);have p2:=km (B:=aC) (by decide) (show b.length<=n-1 by omega);have p3:aC^n=aC^(n-1)*aC:=by rw[<-fi];congr 1;omega
   have p4:=kH (B:=aC) (by decide) (n-1);have hc:carry=0\/carry=1:=by omega
   rcases hc with rfl|rfl
   . omega
   . simp only[aC]at*;omega
theorem Fl{a b:List Int}(ha:bA aC a)(hb:bA aC b)(hl:a.length<=17592186044416)(hl':b.length<=a.length)(hv:val aC b<=val aC a):Tm (fun N=>rS N a b) (fun r=>bA aC r/\val aC r=val aC a-val aC b/\r.length=a.length):=by
 unfold rS;refine aN (ia rfl (by omega) (by decide)) ?_;generalize hL:a.length=L;refine Tm.bind (Q:=fun r=>bA aC r/\val aC r=val aC a-val aC b/\r.length=L)
  (Tm.loop (fun s:List Int×Int×Int=>∃n:Nat,s.2.2=n/\n<=L/\s.1.length=L/\bA aC s.1/\0<=s.2.1/\s.2.1<=1/\val aC (s.1.take n)=val aC (a.take n)-val aC (b.take n)+aC^n*s.2.1) (fun s=>L-s.2.2.toNat)
   ⟨0,rfl,fy _,by simp[hL],bA.df (by decide),by simp,by simp,by simp[val]⟩ ?_) (fun r h=>aS h)
 rintro⟨out,borrow,i⟩ ⟨n,rfl,hn,ho,hB,h0,h1,hv'⟩;dsimp only[C8]at*;refine aY (fun h=>?_) (fun h=>aS ?_)
 . refine aN (dd (by omega)) ?_;refine Tm.bind (Bh hb) ?_;rintro y rfl;refine aN (dd (by omega)) ?_;refine aN (eh rfl (by omega)) (aS ?_);have hx:=ha.get (n:=n) (by omega);have hy:=hb.getD (by decide) n;have ex:a.getD n 0=a[n]'(by omega):=by rw[cy,bV (by omega)];rfl
   generalize a[n]'(by omega)=x at*;generalize ey:b.getD n 0=y at*;have e1:uw (uw (uw x-y)-borrow)=(x-y-borrow)%18446744073709551616:=by
    simp only[aC]at*;rw[fI,fI,fI];omega
   rw[e1,Kn,gk];simp only[aC]at hx hy;refine⟨⟨n+1,?_,by omega,by simp;omega,hB.set (by simp only[aC];omega),?_,?_,?_⟩,?_⟩
   . show iw ((n:Int)+1)=_;rw[bJ]<;>omega
   . show 0<=(x-y-borrow)%18446744073709551616/9223372036854775808;omega
   . show(x-y-borrow)%18446744073709551616/9223372036854775808<=1;omega
   . show val aC ((out.set n ((x-y-borrow)%18446744073709551616%4294967296)).take (n+1))=_+aC^(n+1)*((x-y-borrow)%18446744073709551616/9223372036854775808);rw[take_set (by omega),fk,fk,ex,ey,fi];have hd:(x-y-borrow)%18446744073709551616%4294967296=x-y-borrow+aC*((x-y-borrow)%18446744073709551616/9223372036854775808):=by
      simp only[aC];omega
     rw[hd];grind
   . show L-(iw ((n:Int)+1)).toNat<L-((n:Int)).toNat;rw[bJ]<;>omega
 . have hnL:n=L:=by omega
   subst hnL;rw[fh (by omega),fh (by omega),fh (by omega)]at hv';refine⟨hB,?_,ho⟩;show val aC out=_;have l1:=gW (by decide) hB;rw[ho]at l1;have hc:borrow=0\/borrow=1:=by omega
   rcases hc with rfl|rfl
   . omega
   . simp only[aC]at*;omega
theorem Is.yR{x:aB}{v:Int}(h:Is x v):val aC x.aP=if v<0 then-v else v:=by rw[h.dg.val];split<;>omega
theorem JX{a b:aB}(ha:bA aC a.aP)(hb:bA aC b.aP)(hl:a.aP.length<=17592186044416)(hl':b.aP.length<=17592186044416):
 Tm (fun N=>iW N a b) (fun r=>Is r (bv a+bv b)/\r.aP.length<=max a.aP.length b.aP.length+1):=by
 unfold iW;refine Tm.bind (px ha (by omega)) ?_;rintro x ⟨hx,hxl⟩;refine Tm.bind (px hb (by omega)) ?_;rintro y ⟨hy,hyl⟩;have vx:=hx.yR;have vy:=hy.yR;have n1:=hx.neg;have n2:=hy.neg;refine aY (fun h=>?_) (fun h=>?_)
 . have hn:x.bF=y.bF:=by simpa using h
   refine Tm.bind (Gn hx.dg.bL hy.dg.bL (by omega) (by omega)) ?_;rintro s ⟨hs,sv,sl⟩;refine Tm.bind (lK hs (by omega)) (fun r hr=>aS ⟨?_,by omega⟩);have hr:=hr.1;rw[sv,vx,vy]at hr;by_cases p:bv a<0<;>by_cases q:bv b<0<;>simp only[p,q,decide_true,decide_false]at n1 n2 hn
   . simp only[n1,p,q,if_true]at hr;rwa[show-(-bv a+-bv b)=bv a+bv b by omega]at hr
   . rw[n1,n2]at hn;cases hn
   . rw[n1,n2]at hn;cases hn
   . simpa only[n1,p,q,if_false,mf]using hr
 . have hn:¬x.bF=y.bF:=by simpa using h
   refine Tm.bind (zu hx.dg.bL hy.dg.bL hx.dg.fg hy.dg.fg (by omega) (by omega)) ?_;rintro c rfl;refine aY (fun hc=>?_) (fun hc=>?_)
   . have hlt:val aC x.aP<val aC y.aP:=by revert hc;unfold bM;split<;>(try split)<;>omega
     have hle:x.aP.length<=y.aP.length:=by
      rcases cv y.aP.length x.aP.length with h'|h'
      . have:=mN mJ hy.dg.bL hx.dg.bL hx.dg.fg h';omega
      . exact h'
     refine Tm.bind (Fl hy.dg.bL hx.dg.bL (by omega) hle (by omega)) ?_;rintro s ⟨hs,sv,sl⟩;refine Tm.bind (lK hs (by omega)) (fun r hr=>aS ⟨?_,by omega⟩);have hr:=hr.1;rw[sv,vx,vy]at hr;by_cases p:bv a<0<;>by_cases q:bv b<0<;>simp only[p,q,decide_true,decide_false]at n1 n2 hn
     . rw[n1,n2]at hn;exact absurd rfl hn
     . simp only[n2,p,q,if_true,if_false,mf]at hr;rwa[show bv b- -bv a=bv a+bv b by omega]at hr
     . simp only[n2,p,q,if_true,if_false]at hr;rwa[show-(-bv b-bv a)=bv a+bv b by omega]at hr
     . rw[n1,n2]at hn;exact absurd rfl hn
   . have hge:val aC y.aP<=val aC x.aP:=by revert hc;unfold bM;split<;>(try split)<;>omega
     have hle:y.aP.length<=x.aP.length:=by
      rcases cv x.aP.length y.aP.length with h'|h'
      . have:=mN mJ hx.dg.bL hy.dg.bL hy.dg.fg h';omega
      . exact h'
     refine Tm.bind (Fl hx.dg.bL hy.dg.bL (by omega) hle hge) ?_;rintro s ⟨hs,sv,sl⟩;refine Tm.bind (lK hs (by omega)) (fun r hr=>aS ⟨?_,by omega⟩);have hr:=hr.1;rw[sv,vx,vy]at hr;by_cases p:bv a<0<;>by_cases q:bv b<0<;>simp only[p,q,decide_true,decide_false]at n1 n2 hn
     . rw[n1,n2]at hn;exact absurd rfl hn
     . simp only[n1,p,q,if_true,if_false]at hr;rwa[show-(-bv a-bv b)=bv a+bv b by omega]at hr
     . simp only[n1,p,q,if_true,if_false,mf]at hr;rwa[show bv a- -bv b=bv a+bv b by omega]at hr
     . rw[n1,n2]at hn;exact absurd rfl hn
theorem P3{a b:aB}(ha:bA aC a.aP)(hb:bA aC b.aP)(hl:a.aP.length<=17592186044416)(hl':b.aP.length<=17592186044416):
 Tm (fun N=>iT N a b) (fun r=>Is r (bv a-bv b)/\r.aP.length<=max a.aP.length b.aP.length+1):=by
 unfold iT;refine Tm.bind (Ae hb (by omega)) ?_;rintro y ⟨hy,hyl⟩;refine Tm.bind (JX ha hy.dg.bL (by omega) (by omega)) (fun r h=>aS ⟨?_,by omega⟩);have:=h.1;rwa[hy.bv,<-F6]at this
theorem Om{a b:List Int}(ha:bA aC a)(hb:bA aC b)(hl:a.length<=17592186044416)(hl':b.length<=17592186044416):
 Tm (fun N=>wD N a b) (fun r=>bA aC r/\val aC r=val aC a*val aC b/\r.length=a.length+b.length):=by
 unfold wD;refine aN (ia (n:=a.length+b.length) (by rw[bJ]<;>omega) (by omega) (by decide)) ?_;refine Tm.bind (Q:=fun r=>bA aC r/\val aC r=val aC a*val aC b/\r.length=a.length+b.length)
  (Tm.loop (fun s:List Int×Int=>∃n:Nat,s.2=n/\n<=a.length/\s.1.length=a.length+b.length/\bA aC s.1/\val aC s.1=val aC (a.take n)*val aC b/\∀k,n+b.length<=k->(hk:k<s.1.length)->s.1[k]=0) (fun s=>a.length-s.2.toNat)
   ⟨0,rfl,fy _,by simp,bA.df (by decide),by simp[val,Bu],by simp⟩ ?_) (fun r h=>aS h)
 rintro⟨out,i⟩ ⟨n,rfl,hn,ho,hB,hv,hz⟩;dsimp only[E4]at*;refine aY (fun h=>?_) (fun h=>aS ?_)
 . refine aN (dd (by omega)) ?_;have hx:=ha.get (n:=n) (by omega);have ex:a.getD n 0=a[n]'(by omega):=by rw[cy,bV (by omega)];rfl
   generalize a[n]'(by omega)=x at*;refine Tm.bind (Q:=fun r:List Int×Int=>bA aC r.1/\r.1.length=a.length+b.length/\0<=r.2/\r.2<aC/\val aC r.1+aC^(n+b.length)*r.2=val aC (a.take n)*val aC b+aC^n*x*val aC b/\∀k,n+b.length<=k->(hk:k<r.1.length)->r.1[k]=0)
    (Tm.loop (fun s:List Int×Int×Int=>∃m:Nat,s.2.2=m/\m<=b.length/\s.1.length=a.length+b.length/\bA aC s.1/\0<=s.2.1/\s.2.1<aC/\val aC s.1+aC^(n+m)*s.2.1=val aC (a.take n)*val aC b+aC^n*x*val aC (b.take m)/\∀k,n+b.length<=k->(hk:k<s.1.length)->s.1[k]=0) (fun s=>b.length-s.2.2.toNat)
     ⟨0,rfl,fy _,ho,hB,by simp,(by decide:(0:Int)<aC),by simpa[val]using hv,hz⟩ ?_) ?_
   . rintro⟨out1,carry,j⟩ ⟨m,rfl,hm,ho1,hB1,c0,c1,hv1,hz1⟩;dsimp only[CV]at*;refine aY (fun h1=>?_) (fun h1=>aS ?_)
     . refine aN (dd (by omega)) ?_;have hi:iw ((n:Int)+(m:Int))=((n+m:Nat):Int):=by rw[bJ]<;>omega
       have hy:=hb.get (n:=m) (by omega);have ey:b.getD m 0=b[m]'(by omega):=by rw[cy,bV (by omega)];rfl
       generalize b[m]'(by omega)=y at*;refine aN (gw (n:=n+m) hi (by omega)) (aN (gw (n:=n+m) hi (by omega)) (aN (eh (n:=n+m) hi (by omega)) (aS ?_)));have hz':=hB1.get (n:=n+m) (by omega);have hvs:=fun y'=>tX (B:=aC) (l:=out1) (n:=n+m) (y:=y') (by omega);generalize out1[n+m]'(by omega)=z at*;have hxy:0<=x*y/\x*y<=4294967295*4294967295:=by
        refine⟨eH hx.1 hy.1,?_⟩;exact ni (by simp only[aC]at hx;omega) (by simp only[aC]at hy;omega) hy.1 (by decide)
       generalize exy:x*y=xy at*;have e1:uw (carry+uw (uw (uw x*uw y)+uw z))=carry+xy+z:=by
        simp only[aC]at*;rw[show uw x=x by rw[fI];omega,show uw y=y by rw[fI];omega,exy,fI,fI,fI,fI];omega
       rw[e1,wC,gk];simp only[aC]at hz' c1;refine⟨⟨m+1,?_,by omega,by simp;omega,hB1.set (by simp only[aC];omega),?_,?_,?_,?_⟩,?_⟩
       . show iw ((m:Int)+1)=_;rw[bJ]<;>omega
       . show 0<=(carry+xy+z)/4294967296;omega
       . show(carry+xy+z)/4294967296<aC;simp only[aC];omega
       . show val aC (out1.set (n+m) ((carry+xy+z)%4294967296))+aC^(n+(m+1))*((carry+xy+z)/4294967296)=_;rw[hvs,fk,ey,<-pF,fi];have:=jF (carry+xy+z) 4294967296;have hw:aC=4294967296:=rfl;have hp:aC^(n+m)=aC^n*aC^m:=jE ..;grind
       . intro k hk hk';rw[F7 (by omega)];exact hz1 k hk (by simpa using hk')
       . show b.length-(iw ((m:Int)+1)).toNat<b.length-((m:Int)).toNat;rw[bJ]<;>omega
     . have hmL:m=b.length:=by omega
       subst hmL;rw[fh (bI _)]at hv1;exact⟨hB1,ho1,c0,c1,hv1,hz1⟩
   . rintro⟨out2,carry⟩ ⟨hB2,ho2,c0,c1,hv2,hz2⟩;dsimp only at*;have hi:iw ((n:Int)+(b.length:Int))=((n+b.length:Nat):Int):=by rw[bJ]<;>omega
     refine aN (gw hi (by omega)) (aN (eh hi (by omega)) (aS ?_));have e1:dU carry=carry:=by rw[gk];simp only[aC]at c1;omega
     rw[e1];refine⟨⟨n+1,?_,by omega,by simp;omega,hB2.set ⟨c0,c1⟩,?_,?_⟩,?_⟩
     . show iw ((n:Int)+1)=_;rw[bJ]<;>omega
     . show val aC (out2.set (n+b.length) carry)=_;rw[tX (by omega),hz2 _ (bI _) (by omega),fk,ex];grind
     . intro k hk hk';rw[F7 (by omega)];exact hz2 k (by omega) (by simpa using hk')
     . show a.length-(iw ((n:Int)+1)).toNat<a.length-((n:Int)).toNat;rw[bJ]<;>omega
 . have hnL:n=a.length:=by omega
   subst hnL;rw[fh (bI _)]at hv;exact⟨hB,hv,ho⟩
theorem Ke{a b:aB}:bv a*bv b=if(!(a.bF==b.bF))=true then-(val aC a.aP*val aC b.aP)else val aC a.aP*val aC b.aP:=by
 unfold bv;cases a.bF<;>cases b.bF<;>simp[lE,nj]
theorem NX{a b:aB}(ha:bA aC a.aP)(hb:bA aC b.aP)(hl:a.aP.length<=8796093022208)(hl':b.aP.length<=8796093022208):
 Tm (fun N=>j1 N a b) (fun r=>Is r (bv a*bv b)/\r.aP.length<=a.aP.length+b.aP.length):=by
 unfold j1;refine Tm.bind (Om ha hb (by omega) (by omega)) ?_;rintro s ⟨hs,sv,sl⟩;refine Tm.bind (lK hs (by omega)) (fun r h=>aS ⟨?_,by omega⟩);rw[Ke,<-sv];exact h.1
theorem Qg{a b:aB}(ha:bA aC a.aP)(hb:bA aC b.aP)(hl:a.aP.length<=35184372088832)(hl':b.aP.length<=35184372088832):Tm (fun N=>iE N a b) (fun r=>r=bM (bv a) (bv b)):=by
 unfold iE;refine Tm.bind (px ha hl) ?_;rintro x ⟨hx,hxl⟩;refine Tm.bind (px hb hl') ?_;rintro y ⟨hy,hyl⟩;have hxv:=hx.dg.val;have hyv:=hy.dg.val;refine Tm.bind (Q:=(·=(x.bF&&!y.bF))) (aY (fun h=>aS ?_) (fun h=>aS ?_)) ?_
 . revert h;cases x.bF<;>cases y.bF<;>simp
 . revert h;cases x.bF<;>cases y.bF<;>simp
 rintro _ rfl;have c1:=zu (a:=y.aP) (b:=x.aP) hy.dg.bL hx.dg.bL hy.dg.fg hx.dg.fg (by omega) (by omega);have c2:=zu (a:=x.aP) (b:=y.aP) hx.dg.bL hy.dg.bL hx.dg.fg hy.dg.fg (by omega) (by omega);rw[hxv,hyv]at c1 c2;have n1:=hx.neg;have n2:=hy.neg;by_cases p:bv a<0<;>by_cases q:bv b<0
 . simp only[p,q,decide_true]at n1 n2;simp only[n1,n2];refine cz (by simp) (cz (by simp) (cT (by simp) (Tm.bind c1 (fun r h=>aS ?_))));rw[h];unfold bM;split<;>split<;>(try split)<;>omega
 . simp only[p,q,decide_true,decide_false]at n1 n2;simp only[n1,n2];refine cT (by simp) (aS ?_);unfold bM;rw[if_pos (by omega)]
 . simp only[p,q,decide_true,decide_false]at n1 n2;simp only[n1,n2];refine cz (by simp) (cT (by simp) (aS ?_));unfold bM;rw[if_neg (by omega),if_pos (by omega)]
 . simp only[p,q,decide_false]at n1 n2;simp only[n1,n2];refine cz (by simp) (cz (by simp) (cz (by simp) (Tm.bind c2 (fun r h=>aS ?_))));rw[h];unfold bM;split<;>split<;>(try split)<;>omega
open Go Go.X
abbrev aW:Int:=65536
theorem nC:(1:Int)<aW:=by decide
theorem AA{x:Int}(h:0<=x):Int.tmod x 65536=x%65536:=MG h
theorem zn{x:Int}(h:0<=x):Int.tdiv x 65536=x/65536:=Ux h
theorem uG{l:List Int}(hd:bA aW l)(hl:l.length<=35184372088832):Tm (fun N=>nr N l) (fun r=>Dg aW r (val aW l)/\r.length<=l.length):=by
 unfold nr;refine Tm.bind (Tm.loop (fun s:List Int=>∃n:Nat,n<=l.length/\s=l.take n/\(∀j,(hj:j<l.length)->n<=j->l[j]=0)) (fun s=>s.length) (Q:=fun r=>Dg aW r (val aW l)/\r.length<=l.length) ⟨l.length,bI _,by simp,fun j h1 h2=>absurd h1 (by omega)⟩ ?_) (fun r h=>aS h);rintro _ ⟨n,hn,rfl,h0⟩;have hlen:(l.take n).length=n:=by simp;omega
 dsimp only[Df];rcases gv n with rfl|hk0
 . refine Tm.bind (Q:=(·=false)) (cz (by simp) (aS rfl)) ?_;rintro _ rfl;exact cz (by simp) (aS ⟨DK hn hd h0 (.inl rfl),by simp⟩)
 . refine Tm.bind (Q:=(·=decide (l[n-1]=0))) (cT (by omega) (aN (gw (n:=n-1) (by rw[bJ]<;>omega) (by omega)) (aS ?_))) ?_
   . rw[List.getElem_take]
   rintro _ rfl;by_cases h:l[n-1]=0
   . refine cT (by simpa using h) (aN (oT (m:=0) (n:=n-1) rfl (by rw[bJ]<;>omega) (by omega) (by omega)) (aS ⟨⟨n-1,by omega,?_,fun j h1 h2=>?_⟩,?_⟩))
     . simp[Mr]
     . rcases Nat.eq_or_lt_of_le h2 with rfl|h3
       . exact h
       . exact h0 j h1 (by omega)
     . simp;omega
   . exact cz (by simpa using h) (aS ⟨DK hn hd h0 (.inr ⟨by omega,h⟩),by omega⟩)
theorem oB{x:aB}(hd:bA aC x.aP)(hl:x.aP.length<=8796093022208):Tm (fun N=>kS N x) (fun r=>Dg aW r (val aC x.aP)/\r.length<=2*x.aP.length):=by
 unfold kS;refine Tm.bind (Tm.loop (fun s:List Int×Int=>∃n:Nat,s.2=n/\n<=x.aP.length/\s.1.length=2*n/\bA aW s.1/\val aW s.1=val aC (x.aP.take n)) (fun s=>x.aP.length-s.2.toNat) (Q:=fun r=>bA aW r/\val aW r=val aC x.aP/\r.length=2*x.aP.length) ⟨0,rfl,fy _,rfl,.nil,by simp[val]⟩ ?_) ?_
 . rintro⟨l,i⟩ ⟨n,rfl,hn,ho,hB,hv⟩;dsimp only[De]at*;refine aY (fun h=>?_) (fun h=>aS ?_)
   . refine aN (dd (by omega)) (aN (dd (by omega)) ?_);have hx:=hd.get (n:=n) (by omega);have ex:x.aP.getD n 0=x.aP[n]'(by omega):=by rw[cy,bV (by omega)];rfl
     generalize x.aP[n]'(by omega)=y at*;simp only[aC]at hx;rw[AA hx.1,zn hx.1,gk];have e1:iw (y%65536)=y%65536:=by rw[bJ]<;>omega
     have e2:iw (y/65536%4294967296)=y/65536:=by rw[bJ]<;>omega
     rw[e1,e2];refine aN (dO (by simp only[cA,dP];omega) (by decide)) (aS ⟨⟨n+1,by dsimp only;rw[bJ]<;>omega,by omega,by simp;omega,hB.append (.cons (B:=65536) (by omega) (.cons (by omega) .nil)),?_⟩,?_⟩)
     . show val aW (l++[y%65536,y/65536])=_;rw[oP,fk,ho,hv,ex,Int.pow_mul];have:val aW [y%65536,y/65536]=y:=by simp only[val,aW];omega
       rw[this];rfl
     . dsimp only;rw[bJ]<;>omega
   . have hnL:n=x.aP.length:=by omega
     subst hnL;rw[fh (bI _)]at hv;exact⟨hB,hv,ho⟩
 . rintro r ⟨h1,h2,h3⟩;exact Tm.bind (uG h1 (by omega)) (fun r' h=>aS ⟨h2▸h.1,by omega⟩)
theorem T0{l:List Int}{d:Int}(h:d≠0):fH (l++[d]):=by simp[fH,h]
theorem pg{neg:Bool}{l:List Int}(hd:bA aW l)(hl:l.length<=17592186044416):Tm (fun N=>kQ N neg l) (fun r=>Is r (if neg=true then-val aW l else val aW l)/\r.aP.length<=(l.length+1)/2):=by
 unfold kQ;refine Tm.bind (uG hd (by omega)) ?_;rintro t ⟨ht,htl⟩;have h0:=ht.xT (by decide);have hz:=ht.zero (by decide);refine Tm.bind (Q:=(·=(neg&&decide (val aW l≠0)))) (aY (fun h=>aS ?_) (fun h=>aS ?_)) ?_
 . rw[h];by_cases e:t=[]
   . have:=hz.1 e;simp[e,this]
   . have:val aW l≠0:=fun e'=>e (hz.2 e');have:=pL.2 e;simp_all
 . simp at h;simp[h]
 rintro _ rfl;refine Tm.bind (Tm.loop (fun s:List Int×Int=>∃n:Nat,s.2=((2*n:Nat):Int)/\2*n<=t.length+1/\s.1.length=n/\bA aC s.1/\val aC s.1=val aW (t.take (2*n))/\(t.length<=2*n->fH s.1)) (fun s=>t.length+2-s.2.toNat) (Q:=fun r=>Dg aC r (val aW t)/\r.length<=(t.length+1)/2)
  ⟨0,rfl,by omega,rfl,.nil,by simp[val],fun _=>Gp⟩ ?_) ?_
 . rintro⟨ds,i⟩ ⟨n,rfl,hn,ho,hB,hv,hN⟩;dsimp only[Ct]at*;refine aY (fun h=>?_) (fun h=>aS ?_)
   . refine aN (dd (by omega)) ?_;have hx:=ht.bL.get (n:=2*n) (by omega);have ex:t.getD (2*n) 0=t[2*n]'(by omega):=by rw[cy,bV (by omega)];rfl
     have hlast:t.length=2*n+1->t[2*n]'(by omega)≠0:=fun e h'=>ht.fg (by rw[F3,e,Mu,bV (by omega),h']);generalize t[2*n]'(by omega)=x at*;have hi:iw (((2*n:Nat):Int)+1)=((2*n+1:Nat):Int):=by rw[bJ]<;>omega
     refine Tm.bind (Q:=fun d=>d=x+65536*t.getD (2*n+1) 0/\(t.length<=2*n+2->d≠0)) ?_ ?_
     . refine aY (fun h1=>?_) (fun h1=>aS ?_)
       . refine aN (gw hi (by omega)) (aS ?_);have hy:=ht.bL.get (n:=2*n+1) (by omega);have ey:t.getD (2*n+1) 0=t[2*n+1]'(by omega):=by rw[cy,bV (by omega)];rfl
         have hlast':t.length=2*n+2->t[2*n+1]'(by omega)≠0:=fun e h'=>ht.fg (by rw[F3,e,show 2*n+2-1=2*n+1 by omega,bV (by omega),h']);rw[ey];generalize t[2*n+1]'(by omega)=y at*;simp only[aW]at hx hy;have e1:dU (dU x+dU (65536*dU y))=x+65536*y:=by
          rw[gk,gk,gk,gk];omega
         rw[e1];exact⟨rfl,fun h'=>by have:=hlast' (by omega);omega⟩
       . have ey:t.getD (2*n+1) 0=0:=by rw[cy,fN (by omega)];rfl
         rw[ey];simp only[aW]at hx;have:=hlast (by omega);rw[gk];exact⟨by omega,fun _=>by omega⟩
     . rintro _ ⟨rfl,hd0⟩;have hy:=ht.bL.getD (by decide) (2*n+1);have et:val aW (t.take (2*(n+1)))=val aW (t.take (2*n))+aW^(2*n)*(x+65536*t.getD (2*n+1) 0):=by
        rw[show 2*(n+1)=2*n+1+1 by omega,fk,fk,ex,fi];have hw:aW=65536:=rfl;grind
       generalize t.getD (2*n+1) 0=y at*;simp only[aW]at hx hy;refine aN (dO (by simp only[cA,dP];omega) (by decide)) (aS ⟨⟨n+1,by dsimp only;rw[bJ]<;>omega,by omega,by simp;omega,hB.append (.cons (B:=4294967296) (by omega) .nil),?_,fun h'=>T0 (hd0 (by omega))⟩,?_⟩)
       . show val aC (ds++[x+65536*y])=_;rw[oP,et,ho,hv,Int.pow_mul];have hw:aW^2=aC:=by decide
         rw[hw];simp only[val];simp
       . dsimp only;rw[bJ]<;>omega
   . rw[fh (by omega)]at hv;exact⟨⟨hB,hN (by omega),hv⟩,by omega⟩
 . rintro r ⟨hr,hrl⟩;refine aS ⟨⟨?_,?_⟩,bO (show r.length<=_ from hrl) (Nat.div_le_div_right (by omega))⟩
   . have e:(((if neg=true then-val aW l else val aW l):Int).natAbs:Int)=val aW t:=by rw[ht.val];cases neg<;>simp<;>omega
     rw[e];exact hr
   . show(neg&&decide (val aW l≠0))=_;by_cases e:val aW l=0
     . cases neg<;>simp[e]
     . cases neg
       . simp;omega
       . have:-val aW l<0:=by omega
         simp[e,this];omega
theorem Hd{x:aB}(hd:bA aC x.aP)(hl:x.aP.length<=8796093022208):Tm (fun N=>yc N x) (fun r=>Is r (bv x)/\r.aP.length<=x.aP.length):=by
 unfold yc;refine Tm.bind (oB hd hl) ?_;rintro h ⟨hh,hhl⟩;refine Tm.bind (pg hh.bL (by omega)) (fun r hr=>aS ⟨?_,by omega⟩);have:=hr.1;rw[hh.val]at this;exact this
theorem wL{x:aB}(hd:bA aC x.aP)(hl:x.aP.length<=8796093022208):Tm (fun N=>qa N x) (fun r=>Is r (-bv x)/\r.aP.length<=x.aP.length):=by
 unfold qa;refine Tm.bind (oB hd hl) ?_;rintro h ⟨hh,hhl⟩;refine Tm.bind (pg hh.bL (by omega)) (fun r hr=>aS ⟨?_,by omega⟩);have:=hr.1;rw[hh.val]at this;unfold bv;cases hx:x.bF<;>rw[hx]at this<;>simpa using this
theorem nH{x:aB}(hd:bA aC x.aP)(hl:x.aP.length<=8796093022208):Tm (fun N=>kG N x) (fun r=>r=bM (bv x) 0):=by
 unfold kG;refine Tm.bind (oB hd hl) ?_;rintro h ⟨hh,-⟩;have hz:=hh.zero (by decide);have h0:=hh.xT (by decide);unfold bv;refine aY (fun h1=>aS ?_) (fun h1=>?_)
 . have:=hz.1 (mh.1 (by omega));unfold bM;rw[this];simp
 . have:val aC x.aP≠0:=fun e=>h1 (by rw[hz.2 e];rfl);refine aY (fun h'=>aS ?_) (fun h'=>aS ?_)
   . rw[if_pos h'];unfold bM;rw[if_pos (by omega)]
   . rw[if_neg h'];unfold bM;rw[if_neg (by omega),if_pos (by omega)]
theorem GG{a b:List Int}(ha:bA aW a)(hb:bA aW b)(na:fH a)(nb:fH b)(hl:a.length<=35184372088832)(hl':b.length<=35184372088832):Tm (fun N=>uR N a b) (fun r=>r=bM (val aW a) (val aW b)):=by
 unfold uR;refine aY (fun h=>?_) (fun h=>?_)
 . refine aY (fun h'=>aS ?_) (fun h'=>aS ?_)
   . have:=mN nC ha hb nb (by omega);unfold bM;rw[if_pos this]
   . have:=mN nC hb ha na (by omega);unfold bM;rw[if_neg (by omega),if_pos this]
 . have hle:a.length=b.length:=by omega
   refine Tm.bind (Q:=fun r:Sum Unit Int=>(match r with|.inl _=>0|.inr z=>z)=bM (val aW a) (val aW b))
    (Tm.loop (fun i:Int=>∃n:Nat,i=(n:Int)-1/\n<=a.length/\a.drop n=b.drop n) (fun i=>(i+1).toNat) ⟨a.length,by rw[bJ]<;>omega,bI _,by rw[yi (bI _),yi (by omega)]⟩ ?_) ?_
   . rintro _ ⟨n,rfl,hn,hd⟩;dsimp only[DG];refine aY (fun h1=>?_) (fun h1=>?_)
     . have hna:n-1<a.length:=by omega
       have hnb:n-1<b.length:=by omega
       refine aN (gw (n:=n-1) (by omega) hna) (aN (gw (n:=n-1) (by omega) hnb) (aY (fun h2=>?_) (fun h2=>?_)))
       . have:=yA nC ha hb hle hna (by rw[show n-1+1=n by omega];exact hd) h2;refine aS ?_;show(-1:Int)=_;unfold bM;rw[if_pos this]
       . refine aN (gw (n:=n-1) (by omega) hna) (aN (gw (n:=n-1) (by omega) hnb) (aY (fun h3=>?_) (fun h3=>?_)))
         . have:=yA nC hb ha hle.symm hnb (by rw[show n-1+1=n by omega];exact hd.symm) h3;refine aS ?_;show(1:Int)=_;unfold bM;rw[if_neg (by omega),if_pos this]
         . refine aS ⟨⟨n-1,by rw[bJ]<;>omega,by omega,?_⟩,?_⟩
           . rw[fx hna,fx hnb,show n-1+1=n by omega,hd,show a[n-1]=b[n-1] by omega]
           . show(iw ((n:Int)-1-1)+1).toNat<((n:Int)-1+1).toNat;rw[bJ]<;>omega
     . have:n=0:=by omega
       subst this;refine aS ?_;show(0:Int)=_;have:a=b:=by simpa using hd
       rw[this];unfold bM;rw[if_neg (by omega),if_neg (by omega)]
   . rintro(_|z) h<;>exact aS h
theorem fQ{l:List Int}{n:Nat}(h:n<l.length):l.getD n 0=l[n]:=by rw[cy,bV h];rfl
theorem mj{l:List Int}{n:Nat}(h:l.length<=n):l.getD n 0=0:=by rw[cy,fN h];rfl
theorem kB{l:List Int}{n:Nat}(h:l.length<=n):l.take n=l:=fh h
theorem Ax{a b:List Int}(ha:bA aW a)(hb:bA aW b)(hl:a.length<=8796093022208)(hl':b.length<=8796093022208):Tm (fun N=>oH N a b) (fun r=>Dg aW r (val aW a+val aW b)/\r.length<=max a.length b.length+1):=by
 unfold oH;generalize hL:max a.length b.length=L;refine Tm.bind (Q:=fun r=>bA aW r/\val aW r=val aW a+val aW b/\r.length<=L+1)
  (Tm.loop (fun s:List Int×Int×Int=>∃n:Nat,s.2.2=n/\n<=L+1/\s.1.length=n/\bA aW s.1/\0<=s.2.1/\s.2.1<=1/\(L<n->s.2.1=0)/\val aW s.1+aW^n*s.2.1=val aW (a.take n)+val aW (b.take n)) (fun s=>L+1-s.2.2.toNat)
   ⟨0,rfl,fy _,rfl,.nil,by simp,by simp,fun _=>rfl,by simp[val]⟩ ?_) ?_
 . rintro⟨out,carry,i⟩ ⟨n,rfl,hn,ho,hB,h0,h1,hc,hv⟩;dsimp only[CM]at*;refine Tm.bind (Q:=(·=decide (n<L\/0<carry))) (aY (fun h=>aS ?_) (fun h=>aY (fun h'=>aS ?_) (fun h'=>aS ?_))) ?_
   . have:n<L:=by omega
     simp[this]
   . have:n<L:=by omega
     simp[this]
   . have:¬n<L:=by omega
     simp[this]
   rintro _ rfl;refine aY (fun h=>?_) (fun h=>aS ?_)
   . have h:=of_decide_eq_true h;have hx:=ha.getD (by decide) n;have hy:=hb.getD (by decide) n;simp only[aW]at hx hy;refine Tm.bind (Q:=(·=carry+a.getD n 0)) (aY (fun h2=>?_) (fun h2=>aS ?_)) ?_
     . rw[fQ (l:=a) (by omega)]at*;refine aN (dd (by omega)) (aS ?_);rw[bJ]<;>omega
     . rw[mj (by omega)];omega
     rintro _ rfl;refine Tm.bind (Q:=(·=carry+a.getD n 0+b.getD n 0)) (aY (fun h2=>?_) (fun h2=>aS ?_)) ?_
     . rw[fQ (l:=b) (by omega)]at*;refine aN (dd (by omega)) (aS ?_);rw[bJ]<;>omega
     . rw[mj (l:=b) (by omega)];omega
     rintro _ rfl;have hz:L<=n->a.getD n 0=0/\b.getD n 0=0:=fun h=>⟨mj (by omega),mj (by omega)⟩;generalize ex:a.getD n 0=x at*;generalize ey:b.getD n 0=y at*;rw[AA (by omega),zn (by omega)];refine aN (dO (by simp only[cA,dP];omega) (by decide)) (aS ⟨⟨n+1,?_,by omega,by simp;omega,hB.append (.cons (B:=65536) (by omega) .nil),?_,?_,?_,?_⟩,?_⟩)
     . show iw ((n:Int)+1)=_;rw[bJ]<;>omega
     . show 0<=iw ((carry+x+y)/65536);rw[bJ]<;>omega
     . show iw ((carry+x+y)/65536)<=1;rw[bJ]<;>omega
     . intro h';show iw ((carry+x+y)/65536)=0;have:=hz (by omega);rw[bJ]<;>omega
     . show val aW (out++[(carry+x+y)%65536])+aW^(n+1)*iw ((carry+x+y)/65536)=_;rw[bJ (by omega) (by omega),oP,fk,fk,ex,ey,ho,fi];have:=jF (carry+x+y) 65536;have hw:aW=65536:=rfl;simp only[val];grind
     . show L+1-(iw ((n:Int)+1)).toNat<L+1-((n:Int)).toNat;rw[bJ]<;>omega
   . have h:¬(n<L\/0<carry):=fun e=>h (decide_eq_true e);rw[kB (by omega),kB (by omega),show carry=0 by omega]at hv;exact⟨hB,by show val aW out=_;omega,by show out.length<=_;omega⟩
 . rintro r ⟨h1,h2,h3⟩;exact Tm.bind (uG h1 (by omega)) (fun r' h=>aS ⟨h2▸h.1,by omega⟩)
theorem E5{a b:List Int}(ha:bA aW a)(hb:bA aW b)(hl:a.length<=8796093022208)(hl':b.length<=a.length)(hv:val aW b<=val aW a):Tm (fun N=>rR N a b) (fun r=>Dg aW r (val aW a-val aW b)/\r.length<=a.length):=by
 unfold rR;generalize hL:a.length=L at*;refine Tm.bind (Q:=fun r=>bA aW r/\val aW r=val aW a-val aW b/\r.length=L)
  (Tm.loop (fun s:List Int×Int×Int=>∃n:Nat,s.2.2=n/\n<=L/\s.1.length=n/\bA aW s.1/\0<=s.2.1/\s.2.1<=1/\val aW s.1=val aW (a.take n)-val aW (b.take n)+aW^n*s.2.1) (fun s=>L-s.2.2.toNat)
   ⟨0,rfl,fy _,rfl,.nil,by simp,by simp,by simp[val]⟩ ?_) ?_
 . rintro⟨out,borrow,i⟩ ⟨n,rfl,hn,ho,hB,h0,h1,hv'⟩;dsimp only[EM]at*;refine aY (fun h=>?_) (fun h=>aS ?_)
   . have hx:=ha.getD (by decide) n;have hy:=hb.getD (by decide) n;simp only[aW]at hx hy;refine aN (dd (by omega)) ?_;rw[<-fQ (by omega)];refine Tm.bind (Q:=(·=a.getD n 0-borrow-b.getD n 0)) (aY (fun h2=>?_) (fun h2=>aS ?_)) ?_
     . rw[fQ (l:=b) (by omega)]at*;refine aN (dd (by omega)) (aS ?_);rw[bJ,bJ]<;>(try rw[bJ])<;>omega
     . rw[mj (l:=b) (by omega),bJ]<;>omega
     rintro _ rfl;generalize ex:a.getD n 0=x at*;generalize ey:b.getD n 0=y at*;refine Tm.bind (Q:=fun p:Int×Int=>0<=p.1/\p.1<=1/\0<=p.2/\p.2<65536/\p.2=x-borrow-y+65536*p.1) (aY (fun h2=>aS ?_) (fun h2=>aS ?_)) ?_
     . dsimp only;rw[bJ]<;>omega
     . dsimp only;omega
     rintro⟨bo,d⟩ ⟨g1,g2,g3,g4,g5⟩;dsimp only at*;refine aN (dO (by simp only[cA,dP];omega) (by decide)) (aS ⟨⟨n+1,?_,by omega,by simp;omega,hB.append (.cons (B:=65536) (by omega) .nil),g1,g2,?_⟩,?_⟩)
     . show iw ((n:Int)+1)=_;rw[bJ]<;>omega
     . show val aW (out++[d])=_;rw[oP,fk,fk,ex,ey,ho,fi];have hw:aW=65536:=rfl;simp only[val];grind
     . show L-(iw ((n:Int)+1)).toNat<L-((n:Int)).toNat;rw[bJ]<;>omega
   . have hnL:n=L:=by omega
     subst hnL;rw[kB (by omega),kB (by omega)]at hv';refine⟨hB,?_,ho⟩;show val aW out=_;have l1:=gW (by decide) hB;rw[ho]at l1;have hc:borrow=0\/borrow=1:=by omega
     rcases hc with rfl|rfl
     . omega
     . simp only[aW]at*;omega
 . rintro r ⟨h1,h2,h3⟩;exact Tm.bind (uG h1 (by omega)) (fun r' h=>aS ⟨h2▸h.1,by omega⟩)
theorem GR{a b:Int}:bM a b≥0↔b<=a:=by unfold bM;(repeat' split)<;>omega
theorem xk{a b:aB}(ha:bA aC a.aP)(hb:bA aC b.aP)(hl:a.aP.length<=2199023255552)(hl':b.aP.length<=2199023255552):
 Tm (fun N=>oS N a b) (fun r=>Is r (bv a+bv b)/\r.aP.length<=max a.aP.length b.aP.length+1):=by
 unfold oS;refine Tm.bind (oB ha (by omega)) ?_;rintro x ⟨hx,hxl⟩;refine Tm.bind (oB hb (by omega)) ?_;rintro y ⟨hy,hyl⟩;refine aY (fun h=>?_) (fun h=>?_)
 . have hn:a.bF=b.bF:=by simpa using h
   refine Tm.bind (Ax hx.bL hy.bL (by omega) (by omega)) ?_;rintro s ⟨hs,sl⟩;refine Tm.bind (pg hs.bL (by omega)) (fun r hr=>aS ⟨?_,by omega⟩);have hr:=hr.1;rw[hs.val,hx.val,hy.val]at hr;unfold bv;rw[<-hn];cases e:a.bF<;>rw[e]at hr
   . simpa using hr
   . simp only[if_true]at hr⊢;rwa[show-(val aC a.aP+val aC b.aP)=-val aC a.aP+-val aC b.aP by omega]at hr
 . have hn:¬a.bF=b.bF:=by simpa using h
   refine Tm.bind (GG hx.bL hy.bL hx.fg hy.fg (by omega) (by omega)) ?_;rintro c rfl;refine aY (fun hc=>?_) (fun hc=>?_)
   . have hge:=GR.1 hc;have hle:y.length<=x.length:=by
      rcases cv x.length y.length with h'|h'
      . have:=mN nC hx.bL hy.bL hy.fg h';omega
      . exact h'
     refine Tm.bind (E5 hx.bL hy.bL (by omega) hle hge) ?_;rintro s ⟨hs,sl⟩;refine Tm.bind (pg hs.bL (by omega)) (fun r hr=>aS ⟨?_,by omega⟩);have hr:=hr.1;rw[hs.val,hx.val,hy.val]at hr;unfold bv;cases e:a.bF<;>cases e':b.bF<;>rw[e]at hr hn<;>rw[e']at hn
     . exact absurd rfl hn
     . simpa[F6]using hr
     . simp only[if_true,mf,if_false]at hr⊢;rwa[show-(val aC a.aP-val aC b.aP)=-val aC a.aP+val aC b.aP by omega]at hr
     . exact absurd rfl hn
   . have hlt:¬val aW y<=val aW x:=fun e=>hc (GR.2 e);have hle:x.length<=y.length:=by
      rcases cv y.length x.length with h'|h'
      . have:=mN nC hy.bL hx.bL hx.fg h';omega
      . exact h'
     refine Tm.bind (E5 hy.bL hx.bL (by omega) hle (by omega)) ?_;rintro s ⟨hs,sl⟩;refine Tm.bind (pg hs.bL (by omega)) (fun r hr=>aS ⟨?_,by omega⟩);have hr:=hr.1;rw[hs.val,hx.val,hy.val]at hr;unfold bv;cases e:a.bF<;>cases e':b.bF<;>rw[e']at hr hn<;>rw[e]at hn
     . exact absurd rfl hn
     . simp only[if_true,mf,if_false]at hr⊢;rwa[show-(val aC b.aP-val aC a.aP)=val aC a.aP+-val aC b.aP by omega]at hr
     . simp only[if_true,mf,if_false]at hr⊢;rwa[show val aC b.aP-val aC a.aP=-val aC a.aP+val aC b.aP by omega]at hr
     . exact absurd rfl hn
theorem GU{a b:aB}(ha:bA aC a.aP)(hb:bA aC b.aP)(hl:a.aP.length<=2199023255552)(hl':b.aP.length<=2199023255552):
 Tm (fun N=>vE N a b) (fun r=>Is r (bv a-bv b)/\r.aP.length<=max a.aP.length b.aP.length+1):=by
 unfold vE;refine Tm.bind (wL hb (by omega)) ?_;rintro y ⟨hy,hyl⟩;refine Tm.bind (xk ha hy.dg.bL (by omega) (by omega)) (fun r h=>aS ⟨?_,by omega⟩);have:=h.1;rwa[hy.bv,<-F6]at this
theorem Oh{a:List Int}{d:Int}(ha:bA aW a)(h0:0<=d)(h1:d<aW)(hl:a.length<=8796093022208):Tm (fun N=>wq N a d) (fun r=>Dg aW r (val aW a*d)/\r.length<=a.length+1):=by
 unfold wq;refine Tm.bind (Q:=fun r=>bA aW r/\val aW r=val aW a*d/\r.length<=a.length+1)
  (Tm.loop (fun s:List Int×Int×Int=>∃n:Nat,s.2.2=n/\n<=a.length+1/\s.1.length=n/\bA aW s.1/\0<=s.2.1/\s.2.1<aW/\(a.length<n->s.2.1=0)/\val aW s.1+aW^n*s.2.1=val aW (a.take n)*d) (fun s=>a.length+1-s.2.2.toNat)
   ⟨0,rfl,fy _,rfl,.nil,by simp,(by decide:(0:Int)<aW),fun _=>rfl,by simp[val]⟩ ?_) ?_
 . rintro⟨out,carry,i⟩ ⟨n,rfl,hn,ho,hB,c0,c1,hc,hv⟩;dsimp only[Dm]at*;refine Tm.bind (Q:=(·=decide (n<a.length\/0<carry))) (aY (fun h=>aS ?_) (fun h=>aS ?_)) ?_
   . have:n<a.length:=by omega
     simp[this]
   . have:¬n<a.length:=by omega
     simp[this]
   rintro _ rfl;refine aY (fun h=>?_) (fun h=>aS ?_)
   . have h:=of_decide_eq_true h;have hx:=ha.getD (by decide) n;simp only[aW]at hx h1 c1;have hm:0<=a.getD n 0*d/\a.getD n 0*d<=65535*65535:=⟨eH hx.1 h0,ni (by omega) (by omega) h0 (by decide)⟩;refine Tm.bind (Q:=(·=carry+a.getD n 0*d)) (aY (fun h2=>?_) (fun h2=>aS ?_)) ?_
     . rw[fQ (l:=a) (by omega)]at*;refine aN (dd (by omega)) (aS ?_);rw[bJ (z:=_*_) (by omega) (by omega),bJ (by omega) (by omega)]
     . rw[mj (by omega)];simp
     rintro _ rfl;have hz:a.length<=n->a.getD n 0=0:=fun h=>mj (by omega);have hz':a.length<=n->a.getD n 0*d=0:=fun h=>by rw[hz h];simp
     generalize exd:a.getD n 0*d=xd at*;rw[AA (by omega),zn (by omega)];refine aN (dO (by simp only[cA,dP];omega) (by decide)) (aS ⟨⟨n+1,?_,by omega,by simp;omega,hB.append (.cons (B:=65536) (by omega) .nil),?_,?_,?_,?_⟩,?_⟩)
     . show iw ((n:Int)+1)=_;rw[bJ]<;>omega
     . show 0<=iw ((carry+xd)/65536);rw[bJ]<;>omega
     . show iw ((carry+xd)/65536)<65536;rw[bJ]<;>omega
     . intro h';show iw ((carry+xd)/65536)=0;have:=hz' (by omega);rw[bJ]<;>omega
     . show val aW (out++[(carry+xd)%65536])+aW^(n+1)*iw ((carry+xd)/65536)=_;rw[bJ (by omega) (by omega),oP,fk,ho,fi];have:=jF (carry+xd) 65536;have hw:aW=65536:=rfl;simp only[val];grind
     . show a.length+1-(iw ((n:Int)+1)).toNat<a.length+1-((n:Int)).toNat;rw[bJ]<;>omega
   . have h:¬(n<a.length\/0<carry):=fun e=>h (decide_eq_true e);rw[kB (by omega),show carry=0 by omega]at hv;exact⟨hB,by show val aW out=_;omega,by show out.length<=_;omega⟩
 . rintro r ⟨h1,h2,h3⟩;exact Tm.bind (uG h1 (by omega)) (fun r' h=>aS ⟨h2▸h.1,by omega⟩)
theorem Ff{a b:aB}(ha:bA aC a.aP)(hb:bA aC b.aP)(hl:a.aP.length<=1099511627776)(hl':b.aP.length<=1099511627776):
 Tm (fun N=>sa N a b) (fun r=>Is r (bv a*bv b)/\r.aP.length<=a.aP.length+b.aP.length):=by
 unfold sa;refine Tm.bind (oB ha (by omega)) ?_;rintro x ⟨hx,hxl⟩;refine Tm.bind (oB hb (by omega)) ?_;rintro y ⟨hy,hyl⟩;refine Tm.bind (Tm.loop (fun s:List Int×Int=>∃n:Nat,s.2=(n:Int)-1/\n<=y.length/\Dg aW s.1 (val aW x*val aW (y.drop n))/\s.1.length<=x.length+(y.length-n)) (fun s=>(s.2+1).toNat) (Q:=fun r=>Dg aW r (val aW x*val aW y)/\r.length<=x.length+y.length)
  ⟨y.length,by dsimp only;rw[bJ]<;>omega,bI _,by simpa[val]using Dg.nil,by simp⟩ ?_) ?_
 . rintro⟨sum,i⟩ ⟨n,rfl,hn,hs,hsl⟩;dsimp only[DH]at*;refine aY (fun h=>?_) (fun h=>aS ?_)
   . refine aN (dO (by simp only[cA,dP];omega) (by decide)) ?_;have hny:n-1<y.length:=by omega
     refine aN (gw (n:=n-1) (by omega) hny) ?_;have hd:=hy.bL.get hny;refine Tm.bind (Oh hx.bL hd.1 hd.2 (by omega)) ?_;rintro t ⟨ht,htl⟩;refine Tm.bind (Ax (a:=[0]++sum) (.append (.cons (by decide) .nil) hs.bL) ht.bL (by simp;omega) (by omega)) ?_;rintro r ⟨hr,hrl⟩;refine aS ⟨⟨n-1,by dsimp only;rw[bJ]<;>omega,by omega,?_,?_⟩,?_⟩
     . have e:val aW ([0]++sum)+val aW t=val aW x*val aW (y.drop (n-1)):=by
        rw[ht.val,fx hny,show n-1+1=n by omega];simp only[ME,val,hs.val];grind
       show Dg aW r _;rw[<-e];exact hr
     . show r.length<=_;have hb:val aW ([0]++sum)+val aW t<aW^(x.length+(y.length-(n-1))):=by
        have e:val aW ([0]++sum)+val aW t=val aW x*val aW (y.drop (n-1)):=by
         rw[ht.val,fx hny,show n-1+1=n by omega];simp only[ME,val,hs.val];grind
        rw[e,jE];have l1:=gW (by decide) hx.bL;have l2:=gW (by decide) (hy.bL.drop (n-1));have l3:=gF (by decide) hx.bL;have l4:=gF (by decide) (hy.bL.drop (n-1));rw[qP]at l2;exact Int.mul_lt_mul' (by omega) l2 l4 (kH (by decide) _)
       exact EK nC hr.bL hr.fg (by rw[hr.val];exact hb)
     . show(iw ((n:Int)-1-1)+1).toNat<((n:Int)-1+1).toNat;rw[bJ]<;>omega
   . have:n=0:=by omega
     subst this;exact⟨by simpa using hs,by simpa using hsl⟩
 . rintro s ⟨hs,hsl⟩;refine Tm.bind (pg hs.bL (by omega)) (fun r hr=>aS ⟨?_,by omega⟩);have hr:=hr.1;rw[hs.val,hx.val,hy.val]at hr;rw[Ke];exact hr
theorem tF{n:Int}(h1:-9223372036854775808<=n)(h2:n<=9223372036854775807):Tm (fun N=>kT N n) (fun r=>Is r n/\r.aP.length<=2):=by
 unfold kT;refine Tm.bind (Q:=(·=(n.natAbs:Int))) (aY (fun h=>aS ?_) (fun h=>aS ?_)) ?_
 . rw[bJ (z:=n+1) (by omega) (by omega),bJ (by omega) (by omega),fI,fI];omega
 . rw[fI];omega
 rintro _ rfl;refine Tm.bind (Tm.loop (fun s:Int×List Int=>∃m:Nat,m<=4/\s.2.length=m/\bA aW s.2/\0<=s.1/\s.1<aW^(4-m)/\val aW s.2+aW^m*s.1=n.natAbs) (fun s=>s.1.toNat) (Q:=fun r=>bA aW r/\val aW r=n.natAbs/\r.length<=4)
  ⟨0,by omega,rfl,.nil,by simp,by simp only[aW];omega,by simp[val]⟩ ?_) ?_
 . rintro⟨u,l⟩ ⟨m,hm,hl,hB,u0,u1,hv⟩;dsimp only[CS]at*;refine aY (fun h=>?_) (fun h=>aS ?_)
   . have hm':m≠4:=by rintro rfl;simp at u1;omega
     have hu:u<18446744073709551616:=by
      have:aW^(4-m)<=aW^4:=km (by decide) (by omega);have e:aW^4=18446744073709551616:=by decide
      omega
     rw[AA u0,zn u0];have e1:iw (u%65536)=u%65536:=by rw[bJ]<;>omega
     have e2:uw (u/65536)=u/65536:=by rw[fI];omega
     rw[e1,e2];refine aN (dO (by simp only[cA,dP];omega) (by decide)) (aS ⟨⟨m+1,by omega,by simp;omega,hB.append (.cons (B:=65536) (by omega) .nil),?_,?_,?_⟩,?_⟩)
     . show 0<=u/65536;omega
     . show u/65536<aW^(4-(m+1));have e:aW^(4-m)=aW^(4-(m+1))*65536:=by rw[show 4-m=4-(m+1)+1 by omega,fi]
       rw[e]at u1;exact F8 (by decide) u1
     . show val aW (l++[u%65536])+aW^(m+1)*(u/65536)=_;rw[oP,hl,fi];have:=jF u 65536;have hw:aW=65536:=rfl;simp only[val];grind
     . show(u/65536).toNat<u.toNat;omega
   . have:u=0:=by omega
     subst this;exact⟨hB,by show val aW l=_;simpa using hv,by show l.length<=4;omega⟩
 . rintro l ⟨hB,hv,hl⟩;refine Tm.bind (pg hB (by omega)) (fun r hr=>aS ⟨?_,by omega⟩);have hr:=hr.1;rw[hv]at hr;by_cases hn:n<0
   . simp only[hn,decide_true,if_true]at hr;rwa[show-(n.natAbs:Int)=n by omega]at hr
   . simp only[hn,decide_false,mf,if_false]at hr;rwa[show(n.natAbs:Int)=n by omega]at hr
open Go Go.X
def DR(N:Nat)(c:Constraint)(n:Int):(Int×Int)->Option (aK (Int×Int) (Sum Unit Bool))
 |(d,a)=>(if(a:Int)<(List.length c.Linear.aZ:Int)then (idx c.Linear.aZ a).bind fun b=>(((if(b.Var:Int)<=d then some true else some (decide ((b.Var:Int)≥n))):Option Bool)).bind fun ss=>match ss with
    |e=>(if e=true then some (aK.done (Sum.inr false)) else some (aK.next (b.Var,(iw (a+1))))) else some (aK.done (Sum.inl ())))
def vq(N:Nat)(c:Constraint)(n:Int):Option Bool:=(bK (DR N c n) N ((-1),0)).bind fun ss=>match ss with
  |(Sum.inl _)=>(if(n:Int)≥0 then some (decide ((n:Int)<=512)) else some false)
  |(Sum.inr a)=>some a
def FA(N:Nat)(l:(List aB)):((List aB)×Int)->Option (aK ((List aB)×Int) (List aB))
 |(b,a)=>(if(a:Int)<(List.length l:Int)then (idx l a).bind fun c=>(ji N c).bind fun d=>(cP 32 b [d]).bind fun e=>some (aK.next (e,(iw (a+1)))) else some (aK.done b))
def wO(N:Nat)(l:(List aB))(bound:aB):Option bB:=(lC N bound).bind fun a=>(bK (FA N l) N (([]:(List aB)),0)).bind fun ss=>match ss with
  |b=>some (bB.mk b a)
def Dl(N:Nat)(c:Constraint):((List aB)×Int)->Option (aK ((List aB)×Int) (List aB))
 |(a,b)=>(if(b:Int)<(List.length c.Linear.aZ:Int)then (idx c.Linear.aZ b).bind fun d=>(fL N d.N).bind fun e=>(idx a d.Var).bind fun g=>(di a d.Var e).bind fun f=>some (aK.next (f,(iw (b+1)))) else some (aK.done a))
def cOf(N:Nat)(c:Constraint)(n:Int):Option (List bB):=(vq N c n).bind fun r6=>(if(!r6)=true then some ([]:(List bB)) else (fX (α:=aB) 32 (aB.mk false []) n).bind fun d=>(fL N c.Linear.Const).bind fun e=>(ji N e).bind fun b=>(bK (Dl N c) N (d,0)).bind fun ss=>match ss with
   |a=>(if(!c.iI)=true then some [(bB.mk a b)] else (fL N c.Linear.Const).bind fun f=>(wO N a f).bind fun g=>some [(bB.mk a b),g]))
def CU(N:Nat)(l:(List Constraint))(n:Int):((List bB)×Int)->Option (aK ((List bB)×Int) (Sum (List bB) (List bB)))
 |(b,a)=>(if(a:Int)<(List.length l:Int)then (idx l a).bind fun c=>(vq N c n).bind fun d=>(if(!d)=true then some (aK.done (Sum.inr ([]:(List bB)))) else (cOf N c n).bind fun e=>(cP 56 b e).bind fun f=>some (aK.next (f,(iw (a+1))))) else some (aK.done (Sum.inl b)))
def um(N:Nat)(l:(List Constraint))(n:Int):Option (List bB):=(bK (CU N l n) N (([]:(List bB)),0)).bind fun ss=>match ss with
  |(Sum.inl a)=>some a
  |(Sum.inr b)=>some b
def zf(N:Nat)(s:(List bB)):Option (List bB):=(cP 56 ([]:(List bB)) s).bind fun a=>some a
def Bz(N:Nat)(s:(List bB)):Option (List bB):= some s
open Go Go.X
def tE(N:Nat)(n:Int):Option bB:=(fX (α:=aB) 32 (aB.mk false []) n).bind fun x7=>some (bB.mk x7 (aB.mk false ([]:(List Int))))
def Ei(N:Nat)(c:Constraint)(n:Int):Int->Option (aK Int (Sum Unit Bool))
 |a=>(if(a:Int)<(List.length c.Linear.aZ:Int)then (idx c.Linear.aZ a).bind fun b=>(((if(b.Var:Int)<0 then some true else (if(b.Var:Int)≥n then some true else (if(a:Int)>0 then (idx c.Linear.aZ (iw (a-1))).bind fun d=>some (decide ((b.Var:Int)<=d.Var)) else some false))):Option Bool)).bind fun ss=>match ss with
    |e=>(if e=true then some (aK.done (Sum.inr false)) else some (aK.next (iw (a+1)))) else some (aK.done (Sum.inl ())))
def q9(N:Nat)(c:Constraint)(n:Int):Option Bool:=(bK (Ei N c n) N 0).bind fun ss=>match ss with
  |(Sum.inl _)=>(if(n:Int)≥0 then some (decide ((n:Int)<=512)) else some false)
  |(Sum.inr a)=>some a
def zx(N:Nat)(q:bB):((List aB)×Int)->Option (aK ((List aB)×Int) (List aB))
 |(b,a)=>(if(a:Int)<(List.length q.aZ:Int)then (idx q.aZ a).bind fun c=>(qa N c).bind fun d=>(cP 32 b [d]).bind fun e=>some (aK.next (e,(iw (a+1)))) else some (aK.done b))
def qb(N:Nat)(q:bB)(bound:aB):Option bB:=(yc N bound).bind fun a=>(bK (zx N q) N (([]:(List aB)),0)).bind fun ss=>match ss with
  |b=>some (bB.mk b a)
def EC(N:Nat)(c:Constraint):((List aB)×Int)->Option (aK ((List aB)×Int) (List aB))
 |(b,a)=>(if(a:Int)<(List.length c.Linear.aZ:Int)then (idx c.Linear.aZ a).bind fun d=>(idx c.Linear.aZ a).bind fun e=>(kT N e.N).bind fun f=>(idx b d.Var).bind fun i=>(di b d.Var f).bind fun g=>some (aK.next (g,(iw (a+1)))) else some (aK.done b))
def xB(N:Nat)(c:Constraint)(n:Int):Option (List bB):=(q9 N c n).bind fun r6=>(if(!r6)=true then some ([]:(List bB)) else (tE N n).bind fun e=>(bK (EC N c) N (e.aZ,0)).bind fun ss=>match ss with
   |a=>(kT N c.Linear.Const).bind fun d=>(qa N d).bind fun b=>(if(!c.iI)=true then some [(bB.mk a b)] else (qb N (bB.mk a b) d).bind fun f=>some [(bB.mk a b),f]))
def Db(N:Nat)(l:(List Constraint))(n:Int):((List bB)×Int)->Option (aK ((List bB)×Int) (Sum (List bB) (List bB)))
 |(b,a)=>(if(a:Int)<(List.length l:Int)then (idx l a).bind fun c=>(q9 N c n).bind fun d=>(if(!d)=true then some (aK.done (Sum.inr ([]:(List bB)))) else (idx l a).bind fun e=>(xB N e n).bind fun f=>(cP 56 b f).bind fun g=>some (aK.next (g,(iw (a+1))))) else some (aK.done (Sum.inl b)))
def wb(N:Nat)(l:(List Constraint))(n:Int):Option (List bB):=(bK (Db N l n) N (([]:(List bB)),0)).bind fun ss=>match ss with
  |(Sum.inl a)=>some a
  |(Sum.inr b)=>some b
def vR(N:Nat)(l:(List bB)):Int->Option (aK Int (Sum Unit Bool))
 |a=>(if(a:Int)<(List.length l:Int)then (idx l a).bind fun b=>(idx l 0).bind fun c=>(if((List.length b.aZ:Int):Int)≠(List.length c.aZ:Int)then some (aK.done (Sum.inr false)) else some (aK.next (iw (a+1)))) else some (aK.done (Sum.inl ())))
def uK(N:Nat)(l:(List bB)):Option Bool:=(bK (vR N l) N 0).bind fun ss=>match ss with
  |(Sum.inl _)=>some true
  |(Sum.inr a)=>some a
def vT(N:Nat)(c:Int)(d:dQ)(e:bB):((List aB)×Int)->Option (aK ((List aB)×Int) (List aB))
 |(b,a)=>(if(a:Int)<c then (idx b a).bind fun f=>(idx e.aZ a).bind fun g=>(sa N g d.N).bind fun i=>(oS N f i).bind fun j=>(idx b a).bind fun l=>(di b a j).bind fun k=>some (aK.next (k,(iw (a+1)))) else some (aK.done b))
def Ew(N:Nat)(l:(List bB))(s:Step)(i:Int):((List aB)×Bool×(List Int)×Int)->Option (aK ((List aB)×Bool×(List Int)×Int) (Sum ((List aB)×Bool×(List Int)) (bB×Bool)))
 |(c,d,e,b)=>(if(b:Int)<(List.length s.Uses:Int)then (idx s.Uses b).bind fun a=>(((if(a.Index:Int)<0 then some true else (if(a.Index:Int)≥(List.length l:Int)then some true else (kG N a.N).bind fun j=>some (decide ((j:Int)<0)))):Option Bool)).bind fun ss=>match ss with
    |k=>(if k=true then some (aK.done (Sum.inr ((bB.mk [] (aB.mk false [])),false))) else (idx l a.Index).bind fun f=>(bK (vT N i a f) N (c,0)).bind fun ss=>match ss with
       |m=>(sa N f.dz a.N).bind fun n=>(oS N (aB.mk d e) n).bind fun g=>some (aK.next (m,g.bF,g.aP,(iw (b+1))))) else some (aK.done (Sum.inl (c,d,e))))
def wV(N:Nat)(s:Step)(d:Int):((List aB)×Int)->Option (aK ((List aB)×Int) (Sum (List aB) (bB×Bool)))
 |(b,a)=>(if(a:Int)<d then (idx b a).bind fun e=>(tC N e s.fY).bind fun c=>(kG N c.2.1).bind fun f=>(if(f:Int)≠0 then some (aK.done (Sum.inr ((bB.mk [] (aB.mk false [])),false))) else (idx b a).bind fun i=>(di b a c.1).bind fun g=>some (aK.next (g,(iw (a+1))))) else some (aK.done (Sum.inl b)))
def xi(N:Nat)(l:(List bB))(s:Step):Option (bB×Bool):=(((uK N l).bind fun c=>(if(!c)=true then some true else (kG N s.fY).bind fun d=>some (decide ((d:Int)<=0))):Option Bool)).bind fun ss=>match ss with
  |e=>(if e=true then some ((bB.mk [] (aB.mk false [])),false) else (((if((List.length l:Int):Int)>0 then (idx l 0).bind fun f=>some (List.length f.aZ:Int) else some 0):Option Int)).bind fun ss=>match ss with
     |a=>(tE N a).bind fun b=>(bK (Ew N l s a) N (b.aZ,b.dz.bF,b.dz.aP,0)).bind fun ss=>match ss with
       |(Sum.inl (g,i,j))=>(bK (wV N s a) N (g,0)).bind fun ss=>match ss with
         |(Sum.inl k)=>(tC N (aB.mk i j) s.fY).bind fun m=>some ((bB.mk k m.1),true)
         |(Sum.inr n)=>some n
       |(Sum.inr o)=>some o)
def xe(N:Nat)(q:bB):Int->Option (aK Int (Sum Unit Bool))
 |a=>(if(a:Int)<(List.length q.aZ:Int)then (idx q.aZ a).bind fun b=>(kG N b).bind fun c=>(if(c:Int)≠0 then some (aK.done (Sum.inr false)) else some (aK.next (iw (a+1)))) else some (aK.done (Sum.inl ())))
def xt(N:Nat)(q:bB):Option Bool:=(bK (xe N q) N 0).bind fun ss=>match ss with
  |(Sum.inl _)=>(kG N q.dz).bind fun a=>some (decide ((a:Int)<0))
  |(Sum.inr b)=>some b
def BB(N:Nat)(p:Proof):((List bB)×Int)->Option (aK ((List bB)×Int) (Sum (List bB) Bool))
 |(a,b)=>(if(b:Int)<(List.length p.Steps:Int)then (idx p.Steps b).bind fun d=>(xi N a d).bind fun c=>(if(!c.2)=true then some (aK.done (Sum.inr false)) else (cP 56 a [c.1]).bind fun e=>some (aK.next (e,(iw (b+1))))) else some (aK.done (Sum.inl a)))
def EV(N:Nat)(b:(List bB)):Int->Option (aK Int (Sum Unit Bool))
 |a=>(if(a:Int)<(List.length b:Int)then (idx b a).bind fun c=>(xt N c).bind fun d=>(if d=true then some (aK.done (Sum.inr true)) else some (aK.next (iw (a+1)))) else some (aK.done (Sum.inl ())))
def sV(N:Nat)(self:(List bB)->Proof->Option Bool)(l:(List bB))(p:Proof):Option Bool:=(uK N l).bind fun r6=>(if(!r6)=true then some false else (cP 56 ([]:(List bB)) l).bind fun b=>(bK (BB N p) N (b,0)).bind fun ss=>match ss with
   |(Sum.inl a)=>(if((List.length p.lO:Int):Int)=0 then (bK (EV N a) N 0).bind fun ss=>match ss with
      |(Sum.inl _)=>some false
      |(Sum.inr c)=>some c else (((if((List.length p.lO:Int):Int)≠2 then some true else (if((List.length a:Int):Int)>0 then (idx a 0).bind fun d=>some (decide (((List.length p.Form:Int):Int)≠(List.length d.aZ:Int))) else some false)):Option Bool)).bind fun ss=>match ss with
      |e=>(if e=true then some false else (qa N p.dz).bind fun f=>(kT N 1).bind fun g=>(vE N f g).bind fun i=>(qb N (bB.mk p.Form p.dz) i).bind fun j=>(cP 56 ([]:(List bB)) a).bind fun k=>(cP 56 k [(bB.mk p.Form p.dz)]).bind fun m=>(cP 56 ([]:(List bB)) a).bind fun n=>(cP 56 n [j]).bind fun o=>(idx p.lO 0).bind fun s=>(self m s).bind fun u=>(if u=true then (idx p.lO 1).bind fun v=>(self o v).bind fun y=>some y else some false)))
   |(Sum.inr a0)=>some a0)
def sC:Nat->(List bB)->Proof->Option Bool
 |0=>fun _ _=>none
 |N+1=>sV N (sC N)
open Go Go.X
def js(K:Nat)(x:aB):Prop:=bA aC x.aP/\x.aP.length<=K
def p9(K:Nat)(q:bB):Prop:=q.aZ.length<=K/\(∀b∈q.aZ,js K b)/\js K q.dz
theorem js.mono{K K':Nat}{x:aB}(h:js K x)(hK:K<=K'):js K' x:=⟨h.1,by have:=h.2;omega⟩
theorem js.nil{K:Nat}{b:Bool}:js K ⟨b,[]⟩:=⟨.nil,fy _⟩
abbrev eM:aB:=⟨false,[]⟩
theorem Uh{b:Bool}:bv ⟨b,[]⟩=0:=by cases b<;>rfl
theorem Is.ok{x:aB}{v:Int}{K:Nat}(h:Is x v)(hl:x.aP.length<=K):js K x:=⟨h.dg.bL,hl⟩
theorem Tm.each{α β:Type}{body:Nat->Int->Option (aK Int (Sum Unit β))}(xs:List α)(P:α->Prop){Q:Sum Unit β->Prop}(hl:xs.length<=9223372036854775807)
 (step:∀(n:Nat) (hn:n<xs.length),(∀j,(hj:j<xs.length)->j<n->P xs[j])->Tm (fun N=>body N (n:Int)) (fun t=>(t=.next (iw ((n:Int)+1))/\P xs[n])\/(∃b,t=.done (.inr b)/\Q (.inr b))))
 (fin:(∀x∈xs,P x)->Tm (fun N=>body N (xs.length:Int)) (fun t=>∃r,t=.done r/\Q r)):Tm (fun N=>bK (body N) N 0) Q:=by
 refine Tm.loop (fun i:Int=>∃n:Nat,i=n/\n<=xs.length/\∀j,(hj:j<xs.length)->j<n->P xs[j]) (fun i:Int=>xs.length-i.toNat) ⟨0,rfl,fy _,fun _ _ h=>absurd h (by omega)⟩ ?_;rintro _ ⟨n,rfl,hn,hP⟩;rcases cv n xs.length with h|h
 . refine(step n h hP).mono ?_;rintro t (⟨rfl,hp⟩|⟨b,rfl,hq⟩)
   . refine⟨⟨n+1,by rw[bJ]<;>omega,by omega,fun j hj hlt=>?_⟩,?_⟩
     . rcases cv j n with h'|h'
       . exact hP j hj h'
       . obtain rfl:j=n:=by omega
         exact hp
     . show xs.length-(iw ((n:Int)+1)).toNat<xs.length-((n:Int)).toNat;rw[bJ]<;>omega
   . exact hq
 . obtain rfl:n=xs.length:=by omega
   refine(fin fun x hx=>?_).mono ?_
   . obtain⟨j,hj,rfl⟩:=F0.1 hx;exact hP j hj hj
   . rintro t ⟨r,rfl,hq⟩;exact hq
theorem qU{l:List aB}{n:Nat}(h:n<l.length):l.getD n eM=l[n]:=by rw[cy,bV h];rfl
theorem D6{a b:Int}:bM a b<=0↔a<=b:=by unfold bM;(repeat' split)<;>omega
def wZ(q:bB):Bool:=decide ((∀b∈q.aZ,bv b=0)/\bv q.dz<0)
theorem Bq{a:Int}:bM a 0=0↔a=0:=by unfold bM;(repeat' split)<;>omega
theorem yC{a:Int}:bM a 0<0↔a<0:=by unfold bM;(repeat' split)<;>omega
theorem Ou{K:Nat}{q:bB}(hK:K<=1073741824)(hq:p9 K q):Tm (fun N=>xt N q) (fun r=>r=wZ q):=by
 unfold xt wZ;have hlK:=hq.1;refine Tm.bind (Tm.each (body:=fun N=>xe N q) q.aZ (fun b=>bv b=0) (Q:=fun r=>(r=.inr false/\¬∀b∈q.aZ,bv b=0)\/(r=.inl ()/\∀b∈q.aZ,bv b=0)) (by omega) ?_ ?_) ?_
 . intro n hn _;unfold xe;have h1:=hq.2.1 _ (du hn);refine cT (by omega) (aN (dd hn) (Tm.bind (nH h1.1 (by have:=h1.2;omega)) ?_));rintro _ rfl;refine aY (fun h=>aS (.inr ⟨_,rfl,.inl ⟨rfl,fun h'=>h (Bq.2 (h' _ (du hn)))⟩⟩)) (fun h=>aS (.inl ⟨rfl,Bq.1 (by omega)⟩))
 . intro h;unfold xe;exact cz (by omega) (aS ⟨_,rfl,.inr ⟨rfl,h⟩⟩)
 . rintro _ (⟨rfl,h⟩|⟨rfl,h⟩)
   . refine aS ?_;simp only[h,false_and,decide_false]
   . refine Tm.bind (nH hq.2.2.1 (by have:=hq.2.2.2;omega)) ?_;rintro _ rfl;refine aS ?_;simp only[yC];exact decide_eq_decide.2 ⟨fun h'=>⟨h,h'⟩,fun h'=>h'.2⟩
open Go Go.X
def fM(c:Constraint)(n:Int):Prop:=(∀i,(h:i<c.Linear.aZ.length)->0<=c.Linear.aZ[i].Var/\c.Linear.aZ[i].Var<n/\(∀(_:0<i),(c.Linear.aZ[i-1]'(by omega)).Var<c.Linear.aZ[i].Var))/\0<=n/\n<=512
theorem Hh{c:Constraint}{n:Int}(hl:c.Linear.aZ.length<=9223372036854775807):Tm (fun N=>vq N c n) (fun r=>r=true↔fM c n):=by
 unfold vq;generalize hcs:c.Linear.aZ=cs at hl;have hR:fM c n↔((∀i,(h:i<cs.length)->0<=cs[i].Var/\cs[i].Var<n/\(∀(_:0<i),(cs[i-1]'(by omega)).Var<cs[i].Var))/\0<=n/\n<=512):=by subst hcs;rfl
 refine Tm.bind (Tm.loop (fun s:Int×Int=>∃k:Nat,s.2=k/\k<=cs.length/\(k=0->s.1=-1)/\(∀h:0<k/\k-1<cs.length,s.1=cs[k-1].Var)/\∀i,(h:i<cs.length)->i<k->0<=cs[i].Var/\cs[i].Var<n/\(∀(_:0<i),(cs[i-1]'(by omega)).Var<cs[i].Var)) (fun s=>cs.length-s.2.toNat)
  (Q:=fun r=>(r=.inl ()/\∀i,(h:i<cs.length)->0<=cs[i].Var/\cs[i].Var<n/\(∀(_:0<i),(cs[i-1]'(by omega)).Var<cs[i].Var))\/(r=.inr false/\¬fM c n)) ⟨0,rfl,fy _,fun _=>rfl,fun h=>absurd h.1 (by omega),fun i _ h=>absurd h (by omega)⟩ ?_) ?_
 . rintro⟨last,i⟩ ⟨k,rfl,hk,h0,h1,hP⟩;dsimp only[DR]at*;rw[hcs];refine aY (fun h=>?_) (fun h=>aS (.inl ⟨rfl,fun i hi=>hP i hi (by omega)⟩));have hkl:k<cs.length:=by omega
   refine aN (dd hkl) (Tm.bind (Q:=(·=decide (cs[k].Var<=last\/cs[k].Var≥n))) (aY (fun h=>aS ?_) (fun h=>aS ?_)) ?_)
   . simp[h]
   . simp[h]
   rintro _ rfl;refine aY (fun h=>aS (.inr ⟨rfl,fun hr=>?_⟩)) (fun h=>aS ⟨⟨k+1,by dsimp only;rw[bJ]<;>omega,by omega,fun h=>by omega,fun _=>rfl,fun i hi hik=>?_⟩,?_⟩)
   . have h:=of_decide_eq_true h;have:=(hR.1 hr).1 k hkl;rcases gv k with h'|h'
     . have:=h0 h';omega
     . have h2:=this.2.2 h';have h3:=h1 ⟨h',by omega⟩;omega
   . have h:¬(cs[k].Var<=last\/cs[k].Var≥n):=fun e=>h (decide_eq_true e);rcases cv i k with h'|h'
     . exact hP i hi h'
     . obtain rfl:i=k:=by omega
       rcases gv i with h'|h'
       . have:=h0 h';exact⟨by omega,by omega,fun e=>by omega⟩
       . have h3:=h1 ⟨h',by omega⟩;have h4:=hP (i-1) (by omega) (by omega);exact⟨by omega,by omega,fun _=>by omega⟩
   . show cs.length-(iw ((k:Int)+1)).toNat<cs.length-((k:Int)).toNat;rw[bJ]<;>omega
 . rintro _ (⟨rfl,h⟩|⟨rfl,h⟩)
   . refine aY (fun h1=>aS ?_) (fun h1=>aS ?_)
     . rw[hR];simp only[decide_eq_true_eq];exact⟨fun h2=>⟨h,by omega,h2⟩,fun h2=>h2.2.2⟩
     . rw[hR];exact⟨fun h2=>(by cases h2),fun h2=>absurd h2.2.1 (by omega)⟩
   . exact aS ⟨fun h'=>(by cases h'),fun h'=>absurd h' h⟩
theorem Dx{c:Constraint}{n:Int}(hl:c.Linear.aZ.length<=9223372036854775807):Tm (fun N=>q9 N c n) (fun r=>r=true↔fM c n):=by
 unfold q9;generalize hcs:c.Linear.aZ=cs at hl;have hR:fM c n↔((∀i,(h:i<cs.length)->0<=cs[i].Var/\cs[i].Var<n/\(∀(_:0<i),(cs[i-1]'(by omega)).Var<cs[i].Var))/\0<=n/\n<=512):=by subst hcs;rfl
 refine Tm.bind (Tm.loop (fun s:Int=>∃k:Nat,s=k/\k<=cs.length/\∀i,(h:i<cs.length)->i<k->0<=cs[i].Var/\cs[i].Var<n/\(∀(_:0<i),(cs[i-1]'(by omega)).Var<cs[i].Var)) (fun s=>cs.length-s.toNat)
  (Q:=fun r=>(r=.inl ()/\∀i,(h:i<cs.length)->0<=cs[i].Var/\cs[i].Var<n/\(∀(_:0<i),(cs[i-1]'(by omega)).Var<cs[i].Var))\/(r=.inr false/\¬fM c n)) ⟨0,rfl,fy _,fun i _ h=>absurd h (by omega)⟩ ?_) ?_
 . rintro _ ⟨k,rfl,hk,hP⟩;dsimp only[Ei]at*;rw[hcs];refine aY (fun h=>?_) (fun h=>aS (.inl ⟨rfl,fun i hi=>hP i hi (by omega)⟩));have hkl:k<cs.length:=by omega
   refine aN (dd hkl) (Tm.bind (Q:=fun r=>r=true↔¬(0<=cs[k].Var/\cs[k].Var<n/\(∀(_:0<k),(cs[k-1]'(by omega)).Var<cs[k].Var))) (aY (fun h=>aS ?_) (fun h=>aY (fun h'=>aS ?_) (fun h'=>aY (fun h2=>?_) (fun h2=>aS ?_)))) ?_)
   . exact⟨fun _ e=>by omega,fun _=>rfl⟩
   . exact⟨fun _ e=>by omega,fun _=>rfl⟩
   . refine aN (gw (n:=k-1) (by rw[bJ]<;>omega) (by omega)) (aS ?_);simp only[decide_eq_true_eq];exact⟨fun e e'=>by have:=e'.2.2 (by omega);omega,fun e=>by
      rcases qS (cs[k-1]'(by omega)).Var cs[k].Var with e'|e'
      . exact absurd ⟨by omega,by omega,fun _=>e'⟩ e
      . exact e'⟩
   . exact⟨fun e=>(by cases e),fun e=>absurd ⟨by omega,by omega,fun e'=>absurd e' (by omega)⟩ e⟩
   intro r hr;refine aY (fun h=>aS (.inr ⟨rfl,fun hr'=>hr.1 h ((hR.1 hr').1 k hkl)⟩)) (fun hf=>aS ⟨⟨k+1,by rw[bJ]<;>omega,by omega,fun i hi hik=>?_⟩,?_⟩)
   . rcases cv i k with h'|h'
     . exact hP i hi h'
     . obtain rfl:i=k:=by omega
       exact jD fun e=>hf (hr.2 e)
   . show cs.length-(iw ((k:Int)+1)).toNat<cs.length-((k:Int)).toNat;rw[bJ]<;>omega
 . rintro _ (⟨rfl,h⟩|⟨rfl,h⟩)
   . refine aY (fun h1=>aS ?_) (fun h1=>aS ?_)
     . rw[hR];simp only[decide_eq_true_eq];exact⟨fun h2=>⟨h,by omega,h2⟩,fun h2=>h2.2.2⟩
     . rw[hR];exact⟨fun h2=>(by cases h2),fun h2=>absurd h2.2.1 (by omega)⟩
   . exact aS ⟨fun h'=>(by cases h'),fun h'=>absurd h' h⟩
def eW(xs:List aB)(vs:List Int):Prop:=xs.length=vs.length/\∀j,(h:j<xs.length)->(h':j<vs.length)->Is xs[j] vs[j]
theorem eW.uniq{xs ys:List aB}{vs:List Int}(h:eW xs vs)(h':eW ys vs):xs=ys:=by
 apply pK (h.1.trans h'.1.symm);intro i h1 h2;exact(h.2 i h1 (by rw[<-h.1];exact h1)).uniq (h'.2 i h2 (by rw[<-h.1];exact h1))
theorem eW.nil:eW [] []:=⟨rfl,fun j h=>absurd h (by simp)⟩
theorem is0:Is eM 0:=⟨Dg.nil,rfl⟩
theorem eW.df{n:Nat}:eW (List.replicate n eM) (List.replicate n 0):=⟨by simp,fun j h h'=>by simpa using is0⟩
theorem eW.set{xs:List aB}{vs:List Int}(h:eW xs vs){k:Nat}{x:aB}{v:Int}(hx:Is x v):eW (xs.set k x) (vs.set k v):=by
 refine⟨by simpa using h.1,fun j h1 h2=>?_⟩;by_cases hj:k=j
 . subst hj;simpa using hx
 . rw[F7 hj,F7 hj];exact h.2 j (by simpa using h1) (by simpa using h2)
theorem eW.snoc{xs:List aB}{vs:List Int}(h:eW xs vs){x:aB}{v:Int}(hx:Is x v):eW (xs++[x]) (vs++[v]):=by
 refine⟨by simp[h.1],fun j h1 h2=>?_⟩;rcases cv j xs.length with hj|hj
 . rw[MH hj,MH (by rw[<-h.1];exact hj)];exact h.2 j hj _
 . simp only[cZ,ko]at h1 h2;have hj':j=xs.length:=by omega
   have hj2:j=vs.length:=by rw[<-h.1];exact hj'
   have e1:(xs++[x])[j]?=some x:=by rw[hj'];simp
   have e2:(vs++[v])[j]?=some v:=by rw[hj2];simp
   rw[(dR.1 e1).2,(dR.1 e2).2];exact hx
theorem Is.len{x:aB}{v:Int}(h:Is x v){k:Nat}(hv:(v.natAbs:Int)<aC^k):x.aP.length<=k:=EK mJ h.dg.bL h.dg.fg (by rw[h.dg.val];exact hv)
def pz(q:bB)(vs:List Int)(b:Int):Prop:=eW q.aZ vs/\Is q.dz b
theorem pz.uniq{p q:bB}{vs:List Int}{b:Int}(h:pz p vs b)(h':pz q vs b):p=q:=by
 have h1:=h.1.uniq h'.1;have h2:=h.2.uniq h'.2;cases p;cases q;simp_all
def gm(z:Int):Prop:=-9223372036854775808<=z/\z<=9223372036854775807
structure np (c:Constraint):Prop where
 len:c.Linear.aZ.length<=9223372036854775807
 const:gm c.Linear.Const
 lY:∀k∈c.Linear.aZ,gm k.N
def pX(l:List Int)(k:jK):List Int:=l.set k.Var.toNat k.N
def fU(c:Constraint)(n:Int)(k:Nat):List Int:=(c.Linear.aZ.take k).foldl pX (List.replicate n.toNat 0)
theorem wY{c:Constraint}{n:Int}{k:Nat}(h:k<c.Linear.aZ.length):fU c n (k+1)=pX (fU c n k) c.Linear.aZ[k]:=by
 unfold fU;rw[pJ h,MI];rfl
theorem rG{c:Constraint}{n:Int}{k:Nat}:(fU c n k).length=n.toNat:=by
 unfold fU;generalize c.Linear.aZ.take k=l;have:∀(l:List jK) (v:List Int),(l.foldl pX v).length=v.length:=by
  intro l
  induction l with
  |nil=>intro v;rfl
  |cons x l ih=>intro v;rw[List.foldl_cons,ih];simp[pX]
 rw[this];simp
def nQ(c:Constraint)(n:Int)(r:List bB):Prop:=(¬fM c n/\r=[])\/(fM c n/\∃q,pz q (fU c n c.Linear.aZ.length) (-c.Linear.Const)/\((c.iI=false/\r=[q])\/(c.iI=true/\∃q',pz q' ((fU c n c.Linear.aZ.length).map (fun v=>-v)) c.Linear.Const/\r=[q,q'])))
theorem nQ.uniq{c:Constraint}{n:Int}{r s:List bB}(h:nQ c n r)(h':nQ c n s):r=s:=by
 rcases h with⟨h1,rfl⟩|⟨h1,q,hq,h2⟩<;>rcases h' with⟨g1,rfl⟩|⟨g1,q',gq,g2⟩
 . rfl
 . exact absurd g1 h1
 . exact absurd h1 g1
 . have e:=hq.uniq gq;subst e;rcases h2 with⟨h3,rfl⟩|⟨h3,p,hp,rfl⟩<;>rcases g2 with⟨g3,rfl⟩|⟨g3,p',gp,rfl⟩
   . rfl
   . rw[h3]at g3;cases g3
   . rw[h3]at g3;cases g3
   . rw[hp.uniq gp]
theorem Bg{z:Int}{x:aB}(h:Is x z)(hz:gm z):bA aC x.aP/\x.aP.length<=2:=⟨h.dg.bL,h.len (by unfold gm at hz;have e:aC^2=18446744073709551616:=(by decide);omega)⟩
theorem Tv{l:List aB}{vs:List Int}{bound:aB}{z:Int}(hl:eW l vs)(hv:∀v∈vs,gm v)(hb:Is bound z)(hz:gm z)(hn:l.length<=512):Tm (fun N=>wO N l bound) (fun r=>pz r (vs.map (fun v=>-v)) z):=by
 unfold wO;refine Tm.bind (px hb.dg.bL (by have:=(Bg hb hz).2;omega)) ?_;rintro b ⟨hb',-⟩;rw[hb.bv]at hb';refine Tm.bind (Tm.loop (fun s:List aB×Int=>∃k:Nat,s.2=k/\k<=l.length/\eW s.1 ((vs.take k).map (fun v=>-v))) (fun s=>l.length-s.2.toNat) (Q:=fun r=>eW r (vs.map (fun v=>-v))) ⟨0,rfl,fy _,by simpa using eW.nil⟩ ?_) (fun r h=>aS ⟨h,hb'⟩);rintro⟨cs,i⟩ ⟨k,rfl,hk,h⟩;have hlv:=hl.1;dsimp only[FA]at*;refine aY (fun h1=>?_) (fun h1=>aS ?_)
 . have hkl:k<l.length:=by omega
   have hx:=hl.2 k hkl (by omega);have hxv:=hv _ (du (show k<vs.length by omega));refine aN (dd hkl) (Tm.bind (Ae hx.dg.bL (by have:=(Bg hx hxv).2;omega)) ?_);rintro m ⟨hm,-⟩;rw[hx.bv]at hm;have hcl:=h.1;simp only[cN,eR]at hcl;refine aN (dO (by simp only[cA,dP];omega) (by decide)) (aS ⟨⟨k+1,by dsimp only;rw[bJ]<;>omega,by omega,?_⟩,?_⟩)
   . rw[pJ (by omega),jV];exact h.snoc hm
   . show l.length-(iw ((k:Int)+1)).toNat<l.length-((k:Int)).toNat;rw[bJ]<;>omega
 . show eW cs _;rwa[fh (by omega)]at h
theorem OV{q:bB}{vs:List Int}{bound:aB}{z:Int}(hl:eW q.aZ vs)(hv:∀v∈vs,gm v)(hb:Is bound z)(hz:gm z)(hn:q.aZ.length<=512):Tm (fun N=>qb N q bound) (fun r=>pz r (vs.map (fun v=>-v)) z):=by
 unfold qb;refine Tm.bind (Hd hb.dg.bL (by have:=(Bg hb hz).2;omega)) ?_;rintro b ⟨hb',-⟩;rw[hb.bv]at hb';refine Tm.bind (Tm.loop (fun s:List aB×Int=>∃k:Nat,s.2=k/\k<=q.aZ.length/\eW s.1 ((vs.take k).map (fun v=>-v))) (fun s=>q.aZ.length-s.2.toNat) (Q:=fun r=>eW r (vs.map (fun v=>-v))) ⟨0,rfl,fy _,by simpa using eW.nil⟩ ?_) (fun r h=>aS ⟨h,hb'⟩);rintro⟨cs,i⟩ ⟨k,rfl,hk,h⟩;have hlv:=hl.1;dsimp only[zx]at*;refine aY (fun h1=>?_) (fun h1=>aS ?_)
 . have hkl:k<q.aZ.length:=by omega
   have hx:=hl.2 k hkl (by omega);have hxv:=hv _ (du (show k<vs.length by omega));refine aN (dd hkl) (Tm.bind (wL hx.dg.bL (by have:=(Bg hx hxv).2;omega)) ?_);rintro m ⟨hm,-⟩;rw[hx.bv]at hm;have hcl:=h.1;simp only[cN,eR]at hcl;refine aN (dO (by simp only[cA,dP];omega) (by decide)) (aS ⟨⟨k+1,by dsimp only;rw[bJ]<;>omega,by omega,?_⟩,?_⟩)
   . rw[pJ (by omega),jV];exact h.snoc hm
   . show q.aZ.length-(iw ((k:Int)+1)).toNat<q.aZ.length-((k:Int)).toNat;rw[bJ]<;>omega
 . show eW cs _;rwa[fh (by omega)]at h
theorem Ak{c:Constraint}{n:Int}{k:Nat}(hc:np c):∀v∈fU c n k,gm v:=by
 induction k with
 |zero=>
  intro v hv;simp only[fU,MJ,MK]at hv;rw[(yo.1 hv).2];unfold gm;omega
 |succ k ih=>
  rcases cv k c.Linear.aZ.length with h|h
  . rw[wY h];intro v hv;rcases pH hv with hv|rfl
    . exact ih v hv
    . exact hc.lY _ (du h)
  . have e:fU c n (k+1)=fU c n k:=by
     unfold fU;rw[fh (by omega),fh h]
    rw[e];exact ih
theorem Nn{c:Constraint}{n:Int}(hc:np c):Tm (fun N=>cOf N c n) (nQ c n):=by
 unfold cOf;refine Tm.bind (Hh hc.len) ?_;intro r hr;refine aY (fun h=>aS (.inl ⟨fun e=>(by rw[hr.2 e]at h;cases h),rfl⟩)) (fun h=>?_);have hR:fM c n:=hr.1 (by simpa using h);refine aN (ia (n:=n.toNat) (by have:=hR.2;omega) (by have:=hR.2;omega) (by decide)) ?_;have hn:n.toNat<=512:=by have:=hR.2;omega
 refine Tm.bind (Bb hc.const.1 hc.const.2) ?_;rintro k0 ⟨hk0,hk0l⟩;refine Tm.bind (Ae hk0.dg.bL (by omega)) ?_;rintro b ⟨hb,-⟩;rw[hk0.bv]at hb;refine Tm.bind (Tm.loop (fun s:List aB×Int=>∃k:Nat,s.2=k/\k<=c.Linear.aZ.length/\eW s.1 (fU c n k)) (fun s=>c.Linear.aZ.length-s.2.toNat) (Q:=fun r=>eW r (fU c n c.Linear.aZ.length)) ⟨0,rfl,fy _,by simpa[fU]using eW.df⟩ ?_) ?_
 . rintro⟨cs,i⟩ ⟨k,rfl,hk,h⟩;dsimp only[Dl]at*;refine aY (fun h1=>?_) (fun h1=>aS ?_)
   . have hkl:k<c.Linear.aZ.length:=by omega
     have hv:=hR.1 k hkl;have hx:=hc.lY _ (du hkl);have hcl:=h.1;rw[rG]at hcl;refine aN (dd hkl) (Tm.bind (Bb hx.1 hx.2) ?_);rintro m ⟨hm,-⟩;refine aN (gw (n:=c.Linear.aZ[k].Var.toNat) (by omega) (by omega)) (aN (eh (n:=c.Linear.aZ[k].Var.toNat) (by omega) (by omega)) (aS ⟨⟨k+1,by have:=hc.len;dsimp only;rw[bJ]<;>omega,by omega,?_⟩,?_⟩))
     . rw[wY hkl];exact h.set hm
     . show c.Linear.aZ.length-(iw ((k:Int)+1)).toNat<c.Linear.aZ.length-((k:Int)).toNat;have:=hc.len;rw[bJ]<;>omega
   . obtain rfl:k=c.Linear.aZ.length:=by omega
     exact h
 . rintro cs hcs;refine aY (fun h1=>aS (.inr ⟨hR,_,⟨hcs,hb⟩,.inl ⟨by simpa using h1,rfl⟩⟩)) (fun h1=>?_);refine Tm.bind (Bb hc.const.1 hc.const.2) ?_;rintro k1 ⟨hk1,-⟩;refine Tm.bind (Tv hcs (Ak hc) hk1 hc.const (by rw[hcs.1,rG];exact hn)) ?_;rintro q' hq';exact aS (.inr ⟨hR,_,⟨hcs,hb⟩,.inr ⟨by simpa using h1,q',hq',rfl⟩⟩)
theorem TH{c:Constraint}{n:Int}(hc:np c):Tm (fun N=>xB N c n) (nQ c n):=by
 unfold xB;refine Tm.bind (Dx hc.len) ?_;intro r hr;refine aY (fun h=>aS (.inl ⟨fun e=>(by rw[hr.2 e]at h;cases h),rfl⟩)) (fun h=>?_);have hR:fM c n:=hr.1 (by simpa using h);have hn:n.toNat<=512:=by have:=hR.2;omega
 refine Tm.bind (Q:=(·=bB.mk (List.replicate n.toNat eM) eM)) ?_ ?_
 . unfold tE;exact aN (ia (n:=n.toNat) (by have:=hR.2;omega) (by omega) (by decide)) (aS rfl)
 rintro _ rfl;dsimp only;refine Tm.bind (Tm.loop (fun s:List aB×Int=>∃k:Nat,s.2=k/\k<=c.Linear.aZ.length/\eW s.1 (fU c n k)) (fun s=>c.Linear.aZ.length-s.2.toNat) (Q:=fun r=>eW r (fU c n c.Linear.aZ.length)) ⟨0,rfl,fy _,by simpa[fU]using eW.df⟩ ?_) ?_
 . rintro⟨cs,i⟩ ⟨k,rfl,hk,h⟩;dsimp only[EC]at*;refine aY (fun h1=>?_) (fun h1=>aS ?_)
   . have hkl:k<c.Linear.aZ.length:=by omega
     have hv:=hR.1 k hkl;have hx:=hc.lY _ (du hkl);have hcl:=h.1;rw[rG]at hcl;refine aN (dd hkl) (aN (dd hkl) (Tm.bind (tF hx.1 hx.2) ?_));rintro m ⟨hm,-⟩;refine aN (gw (n:=c.Linear.aZ[k].Var.toNat) (by omega) (by omega)) (aN (eh (n:=c.Linear.aZ[k].Var.toNat) (by omega) (by omega)) (aS ⟨⟨k+1,by have:=hc.len;dsimp only;rw[bJ]<;>omega,by omega,?_⟩,?_⟩))
     . rw[wY hkl];exact h.set hm
     . show c.Linear.aZ.length-(iw ((k:Int)+1)).toNat<c.Linear.aZ.length-((k:Int)).toNat;have:=hc.len;rw[bJ]<;>omega
   . obtain rfl:k=c.Linear.aZ.length:=by omega
     exact h
 . rintro cs hcs;refine Tm.bind (tF hc.const.1 hc.const.2) ?_;rintro k0 ⟨hk0,hk0l⟩;refine Tm.bind (wL hk0.dg.bL (by omega)) ?_;rintro b ⟨hb,-⟩;rw[hk0.bv]at hb;refine aY (fun h1=>aS (.inr ⟨hR,_,⟨hcs,hb⟩,.inl ⟨by simpa using h1,rfl⟩⟩)) (fun h1=>?_);refine Tm.bind (OV (q:=⟨cs,b⟩) hcs (Ak hc) hk0 hc.const (by show cs.length<=_;rw[hcs.1,rG];exact hn)) ?_;rintro q' hq';exact aS (.inr ⟨hR,_,⟨hcs,hb⟩,.inr ⟨by simpa using h1,q',hq',rfl⟩⟩)
end Go.D
namespace Go.Proofs.YtipdkfmhfakbnaaGreatDoor.TB
open Go Go.RowKit Go.X Go.Q
instance:eU:=⟨[0],fun _ o=>∃t fr,o=.cells (Lib.pow10Tab.map fun z=>Value.int .u64 z).toArray t fr⟩
theorem QO{w:World}(h:∀g∈eU.l,∃o,w.heap[g]?=some o/\eU.p g o):Lib.TabIs Tryz.prog w "internal/strconv.uint64pow10" .u64 Lib.pow10Tab:=by
 obtain⟨o,h1,t,fr,rfl⟩:=h 0 (cL.2 rfl);unfold Lib.TabIs World.var?;rw[show Program.globalNamed Tryz.prog "internal/strconv.uint64pow10"=some 0 by kernel_rfl];simp[h1]
theorem Sq{w:World}(h:Lib.TabIs Tryz.prog w "internal/strconv.uint64pow10" .u64 Lib.pow10Tab):∀g∈eU.l,∃o,w.heap[g]?=some o/\eU.p g o:=by
 intro g hg;obtain rfl:=cL.1 hg;unfold Lib.TabIs World.var? at h;rw[show Program.globalNamed Tryz.prog "internal/strconv.uint64pow10"=some 0 by kernel_rfl]at h;simp only[FL]at h;cases ho:w.heap[0]?with
 |none=>rw[ho]at h;cases h
 |some o=>
  rw[ho]at h;cases o with
  |cells cs t fr=>exact⟨_,rfl,t,fr,by rw[iN h]⟩
  |_=>cases h
end Go.Proofs.YtipdkfmhfakbnaaGreatDoor.TB
namespace Go.D
open Go Go.X
theorem Ng:∀i,i<256->rk.getD i 0<=8/\(0<i->0<(rk.getD i 0).toNat/\2^((rk.getD i 0).toNat-1)<=i/\i<2^(rk.getD i 0).toNat):=by decide+kernel
theorem D4:rk.length=256:=by decide+kernel
theorem Ka{x:Int}{n:Nat}(h:n<=32):fp .u32 x n=x/2^n:=by
 unfold fp;rw[show min ((n:Int)).toNat IntKind.u32.bits=n by show min _ 32=n;omega];exact jo _ (eb (kp (by decide)))
theorem Rb{x:Int}(h0:0<x)(h1:x<4294967296):Tm (fun N=>xK N x) (fun r=>∃k:Nat,r=k/\0<k/\k<=32/\2^(k-1)<=x/\x<2^k):=by
 unfold xK;refine Tm.bind (Q:=fun p:Int×Int=>∃m:Nat,p.2=m/\m<=16/\0<p.1/\p.1<65536/\p.1*2^m<=x/\x<(p.1+1)*2^m) (aY (fun h=>aS ?_) (fun h=>aS ?_)) ?_
 . refine⟨16,rfl,by decide,?_⟩;rw[show fp .u32 x 16=x/2^16 from Ka (n:=16) (by decide)];have e:(2:Int)^16=65536:=by decide
   dsimp only;rw[e];omega
 . exact⟨0,rfl,by decide,h0,by dsimp only;omega,by simp,by dsimp only;omega⟩
 rintro⟨y,_⟩ ⟨m,rfl,hm,y0,y1,hy,hy'⟩;dsimp only at*;refine Tm.bind (Q:=fun p:Int×Int=>∃m:Nat,p.2=m/\m<=24/\0<p.1/\p.1<256/\p.1*2^m<=x/\x<(p.1+1)*2^m) (aY (fun h=>aS ?_) (fun h=>aS ?_)) ?_
 . refine⟨m+8,by dsimp only;rw[bJ]<;>omega,by omega,?_⟩;rw[show fp .u32 y 8=y/2^8 from Ka (n:=8) (by decide)];have e:(2:Int)^8=256:=by decide
   have hp:(0:Int)<2^m:=kp (by decide);dsimp only;rw[jE,e];refine⟨by omega,by omega,?_,?_⟩
   . have:y/256*256*2^m<=y*2^m:=fj (by omega) (by omega);have e2:y/256*(2^m*256)=y/256*256*2^m:=by grind
     omega
   . have:(y+1)*2^m<=(y/256+1)*256*2^m:=fj (by omega) (by omega);have e2:(y/256+1)*(2^m*256)=(y/256+1)*256*2^m:=by grind
     omega
 . exact⟨m,rfl,by omega,y0,by dsimp only;omega,hy,hy'⟩
 rintro⟨z,_⟩ ⟨m,rfl,hm,z0,z1,hz,hz'⟩;dsimp only at*;have hu:uw8 z=(z.toNat:Int):=by unfold uw8;rw[show IntKind.u8.wrap z=z%256 from wu8];omega
 refine aN (gw (n:=z.toNat) hu (by rw[D4];omega)) (aS ?_);obtain⟨t1,t2⟩:=Ng z.toNat (by omega);rw[cy,bV (by rw[D4];omega)]at t1 t2;simp only[BL]at t1 t2;generalize rk[z.toNat]'(by rw[D4];omega)=t at*;obtain⟨p0,p1,p2⟩:=t2 (by omega);have t1':t.toNat<=8:=by simpa[UInt8.le_iff_toNat_le]using t1
 have e1:iw (t.toNat:Int)=t.toNat:=by rw[bJ]<;>omega
 rw[e1];have hp:(0:Int)<2^m:=kp (by decide);have p1':((2:Int)^(t.toNat-1))<=z:=by
  have h:((2^(t.toNat-1):Nat):Int)<=(z.toNat:Int):=Int.ofNat_le.2 p1;rw[Int.toNat_of_nonneg (by omega),F9]at h;exact h
 have p2':z+1<=(2:Int)^t.toNat:=by
  have h:(z.toNat:Int)<((2^t.toNat:Nat):Int):=Int.ofNat_lt.2 p2;rw[Int.toNat_of_nonneg (by omega),F9]at h;exact h
 refine⟨m+t.toNat,by rw[bJ]<;>omega,by omega,by omega,?_,?_⟩
 . rw[show m+t.toNat-1=(t.toNat-1)+m by omega,jE];exact Int.le_trans (fj p1' (by omega)) hz
 . rw[Nat.add_comm,jE];exact Int.lt_of_lt_of_le hz' (fj p2' (by omega))
theorem Ri{x:Int}(h0:0<x)(h1:x<4294967296):Tm (fun N=>wF N x) (fun r=>∃s:Nat,r=s/\s<=31/\2147483648<=x*2^s/\x*2^s<4294967296):=by
 unfold wF;refine Tm.bind (Rb h0 h1) ?_;rintro _ ⟨k,rfl,k0,k1,hk,hk'⟩;refine aS ⟨32-k,by rw[bJ]<;>omega,by omega,?_,?_⟩
 . have:=fj hk (show(0:Int)<=2^(32-k) from eb (kp (by decide)));rw[<-jE,show k-1+(32-k)=31 by omega]at this;exact this
 . have:=ML hk' (show(0:Int)<2^(32-k) from kp (by decide));rw[<-jE,show k+(32-k)=32 by omega]at this;exact this
open Go Go.X
theorem Oj{k:IntKind}{x y n:Nat}(hx:k.wrap (x:Int)=x)(hy:k.wrap (y:Int)=y)(h:x<2^n)(hm:2^n∣y):jC k x y=((x+y:Nat):Int):=by
 rw[JY hx hy];obtain⟨q,rfl⟩:=hm;rw[Nat.or_comm,<-Nat.two_pow_add_eq_or_of_lt h,Nat.add_comm]
theorem rY{l:List Int}{n m:Nat}{y:Int}(h:n<l.length):(l.set n y).getD m 0=if n=m then y else l.getD m 0:=by
 rw[cy,cy,qM];by_cases e:n=m
 . subst e;simp[h]
 . simp[e]
theorem Iv{z:Nat}(h:z<4294967296):IntKind.u32.wrap (z:Int)=z:=by rw[show IntKind.u32.wrap (z:Int)=(z:Int)%4294967296 from wu32];omega
theorem As{s:Nat}(h:s<=31):(2:Int)^s*2^(32-s)=4294967296:=by rw[<-jE,show s+(32-s)=32 by omega];decide
theorem Lu{a:List Int}{n:Int}{s:Nat}(hn:n=s)(hs:s<=31)(ha:bA aC a)(hl:a.length<=17592186044416):Tm (fun N=>uQ N a n) (fun r=>bA aC r/\val aC r=val aC a*2^s/\r.length=a.length+1):=by
 unfold uQ;subst hn;have hP:(0:Int)<2^s:=kp (by decide);have hQ:(0:Int)<2^(32-s):=kp (by decide);have hPQ:=As hs;refine aN (ia (n:=a.length+1) (by rw[bJ]<;>omega) (by omega) (by decide)) ?_;refine Tm.bind (Q:=fun r=>bA aC r/\val aC r=val aC a*2^s/\r.length=a.length+1)
  (Tm.loop (fun t:List Int×Int=>∃k:Nat,t.2=k/\k<=a.length/\t.1.length=a.length+1/\bA aC t.1/\t.1.getD k 0<2^s/\val aC (t.1.take (k+1))=val aC (a.take k)*2^s) (fun t=>a.length-t.2.toNat)
   ⟨0,rfl,fy _,by simp,bA.df (by decide),?_,?_⟩ ?_) (fun r h=>aS h)
 . show(List.replicate (a.length+1) (0:Int)).getD 0 0<_;simpa using hP
 . show val aC ((List.replicate (a.length+1) (0:Int)).take 1)=_;rw[List.take_replicate,Bu];simp[val]
 rintro⟨out,i⟩ ⟨k,rfl,hk,ho,hB,hc,hv⟩;dsimp only[Dv]at*;refine aY (fun h=>?_) (fun h=>aS ?_)
 . have hx:=ha.get (n:=k) (by omega);have ex:a.getD k 0=a[k]'(by omega):=fQ (by omega);refine aN (dd (by omega)) (aN (wI (by omega)) (aN (dd (by omega)) (aN (dd (by omega)) ?_)));generalize a[k]'(by omega)=x at*;have hco:=hB.get (n:=k) (by omega);have eo:out.getD k 0=out[k]'(by omega):=fQ (by omega);have hvs:=fun y=>take_set (l:=out) (n:=k) (y:=y) (by omega);rw[eo]at hc;rw[fk,eo]at hv;generalize out[k]'(by omega)=c at*;simp only[aC]at hx;have hw0:0<=x*2^s:=eH hx.1 (by omega);have hP31:(2:Int)^s<=2147483648:=by
    have:=km (B:=2) (by decide) hs;exact this
   have hw1:x*2^s<=4294967295*2147483648:=ni (by omega) hP31 (by omega) (by decide);have ew:iZ .u64 (uw x) s=x*2^s:=by
    unfold iZ;rw[show uw x=x by rw[fI];omega,show min ((s:Int)).toNat IntKind.u64.bits=s by show min _ 64=s;omega];rw[show IntKind.u64.wrap (x*2^s)=(x*2^s)%18446744073709551616 from wu];omega
   rw[ew,wC,gk];have hlo:(x*2^s)%4294967296=(x%2^(32-s))*2^s:=by
    rw[<-hPQ,fF x,Int.mul_emod_mul_of_pos _ _ hP,fF]
   have hhi:x*2^s/4294967296=x/2^(32-s):=by
    rw[<-hPQ,fF ((2:Int)^s) (2^(32-s)),Int.mul_ediv_mul_of_pos_left _ _ hP]
   have hhi1:x/2^(32-s)<2^s:=F8 hQ (by rw[hPQ];omega);have hhi0:0<=x/2^(32-s):=yq hx.1 (by omega);have hlo0:0<=x%2^(32-s):=lF _ (by omega);have hlo1:x%2^(32-s)+1<=2^(32-s):=lG _ hQ;have hlo2:(x%2^(32-s))*2^s+2^s<=4294967296:=by
    have:=fj hlo1 (show(0:Int)<=2^s by omega);rw[fF (2^(32-s)) (2^s),hPQ]at this;grind
   have hor:jC .u32 c ((x*2^s)%4294967296)=c+(x%2^(32-s))*2^s:=by
    rw[hlo];obtain⟨cn,rfl⟩:=qT hco.1;obtain⟨ln,hln⟩:=qT hlo0;rw[hln];have e1:(ln:Int)*2^s=((ln*2^s:Nat):Int):=by simp
    have hl0:0<=(ln:Int)*2^s:=eH (by omega) (by omega);rw[hln]at hlo2;rw[e1]at hlo2⊢;simp only[aC]at hco;rw[Oj (n:=s) (Iv (by omega)) (Iv (by omega)) (by have:((cn:Nat):Int)<((2^s:Nat):Int):=(by simpa using hc);omega) (Nat.dvd_mul_left _ _)];omega
   rw[hor];refine aN (eh rfl (by omega)) ?_;have hB1:bA aC (out.set k (c+(x%2^(32-s))*2^s)):=hB.set (by
    have:0<=(x%2^(32-s))*2^s:=eH hlo0 (by omega);simp only[aC]at*;omega)
   have hi1:iw ((k:Int)+1)=((k+1:Nat):Int):=by rw[bJ]<;>omega
   refine aN (gw hi1 (by simp;omega)) (aN (eh hi1 (by simp;omega)) ?_);have ehi:dU (x*2^s/4294967296)=x/2^(32-s):=by rw[hhi,gk];omega
   rw[ehi];refine aS ⟨⟨k+1,hi1,by omega,by simp;omega,hB1.set (by simp only[aC];omega),?_,?_⟩,?_⟩
   . show(((out.set k _).set (k+1) _).getD (k+1) 0)<2^s;rw[rY (by simp;omega),if_pos rfl];exact hhi1
   . show val aC (((out.set k _).set (k+1) _).take (k+1+1))=_;rw[take_set (by simp;omega),hvs,fk,ex,fi];have:=jF x (2^(32-s));have hw:aC=2^s*2^(32-s):=hPQ.symm;have e3:aC^k*aC*(x/2^(32-s))=aC^k*(2^s*(2^(32-s)*(x/2^(32-s)))):=by
      conv=>lhs;rw[MM,show aC*(x/2^(32-s))=2^s*2^(32-s)*(x/2^(32-s)) by rw[<-hw]]
      rw[MM]
     rw[e3];grind
   . show a.length-(iw ((k:Int)+1)).toNat<a.length-((k:Int)).toNat;rw[hi1];omega
 . obtain rfl:k=a.length:=by omega
   rw[kB (by omega),kB (bI _)]at hv;exact⟨hB,hv,ho⟩
open Go Go.X
theorem gi{xs:List Int}{i:Int}{n:Nat}(e:i=(n:Int))(h:n<xs.length):idx xs i=some (xs.getD n 0):=by
 rw[fQ h];exact gw e h
theorem Dk{k:IntKind}{x y:Int}(h:y≠0):sdiv k x y=some (k.wrap (x.tdiv y)):=by unfold sdiv;rw[if_neg h]
theorem DM{x y:Int}(h:y≠0):srem x y=some (x.tmod y):=by unfold srem;rw[if_neg h]
theorem Bo{z:Nat}(h:z<18446744073709551616):IntKind.u64.wrap (z:Int)=z:=by rw[show IntKind.u64.wrap (z:Int)=(z:Int)%18446744073709551616 from wu];omega
theorem Qf{x:Int}(h0:0<=x)(h1:x<4294967296):iZ .u64 x 32=x*4294967296:=by
 unfold iZ;rw[show((2:Int)^(min (32:Int).toNat IntKind.u64.bits))=4294967296 from rfl];rw[show IntKind.u64.wrap (x*4294967296)=(x*4294967296)%18446744073709551616 from wu];omega
theorem zW{x y:Int}(h0:0<=x)(h1:x<4294967296)(h2:0<=y)(h3:y<4294967296):jC .u64 (iZ .u64 x 32) y=x*4294967296+y:=by
 rw[Qf h0 h1];obtain⟨a,rfl⟩:=qT h0;obtain⟨b,rfl⟩:=qT h2;rw[show(a:Int)*4294967296=((a*2^32:Nat):Int) by simp];rw[JY (Bo (by omega)) (Bo (by omega)),<-Nat.shiftLeft_eq,<-Nat.shiftLeft_add_eq_or_of_lt (by omega),Nat.shiftLeft_eq];omega
theorem Si{z:Int}(h0:0<=z)(h1:z<18446744073709551616):pZ .u64 z 4294967295=z%4294967296:=by
 obtain⟨a,rfl⟩:=qT h0;rw[show(4294967295:Int)=((2^32-1:Nat):Int) by decide,Ue (Bo (by omega)) (Bo (by decide)),Nat.and_two_pow_sub_one_eq_mod];omega
theorem gJ{z:Int}(h0:0<=z)(h1:z<18446744073709551616):uw z=z:=by rw[fI];omega
theorem BJ{x y:Int}(h:0<=x):x.tdiv y=x/y:=Ux h
theorem C0{x y:Int}(h:0<=x):x.tmod y=x%y:=MG h
theorem K5{a:List Int}{y:Int}(ha:bA aC a)(h0:0<y)(h1:y<aC)(hl:a.length<=17592186044416):
 Tm (fun N=>uj N a y) (fun r=>bA aC r.1/\val aC r.1=val aC a/y/\r.2=val aC a%y/\r.1.length=a.length):=by
 unfold uj;refine aN (ia rfl (by omega) (by decide)) ?_;refine Tm.bind (Q:=fun r:List Int×Int=>bA aC r.1/\r.1.length=a.length/\0<=r.2/\r.2<y/\val aC r.1*y+r.2=val aC a)
  (Tm.loop (fun t:List Int×Int×Int=>∃k:Nat,t.2.2=(k:Int)-1/\k<=a.length/\t.1.length=a.length/\bA aC t.1/\0<=t.2.1/\t.2.1<y/\(∀j,j<k->t.1.getD j 0=0)/\val aC t.1*y+aC^k*t.2.1+val aC (a.take k)=val aC a) (fun t=>(t.2.2+1).toNat)
   ⟨a.length,by rw[bJ]<;>omega,bI _,by simp,bA.df (by decide),by simp,h0,fun j hj=>by rw[fQ (by simpa using hj)];simp,by rw[kB (bI _),Bu];simp⟩ ?_) ?_
 . rintro⟨out,rest,i⟩ ⟨k,rfl,hk,ho,hB,r0,r1,hz,hv⟩;dsimp only[Ea]at*;refine aY (fun h=>?_) (fun h=>aS ?_)
   . obtain⟨n,rfl⟩:∃n,k=n+1:=⟨k-1,by omega⟩;have hi:((n+1:Nat):Int)-1=(n:Int):=by omega
     rw[hi];have hx:=ha.getD (by decide) n;have hvt:=fk (B:=aC) (l:=a) (n:=n);refine aN (gi rfl (by omega)) ?_;generalize a.getD n 0=x at*;simp only[aC]at hx h1;have ex:uw x=x:=gJ hx.1 (by omega);have ey:uw y=y:=gJ (by omega) (by omega);rw[ex,ey,zW r0 (by omega) hx.1 hx.2];have hT0:0<=rest*4294967296+x:=by omega
     have hq1:(rest*4294967296+x)/y<4294967296:=F8 h0 (by
      have:=fj (show rest+1<=y by omega) (show(0:Int)<=4294967296 by decide);rw[fF 4294967296 y];omega)
     have hq0:0<=(rest*4294967296+x)/y:=yq hT0 (by omega);refine aN (Dk (by omega)) (aN (gi rfl (by omega)) (aN (eh rfl (by omega)) (aN (DM (by omega)) (aS ?_))));rw[BJ hT0,C0 hT0,show IntKind.u64.wrap ((rest*4294967296+x)/y)=(rest*4294967296+x)/y from gJ hq0 (by omega),show dU ((rest*4294967296+x)/y)=(rest*4294967296+x)/y by rw[gk];omega];have hm0:=lF (rest*4294967296+x) (show y≠0 by omega);have hm1:=lG (rest*4294967296+x) h0;have hd:=jF (rest*4294967296+x) y;refine⟨⟨n,by show iw ((n:Int)-1)=_;rw[bJ]<;>omega,by omega,by simp;omega,hB.set (by simp only[aC];omega),hm0,hm1,fun j hj=>?_,?_⟩,?_⟩
     . show(out.set n _).getD j 0=0;rw[rY (by omega),if_neg (by omega)];exact hz j (by omega)
     . show val aC (out.set n _)*y+aC^n*((rest*4294967296+x)%y)+val aC (a.take n)=_;have hon:out[n]'(by omega)=0:=by have:=hz n (by omega);rwa[fQ (by omega)]at this
       rw[tX (by omega),hon];rw[fi]at hv;have hw:aC=4294967296:=rfl;generalize(rest*4294967296+x)/y=q at*;generalize(rest*4294967296+x)%y=t at*;rw[<-hv,hvt];have e1:aC^n*aC*rest=aC^n*(rest*4294967296):=by rw[hw];grind
       have e2:aC^n*(t+y*q)=aC^n*(rest*4294967296+x):=by rw[hd]
       rw[e1];grind
     . show(iw ((n:Int)-1)+1).toNat<((n:Int)+1).toNat;rw[bJ]<;>omega
   . obtain rfl:k=0:=by omega
     refine⟨hB,ho,r0,r1,?_⟩;simpa[val]using hv
 . rintro⟨out,rest⟩ ⟨hB,ho,r0,r1,hv⟩;dsimp only at*;simp only[aC]at h1;refine aS ⟨hB,?_,?_,ho⟩
   . show val aC out=_;rw[<-hv,Int.add_comm,Int.add_mul_ediv_right _ _ (by omega),MN r0 r1];omega
   . show dU rest=_;rw[gk,<-hv,Int.add_comm,Int.add_mul_emod_self_right,BY r0 r1];omega
section
variable {W V R v1 v2 u2 top p vl rl g rest:Int}
theorem g_dec(hp:0<p)(hV:V=(v1*W+v2)*p+vl)(hvl:0<=vl)(hR:R=(top*W+u2)*p+rl)(hrl:rl<p)(ht:top=g*v1+rest)(hg:0<=g)(h:rest*W+u2<g*v2):R<g*V:=by
 have h1:top*W+u2+1<=g*(v1*W+v2):=by
  have e:g*(v1*W+v2)=(g*v1)*W+g*v2:=by grind
  have e2:top*W=(g*v1)*W+rest*W:=by rw[ht];grind
  omega
 have h2:=fj h1 (eb hp);have h3:0<=g*vl:=eH hg hvl;have e1:g*V=g*(v1*W+v2)*p+g*vl:=by rw[hV];grind
 have e2:(top*W+u2+1)*p=(top*W+u2)*p+p:=by grind
 omega
theorem g_top(hp:0<p)(hW:0<W)(hv2:v2<W)(hV:V=(v1*W+v2)*p+vl)(hvl:vl<p)(hR:R=(top*W+u2)*p+rl)(hu2:0<=u2)(hrl:0<=rl)(h:R<W*V):top<(v1+1)*W:=by
 have h1:top*W<W*(v1*W+v2+1):=by
  rcases qS (top*W) (W*(v1*W+v2+1))with h1|h1
  . exact h1
  . exfalso;have h2:=fj (show W*(v1*W+v2+1)<=top*W+u2 by omega) (eb hp);have h3:W*vl<W*p:=Int.mul_lt_mul_of_pos_left hvl hW;have e1:W*V=W*(v1*W+v2)*p+W*vl:=by rw[hV];grind
    have e2:W*(v1*W+v2+1)*p=W*(v1*W+v2)*p+W*p:=by grind
    omega
 have h2:W*top<W*(v1*W+v2+1):=by rw[fF W top];exact h1
 have h3:=Ga h2 (eb hW);have e:(v1+1)*W=v1*W+W:=by grind
 omega
theorem S8(hv1:0<v1)(ht:top=g*v1+rest)(hr:W<=rest)(h:top<(v1+1)*W):g<W:=by
 have h1:g*v1<W*v1:=by
  have e:(v1+1)*W=W*v1+W:=by grind
  omega
 exact MO h1 (eb hv1)
theorem g_brk(hp:0<p)(hW:0<W)(hv2:0<=v2)(hv2':v2<W)(hV:V=(v1*W+v2)*p+vl)(hvl:0<=vl)(hvl':vl<p)(hR:R=(top*W+u2)*p+rl)(hu2:0<=u2)(hrl:0<=rl)
 (ht:top=g*v1+rest)(hr:W<=rest)(hg:0<=g)(hgW:g<W):g*V<=R:=by
 have h1:g*(v2*p+vl)<=W*(W*p):=by
  have:v2*p+vl<=W*p:=by
   have:=fj (show v2+1<=W by omega) (eb hp);have e:(v2+1)*p=v2*p+p:=by grind
   omega
  have h0:0<=v2*p+vl:=by have:=eH hv2 (eb hp);omega
  exact ni (by omega) this h0 (by omega)
 have h2:W*(W*p)<=rest*(W*p):=fj hr (eH (by omega) (by omega));have h3:0<=u2*p:=eH hu2 (by omega);have e1:g*V=g*v1*(W*p)+g*(v2*p+vl):=by rw[hV];grind
 have e2:R=g*v1*(W*p)+rest*(W*p)+u2*p+rl:=by rw[hR,ht];grind
 omega
theorem g_end(hp:0<p)(hW:0<W)(hv1:0<v1)(hv2:0<=v2)(hV:V=(v1*W+v2)*p+vl)(hvl:0<=vl)(hvl':vl<p)(hR:R=(top*W+u2)*p+rl)(hrl:0<=rl)
 (ht:top=g*v1+rest)(hg:0<=g)(hgW:g<W)(h:g*v2<=rest*W+u2):g*V<=R+V:=by
 have h1:g*(v1*W+v2)<=top*W+u2:=by
  have e:g*(v1*W+v2)=(g*v1)*W+g*v2:=by grind
  have e2:top*W=(g*v1)*W+rest*W:=by rw[ht];grind
  omega
 have h2:=fj h1 (eb hp);have h3:g*vl<=W*p:=ni (by omega) (by omega) hvl (by omega);have h4:W*p<=v1*(W*p):=by
  have:=fj (show 1<=v1 by omega) (show 0<=W*p from eH (by omega) (by omega));omega
 have h5:0<=v2*p:=eH hv2 (by omega);have e1:g*V=g*(v1*W+v2)*p+g*vl:=by rw[hV];grind
 have e2:V=v1*(W*p)+v2*p+vl:=by rw[hV];grind
 omega
theorem Qb(hp:0<p)(hW:0<W)(hv1:0<v1)(hv2:0<=v2)(hV:V=(v1*W+v2)*p+vl)(hvl:0<=vl)(hR:R=(top*W+u2)*p+rl)(hu2:u2<W)(hrl:rl<p)
 (ht:top=g*v1+rest)(hr:rest<v1)(hg:0<=g):R<(g+1)*V:=by
 have h1:(top+1)*(W*p)<=(g+1)*v1*(W*p):=fj (by have e:(g+1)*v1=g*v1+v1:=(by grind);omega) (eH (by omega) (by omega));have h2:0<=(g+1)*(v2*p+vl):=eH (by omega) (by have:=eH hv2 (eb hp);omega);have h3:=fj (show u2+1<=W by omega) (eb hp);have e1:(g+1)*V=(g+1)*v1*(W*p)+(g+1)*(v2*p+vl):=by rw[hV];grind
 have e2:R=top*(W*p)+u2*p+rl:=by rw[hR];grind
 have e3:(top+1)*(W*p)=top*(W*p)+W*p:=by grind
 have e4:(u2+1)*p=u2*p+p:=by grind
 omega
end
theorem b2_tm{b v u:List Int}{n m:Nat}{V R v1 v2 u2 top p vl rl g0 r0:Int}(hb:b.length=m)(hv:v.length=m)(hm:2<=m)(hu:n+m<u.length)(hul:u.length<=35184372088832)
 (e1:v.getD (m-1) 0=v1)(e2:v.getD (m-2) 0=v2)(e3:u.getD (n+m-2) 0=u2)(hv1:0<v1/\v1<4294967296)(hv2:0<=v2/\v2<4294967296)(hu2:0<=u2/\u2<4294967296)
 (hp:0<p)(hV:V=(v1*4294967296+v2)*p+vl)(hvl:0<=vl/\vl<p)(hR:R=(top*4294967296+u2)*p+rl)(hrl:0<=rl/\rl<p)(hRV:R<4294967296*V)
 (ht:top=g0*v1+r0)(hr0:0<=r0/\r0<v1)(hg0:0<=g0/\g0<18446744073709551616):
 Tm (fun N=>bK (Bd N b v u n) N (g0,r0)) (fun g=>0<=g/\g<4294967296/\R<(g+1)*V/\g*V<=R+V):=by
 have htop:=g_top hp (by decide) hv2.2 hV hvl.2 hR hu2.1 hrl.1 hRV;have hV0:0<=V:=by
  have h1:=eH (show 0<=v1*4294967296+v2 by omega) (eb hp);omega
 refine Tm.loop (fun t:Int×Int=>0<=t.1/\t.1<18446744073709551616/\0<=t.2/\t.2<4294967296/\top=t.1*v1+t.2/\R<(t.1+1)*V) (fun t=>t.1.toNat)
  ⟨hg0.1,hg0.2,hr0.1,by omega,ht,Qb hp (by decide) hv1.1 hv2.1 hV hvl.1 hR hu2.2 hrl.2 ht hr0.2 hg0.1⟩ ?_
 rintro⟨g,rest⟩ ⟨g1,g2,r1,r2,ht,hRg⟩;dsimp only[Bd]at*;have ev2:uw v2=v2:=gJ hv2.1 (by omega);have eu2:uw u2=u2:=gJ hu2.1 (by omega);have ev1:uw v1=v1:=gJ (by omega) (by omega);refine Tm.bind (Q:=(·=decide (4294967295<g\/rest*4294967296+u2<g*v2))) (aY (fun h=>aS ?_) (fun h=>?_)) ?_
 . simp[show 4294967295<g from h]
 . refine aN (gi (n:=m-2) (by rw[bJ]<;>omega) (by omega)) (aN (gi (n:=n+m-2) (by rw[show iw ((n:Int)+(b.length:Int))=(n:Int)+m by rw[bJ]<;>omega,bJ]<;>omega) (by omega)) (aS ?_));rw[e2,e3,ev2,eu2,zW r1 r2 hu2.1 hu2.2];have hgv:0<=g*v2/\g*v2<=4294967295*4294967295:=⟨eH g1 hv2.1,ni (by omega) (by omega) hv2.1 (by decide)⟩;rw[gJ hgv.1 (by omega)];have:¬4294967295<g:=h;simp[this]
 rintro _ rfl;refine aY (fun h=>?_) (fun h=>aS ?_)
 . have h:=of_decide_eq_true h;have hgp:0<g:=by
    rcases h with h|h
    . omega
    . rcases qS 0 g with h'|h'
      . exact h'
      . have:g=0:=by omega
        subst this;simp at h;omega
   have hRg':R<g*V:=by
    rcases h with h|h
    . have:=fj (show 4294967296<=g by omega) hV0;omega
    . exact g_dec hp hV hvl.1 hR hrl.2 ht g1 h
   have ht':top=(g-1)*v1+(rest+v1):=by rw[ht];grind
   refine aN (gi (n:=m-1) (by rw[bJ]<;>omega) (by omega)) ?_;rw[e1,ev1,gJ (show 0<=g-1 by omega) (by omega),gJ (show 0<=rest+v1 by omega) (by omega)];refine aY (fun h1=>aS ?_) (fun h1=>aS ⟨⟨by dsimp only;omega,by dsimp only;omega,by dsimp only;omega,by dsimp only;omega,ht',?_⟩,?_⟩)
   . have hgW:=S8 hv1.1 ht' (show 4294967296<=rest+v1 by omega) htop;have:=g_brk hp (by decide) hv2.1 hv2.2 hV hvl.1 hvl.2 hR hu2.1 hrl.1 ht' (show 4294967296<=rest+v1 by omega) (by omega) hgW;refine⟨by omega,hgW,?_,by omega⟩;rw[show g-1+1=g by omega];exact hRg'
   . show R<(g-1+1)*V;rw[show g-1+1=g by omega];exact hRg'
   . show(g-1).toNat<g.toNat;omega
 . have h:¬(4294967295<g\/rest*4294967296+u2<g*v2):=fun e=>h (by simpa using e);refine⟨g1,by omega,hRg,?_⟩;exact g_end hp (by decide) hv1.1 hv2.1 hV hvl.1 hvl.2 hR hrl.1 ht g1 (by omega) (by omega)
open Go Go.X
theorem vc{l:List Int}{m:Nat}(h:bA aC l)(hv:val aC l<aC^m):∀j,m<=j->l.getD j 0=0:=by
 intro j hj;rcases cv j l.length with hl|hl
 . rw[fQ hl];have h1:=h.get hl;rcases qS 0 l[j]with h2|h2
   . exfalso;have e:=ov (B:=aC) (l:=l) j (by omega);rw[fx hl,si]at e;have p0:=gF (B:=aC) (by decide) (h.take j);have p1:=gF (B:=aC) (by decide) (h.drop (j+1));have p2:=kH (B:=aC) (by decide) j;have p3:=km (B:=aC) (by decide) hj;have p4:aC^j*1<=aC^j*(l[j]+aC*val aC (l.drop (j+1))):=gg (by have:=eH (show(0:Int)<=aC by decide) p1;omega) (by omega);omega
   . omega
 . exact mj hl
theorem JR{l:List Int}{m:Nat}(h:bA aC l)(hz:∀j,m<=j->l.getD j 0=0):val aC l<aC^m:=by
 rcases cv m l.length with hm|hm
 . have:=xV (B:=aC) (l:=l) (n:=m) (by omega) (fun k hk hmk=>by have:=hz k hmk;rwa[fQ hk]at this);rw[<-this];have h2:=gW (B:=aC) (by decide) (h.take m);rwa[eR,jT (by omega)]at h2
 . have h2:=gW (B:=aC) (by decide) h;have h3:=km (B:=aC) (by decide) hm;omega
theorem qY{l:List Int}{n j:Nat}:(l.drop n).getD j 0=l.getD (n+j) 0:=by
 rw[cy,cy,sY]
theorem b3_tm{b v u:List Int}{n m:Nat}{g:Int}(hb:b.length=m)(hv:v.length=m)(hvB:bA aC v)(huB:bA aC u)(hu:n+m<u.length)(hul:u.length<=35184372088832)(g0:0<=g)(g1:g<4294967296):
 Tm (fun N=>bK (yM N g ((n+m+1:Nat):Int) (n:Int) v) N (u,0,0,0)) (fun r=>bA aC r.1/\r.1.length=u.length/\r.1.take n=u.take n/\(∀k,n+m<k->r.1.getD k 0=u.getD k 0)/\0<=r.2/\r.2<=1/\val aC r.1=val aC u-aC^n*(g*val aC v)+aC^(n+(m+1))*r.2):=by
 refine Tm.loop (fun t:List Int×Int×Int×Int=>∃j:Nat,t.2.2.2=j/\j<=m+1/\bA aC t.1/\t.1.length=u.length/\t.1.take n=u.take n/\(∀k,n+j<=k->t.1.getD k 0=u.getD k 0)/\0<=t.2.1/\t.2.1<4294967296/\(m<j->t.2.1=0)/\0<=t.2.2.1/\t.2.2.1<=1/\val aC t.1=val aC u-aC^n*(g*val aC (v.take j))+aC^(n+j)*(t.2.1+t.2.2.1)) (fun t=>m+1-t.2.2.2.toNat)
  ⟨0,rfl,by omega,huB,rfl,rfl,fun _ _=>rfl,by simp,by simp,fun _=>rfl,by simp,by simp,by simp[val]⟩ ?_
 rintro⟨x,carry,borrow,jj⟩ ⟨j,rfl,hj,hB,hx,htk,hup,c0,c1,hc,b0,b1,hval⟩;dsimp only[yM]at*;refine aY (fun h=>?_) (fun h=>aS ?_)
 . have hjm:j<=m:=by omega
   refine Tm.bind (Bh hvB) ?_;rintro d rfl;have hij:(n:Int)+(j:Int)=((n+j:Nat):Int):=by omega
   refine aN (wI (by omega)) (aN (gi hij (by omega)) (aN (wI (by omega)) (aN (gi hij (by omega)) (aN (eh hij (by omega)) (aS ?_)))));have hd:=hvB.getD (by decide) j;have hvt:=fk (B:=aC) (l:=v) (n:=j);have hd0:m<=j->v.getD j 0=0:=fun h=>mj (by omega);have huu:=hB.getD (by decide) (n+j);have hset:=fun y=>tX (B:=aC) (l:=x) (n:=n+j) (y:=y) (by omega);rw[<-fQ (l:=x) (n:=n+j) (by omega)]at hset;generalize v.getD j 0=d at*;generalize hUU:x.getD (n+j) 0=uu at*;simp only[aC]at hd huu;have hgd:0<=g*d/\g*d<=4294967295*4294967295:=⟨eH g0 hd.1,ni (by omega) (by omega) hd.1 (by decide)⟩;rw[gJ hgd.1 (by omega)];have hgd0:m<=j->g*d=0:=fun h=>by rw[hd0 h];simp
   generalize hC:g*d=gd at*;rw[gJ (show 0<=carry+gd by omega) (by omega),Si (by omega) (by omega),wC];have e1:uw (uw (uw uu-(carry+gd)%4294967296)-borrow)=(uu-(carry+gd)%4294967296-borrow)%18446744073709551616:=by
    rw[fI,fI,fI];omega
   rw[e1,Kn,gk];have hy:(uu-(carry+gd)%4294967296-borrow)%18446744073709551616%4294967296=uu-(carry+gd)%4294967296-borrow+4294967296*((uu-(carry+gd)%4294967296-borrow)%18446744073709551616/9223372036854775808):=by omega
   have hb':0<=(uu-(carry+gd)%4294967296-borrow)%18446744073709551616/9223372036854775808/\(uu-(carry+gd)%4294967296-borrow)%18446744073709551616/9223372036854775808<=1:=by omega
   have hy2:0<=(uu-(carry+gd)%4294967296-borrow)%18446744073709551616%4294967296/\(uu-(carry+gd)%4294967296-borrow)%18446744073709551616%4294967296<4294967296:=by omega
   generalize(uu-(carry+gd)%4294967296-borrow)%18446744073709551616%4294967296=y at*;generalize(uu-(carry+gd)%4294967296-borrow)%18446744073709551616/9223372036854775808=bb at*;have hdm:=jF (carry+gd) 4294967296;refine⟨⟨j+1,by show iw ((j:Int)+1)=_;rw[bJ]<;>omega,by omega,hB.set (by simp only[aC];omega),by simp;omega,?_,?_,?_,?_,?_,hb'.1,hb'.2,?_⟩,?_⟩
   . show(x.set (n+j) y).take n=_;rw[yp (by omega)];exact htk
   . intro k hk;show(x.set (n+j) y).getD k 0=_;rw[rY (by omega),if_neg (by omega)];exact hup k (by omega)
   . show 0<=(carry+gd)/4294967296;omega
   . show(carry+gd)/4294967296<4294967296;omega
   . intro h1;show(carry+gd)/4294967296=0;have:=hgd0 (by omega);omega
   . show val aC (x.set (n+j) y)=_+aC^(n+(j+1))*((carry+gd)/4294967296+bb);rw[hset,hval,hvt,hy];have hw:aC=4294967296:=rfl;have hp:aC^(n+(j+1))=aC^n*aC^j*4294967296:=by rw[jE,fi,hw];grind
     rw[hp,jE];generalize aC^n=P at*;generalize aC^j=Q at*;have e3:g*(val aC (v.take j)+Q*d)=g*val aC (v.take j)+Q*gd:=by rw[<-hC];grind
     rw[e3];generalize(carry+gd)/4294967296=cc at*;generalize(carry+gd)%4294967296=c2 at*;have e4:gd=c2+4294967296*cc-carry:=by omega
     rw[e4];grind
   . show m+1-(iw ((j:Int)+1)).toNat<m+1-((j:Int)).toNat;rw[bJ]<;>omega
 . have hjm:j=m+1:=by omega
   subst hjm;refine⟨hB,hx,htk,fun k hk=>hup k (by omega),b0,b1,?_⟩;show val aC x=_;rw[hval,hc (by omega),kB (by omega),B4]
theorem b4_tm{v u:List Int}{n m:Nat}(hv:v.length=m)(hvB:bA aC v)(huB:bA aC u)(hu:n+m<u.length)(hul:u.length<=35184372088832):
 Tm (fun N=>bK (zr N v n) N (u,0,0)) (fun r=>bA aC r.1/\r.1.length=u.length/\r.1.take n=u.take n/\(∀k,n+m<=k->r.1.getD k 0=u.getD k 0)/\0<=r.2/\r.2<=1/\val aC r.1=val aC u+aC^n*val aC v-aC^(n+m)*r.2):=by
 refine Tm.loop (fun t:List Int×Int×Int=>∃j:Nat,t.2.2=j/\j<=m/\bA aC t.1/\t.1.length=u.length/\t.1.take n=u.take n/\(∀k,n+j<=k->t.1.getD k 0=u.getD k 0)/\0<=t.2.1/\t.2.1<=1/\val aC t.1=val aC u+aC^n*val aC (v.take j)-aC^(n+j)*t.2.1) (fun t=>m-t.2.2.toNat)
  ⟨0,rfl,by omega,huB,rfl,rfl,fun _ _=>rfl,by simp,by simp,by simp[val]⟩ ?_
 rintro⟨x,carry,jj⟩ ⟨j,rfl,hj,hB,hx,htk,hup,c0,c1,hval⟩;dsimp only[zr]at*;refine aY (fun h=>?_) (fun h=>aS ?_)
 . have hij:iw ((n:Int)+(j:Int))=((n+j:Nat):Int):=by rw[bJ]<;>omega
   refine aN (gi hij (by omega)) (aN (gi rfl (by omega)) (aN (gi hij (by omega)) (aN (eh hij (by omega)) (aS ?_))));have hd:=hvB.getD (by decide) j;have hvt:=fk (B:=aC) (l:=v) (n:=j);have huu:=hB.getD (by decide) (n+j);have hset:=fun y=>tX (B:=aC) (l:=x) (n:=n+j) (y:=y) (by omega);rw[<-fQ (l:=x) (n:=n+j) (by omega)]at hset;generalize v.getD j 0=d at*;generalize hUU:x.getD (n+j) 0=uu at*;simp only[aC]at hd huu;have e1:uw (carry+uw (uw uu+uw d))=carry+uu+d:=by rw[fI,fI,fI,fI];omega
   rw[e1,wC,gk];have hdm:=jF (carry+uu+d) 4294967296;refine⟨⟨j+1,by show iw ((j:Int)+1)=_;rw[bJ]<;>omega,by omega,hB.set (by simp only[aC];omega),by simp;omega,?_,?_,?_,?_,?_⟩,?_⟩
   . show(x.set (n+j) _).take n=_;rw[yp (by omega)];exact htk
   . intro k hk;show(x.set (n+j) _).getD k 0=_;rw[rY (by omega),if_neg (by omega)];exact hup k (by omega)
   . show 0<=(carry+uu+d)/4294967296;omega
   . show(carry+uu+d)/4294967296<=1;omega
   . show val aC (x.set (n+j) ((carry+uu+d)%4294967296))=_-aC^(n+(j+1))*((carry+uu+d)/4294967296);rw[hset,hval,hvt];have hw:aC=4294967296:=rfl;have hp:aC^(n+(j+1))=aC^n*aC^j*4294967296:=by rw[jE,fi,hw];grind
     rw[hp,jE];generalize aC^n=P at*;generalize aC^j=Q at*;generalize(carry+uu+d)/4294967296=cc at*;generalize(carry+uu+d)%4294967296=c2 at*;have e4:c2=carry+uu+d-4294967296*cc:=by omega
     rw[e4];grind
   . show m-(iw ((j:Int)+1)).toNat<m-((j:Int)).toNat;rw[bJ]<;>omega
 . have hjm:j=m:=by omega
   subst hjm;rw[kB (by omega)]at hval;exact⟨hB,hx,htk,hup,c0,c1,hval⟩
theorem J4{u x:List Int}{n:Nat}{t:Int}(hu:n<=u.length)(hx:x.length=u.length)(htk:x.take n=u.take n)(h:val aC x=val aC u+aC^n*t):val aC (x.drop n)=val aC (u.drop n)+t:=by
 rw[ov (B:=aC) (l:=x) n (by omega),ov (B:=aC) (l:=u) n hu,htk]at h;have h1:aC^n*val aC (x.drop n)=aC^n*(val aC (u.drop n)+t):=by rw[vL];omega
 exact Mw (by have:=kH (B:=aC) (by decide) n;omega) h1
theorem top3{l:List Int}{m:Nat}(h:bA aC l)(hm:2<=m)(hl:m<l.length)(hv:val aC l<aC^(m+1)):val aC l=((l.getD m 0*aC+l.getD (m-1) 0)*aC+l.getD (m-2) 0)*aC^(m-2)+val aC (l.take (m-2)):=by
 have h0:=xV (B:=aC) (l:=l) (n:=m+1) (by omega) (fun k hk hmk=>by have:=vc h hv k hmk;rwa[fQ hk]at this);obtain⟨k,rfl⟩:∃k,m=k+2:=⟨m-2,by omega⟩;rw[<-h0,fk,fk (n:=k+1),fk (n:=k),show k+2-1=k+1 by omega,show k+2-2=k by omega,fi,fi];grind
theorem top2{l:List Int}{m:Nat}(hm:2<=m)(hl:l.length=m):val aC l=(l.getD (m-1) 0*aC+l.getD (m-2) 0)*aC^(m-2)+val aC (l.take (m-2)):=by
 obtain⟨k,rfl⟩:∃k,m=k+2:=⟨m-2,by omega⟩;have h0:l.take (k+1+1)=l:=kB (by omega);rw[<-h0,fk,fk (n:=k),h0,show k+2-1=k+1 by omega,show k+2-2=k by omega,fi];grind
theorem b1_tm{b v u q:List Int}{m:Nat}(hb:b.length=m)(hm:2<=m)(hv:v.length=m)(hvB:bA aC v)(huB:bA aC u)(hqB:bA aC q)(hu:u.length=q.length+m)(hul:u.length<=17592186044416)(hv1:0<v.getD (m-1) 0)(h0:val aC (u.drop q.length)<val aC v):
 Tm (fun N=>bK (AP N b v) N (u,q,iw ((q.length:Int)-1))) (fun r=>bA aC r.1/\r.1.length=u.length/\bA aC r.2/\r.2.length=q.length/\val aC u=val aC r.1+val aC v*val aC r.2/\val aC r.1<val aC v):=by
 refine Tm.loop (fun t:List Int×List Int×Int=>∃k:Nat,t.2.2=(k:Int)-1/\k<=q.length/\bA aC t.1/\t.1.length=u.length/\bA aC t.2.1/\t.2.1.length=q.length/\val aC u=val aC t.1+aC^k*(val aC v*val aC (t.2.1.drop k))/\val aC (t.1.drop k)<val aC v) (fun t=>(t.2.2+1).toNat)
  ⟨q.length,by rw[bJ]<;>omega,bI _,huB,rfl,hqB,rfl,by simp[val],h0⟩ ?_
 rintro⟨x,y,ii⟩ ⟨k,rfl,hk,hxB,hx,hyB,hy,hval,hlt⟩;dsimp only[AP]at*;refine aY (fun h=>?_) (fun h=>aS ?_)
 . obtain⟨n,rfl⟩:∃n,k=n+1:=⟨k-1,by omega⟩;have hi:((n+1:Nat):Int)-1=(n:Int):=by omega
   rw[hi];have him:iw ((n:Int)+(b.length:Int))=((n+m:Nat):Int):=by rw[bJ]<;>omega
   have him1:iw (((n+m:Nat):Int)-1)=((n+m-1:Nat):Int):=by rw[bJ]<;>omega
   have hbm:iw ((b.length:Int)-1)=((m-1:Nat):Int):=by rw[bJ]<;>omega
   rw[him,him1,hbm];refine aN (gi rfl (by omega)) (aN (gi rfl (by omega)) (aN (gi rfl (by omega)) ?_));have hV:=top2 hm hv;have hVl:=gF (B:=aC) (by decide) (hvB.take (m-2));have hVl':=gW (B:=aC) (by decide) (hvB.take (m-2));rw[eR,jT (by omega)]at hVl';have hVW:val aC v<aC^m:=by have:=gW (B:=aC) (by decide) hvB;rwa[hv]at this
   have hxn:=hxB.getD (B:=aC) (by decide) n;have hRe:val aC (x.drop n)=x.getD n 0+aC*val aC (x.drop (n+1)):=by rw[fx (by omega),si,fQ (by omega)]
   have hR0:=gF (B:=aC) (by decide) (hxB.drop n);have hRV:val aC (x.drop n)<4294967296*val aC v:=by
    rw[hRe];simp only[aC]at*;omega
   have hR1:val aC (x.drop n)<aC^(m+1):=by
    rw[fi];simp only[aC]at*;omega
   have hR:=top3 (hxB.drop n) hm (by simp;omega) hR1;have hRl:=gF (B:=aC) (by decide) ((hxB.drop n).take (m-2));have hRl':=gW (B:=aC) (by decide) ((hxB.drop n).take (m-2));rw[eR,qP,jT (by omega)]at hRl';rw[qY,qY,qY,show n+(m-1)=n+m-1 by omega,show n+(m-2)=n+m-2 by omega]at hR;have d1:=hvB.getD (B:=aC) (by decide) (m-1);have d2:=hvB.getD (B:=aC) (by decide) (m-2);have d3:=hxB.getD (B:=aC) (by decide) (n+m);have d4:=hxB.getD (B:=aC) (by decide) (n+m-1);have d5:=hxB.getD (B:=aC) (by decide) (n+m-2);have hp:=kH (B:=aC) (by decide) (m-2);have hV0:=gF (B:=aC) (by decide) hvB;simp only[aC]at d1 d2 d3 d4 d5;rw[gJ (z:=x.getD (n+m) 0) d3.1 (by omega),gJ (z:=x.getD (n+m-1) 0) d4.1 (by omega),gJ (z:=v.getD (m-1) 0) d1.1 (by omega),zW d3.1 d3.2 d4.1 d4.2];have t0:0<=x.getD (n+m) 0*4294967296+x.getD (n+m-1) 0:=by omega
   have t1:x.getD (n+m) 0*4294967296+x.getD (n+m-1) 0<18446744073709551616:=by omega
   refine aN (Dk (by omega)) (aN (gi rfl (by omega)) ?_);rw[gJ (z:=v.getD (m-1) 0) d1.1 (by omega)];refine aN (DM (by omega)) ?_;rw[BJ t0,C0 t0];have hq0:=yq t0 (show 0<=v.getD (m-1) 0 by omega);have hq1:(x.getD (n+m) 0*4294967296+x.getD (n+m-1) 0)/v.getD (m-1) 0<=x.getD (n+m) 0*4294967296+x.getD (n+m-1) 0:=Int.ediv_le_self _ t0;have hm0:=lF (x.getD (n+m) 0*4294967296+x.getD (n+m-1) 0) (show v.getD (m-1) 0≠0 by omega);have hm1:=lG (x.getD (n+m) 0*4294967296+x.getD (n+m-1) 0) hv1;have hdm:=jF (x.getD (n+m) 0*4294967296+x.getD (n+m-1) 0) (v.getD (m-1) 0);rw[show IntKind.u64.wrap ((x.getD (n+m) 0*4294967296+x.getD (n+m-1) 0)/v.getD (m-1) 0)=(x.getD (n+m) 0*4294967296+x.getD (n+m-1) 0)/v.getD (m-1) 0 from gJ hq0 (by omega)];refine Tm.bind (b2_tm (b:=b) (v:=v) (u:=x) (n:=n) (m:=m) (V:=val aC v) (R:=val aC (x.drop n)) (top:=x.getD (n+m) 0*4294967296+x.getD (n+m-1) 0) hb hv hm (by omega) (by omega) rfl rfl rfl ⟨hv1,d1.2⟩ d2 d5 hp hV ⟨hVl,hVl'⟩ hR ⟨hRl,hRl'⟩ hRV
    (by have:=fF (v.getD (m-1) 0) ((x.getD (n+m) 0*4294967296+x.getD (n+m-1) 0)/v.getD (m-1) 0);omega) ⟨hm0,hm1⟩ ⟨hq0,by omega⟩) ?_
   rintro g ⟨g0,g1,hgR,hgV⟩;clear hdm hm0 hm1 hq0 hq1;generalize hRR:val aC (x.drop n)=R at*;generalize hVV:val aC v=V at*;have hsg:iw (((n+m:Nat):Int)+1)=((n+m+1:Nat):Int):=by rw[bJ]<;>omega
   rw[hsg];refine aN (f:=nX _ _ _) (a:=()) (by unfold nX;rw[if_pos (by omega)]) ?_;refine Tm.bind (Q:=fun r:Bool×List Int=>bA aC r.2/\r.2.length=x.length/\r.2.take n=x.take n/\(∀k,n+m<k->r.2.getD k 0=x.getD k 0)/\((r.1=false/\val aC (r.2.drop n)=R-g*V)\/(r.1=true/\val aC (r.2.drop n)=R-g*V+aC^(m+1)))) ?_ ?_
   . unfold zL;refine Tm.bind (b3_tm (b:=b) (v:=v) (u:=x) (n:=n) (m:=m) (g:=g) hb hv hvB hxB (by omega) (by omega) g0 g1) ?_;rintro⟨z,bo⟩ ⟨z1,z2,z3,z4,z5,z6,z7⟩;dsimp only at*;refine aS ⟨z1,z2,z3,z4,?_⟩;have hva:=J4 (u:=x) (x:=z) (n:=n) (t:=-(g*V)+aC^(m+1)*bo) (by omega) z2 z3 (by rw[z7,hVV,jE aC n (m+1)];grind);rw[hRR]at hva;rcases(show bo=0\/bo=1 by omega)with rfl|rfl
     . exact .inl ⟨rfl,by rw[hva,Int.mul_zero];omega⟩
     . exact .inr ⟨rfl,by rw[hva,yr];omega⟩
   rintro⟨bz,z⟩ ⟨z1,z2,z3,z4,z5⟩;dsimp only at*;have hzn:=gF (B:=aC) (by decide) (z1.drop n);have hzW:val aC (z.drop n)<aC^(m+1):=JR (z1.drop n) (fun j hj=>by rw[qY,z4 _ (by omega)];have:=vc (hxB.drop n) (by rw[hRR];exact hR1) j hj;rwa[qY]at this);have e1:(g+1)*V=g*V+V:=by grind
   refine Tm.bind (Q:=fun r:List Int×Int=>bA aC r.1/\r.1.length=x.length/\r.1.take n=x.take n/\0<=r.2/\r.2<4294967296/\val aC (r.1.drop n)=R-r.2*V/\val aC (r.1.drop n)<V) ?_ ?_
   . refine aY (fun hz=>?_) (fun hz=>aS ?_)
     . have z6:val aC (z.drop n)=R-g*V+aC^(m+1):=by
        rcases z5 with z5|z5
        . rw[z5.1]at hz;cases hz
        . exact z5.2
       refine Tm.bind (b4_tm (v:=v) (u:=z) (n:=n) (m:=m) hv hvB z1 (by omega) (by omega)) ?_;rintro⟨s,carry⟩ ⟨s1,s2,s3,s4,s5,s6,s7⟩;dsimp only at*;have hset:=fun y=>tX (B:=aC) (l:=s) (n:=n+m) (y:=y) (by omega);rw[<-fQ (l:=s) (n:=n+m) (by omega)]at hset;have hsd:=s1.getD (B:=aC) (by decide) (n+m);refine aN (gi rfl (by omega)) (aN (gi rfl (by omega)) (aN (eh rfl (by omega)) (aS ?_)));have hsu:=fun k hk=>s4 k hk;generalize hD:s.getD (n+m) 0=D at*;simp only[aC]at hsd;have ec:dU (D+dU carry)=(D+carry)%4294967296:=by rw[gk,gk];omega
       rw[ec];have hdm:=jF (D+carry) 4294967296;have hdb:0<=(D+carry)%4294967296/\(D+carry)%4294967296<4294967296:=by omega
       generalize(D+carry)%4294967296=D' at*;generalize(D+carry)/4294967296=tt at*;have hB':bA aC (s.set (n+m) D'):=s1.set (by simp only[aC];omega);have hva:=J4 (u:=z) (x:=s.set (n+m) D') (n:=n) (t:=V-aC^(m+1)*tt) (by omega) (by simp;omega) (by rw[yp (by omega)];exact s3) (by
        rw[hset,s7,hVV,jE,fi];have hw:aC=4294967296:=rfl;have e4:D'=D+carry-4294967296*tt:=by omega
        rw[e4];generalize aC^n=P at*;generalize aC^m=Q at*;rw[hw];grind)
       have hlo:=gF (B:=aC) (by decide) (hB'.drop n);have hhi:val aC ((s.set (n+m) D').drop n)<aC^(m+1):=JR (hB'.drop n) (fun j hj=>by
        rw[qY,rY (by omega),if_neg (by omega),s4 _ (by omega),z4 _ (by omega)];have:=vc (hxB.drop n) (by rw[hRR];exact hR1) j hj;rwa[qY]at this)
       have hpp:=kH (B:=aC) (by decide) (m+1);have hgp:0<g:=by
        rcases qS 0 g with h'|h'
        . exact h'
        . have:g=0:=by omega
          subst this;rw[Int.zero_mul]at z6;omega
       have htt:tt=1:=by
        have e3:tt=0\/tt=1:=by omega
        rcases e3 with e3|e3
        . subst e3;rw[hva,z6,Int.mul_zero]at hhi;omega
        . exact e3
       subst htt;have e5:(g-1)*V=g*V-V:=by grind
       refine⟨hB',by simp;omega,by dsimp only;rw[yp (by omega)];exact s3.trans z3,?_,?_,?_,?_⟩
       . show 0<=uw (g-1);rw[gJ]<;>omega
       . show uw (g-1)<_;rw[gJ]<;>omega
       . show val aC ((s.set (n+m) D').drop n)=R-uw (g-1)*V;rw[gJ (show 0<=g-1 by omega) (by omega),hva,z6,e5,yr];omega
       . show val aC ((s.set (n+m) D').drop n)<V;rw[hva,z6,yr];omega
     . have z6:val aC (z.drop n)=R-g*V:=by
        rcases z5 with z5|z5
        . exact z5.2
        . exact absurd z5.1 hz
       exact⟨z1,z2,z3,g0,g1,z6,by dsimp only;omega⟩
   rintro⟨s,g'⟩ ⟨s1,s2,s3,s4,s5,s6,s7⟩;dsimp only at*;refine aN (gi rfl (by omega)) (aN (eh rfl (by omega)) (aS ?_));have eg:dU g'=g':=by rw[gk];omega
   rw[eg];refine⟨⟨n,by show iw ((n:Int)-1)=_;rw[bJ]<;>omega,by omega,s1,s2.trans hx,hyB.set (by simp only[aC];omega),by simp;omega,?_,s7⟩,?_⟩
   . show val aC u=val aC s+aC^n*(V*val aC ((y.set n g').drop n));rw[fx (by simp;omega),si,List.getElem_set_self,List.drop_set_of_lt (by omega),hval,ov (B:=aC) (l:=s) n (by omega),s6,s3,ov (B:=aC) (l:=x) n (by omega),hRR,fi];generalize aC^n=P at*;generalize aC=W at*;grind
   . show(iw ((n:Int)-1)+1).toNat<((n:Int)+1).toNat;rw[bJ]<;>omega
 . obtain rfl:k=0:=by omega
   simp only[kK,Int.pow_zero,Int.one_mul]at hval hlt;exact⟨hxB,hx,hyB,hy,hval,hlt⟩
open Go Go.X
theorem Ql{x:Int}{s:Nat}(hs:s<=31)(z:Int)(h:x=2^s*z):x%4294967296%2^s=0:=by
 have hPQ:=As hs;rw[<-hPQ,Int.emod_emod_of_dvd _ (Int.dvd_mul_right _ _),h,Int.mul_emod_right]
theorem b5_tm{u z:List Int}{n:Int}{s m:Nat}{t:Int}(hn:uw n=s)(hs:s<=31)(hz:z=List.replicate m 0)(huB:bA aC u)(hu:m<u.length)(hul:u.length<=17592186044416)(hm:0<m)(hv:val aC u<aC^m)(ht:val aC u=t*2^s):
 Tm (fun N=>bK (Bi N n u z) N (z,0)) (fun r=>bA aC r/\r.length=m/\val aC r=t):=by
 subst hz;have hPQ:=As hs;have hP:(0:Int)<2^s:=kp (by decide);have hQ:(0:Int)<2^(32-s):=kp (by decide);have hP31:(2:Int)^s<=2147483648:=km (B:=2) (by decide) hs;have c0:u.getD 0 0%2^s=0:=by
  have h1:val aC u%4294967296=u.getD 0 0:=by
   cases u with
   |nil=>simp at hu
   |cons x l=>
    have:=huB.head;simp only[val,List.getD_cons_zero];rw[show aC*val aC l=4294967296*val aC l from rfl,F1];simp only[aC]at this;omega
  rw[<-h1];exact Ql hs t (by rw[ht,fF])
 refine Tm.loop (fun r:List Int×Int=>∃j:Nat,r.2=j/\j<=m/\bA aC r.1/\r.1.length=m/\val aC (r.1.take j)*2^s=val aC (u.take j)+aC^j*(u.getD j 0%2^s)) (fun r=>m-r.2.toNat)
  ⟨0,rfl,by omega,bA.df (by decide),by simp,by rw[c0];simp[val]⟩ ?_
 rintro⟨r,jj⟩ ⟨j,rfl,hj,hB,hr,hval⟩;dsimp only[Bi]at*;rw[kL];refine aY (fun h=>?_) (fun h=>aS ?_)
 . have hj1:iw ((j:Int)+1)=((j+1:Nat):Int):=by rw[bJ]<;>omega
   rw[hj1,hn];refine aN (gi rfl (by omega)) (aN (gi rfl (by omega)) (aN (wI (by omega)) (aN (gi rfl (by omega)) (aN (eh rfl (by omega)) (aS ?_)))));have hx:=huB.getD (B:=aC) (by decide) j;have hy:=huB.getD (B:=aC) (by decide) (j+1);have hut:=fk (B:=aC) (l:=u) (n:=j);have hts:=fun y=>take_set (l:=r) (n:=j) (y:=y) (by omega);generalize u.getD j 0=x at*;generalize hY:u.getD (j+1) 0=y at*;simp only[aC]at hx hy;rw[gJ hx.1 (by omega),gJ hy.1 (by omega),zW hy.1 hy.2 hx.1 hx.2];have esh:fp .u64 (y*4294967296+x) (s:Int)=(y*4294967296+x)/2^s:=by
    unfold fp;rw[show min ((s:Int)).toNat IntKind.u64.bits=s by show min _ 64=s;omega];exact jo _ (eb hP)
   rw[esh];have hx1:=jF x (2^s);have hy1:=jF y (2^s);have hxm0:=lF x (show(2:Int)^s≠0 by omega);have hxm1:=lG x hP;have hym0:=lF y (show(2:Int)^s≠0 by omega);have hym1:=lG y hP;have hxd1:x/2^s<2^(32-s):=F8 hP (by rw[fF,hPQ];omega);have hxd0:0<=x/2^s:=yq hx.1 (by omega);have e1:(y*4294967296+x)/2^s=y*2^(32-s)+x/2^s:=by
    rw[<-hPQ,show y*(2^s*2^(32-s))+x=x+2^s*(y*2^(32-s)) by grind,Int.add_mul_ediv_left _ _ (by omega),Int.add_comm]
   have e2:dU (y*2^(32-s)+x/2^s)=(y%2^s)*2^(32-s)+x/2^s:=by
    have hle:(y%2^s)*2^(32-s)+2^(32-s)<=4294967296:=by
     have:=fj (show y%2^s+1<=2^s by omega) (show(0:Int)<=2^(32-s) by omega);rw[hPQ]at this;have e:(y%2^s+1)*2^(32-s)=(y%2^s)*2^(32-s)+2^(32-s):=by grind
     omega
    have hge:0<=(y%2^s)*2^(32-s):=eH hym0 (by omega);have e3:y*2^(32-s)+x/2^s=(y%2^s)*2^(32-s)+x/2^s+4294967296*(y/2^s):=by
     have e4:4294967296*(y/2^s)=2^s*2^(32-s)*(y/2^s):=by rw[hPQ]
     have e5:y*2^(32-s)=(y%2^s+2^s*(y/2^s))*2^(32-s):=by rw[hy1]
     rw[e4,e5];grind
    rw[gk,e3,F1,BY (by omega) (by omega)]
   rw[e1,e2];have hdig:0<=(y%2^s)*2^(32-s)+x/2^s/\(y%2^s)*2^(32-s)+x/2^s<4294967296:=by
    rw[<-e2,gk];omega
   refine⟨⟨j+1,rfl,by omega,hB.set (by simp only[aC];exact hdig),by simp;omega,?_⟩,?_⟩
   . show val aC ((r.set j _).take (j+1))*2^s=val aC (u.take (j+1))+aC^(j+1)*(u.getD (j+1) 0%2^s);rw[hY];rw[hts,hut,fi];have hw:aC=2^s*2^(32-s):=hPQ.symm;have e6:aC^j*aC*(y%2^s)=aC^j*(2^s*2^(32-s))*(y%2^s):=by rw[<-hw]
     rw[e6];have e7:aC^j*x=aC^j*(x%2^s+2^s*(x/2^s)):=by rw[hx1]
     rw[e7];generalize aC^j=P at*;generalize val aC (r.take j)=a1 at*;generalize val aC (u.take j)=a2 at*;have:(a1+P*((y%2^s)*2^(32-s)+x/2^s))*2^s=a1*2^s+P*((y%2^s)*2^(32-s)+x/2^s)*2^s:=by grind
     rw[this,hval];grind
   . show m-(((j+1:Nat):Int)).toNat<m-((j:Int)).toNat;omega
 . obtain rfl:j=m:=by omega
   rw[kB (by omega),vc huB hv j (bI _)]at hval;have h1:=xV (B:=aC) (l:=u) (n:=j) (by omega) (fun k hk hmk=>by have:=vc huB hv k hmk;rwa[fQ hk]at this);rw[h1,ht]at hval;simp only[Int.zero_emod,Int.mul_zero,Int.add_zero]at hval;exact⟨hB,hr,Int.eq_of_mul_eq_mul_right (by omega) hval⟩
theorem PS{l:List Int}(h:bA aC l)(hn:fH l)(hl:0<l.length):0<l.getD (l.length-1) 0:=by
 have h1:=h.getD (B:=aC) (by decide) (l.length-1);have h2:l.getD (l.length-1) 0≠0:=by
  intro e;apply hn;rw[F3,bV (by omega)];rw[fQ (by omega)]at e;rw[e]
 omega
theorem J9{a b:List Int}(ha:bA aC a)(hb:bA aC b)(na:fH a)(nb:fH b)(hb0:0<b.length)(hl:a.length<=8796093022208)(hl':b.length<=8796093022208):
 Tm (fun N=>vn N a b) (fun r=>Dg aC r.1 (val aC a/val aC b)/\Dg aC r.2 (val aC a%val aC b)/\r.1.length<=a.length/\r.2.length<=a.length+1):=by
 unfold vn;have hA0:=gF (B:=aC) (by decide) ha;have hB0:=wW (B:=aC) (by decide) hb nb (by intro e;rw[e]at hb0;simp at hb0);refine Tm.bind (zu ha hb na nb (by omega) (by omega)) ?_;rintro _ rfl;refine aY (fun h=>?_) (fun h=>?_)
 . have hlt:val aC a<val aC b:=by revert h;unfold bM;split<;>(try split)<;>omega
   refine Tm.bind (oQ ha (by omega)) ?_;rintro r ⟨hr,hrl⟩;refine aS ⟨?_,?_,by simp,by dsimp only;omega⟩
   . rw[MN hA0 hlt];exact Dg.nil
   . rw[BY hA0 hlt];exact hr
 . have hge:val aC b<=val aC a:=by revert h;unfold bM;split<;>(try split)<;>omega
   have hle:b.length<=a.length:=by
    rcases cv a.length b.length with h'|h'
    . have:=mN mJ ha hb nb h';omega
    . exact h'
   have hlast:=PS hb nb hb0;have hlast':=hb.getD (B:=aC) (by decide) (b.length-1);refine aY (fun h1=>?_) (fun h1=>?_)
   . have hb1:b.length=1:=by omega
     refine aN (gi (n:=0) rfl (by omega)) ?_;have hbv:val aC b=b.getD 0 0:=by
      match b,hb1 with
      |[x],_=>simp[val]
     rw[hb1]at hlast hlast';simp only[vH]at hlast hlast';refine Tm.bind (K5 ha hlast hlast'.2 (by omega)) ?_;rintro⟨q,r⟩ ⟨hq,hqv,hrv,hql⟩;dsimp only at*;refine Tm.bind (oQ hq (by omega)) ?_;rintro q' ⟨hq',hql'⟩;have hr0:=lF (val aC a) (show b.getD 0 0≠0 by omega);have hr1:=lG (val aC a) hlast;refine Tm.bind (oQ (d:=[r]) (bA.cons (by rw[hrv];omega) bA.nil) (by simp)) ?_;rintro r' ⟨hr',hrl'⟩;refine aS ⟨?_,?_,by dsimp only;omega,by simp at hrl';dsimp only;omega⟩
     . rw[hbv,<-hqv];exact hq'
     . rw[hbv,<-hrv];simpa[val]using hr'
   . have hm:2<=b.length:=by omega
     generalize hmm:b.length=m at*;have hbm:iw ((m:Int)-1)=((m-1:Nat):Int):=by rw[bJ]<;>omega
     rw[hbm];refine aN (gi rfl (by omega)) ?_;generalize hx:b.getD (m-1) 0=x at*;refine Tm.bind (Ri hlast hlast'.2) ?_;rintro _ ⟨s,rfl,hs,s1,s2⟩;have eus:uw (s:Int)=s:=gJ (by omega) (by omega);refine Tm.bind (Lu eus hs ha (by omega)) ?_;rintro u ⟨huB,huv,hul⟩;refine Tm.bind (Lu eus hs hb (by omega)) ?_;rintro v0 ⟨hvB0,hvv0,hvl0⟩;refine aN (oT (m:=0) (n:=m) rfl rfl (by omega) (by omega)) ?_;simp only[kK];have hPQ:=As hs;have hP:(0:Int)<2^s:=kp (by decide);have hQ:(0:Int)<2^(32-s):=kp (by decide);have hP31:(2:Int)^s<=2147483648:=km (B:=2) (by decide) hs;have hbt:val aC b=val aC (b.take (m-1))+aC^(m-1)*x:=by
      have:=fk (B:=aC) (l:=b) (n:=m-1);rwa[kB (by omega),hx]at this
     have hbl:=gW (B:=aC) (by decide) (hb.take (m-1));rw[eR,jT (by omega)]at hbl;have hbl0:=gF (B:=aC) (by decide) (hb.take (m-1));have pm:=kH (B:=aC) (by decide) (m-1);have pm1:aC^m=aC^(m-1)*aC:=by rw[<-fi];congr 1;omega
     have hx32:(x+1)*2^s<=4294967296:=by
      have h1:x*2^s<2^(32-s)*2^s:=by rw[fF (2^(32-s)),hPQ];exact s2
      have h2:=MO h1 (by omega);have h3:=fj (show x+1<=2^(32-s) by omega) (show(0:Int)<=2^s by omega);rw[fF (2^(32-s)),hPQ]at h3;exact h3
     have hv0m:val aC v0<aC^m:=by
      have h1:val aC b<aC^(m-1)*(x+1):=by rw[vL];omega
      have h2:=ML h1 hP;have h3:=gg hx32 (show 0<=aC^(m-1) by omega);have e:aC^(m-1)*(x+1)*2^s=aC^(m-1)*((x+1)*2^s):=by grind
      rw[hvv0,pm1];simp only[aC]at*;omega
     have hvv:val aC (v0.take m)=val aC b*2^s:=by
      rw[<-hvv0];exact xV (by omega) (fun k hk hmk=>by have:=vc hvB0 hv0m k hmk;rwa[fQ hk]at this)
     have hvl:(v0.take m).length=m:=by simp;omega
     have hvB:=hvB0.take m;generalize v0.take m=v at*;have hvge:2147483648*aC^(m-1)<=val aC v:=by
      rw[hvv];have h1:=fj (show aC^(m-1)*x<=val aC b by omega) (show(0:Int)<=2^s by omega);have h2:=gg s1 (show 0<=aC^(m-1) by omega);have e:aC^(m-1)*x*2^s=aC^(m-1)*(x*2^s):=by grind
      rw[fF 2147483648];omega
     have hv1:0<v.getD (m-1) 0:=by
      have h1:val aC v=val aC (v.take (m-1))+aC^(m-1)*v.getD (m-1) 0:=by
       have:=fk (B:=aC) (l:=v) (n:=m-1);rwa[kB (by omega)]at this
      have h2:=gW (B:=aC) (by decide) (hvB.take (m-1));rw[eR,jT (by omega)]at h2;have h3:=hvB.getD (B:=aC) (by decide) (m-1);rcases qS 0 (v.getD (m-1) 0)with h4|h4
      . exact h4
      . have h5:v.getD (m-1) 0=0:=by omega
        rw[h5]at h1;omega
     refine aN (ia (n:=a.length+1-m) (by rw[hul,bJ]<;>omega) (by omega) (by decide)) ?_;have hul2:u.length=(List.replicate (a.length+1-m) (0:Int)).length+m:=by simp;omega
     refine Tm.bind (b1_tm (b:=b) (v:=v) (u:=u) (q:=List.replicate (a.length+1-m) 0) (m:=m) hmm hm hvl hvB huB (bA.df (by decide)) hul2 (by omega) hv1 ?_) ?_
     . have h1:=ov (B:=aC) (l:=u) (List.replicate (a.length+1-m) (0:Int)).length (by omega);rw[kL]at h1⊢;have h2:=gF (B:=aC) (by decide) (huB.take (a.length+1-m));have h3:=ML (gW (B:=aC) (by decide) ha) hP;have p1:aC^a.length=aC^(a.length+1-m)*aC^(m-1):=by rw[<-jE];congr 1;omega
       have h4:aC^(a.length+1-m)*val aC (u.drop (a.length+1-m))<aC^(a.length+1-m)*(aC^(m-1)*2^s):=by
        rw[<-MM,<-p1];omega
       have h5:=Ga h4 (by have:=kH (B:=aC) (by decide) (a.length+1-m);omega);have h6:=gg hP31 (show 0<=aC^(m-1) by omega);rw[fF 2147483648]at hvge;omega
     rintro⟨u',q⟩ ⟨hu'B,hu'l,hqB,hql,hAv,hlt⟩;dsimp only at*;refine aN (ia (n:=m) rfl (by omega) (by decide)) ?_;have hu0:=gF (B:=aC) (by decide) hu'B;have ht:val aC u'=(val aC a-val aC b*val aC q)*2^s:=by
      rw[huv,hvv]at hAv;have e:(val aC a-val aC b*val aC q)*2^s=val aC a*2^s-val aC b*2^s*val aC q:=by grind
      omega
     have hr0:0<=val aC a-val aC b*val aC q:=by
      rcases qS (val aC a-val aC b*val aC q) 0 with h1|h1
      . have:=fj (show val aC a-val aC b*val aC q≤-1 by omega) (show(0:Int)<=2^s by omega);omega
      . exact h1
     have hr1:val aC a-val aC b*val aC q<val aC b:=by
      rw[ht,hvv]at hlt;exact MO hlt (by omega)
     refine Tm.bind (b5_tm (u:=u') (n:=(s:Int)) (s:=s) (m:=m) eus hs rfl hu'B (by omega) (by omega) (by omega) (by have:=gW (B:=aC) (by decide) hvB;rw[hvl]at this;omega) ht) ?_;rintro r ⟨hrB,hrl,hrv⟩;refine Tm.bind (oQ hqB (by rw[hql];simp;omega)) ?_;rintro q' ⟨hq',hql'⟩;refine Tm.bind (oQ hrB (by omega)) ?_;rintro r' ⟨hr',hrl'⟩;have hdm:=(Gb (a:=val aC a) (b:=val aC b) (r:=val aC a-val aC b*val aC q) (q:=val aC q) hB0).2 ⟨by omega,hr0,hr1⟩;rw[kL]at hql;refine aS ⟨?_,?_,by dsimp only;omega,by dsimp only;omega⟩
     . rw[hdm.1];exact hq'
     . rw[hdm.2,<-hrv];exact hr'
structure DivP (a b:Int)(r:aB×aB×Bool):Prop where
 ok:r.2.2=decide (b≠0)
 quo:Is r.1 (a.fdiv b)
 rem:Is r.2.1 (if b=0 then 0 else a.fmod b)
theorem JM{x y:Int}(hx:0<=x)(hy:0<y):(-x).fdiv (-y)=x/y/\(-x).fmod (-y)=-(x%y):=by
 have h1:(-x).fdiv (-y)=x.fdiv y:=Gc _ _;rw[h1,jo _ (by omega)];refine⟨rfl,?_⟩;have h2:=Gd (-x) (-y);rw[h1,jo _ (by omega)]at h2;have h3:=jF x y;have e:-y*(x/y)=-(y*(x/y)):=by grind
 omega
theorem Ji{x y:Int}(hy:0<y):(-x).fdiv y=(if x%y=0 then-(x/y)else-(x/y+1))/\(-x).fmod y=(if x%y=0 then 0 else y-x%y):=by
 rw[jo _ (by omega),Ge _ (by omega)];have h3:=jF x y;have h4:=lF x (show y≠0 by omega);have h5:=lG x hy;split
 . rename_i h;have:=(Gb (a:=-x) (b:=y) (r:=0) (q:=-(x/y)) hy).2 ⟨by have e:y*-(x/y)=-(y*(x/y)):=(by grind);omega,by omega,by omega⟩;exact this
 . have:=(Gb (a:=-x) (b:=y) (r:=y-x%y) (q:=-(x/y+1)) hy).2 ⟨by have e:y*-(x/y+1)=-(y*(x/y))-y:=(by grind);omega,by omega,by omega⟩;exact this
theorem KX{x y:Int}:x.fdiv (-y)=(-x).fdiv y/\x.fmod (-y)=-((-x).fmod y):=by
 have h1:x.fdiv (-y)=(-x).fdiv y:=by rw[<-Gc x,Int.neg_neg]
 refine⟨h1,?_⟩;have h2:=Gd x (-y);have h3:=Gd (-x) y;rw[h1]at h2;have e:-y*(-x).fdiv y=-(y*(-x).fdiv y):=by grind
 omega
theorem inB1:bA aC [1]:=bA.cons (by decide) bA.nil
theorem Q7{a b:aB}(ha:bA aC a.aP)(hb:bA aC b.aP)(hl:a.aP.length<=4398046511104)(hl':b.aP.length<=4398046511104):
 Tm (fun N=>kA N a b) (fun r=>DivP (bv a) (bv b) r/\r.1.aP.length<=a.aP.length+2/\r.2.1.aP.length<=max (a.aP.length+1) b.aP.length):=by
 unfold kA;refine Tm.bind (px ha (by omega)) ?_;rintro x ⟨hx,hxl⟩;refine Tm.bind (px hb (by omega)) ?_;rintro y ⟨hy,hyl⟩;have hz:=hy.dg.zero (by decide);refine aY (fun h=>aS ?_) (fun h=>?_)
 . have h0:bv b=0:=by have:=hz.1 (mh.1 (by omega));omega
   refine⟨⟨by simp[h0],?_,?_⟩,by simp,by simp⟩
   . rw[h0,MP];exact⟨Dg.nil,rfl⟩
   . rw[if_pos h0];exact⟨Dg.nil,rfl⟩
 . have h0:bv b≠0:=fun e=>h (by rw[hz.2 (by omega)];rfl);have hyl0:0<y.aP.length:=by omega
   have vx:=hx.yR;have vy:=hy.yR;have n1:=hx.neg;have n2:=hy.neg;have X0:=gF (B:=aC) (by decide) hx.dg.bL;refine Tm.bind (J9 hx.dg.bL hy.dg.bL hx.dg.fg hy.dg.fg hyl0 (by omega) (by omega)) ?_;rintro⟨q,r⟩ ⟨hq,hr,hql,hrl⟩;dsimp only at*;generalize hX:val aC x.aP=X at*;generalize hY:val aC y.aP=Y at*;have Y0:0<Y:=by rw[vy];split<;>omega
   have hr0:=lF X (show Y≠0 by omega);have hr1:=lG X Y0;have hq0:=yq X0 (show 0<=Y by omega);have hrz:=hr.zero (by decide);refine aY (fun hs=>?_) (fun hs=>?_)
   . 
     have hab:(bv a).fdiv (bv b)=(-X).fdiv Y/\(bv a).fmod (bv b)=if y.bF=true then-((-X).fmod Y)else(-X).fmod Y:=by
      have hs':¬x.bF=y.bF:=by simpa using hs
      by_cases p:bv a<0<;>by_cases p':bv b<0<;>simp only[p,p',decide_true,decide_false,if_true,if_false]at n1 n2 vx vy
      . rw[n1,n2]at hs';exact absurd rfl hs'
      . rw[n2,show bv a=-X by omega,show bv b=Y by omega];simp
      . rw[n2,show bv a=X by omega,show bv b=-Y by omega];simpa using KX
      . rw[n1,n2]at hs';exact absurd rfl hs'
     have hdd:=Ji (x:=X) Y0;refine Tm.bind (Q:=fun t:List Int×List Int=>bA aC t.1/\bA aC t.2∧-(val aC t.1)=(-X).fdiv Y/\val aC t.2=(-X).fmod Y/\t.1.length<=x.aP.length+2/\t.2.length<=max (x.aP.length+1) y.aP.length) (aY (fun hrp=>?_) (fun hrp=>aS ?_)) ?_
     . have hrne:X%Y≠0:=fun e=>by have:=hrz.2 e;rw[this]at hrp;simp at hrp
       rw[if_neg hrne,if_neg hrne]at hdd;refine Tm.bind (Gn hq.bL inB1 (by omega) (by simp)) ?_;rintro q1 ⟨hq1,hq1v,hq1l⟩;have hle:r.length<=y.aP.length:=by
        rcases cv y.aP.length r.length with h'|h'
        . have:=mN mJ hy.dg.bL hr.bL hr.fg h';rw[hY,hr.val]at this;omega
        . exact h'
       refine Tm.bind (Fl hy.dg.bL hr.bL (by omega) hle (by rw[hY,hr.val];omega)) ?_;rintro r1 ⟨hr1B,hr1v,hr1l⟩;refine aS ⟨hq1,hr1B,?_,?_,?_,by dsimp only;omega⟩
       . rw[hdd.1,hq1v,hq.val];simp[val]
       . rw[hdd.2,hr1v,hY,hr.val]
       . simp only[cA,dP]at hq1l;dsimp only;omega
     . have hre:r=[]:=mh.1 (by omega);have hrz':=hrz.1 hre;rw[if_pos hrz',if_pos hrz']at hdd;refine⟨hq.bL,hr.bL,?_,?_,by dsimp only;omega,by dsimp only;omega⟩
       . rw[hdd.1,hq.val]
       . rw[hdd.2,hr.val,hrz']
     rintro⟨q1,r1⟩ ⟨hq1,hr1B,hq1v,hr1v,hq1l,hr1l⟩;dsimp only at*;refine Tm.bind (lK hq1 (by omega)) ?_;rintro q2 ⟨hq2,hq2l⟩;refine Tm.bind (lK hr1B (by omega)) ?_;rintro r2 ⟨hr2,hr2l⟩;refine aS ⟨⟨by simp[h0],?_,?_⟩,by dsimp only;omega,by dsimp only;omega⟩
     . rw[hab.1,<-hq1v];simpa using hq2
     . rw[if_neg h0,hab.2,<-hr1v];exact hr2
   . 
     have hs':x.bF=y.bF:=by simpa using hs
     have hab:(bv a).fdiv (bv b)=X/Y/\(bv a).fmod (bv b)=if y.bF=true then-(X%Y)else X%Y:=by
      by_cases p:bv a<0<;>by_cases p':bv b<0<;>simp only[p,p',decide_true,decide_false,if_true,if_false]at n1 n2 vx vy
      . rw[n2,show bv a=-X by omega,show bv b=-Y by omega];simpa using JM X0 Y0
      . rw[n1,n2]at hs';cases hs'
      . rw[n1,n2]at hs';cases hs'
      . rw[n2,show bv a=X by omega,show bv b=Y by omega,jo _ (by omega),Ge _ (by omega)];simp
     refine Tm.bind (lK hq.bL (by omega)) ?_;rintro q2 ⟨hq2,hq2l⟩;refine Tm.bind (lK hr.bL (by omega)) ?_;rintro r2 ⟨hr2,hr2l⟩;refine aS ⟨⟨by simp[h0],?_,?_⟩,by dsimp only;omega,by dsimp only;omega⟩
     . rw[hab.1,<-hq.val];simpa using hq2
     . rw[if_neg h0,hab.2,<-hr.val];exact hr2
open Go Go.X
theorem EO{B:Int}(hB:1<B){a b:List Int}(ha:bA B a)(hb:bA B b)(nb:fH b)(h:val B b<=val B a):b.length<=a.length:=by
 rcases cv a.length b.length with h'|h'
 . have:=mN hB ha hb nb h';omega
 . exact h'
def tB(j:Nat):Int:=if j=0 then 0 else 2^(j-1)
theorem Bk(j:Nat):tB (j+1)=2^j:=by simp[tB]
theorem Of(j:Nat)(hj:j<16):iw (Int.tdiv (tB (j+1)) 2)=tB j:=by
 rw[Bk];cases j with
 |zero=>decide
 |succ j=>
  rw[Bk,BJ (eb (kp (by decide))),fi,Int.mul_ediv_cancel _ (by decide)];have h1:=kH (B:=2) (by decide) j;have h2:=km (B:=2) (by decide) (show j<=15 by omega);have e:(2:Int)^15=32768:=by decide
  rw[bJ]<;>omega
theorem NI{x:Int}(hx:0<=x)(j:Nat):x/2^j=2*(x/2^(j+1))+x/2^j%2:=by
 have h:=jF (x/2^j) 2;have e:x/2^j/2=x/2^(j+1):=by rw[Int.ediv_ediv_of_nonneg (eb (kp (by decide))),fi]
 rw[e]at h;omega
theorem RA{a b q r:List Int}{n:Nat}{H Qh:Int}(ha:bA aW a)(hb:bA aW b)(nb:fH b)(hb0:0<val aW b)(hla:a.length<=4398046511104)(hlb:b.length<=4398046511104)(hn:n<a.length)(hq:q.length=a.length)(hqB:bA aW q)(hqn:q.getD n 0=0)
 (hr:Dg aW r (val aW r))(hrlt:val aW r<val aW b)(hI:H=val aW b*Qh+val aW r):
 Tm (fun N=>bK (An N a b n) N (q,r,32768)) (fun t=>t.1.length=a.length/\bA aW t.1/\Dg aW t.2 (val aW t.2)/\val aW t.2<val aW b/\(∀m,m≠n->t.1.getD m 0=q.getD m 0)/\H*65536+a.getD n 0=val aW b*(Qh*65536+t.1.getD n 0)+val aW t.2):=by
 have hx:=ha.getD (B:=aW) (by decide) n;generalize hxx:a.getD n 0=x at*;simp only[aW]at hx;have key:∀r:List Int,Dg aW r (val aW r)->val aW r<val aW b->r.length<=b.length:=fun r h1 h2=>EO nC hb h1.bL h1.fg (by omega);refine Tm.loop (fun t:List Int×List Int×Int=>∃(j:Nat) (y:Int),t.2.2=tB j/\j<=16/\t.1.length=a.length/\bA aW t.1/\Dg aW t.2.1 (val aW t.2.1)/\val aW t.2.1<val aW b/\(∀m,m≠n->t.1.getD m 0=q.getD m 0)/\0<=y/\y<2^(16-j)/\t.1.getD n 0=y*2^j/\H*2^(16-j)+x/2^j=val aW b*(Qh*2^(16-j)+y)+val aW t.2.1) (fun t=>t.2.2.toNat)
  ⟨16,0,rfl,bI _,hq,hqB,hr,hrlt,fun _ _=>rfl,by simp,by simp,by rw[hqn];simp,?_⟩ ?_
 . show H*2^(16-16)+x/2^16=_;have e:(2:Int)^16=65536:=by decide
   rw[e,MN hx.1 hx.2];simp;omega
 rintro⟨qq,rr,bit⟩ ⟨j,y,rfl,hj,hql,hqqB,hrr,hrrlt,hoth,y0,y1,hy,hI2⟩;dsimp only[An]at*;have hr0:=hrr.xT (by decide);cases j with
 |zero=>
  refine cz (by decide) (aS ⟨hql,hqqB,hrr,hrrlt,hoth,?_⟩);simp only[Nat.sub_zero,Int.pow_zero,yr,Int.ediv_one]at hy hI2;have e:(2:Int)^16=65536:=by decide
  rw[e]at hI2;show H*65536+x=val aW b*(Qh*65536+qq.getD n 0)+val aW rr;rw[hy];exact hI2
 |succ j=>
  have hhalf:=Of j (by omega);rw[hhalf];rw[Bk];have hP:=kp (n:=2) (m:=j) (by decide);have hP2:(2:Int)^j<=32768:=km (B:=2) (by decide) (show j<=15 by omega);refine cT (by omega) ?_;have hrl:=key rr hrr hrrlt;refine Tm.bind (Ax hrr.bL hrr.bL (by omega) (by omega)) ?_;rintro r2 ⟨hr2,hr2l⟩;refine aN (gi rfl (by omega)) ?_;rw[hxx];refine aN (Dk (by omega)) ?_;rw[BJ hx.1];have hd0:=yq hx.1 (show(0:Int)<=2^j by omega);have hd1:x/2^j<=x:=Int.ediv_le_self _ hx.1;rw[show IntKind.i64.wrap (x/2^j)=x/2^j from wi64 (by omega) (by omega),C0 hd0];have hhb:=NI hx.1 j;have hv:val aW r2=val aW rr+val aW rr:=hr2.val;have r3:Tm (fun N=>if x/2^j%2=1 then(oH N r2 [1]).bind fun r1352=>some r1352 else some r2) (fun t=>Dg aW t (2*val aW rr+x/2^j%2)/\t.length<=b.length+2):=by
   refine aY (fun h=>?_) (fun h=>aS ⟨?_,by omega⟩)
   . refine Tm.bind (Ax hr2.bL (bA.cons (by decide) bA.nil) (by omega) (by simp)) ?_;rintro t ⟨ht,htl⟩;refine aS ⟨?_,by simp only[cA,dP]at htl;omega⟩;rw[hv]at ht;simp only[val]at ht;rw[h,show 2*val aW rr+1=val aW rr+val aW rr+(1+aW*0) by omega];exact ht
   . rw[show 2*val aW rr+x/2^j%2=val aW rr+val aW rr by omega];exact hr2
  refine Tm.bind r3 ?_;rintro r3 ⟨h3,h3l⟩;refine Tm.bind (GG h3.bL hb h3.fg nb (by omega) (by omega)) ?_;rintro _ rfl;rw[h3.val];have hbit:0<=x/2^j%2/\x/2^j%2<=1:=by omega
  have hsub:16-j=(16-(j+1))+1:=by omega
  have hy2:(2:Int)^(16-j)=2*2^(16-(j+1)):=by rw[hsub,fi,fF]
  have hyj:y*2^(j+1)=2*y*2^j:=by rw[fi];grind
  have hmeas:(tB j).toNat<((2:Int)^j).toNat:=by
   cases j with
   |zero=>decide
   |succ j=>
    rw[Bk,fi];have:=kp (n:=2) (m:=j) (by decide);omega
  refine aY (fun h=>?_) (fun h=>aS ⟨⟨j,2*y,rfl,by omega,hql,hqqB,by rw[h3.val];exact h3,?_,hoth,by omega,by omega,by rw[hy,hyj],?_⟩,hmeas⟩)
  . have hge:val aW b<=2*val aW rr+x/2^j%2:=by revert h;unfold bM;split<;>(try split)<;>omega
    have hle:b.length<=r3.length:=EO nC h3.bL hb nb (by rw[h3.val];exact hge);refine Tm.bind (E5 h3.bL hb (by omega) hle (by rw[h3.val];exact hge)) ?_;rintro r4 ⟨h4,h4l⟩;rw[h3.val]at h4;have hqn:=hqqB.getD (B:=aW) (by decide) n;refine aN (gi rfl (by omega)) (aN (gi rfl (by omega)) (aN (eh rfl (by omega)) (aS ?_)));simp only[aW]at hqn;rw[hy,hyj]at hqn⊢;have hq2:2*y*2^j+2^j=(2*y+1)*2^j:=by grind
    have hlt:(2*y+1)*2^j<65536:=by
     have h5:=fj (show 2*y+1+1<=2^(16-j) by omega) (show(0:Int)<=2^j by omega);rw[<-jE,show 16-j+j=16 by omega]at h5;have e:(2:Int)^16=65536:=by decide
     have e2:(2*y+1+1)*2^j=(2*y+1)*2^j+2^j:=by grind
     omega
    rw[show iw (2*y*2^j+2^j)=(2*y+1)*2^j by rw[bJ]<;>omega];refine⟨⟨j,2*y+1,rfl,by omega,by simp;omega,hqqB.set (by simp only[aW];omega),by rw[h4.val];exact h4,by dsimp only;rw[h4.val];omega,fun m hm=>?_,by omega,by omega,?_,?_⟩,hmeas⟩
    . show(qq.set n _).getD m 0=_;rw[rY (by omega),if_neg (fun e=>hm e.symm)];exact hoth m hm
    . show(qq.set n _).getD n 0=_;rw[rY (by omega),if_pos rfl]
    . show H*2^(16-j)+x/2^j=val aW b*(Qh*2^(16-j)+(2*y+1))+val aW r4;rw[h4.val,hy2,hhb];generalize val aW b=B at*;generalize val aW rr=R at*;generalize(2:Int)^(16-(j+1))=T at*;generalize x/2^(j+1)=X at*;generalize x/2^j%2=z at*;grind
  . show val aW r3<val aW b;rw[h3.val];revert h;unfold bM;split<;>(try split)<;>omega
  . show H*2^(16-j)+x/2^j=val aW b*(Qh*2^(16-j)+2*y)+val aW r3;rw[h3.val,hy2,hhb];generalize val aW b=B at*;generalize val aW rr=R at*;generalize(2:Int)^(16-(j+1))=T at*;generalize x/2^(j+1)=X at*;generalize x/2^j%2=z at*;grind
theorem Qa{a b:List Int}(ha:bA aW a)(hb:bA aW b)(nb:fH b)(hb0:0<val aW b)(hla:a.length<=4398046511104)(hlb:b.length<=4398046511104):
 Tm (fun N=>xW N a b) (fun t=>Dg aW t.1 (val aW a/val aW b)/\Dg aW t.2 (val aW a%val aW b)/\t.1.length<=a.length/\t.2.length<=b.length):=by
 unfold xW;refine aN (ia rfl (by omega) (by decide)) ?_;refine Tm.bind (Q:=fun t:List Int×List Int=>t.1.length=a.length/\bA aW t.1/\Dg aW t.2 (val aW t.2)/\val aW t.2<val aW b/\val aW a=val aW b*val aW t.1+val aW t.2)
  (Tm.loop (fun t:List Int×List Int×Int=>∃k:Nat,t.2.2=(k:Int)-1/\k<=a.length/\t.1.length=a.length/\bA aW t.1/\Dg aW t.2.1 (val aW t.2.1)/\val aW t.2.1<val aW b/\(∀m,m<k->t.1.getD m 0=0)/\val aW (a.drop k)=val aW b*val aW (t.1.drop k)+val aW t.2.1) (fun t=>(t.2.2+1).toNat)
   ⟨a.length,by rw[bJ]<;>omega,bI _,by simp,bA.df (by decide),Dg.nil,by simpa[val]using hb0,fun m hm=>by rw[fQ (by simpa using hm)];simp,by simp[val]⟩ ?_) ?_
 . rintro⟨q,r,i⟩ ⟨k,rfl,hk,hq,hqB,hr,hrlt,hz,hv⟩;dsimp only[C2]at*;refine aY (fun h=>?_) (fun h=>aS ?_)
   . obtain⟨n,rfl⟩:∃n,k=n+1:=⟨k-1,by omega⟩;have hi:((n+1:Nat):Int)-1=(n:Int):=by omega
     rw[hi];refine Tm.bind (RA (n:=n) ha hb nb hb0 hla hlb (by omega) hq hqB (hz n (by omega)) hr hrlt hv) ?_;rintro⟨q',r'⟩ ⟨h1,h2,h3,h4,h5,h6⟩;dsimp only at*;refine aS ⟨⟨n,by show iw ((n:Int)-1)=_;rw[bJ]<;>omega,by omega,h1,h2,h3,h4,fun m hm=>?_,?_⟩,?_⟩
     . show q'.getD m 0=0;rw[h5 m (by omega)];exact hz m (by omega)
     . show val aW (a.drop n)=val aW b*val aW (q'.drop n)+val aW r';have hqd:q'.drop (n+1)=q.drop (n+1):=by
        apply pK (by simp;omega);intro i g1 g2;rw[F2,F2];have:=h5 (n+1+i) (by omega);simp only[qP]at g1 g2;rwa[fQ (by omega),fQ (by omega)]at this
       rw[fx (l:=a) (by omega),fx (l:=q') (by omega),si,si,hqd,<-fQ (l:=a),<-fQ (l:=q')];have hw:aW=65536:=rfl;rw[hw]at*;generalize val 65536 (a.drop (n+1))=H at*;generalize val 65536 (q.drop (n+1))=Qh at*;have e1:a.getD n 0+65536*H=H*65536+a.getD n 0:=by omega
       have e2:q'.getD n 0+65536*Qh=Qh*65536+q'.getD n 0:=by omega
       rw[e1,e2];exact h6
     . show(iw ((n:Int)-1)+1).toNat<((n:Int)+1).toNat;rw[bJ]<;>omega
   . obtain rfl:k=0:=by omega
     simp only[kK]at hv;exact⟨hq,hqB,hr,hrlt,hv⟩
 . rintro⟨q,r⟩ ⟨hq,hqB,hr,hrlt,hv⟩;dsimp only at*;refine Tm.bind (uG hqB (by omega)) ?_;rintro q' ⟨hq',hql⟩;have hr0:=hr.xT (by decide);have hdm:=(Gb (a:=val aW a) (b:=val aW b) (r:=val aW r) (q:=val aW q) hb0).2 ⟨by omega,hr0,hrlt⟩;refine aS ⟨?_,?_,by dsimp only;omega,EO nC hb hr.bL hr.fg (show val aW r<=val aW b by omega)⟩
   . rw[hdm.1];exact hq'
   . rw[hdm.2];exact hr
theorem Hr{a b:aB}(ha:bA aC a.aP)(hb:bA aC b.aP)(hl:a.aP.length<=1099511627776)(hl':b.aP.length<=1099511627776):
 Tm (fun N=>tC N a b) (fun r=>DivP (bv a) (bv b) r):=by
 unfold tC;refine Tm.bind (nH hb (by omega)) ?_;rintro _ rfl;refine aY (fun h=>aS ?_) (fun h=>?_)
 . have h0:bv b=0:=by revert h;unfold bM;split<;>(try split)<;>omega
   exact⟨by simp[h0],by rw[h0,MP];exact⟨Dg.nil,rfl⟩,by rw[if_pos h0];exact⟨Dg.nil,rfl⟩⟩
 . have h0:bv b≠0:=by revert h;unfold bM;split<;>(try split)<;>omega
   refine Tm.bind (oB ha (by omega)) ?_;rintro l ⟨hl1,hl2⟩;refine Tm.bind (oB hb (by omega)) ?_;rintro m ⟨hm1,hm2⟩;have A0:=gF (B:=aC) (by decide) ha;have B0:=gF (B:=aC) (by decide) hb;have hbv:bv b=if b.bF=true then-val aC b.aP else val aC b.aP:=rfl;have hav:bv a=if a.bF=true then-val aC a.aP else val aC a.aP:=rfl;have B1:0<val aC b.aP:=by revert h0;rw[hbv];split<;>omega
   refine Tm.bind (Qa hl1.bL hm1.bL hm1.fg (by rw[hm1.val];exact B1) (by omega) (by omega)) ?_;rintro⟨q,r⟩ ⟨hq,hr,hql,hrl⟩;rw[hl1.val,hm1.val]at hq hr;dsimp only at*;refine Tm.bind (pg (neg:=!(a.bF==b.bF)) hq.bL (by omega)) ?_;rintro q1 ⟨hq1,hq1l⟩;refine Tm.bind (pg (neg:=a.bF) hr.bL (by omega)) ?_;rintro r1 ⟨hr1,hr1l⟩;rw[hq.val]at hq1;rw[hr.val]at hr1;generalize hA:val aC a.aP=A at*;generalize hB:val aC b.aP=B at*;have m0:=lF A (show B≠0 by omega);have m1:=lG A B1;have hdd:=Ji (x:=A) B1;have hds:=JM A0 B1;have hdn:=KX (x:=A) (y:=B);generalize hQ:(if(!(a.bF==b.bF))=true then-(A/B)else A/B)=Q at*;generalize hR:(if a.bF=true then-(A%B)else A%B)=R at*;have hfd:(bv a).fdiv (bv b)=(if bM R 0≠0/\bM R 0≠bM (bv b) 0 then Q-1 else Q)/\(bv a).fmod (bv b)=(if bM R 0≠0/\bM R 0≠bM (bv b) 0 then R+bv b else R):=by
    have sp:bM B 0=1:=by unfold bM;rw[if_neg (by omega),if_pos (by omega)]
    have sn:bM (-B) 0=-1:=by unfold bM;rw[if_pos (by omega)]
    rw[hav,hbv];cases hna:a.bF<;>cases hnb:b.bF<;>simp only[hna,hnb]at hQ hR<;>simp at hQ hR<;>subst hQ<;>subst hR
    . simp only[mf,if_false,sp];have e:¬(bM (A%B) 0≠0/\bM (A%B) 0≠1):=by unfold bM;rw[if_neg (by omega)];split<;>omega
      rw[if_neg e,if_neg e,jo _ (by omega),Ge _ (by omega)];exact⟨rfl,rfl⟩
    . simp only[mf,if_false,if_true,sn];rw[hdn.1,hdn.2,hdd.1,hdd.2];by_cases e0:A%B=0
      . have e:¬(bM (A%B) 0≠0/\bM (A%B) 0≠-1):=by rw[e0];decide
        rw[if_neg e,if_neg e,if_pos e0,if_pos e0];omega
      . have e:bM (A%B) 0≠0/\bM (A%B) 0≠-1:=by unfold bM;rw[if_neg (by omega),if_pos (by omega)];decide
        rw[if_pos e,if_pos e,if_neg e0,if_neg e0];omega
    . simp only[mf,if_false,if_true,sp];rw[hdd.1,hdd.2];by_cases e0:A%B=0
      . have e:¬(bM (-(A%B)) 0≠0/\bM (-(A%B)) 0≠1):=by rw[e0];decide
        rw[if_neg e,if_neg e,if_pos e0,if_pos e0];omega
      . have e:bM (-(A%B)) 0≠0/\bM (-(A%B)) 0≠1:=by unfold bM;rw[if_pos (by omega)];decide
        rw[if_pos e,if_pos e,if_neg e0,if_neg e0];omega
    . simp only[if_true,sn];have e:¬(bM (-(A%B)) 0≠0/\bM (-(A%B)) 0≠-1):=by unfold bM;split<;>(try split)<;>omega
      rw[if_neg e,if_neg e];exact hds
   have hr1v:=hr1.bv;refine Tm.bind (Q:=(·=decide (bM R 0≠0/\bM R 0≠bM (bv b) 0))) (Tm.bind (nH hr1.dg.bL (by omega)) ?_) ?_
   . rintro _ rfl;rw[hr1v];refine aY (fun h1=>?_) (fun h1=>aS ?_)
     . refine Tm.bind (nH hr1.dg.bL (by omega)) ?_;rintro _ rfl;refine Tm.bind (nH hb (by omega)) ?_;rintro _ rfl;rw[hr1v];refine aS ?_;simp[h1]
     . simp at h1;simp[h1]
   rintro _ rfl;refine Tm.bind (Q:=fun t:aB×aB=>Is t.1 ((bv a).fdiv (bv b))/\Is t.2 ((bv a).fmod (bv b))) ?_ ?_
   . rw[hfd.1,hfd.2];refine aY (fun h1=>?_) (fun h1=>aS ?_)
     . have h1:=of_decide_eq_true h1;refine Tm.bind (tF (n:=1) (by decide) (by decide)) ?_;rintro o ⟨ho,hol⟩;refine Tm.bind (GU hq1.dg.bL ho.dg.bL (by omega) (by omega)) ?_;rintro q2 ⟨hq2,_⟩;refine Tm.bind (xk hr1.dg.bL hb (by omega) (by omega)) ?_;rintro r2 ⟨hr2,_⟩;rw[hq1.bv,ho.bv]at hq2;rw[hr1v]at hr2;refine aS ⟨?_,?_⟩
       . rw[if_pos h1];exact hq2
       . rw[if_pos h1];exact hr2
     . have h1:¬(bM R 0≠0/\bM R 0≠bM (bv b) 0):=by simpa using h1
       rw[if_neg h1,if_neg h1];exact⟨hq1,hr1⟩
   . rintro⟨q2,r2⟩ ⟨hq2,hr2⟩;exact aS ⟨by simp[h0],hq2,by rw[if_neg h0];exact hr2⟩
open Go Go.X
abbrev kU:bB:=⟨[],⟨false,[]⟩⟩
theorem vA{xs:List aB}{i:Int}{n:Nat}(e:i=(n:Int))(h:n<xs.length):idx xs i=some (xs.getD n eM):=by
 rw[qU h];exact gw e h
theorem DY{xs:List bB}{i:Int}{n:Nat}(e:i=(n:Int))(h:n<xs.length):idx xs i=some (xs.getD n kU):=by
 rw[cy,bV h];exact gw e h
theorem L4{l:List aB}{n m:Nat}{y:aB}(h:n<l.length):(l.set n y).getD m eM=if n=m then y else l.getD m eM:=by
 rw[cy,cy,qM];by_cases e:n=m
 . subst e;simp[h]
 . simp[e]
theorem Ca{l:List bB}{n:Nat}(h:n<l.length):l.getD n kU∈l:=by
 rw[cy,bV h];exact du h
theorem JG{l:List aB}{n:Nat}(h:n<l.length):l.getD n eM∈l:=by
 rw[cy,bV h];exact du h
def iy(n:Nat)(c:List aB)(f:Nat->Int):Prop:=c.length=n/\∀j,j<n->Is (c.getD j eM) (f j)
theorem iy.uniq{n:Nat}{c c':List aB}{f:Nat->Int}(h:iy n c f)(h':iy n c' f):c=c':=by
 apply pK (h.1.trans h'.1.symm);intro i h1 h2;have g1:=h.2 i (by rw[<-h.1];exact h1);have g2:=h'.2 i (by rw[<-h.1];exact h1);rw[qU h1]at g1;rw[qU h2]at g2;exact g1.uniq g2
theorem Hi{ρ:Type}{body:Nat->List aB×Int->Option (aK (List aB×Int) ρ)}{fin:List aB->ρ}{bad:ρ}{n K K':Nat}{f g:Nat->Int}{F:Nat->Prop}{c0:List aB}(hn:n<=1073741824)(h0:iy n c0 f)(hk0:∀j,j<n->(c0.getD j eM).aP.length<=K)
 (step:∀k,k<n->∀c:List aB,c.length=n->Is (c.getD k eM) (f k)->(c.getD k eM).aP.length<=K->
  Tm (fun N=>body N (c,(k:Int))) (fun s=>(∃y,s=.next (c.set k y,iw ((k:Int)+1))/\Is y (g k)/\y.aP.length<=K'/\¬F k)\/(s=.done bad/\F k)))
 (stop:∀c:List aB,c.length=n->Tm (fun N=>body N (c,(n:Int))) (fun s=>s=.done (fin c))):
 Tm (fun N=>bK (body N) N (c0,0)) (fun r=>(∃c,r=fin c/\iy n c g/\(∀j,j<n->(c.getD j eM).aP.length<=K')/\∀k,k<n->¬F k)\/(r=bad/\∃k,k<n/\F k)):=by
 refine Tm.loop (fun t:List aB×Int=>∃k:Nat,t.2=k/\k<=n/\t.1.length=n/\(∀j,j<k->Is (t.1.getD j eM) (g j)/\(t.1.getD j eM).aP.length<=K'/\¬F j)/\∀j,k<=j->j<n->Is (t.1.getD j eM) (f j)/\(t.1.getD j eM).aP.length<=K) (fun t=>n-t.2.toNat)
  ⟨0,rfl,fy _,h0.1,fun j hj=>absurd hj (by omega),fun j _ hj=>⟨h0.2 j hj,hk0 j hj⟩⟩ ?_
 rintro⟨c,kk⟩ ⟨k,rfl,hk,hc,h1,h2⟩;dsimp only at*;rcases cv k n with hkn|hkn
 . refine(step k hkn c hc (h2 k (bI _) hkn).1 (h2 k (bI _) hkn).2).mono ?_;rintro s (⟨y,rfl,hy,hyl,hF⟩|⟨rfl,hF⟩)
   . refine⟨⟨k+1,by show iw ((k:Int)+1)=_;rw[bJ]<;>omega,by omega,by simp;omega,fun j hj=>?_,fun j hj hjn=>?_⟩,?_⟩
     . show Is ((c.set k y).getD j eM) (g j)/\((c.set k y).getD j eM).aP.length<=K'/\¬F j;rw[L4 (by omega)];by_cases e:k=j
       . subst e;rw[if_pos rfl];exact⟨hy,hyl,hF⟩
       . rw[if_neg e];exact h1 j (by omega)
     . show Is ((c.set k y).getD j eM) (f j)/\((c.set k y).getD j eM).aP.length<=K;rw[L4 (by omega),if_neg (by omega)];exact h2 j (by omega) hjn
     . show n-(iw ((k:Int)+1)).toNat<n-((k:Int)).toNat;rw[bJ]<;>omega
   . exact .inr ⟨rfl,k,hkn,hF⟩
 . obtain rfl:k=n:=by omega
   refine(stop c hc).mono ?_;rintro s rfl;exact .inl ⟨c,rfl,⟨hc,fun j hj=>(h1 j hj).1⟩,fun j hj=>(h1 j hj).2.1,fun j hj=>(h1 j hj).2.2⟩
def nV(l:List bB):Nat:=(l.getD 0 kU).aZ.length
def l9(l:List bB):Prop:=∀q∈l,q.aZ.length=nV l
instance (l:List bB):Decidable (l9 l):=inferInstanceAs (Decidable (∀q∈l,q.aZ.length=nV l))
def mq(l:List bB)(u:dQ):Prop:=u.Index<0\/(l.length:Int)<=u.Index\/bv u.N<0
instance (l:List bB)(u:dQ):Decidable (mq l u):=inferInstanceAs (Decidable (_\/_\/_))
def wK(l:List bB)(u:dQ)(a:(Nat->Int)×Int):(Nat->Int)×Int:=(fun j=>a.1 j+bv u.N*bv ((l.getD u.Index.toNat kU).aZ.getD j eM),a.2+bv u.N*bv (l.getD u.Index.toNat kU).dz)
def mb(l:List bB):List dQ->(Nat->Int)×Int->Option ((Nat->Int)×Int)
 |[],a=>some a
 |u::us,a=>if mq l u then none else mb l us (wK l u a)
def mG(l:List bB)(s:Step)(r:bB×Bool):Prop:= if l9 l/\0<bv s.fY then match mb l s.Uses (fun _=>0,0)with
  |none=>r=(kU,false)
  |some (f,b)=>if∀j,j<nV l->f j%bv s.fY=0 then r.2=true/\iy (nV l) r.1.aZ (fun j=>f j/bv s.fY)/\Is r.1.dz (b/bv s.fY)else r=(kU,false) else r=(kU,false)
theorem mG.uniq{l:List bB}{s:Step}{r r':bB×Bool}(h:mG l s r)(h':mG l s r'):r=r':=by
 unfold mG at h h';split at h
 . rename_i hc;rw[if_pos hc]at h';cases hs:mb l s.Uses (fun _=>0,0)with
   |none=>rw[hs]at h h';exact h.trans h'.symm
   |some a=>
    rw[hs]at h h';obtain⟨f,b⟩:=a;dsimp only at h h';split at h
    . rename_i hd;rw[if_pos hd]at h';obtain⟨⟨c,d⟩,t⟩:=r;obtain⟨⟨c',d'⟩,t'⟩:=r';have h1:c=c':=h.2.1.uniq h'.2.1;have h2:d=d':=h.2.2.uniq h'.2.2;have h3:t=t':=h.1.trans h'.1.symm;subst h1;subst h2;subst h3;rfl
    . rename_i hd;rw[if_neg hd]at h';exact h.trans h'.symm
 . rename_i hc;rw[if_neg hc]at h';exact h.trans h'.symm
theorem OW{a:Int}:0<bM a 0↔0<a:=by unfold bM;(repeat' split)<;>omega
structure OkS (s:Step):Prop where
 len:s.Uses.length<=12
 use:∀u∈s.Uses,js 4 u.N
 div:js 4 s.fY
theorem DJ{l:List bB}(hl:l.length<=9223372036854775807):Tm (fun N=>uK N l) (fun r=>r=decide (l9 l)):=by
 unfold uK;refine Tm.bind (Tm.each (body:=fun N=>vR N l) l (fun q=>q.aZ.length=nV l) (Q:=fun r=>(r=.inl ()/\l9 l)\/(r=.inr false/\¬l9 l)) hl ?_ ?_) ?_
 . intro n hn hP;dsimp only[vR];refine cT (by omega) (aN (dd hn) (aN (DY (n:=0) rfl (by omega)) ?_));refine aY (fun h=>aS (.inr ⟨_,rfl,.inr ⟨rfl,fun he=>?_⟩⟩)) (fun h=>aS (.inl ⟨rfl,?_⟩))
   . have:=he _ (du hn);unfold nV at this;omega
   . unfold nV;omega
 . intro hP;dsimp only[vR];exact cz (by omega) (aS ⟨_,rfl,.inl ⟨rfl,hP⟩⟩)
 . rintro _ (⟨rfl,h⟩|⟨rfl,h⟩)
   . exact aS (by simp[h])
   . exact aS (by simp[h])
theorem l9.get{l:List bB}(h:l9 l){n:Nat}(hn:n<l.length):(l.getD n kU).aZ.length=nV l:=h _ (Ca hn)
theorem iy.df{n:Nat}:iy n (List.replicate n eM) (fun _=>0):=⟨by simp,fun j hj=>by rw[qU (by simpa using hj)];simpa using is0⟩
theorem drop_cons{l:List dQ}{k:Nat}(h:k<l.length):l.drop k=l[k]::l.drop (k+1):=fx h
open Go Go.X
theorem pz.same{q:bB}{vs:List Int}{b:Int}(h:pz q vs b)(hv:∀v∈vs,(v.natAbs:Int)<aC^2)(hb:(b.natAbs:Int)<aC^2)(hl:vs.length<=512):p9 512 q:=by
 refine⟨by rw[h.1.1];exact hl,fun x hx=>?_,h.2.dg.bL,by have:=h.2.len hb;omega⟩;obtain⟨j,hj,rfl⟩:=F0.1 hx;have:=h.1.2 j hj (by rw[<-h.1.1];exact hj);exact⟨this.dg.bL,by have:=this.len (hv _ (du _));omega⟩
theorem KO{z:Int}(h:gm z):(z.natAbs:Int)<aC^2:=by unfold gm at h;have e:aC^2=18446744073709551616:=(by decide);omega
theorem HK{z:Int}(h:gm z):((-z).natAbs:Int)<aC^2:=by unfold gm at h;have e:aC^2=18446744073709551616:=(by decide);omega
theorem nQ.ok{c:Constraint}{n:Int}{r:List bB}(hc:np c)(h:nQ c n r):r.length<=2/\∀q∈r,p9 512 q:=by
 rcases h with⟨_,rfl⟩|⟨hR,q,hq,h⟩
 . exact⟨by simp,fun q hq=>by cases hq⟩
 . have hn:(fU c n c.Linear.aZ.length).length<=512:=by rw[rG];have:=hR.2;omega
   have h1:p9 512 q:=hq.same (fun v hv=>KO (Ak hc v hv)) (HK hc.const) hn;rcases h with⟨_,rfl⟩|⟨_,q',hq',rfl⟩
   . exact⟨by simp,fun p hp=>by simp at hp;exact hp▸h1⟩
   . have h2:p9 512 q':=hq'.same (fun v hv=>by obtain⟨u,hu,rfl⟩:=dL.1 hv;exact HK (Ak hc u hu)) (KO hc.const) (by simpa using hn);refine⟨by simp,fun p hp=>?_⟩;simp only[dZ,MA,or_false]at hp;rcases hp with rfl|rfl
     . exact h1
     . exact h2
def kx(n:Int):List Constraint->List bB->Prop
 |[],r=>r=[]
 |c::l,r=>∃a b,nQ c n a/\kx n l b/\r=a++b
theorem kx.uniq{n:Int}:∀{l:List Constraint} {r s:List bB},kx n l r->kx n l s->r=s
 |[],_,_,h,h'=>h.trans h'.symm
 |_::_,_,_,⟨a,b,h1,h2,h3⟩,⟨a',b',g1,g2,g3⟩=>by rw[h3,g3,h1.uniq g1,kx.uniq h2 g2]
theorem kx.snoc{n:Int}:∀{l:List Constraint} {c:Constraint} {r a:List bB},kx n l r->nQ c n a->kx n (l++[c]) (r++a)
 |[],_,_,a,h,h'=>⟨a,[],h',rfl,by rw[show _=[] from h];simp⟩
 |_::_,_,_,_,⟨x,y,h1,h2,h3⟩,h'=>⟨x,_,h1,h2.snoc h',by rw[h3];simp⟩
theorem kx.ok{n:Int}:∀{l:List Constraint} {r:List bB},(∀c∈l,np c)->kx n l r->r.length<=2*l.length/\∀q∈r,p9 512 q
 |[],_,_,h=>by rw[show _=[] from h];exact⟨by simp,fun q hq=>by cases hq⟩
 |c::l,_,hc,⟨a,b,h1,h2,h3⟩=>by
  have e1:=h1.ok (hc c cK);have e2:=h2.ok (fun c h=>hc c (cH _ h));subst h3;refine⟨by simp;omega,fun q hq=>?_⟩;rcases fE.1 hq with h|h
  . exact e1.2 q h
  . exact e2.2 q h
def qA(l:List Constraint)(n:Int)(r:List bB):Prop:=((∀c∈l,fM c n)/\kx n l r)\/(¬(∀c∈l,fM c n)/\r=[])
theorem qA.uniq{l:List Constraint}{n:Int}{r s:List bB}(h:qA l n r)(h':qA l n s):r=s:=by
 rcases h with⟨h1,h2⟩|⟨h1,rfl⟩<;>rcases h' with⟨g1,g2⟩|⟨g1,rfl⟩
 . exact h2.uniq g2
 . exact absurd h1 g1
 . exact absurd g1 h1
 . rfl
theorem Td{l:List Constraint}{n:Int}(hc:∀c∈l,np c)(hl:l.length<=1000):Tm (fun N=>um N l n) (qA l n):=by
 unfold um;refine Tm.bind (Tm.loop (fun s:List bB×Int=>∃k:Nat,s.2=k/\k<=l.length/\(∀c∈l.take k,fM c n)/\kx n (l.take k) s.1) (fun s=>l.length-s.2.toNat)
  (Q:=fun r=>qA l n (match r with|.inl a=>a|.inr a=>a)) ⟨0,rfl,fy _,by simp,rfl⟩ ?_) (fun r h=>by cases r<;>exact aS h)
 rintro⟨out,i⟩ ⟨k,rfl,hk,hR,hS⟩;dsimp only[CU]at*;refine aY (fun h1=>?_) (fun h1=>aS ?_)
 . have hkl:k<l.length:=by omega
   have hck:=hc _ (du hkl);refine aN (dd hkl) (Tm.bind (Hh hck.len) ?_);intro r hr;refine aY (fun h=>aS (.inr ⟨fun e=>?_,rfl⟩)) (fun h=>Tm.bind (Nn hck) ?_)
   . rw[hr.2 (e _ (du hkl))]at h;cases h
   . intro a ha;have h2:=hS.ok (fun c h=>hc c (qQ h));have h3:=ha.ok hck;have h4:(l.take k).length<=1000:=by simp;omega
     refine aN (dO (by omega) (by decide)) (aS ⟨⟨k+1,by dsimp only;rw[bJ]<;>omega,by omega,?_,?_⟩,?_⟩)
     . rw[pJ hkl];intro c hc';rcases fE.1 hc' with h'|h'
       . exact hR c h'
       . rw[cL.1 h'];exact hr.1 (by simpa using h)
     . rw[pJ hkl];exact hS.snoc ha
     . show l.length-(iw ((k:Int)+1)).toNat<l.length-((k:Int)).toNat;rw[bJ]<;>omega
 . rw[fh (by omega)]at hR hS;exact .inl ⟨hR,hS⟩
theorem OK{l:List Constraint}{n:Int}(hc:∀c∈l,np c)(hl:l.length<=1000):Tm (fun N=>wb N l n) (qA l n):=by
 unfold wb;refine Tm.bind (Tm.loop (fun s:List bB×Int=>∃k:Nat,s.2=k/\k<=l.length/\(∀c∈l.take k,fM c n)/\kx n (l.take k) s.1) (fun s=>l.length-s.2.toNat)
  (Q:=fun r=>qA l n (match r with|.inl a=>a|.inr a=>a)) ⟨0,rfl,fy _,by simp,rfl⟩ ?_) (fun r h=>by cases r<;>exact aS h)
 rintro⟨out,i⟩ ⟨k,rfl,hk,hR,hS⟩;dsimp only[Db]at*;refine aY (fun h1=>?_) (fun h1=>aS ?_)
 . have hkl:k<l.length:=by omega
   have hck:=hc _ (du hkl);refine aN (dd hkl) (Tm.bind (Dx hck.len) ?_);intro r hr;refine aY (fun h=>aS (.inr ⟨fun e=>?_,rfl⟩)) (fun h=>aN (dd hkl) (Tm.bind (TH hck) ?_))
   . rw[hr.2 (e _ (du hkl))]at h;cases h
   . intro a ha;have h2:=hS.ok (fun c h=>hc c (qQ h));have h3:=ha.ok hck;have h4:(l.take k).length<=1000:=by simp;omega
     refine aN (dO (by omega) (by decide)) (aS ⟨⟨k+1,by dsimp only;rw[bJ]<;>omega,by omega,?_,?_⟩,?_⟩)
     . rw[pJ hkl];intro c hc';rcases fE.1 hc' with h'|h'
       . exact hR c h'
       . rw[cL.1 h'];exact hr.1 (by simpa using h)
     . rw[pJ hkl];exact hS.snoc ha
     . show l.length-(iw ((k:Int)+1)).toNat<l.length-((k:Int)).toNat;rw[bJ]<;>omega
 . rw[fh (by omega)]at hR hS;exact .inl ⟨hR,hS⟩
open Go Go.X
def nG(vs xs:List Int):Nat->Int
 |0=>0
 |n+1=>nG vs xs n+vs.getD n 0*xs.getD n 0
theorem GJ{l xs:List Int}{v:Nat}{y:Int}(hv:v<l.length):∀n,nG (l.set v y) xs n=nG l xs n+(if v<n then(y-l.getD v 0)*xs.getD v 0 else 0)
 |0=>by simp[nG]
 |n+1=>by
  rw[nG,nG,GJ hv n];rcases MQ v n with h|h|h
  . have:(l.set v y).getD n 0=l.getD n 0:=by rw[cy,cy,vI (by omega)]
    rw[this,if_pos h,if_pos (by omega)];grind
  . subst h;have:(l.set v y).getD v 0=y:=by rw[cy,yg hv];rfl
    rw[this,if_neg (by omega),if_pos (by omega)];grind
  . have:(l.set v y).getD n 0=l.getD n 0:=by rw[cy,cy,vI (by omega)]
    rw[this,if_neg (by omega),if_neg (by omega)];grind
theorem KU{xs:List Int}{m:Nat}:∀n,nG (List.replicate m 0) xs n=0
 |0=>rfl
 |n+1=>by
  rw[nG,KU n];have:(List.replicate m (0:Int)).getD n 0=0:=by
   rcases cv n m with hn|hn
   . rw[fQ (by simpa using hn)];simp
   . rw[mj (by simpa using hn)]
  rw[this];simp
theorem Lh{c:Constraint}{n:Int}(h:fM c n):∀{i k:Nat},(hik:i<k)->(hk:k<c.Linear.aZ.length)->(c.Linear.aZ[i]'(by omega)).Var<c.Linear.aZ[k].Var:=by
 intro i k
 induction k with
 |zero=>intro h;omega
 |succ k ih=>
  intro hik hk;have h1:=(h.1 (k+1) hk).2.2 (by omega);simp only[Mu]at h1;rcases cv i k with h2|h2
  . have:=ih h2 (by omega);omega
  . obtain rfl:i=k:=by omega
    exact h1
theorem Rw{c:Constraint}{n:Int}(h:fM c n):(c.Linear.aZ.length:Int)<=n:=by
 have key:∀k,(hk:k<c.Linear.aZ.length)->(k:Int)<=c.Linear.aZ[k].Var:=by
  intro k
  induction k with
  |zero=>intro hk;have:=(h.1 0 hk).1;omega
  |succ k ih=>intro hk;have:=ih (by omega);have:=Lh h (show k<k+1 by omega) hk;omega
 rcases gv c.Linear.aZ.length with h0|h0
 . have:=h.2;omega
 . have h1:=key (c.Linear.aZ.length-1) (by omega);have h2:=(h.1 (c.Linear.aZ.length-1) (by omega)).2.1;omega
theorem TV{c:Constraint}{n:Int}(h:fM c n){k:Nat}(hk:k<=c.Linear.aZ.length){j:Nat}(hj:∀i,(hi:i<k)->(c.Linear.aZ[i]'(by omega)).Var≠j):(fU c n k).getD j 0=0:=by
 induction k with
 |zero=>
  simp only[fU,MJ,MK];rcases cv j n.toNat with hn|hn
  . rw[fQ (by simpa using hn)];simp
  . rw[mj (by simpa using hn)]
 |succ k ih=>
  rw[wY (by omega),pX,cy,vI]
  . rw[<-cy];exact ih (by omega) (fun i hi=>hj i (by omega))
  . have h1:=hj k (by omega);have h2:=(h.1 k (by omega)).1;omega
def pU(c:Constraint)(x:List Int):Nat->Int
 |0=>0
 |k+1=>pU c x k+(c.Linear.aZ.getD k ⟨0,0⟩).N*x.getD (c.Linear.aZ.getD k ⟨0,0⟩).Var.toNat 0
theorem getDc{l:List jK}{n:Nat}(h:n<l.length):l.getD n ⟨0,0⟩=l[n]:=by rw[cy,bV h];rfl
theorem OH{c:Constraint}{x:List Int}(h:fM c x.length):∀{k:Nat},k<=c.Linear.aZ.length->nG (fU c x.length k) x x.length=pU c x k:=by
 intro k
 induction k with
 |zero=>intro _;simp only[fU,MJ,MK];rw[KU];rfl
 |succ k ih=>
  intro hk;have hv:=h.1 k (by omega);have hz:(fU c x.length k).getD c.Linear.aZ[k].Var.toNat 0=0:=TV h (by omega) (fun i hi=>by have:=Lh h hi (by omega);omega);rw[wY (by omega),pX,GJ (by rw[rG];omega),ih (by omega),if_pos (by omega),hz,pU,getDc (by omega)];grind
open Go Go.X
theorem js.abs{K:Nat}{x:aB}(h:js K x):((bv x).natAbs:Int)<aC^K:=by
 have h0:=gF (B:=aC) (by decide) h.1;have h1:=gW (B:=aC) (by decide) h.1;have h2:=km (B:=aC) (by decide) h.2;unfold bv;split<;>omega
theorem QU{K:Nat}{l:List bB}{s:Step}(hK:K<=536870912)(hl:l.length<=1073741824)(hq:∀q∈l,p9 K q)(hs:OkS s):Tm (fun N=>xi N l s) (fun r=>mG l s r):=by
 unfold xi;refine Tm.bind (Q:=(·=decide (¬(l9 l/\0<bv s.fY)))) (Tm.bind (DJ (by omega)) ?_) ?_
 . rintro _ rfl;refine aY (fun h=>aS ?_) (fun h=>?_)
   . have:¬l9 l:=by simpa using h
     simp[this]
   . have he:l9 l:=by simpa using h
     refine Tm.bind (nH hs.div.1 (by have:=hs.div.2;omega)) ?_;rintro _ rfl;refine aS ?_;have:=OW (a:=bv s.fY);by_cases h1:0<bv s.fY
     . have h2:=this.2 h1;simp[he,h1];omega
     . have h2:¬0<bM (bv s.fY) 0:=fun e=>h1 (this.1 e);simp[h1];omega
 rintro _ rfl;refine aY (fun h=>aS ?_) (fun h=>?_)
 . unfold mG;rw[if_neg (of_decide_eq_true h)]
 . have hc:l9 l/\0<bv s.fY:=by simpa using h
   obtain⟨he,hd⟩:=hc;have hn:nV l<=K:=by
    rcases gv l.length with h0|h0
    . have:l=[]:=mh.1 h0;subst this;simp[nV]
    . exact(hq _ (Ca h0)).1
   refine Tm.bind (Q:=(·=(nV l:Int))) (aY (fun h1=>aN (DY (n:=0) rfl (by omega)) (aS rfl)) (fun h1=>aS ?_)) ?_
   . have:l=[]:=mh.1 (by omega);subst this;simp[nV]
   rintro _ rfl;refine Tm.bind (Q:=(·=⟨List.replicate (nV l) eM,eM⟩)) (by unfold tE;exact aN (ia rfl (by omega) (by decide)) (aS rfl)) ?_;rintro _ rfl;dsimp only;refine Tm.bind (Q:=fun r:Sum (List aB×Bool×List Int) (bB×Bool)=>(∃f c neg ds,r=.inl (c,neg,ds)/\mb l s.Uses (fun _=>0,0)=some (f,bv ⟨neg,ds⟩)/\iy (nV l) c f/\(∀j,j<nV l->(c.getD j eM).aP.length<=K+16)/\js (K+16) ⟨neg,ds⟩)\/(r=.inr (kU,false)/\mb l s.Uses (fun _=>0,0)=none))
    (Tm.loop (fun t:List aB×Bool×List Int×Int=>∃(k:Nat) (f:Nat->Int),t.2.2.2=k/\k<=s.Uses.length/\mb l s.Uses (fun _=>0,0)=mb l (s.Uses.drop k) (f,bv ⟨t.2.1,t.2.2.1⟩)/\iy (nV l) t.1 f/\(∀j,j<nV l->(t.1.getD j eM).aP.length<=K+4+k)/\js (K+4+k) ⟨t.2.1,t.2.2.1⟩) (fun t=>s.Uses.length-t.2.2.2.toNat)
     ⟨0,fun _=>0,rfl,fy _,by rw[kK,Uh],iy.df,fun j hj=>by rw[qU (by simpa using hj)];simp,.nil⟩ ?_) ?_
   . rintro⟨c,neg,ds,kk⟩ ⟨k,f,rfl,hk,hsum,hcf,hcl,hb⟩;have hlen:=hs.len;dsimp only[Ew]at*;refine aY (fun h1=>?_) (fun h1=>aS ?_)
     . have hku:k<s.Uses.length:=by omega
       refine aN (dd hku) ?_;have hu:=hs.use _ (du hku);rw[drop_cons hku]at hsum;generalize s.Uses[k]=u at*;simp only[mb]at hsum;refine Tm.bind (Q:=(·=decide (mq l u))) (aY (fun h2=>aS ?_) (fun h2=>aY (fun h3=>aS ?_) (fun h3=>?_))) ?_
       . have:mq l u:=.inl h2;simp[this]
       . have:mq l u:=.inr (.inl (by omega));simp[this]
       . refine Tm.bind (nH hu.1 (by have:=hu.2;omega)) ?_;rintro _ rfl;refine aS ?_;have:=yC (a:=bv u.N);unfold mq;by_cases h4:bv u.N<0
         . simp[h4,this.2 h4]
         . have:¬bM (bv u.N) 0<0:=fun e=>h4 (this.1 e);simp[h4,this];omega
       rintro _ rfl;refine aY (fun h2=>aS ?_) (fun h2=>?_)
       . rw[if_pos (of_decide_eq_true h2)]at hsum;exact .inr ⟨rfl,hsum⟩
       . have hbu:¬mq l u:=by simpa using h2
         rw[if_neg hbu]at hsum;have hi:0<=u.Index/\u.Index<l.length/\0<=bv u.N:=by unfold mq at hbu;omega
         have hii:u.Index=(u.Index.toNat:Int):=by omega
         have hil:u.Index.toNat<l.length:=by omega
         refine aN (DY hii hil) ?_;have hqq:=hq _ (Ca hil);have hqn:=he.get hil;generalize hQ:l.getD u.Index.toNat kU=q at*;have hu4:=hu.2;have hqb:=hqq.2.2.2;have inner:=Hi (ρ:=List aB) (body:=fun N=>vT N (nV l:Int) u q) (fin:=fun c=>c) (bad:=[]) (n:=nV l) (K:=K+4+k) (K':=K+4+(k+1)) (f:=f) (g:=fun j=>f j+bv u.N*bv (q.aZ.getD j eM)) (F:=fun _=>False) (c0:=c) (by omega) hcf hcl
          (fun j hj c' hc' h3 h4=>by
           dsimp only[vT];have hqj:=hqq.2.1 _ (JG (l:=q.aZ) (n:=j) (by omega));have:=hqj.2;refine cT (by omega) (aN (vA rfl (by omega)) (aN (vA rfl (by omega)) (Tm.bind (Ff hqj.1 hu.1 (by omega) (by omega)) ?_)));rintro m ⟨hm,hml⟩;refine Tm.bind (xk h3.dg.bL hm.dg.bL (by omega) (by omega)) ?_;rintro a ⟨ha,hal⟩;refine aN (vA rfl (by omega)) (aN (eh rfl (by omega)) (aS (.inl ⟨a,rfl,?_,by omega,fun e=>e⟩)));rw[h3.bv,hm.bv,fF]at ha;exact ha)
          (fun c' hc'=>by dsimp only[vT];exact cz (by omega) (aS rfl))
         refine Tm.bind inner ?_;rintro c2 (⟨_,rfl,hc2,hc2l,-⟩|⟨-,j,hj,hF⟩)
         . refine Tm.bind (Ff hqq.2.2.1 hu.1 (by omega) (by omega)) ?_;rintro m ⟨hm,hml⟩;have hb2:ds.length<=K+4+k:=hb.2;refine Tm.bind (xk hb.1 hm.dg.bL (show ds.length<=_ by omega) (by omega)) ?_;rintro a ⟨ha,hal⟩;dsimp only at hal;refine aS ⟨⟨k+1,_,by show iw ((k:Int)+1)=_;rw[bJ]<;>omega,by omega,?_,hc2,hc2l,ha.ok ?_⟩,?_⟩
           . show mb l s.Uses (fun _=>0,0)=mb l (s.Uses.drop (k+1)) (_,bv a);rw[ha.bv,hm.bv,hsum,fF (bv q.dz)];unfold wK;rw[hQ]
           . omega
           . show s.Uses.length-(iw ((k:Int)+1)).toNat<s.Uses.length-((k:Int)).toNat;rw[bJ]<;>omega
         . exact hF.elim
     . have hkL:k=s.Uses.length:=by omega
       subst hkL;rw[B5]at hsum;exact .inl ⟨f,c,neg,ds,rfl,hsum,hcf,fun j hj=>by have:=hcl j hj;omega,hb.mono (by omega)⟩
   . rintro _ (⟨f,c,neg,ds,rfl,hsum,hcf,hcl,hb⟩|⟨rfl,hsum⟩)
     . dsimp only;have hb2:ds.length<=K+16:=hb.2;have hdv:=hs.div.2;have inner:=Hi (ρ:=Sum (List aB) (bB×Bool)) (body:=fun N=>wV N s (nV l:Int)) (fin:=fun c=>.inl c) (bad:=.inr (kU,false)) (n:=nV l) (K:=K+16) (K':=K+20) (f:=f) (g:=fun j=>f j/bv s.fY) (F:=fun j=>¬f j%bv s.fY=0) (c0:=c) (by omega) hcf hcl
        (fun j hj c' hc' h3 h4=>by
         dsimp only[wV];refine cT (by have:=hcf.1;omega) (aN (vA rfl (by omega)) (Tm.bind (Hr h3.dg.bL hs.div.1 (by omega) (by omega)) ?_));rintro⟨qq,rr,oo⟩ hD;have hquo:=hD.quo;have hrem:=hD.rem;dsimp only at hquo hrem;rw[h3.bv,jo _ (by omega)]at hquo;rw[h3.bv,if_neg (by omega),Ge _ (by omega)]at hrem;have hrl:=hrem.len (k:=4) (by have:=hs.div.abs;have m0:=lF (f j) (show bv s.fY≠0 by omega);have m1:=lG (f j) hd;omega);have hql:=hquo.len (k:=K+16) (by have:=(h3.ok h4).abs;rw[h3.bv]at this;have:=Int.natAbs_ediv_le_natAbs (f j) (bv s.fY);omega);refine Tm.bind (nH hrem.dg.bL (show rr.aP.length<=_ by omega)) ?_;rintro _ rfl;rw[hrem.bv];refine aY (fun h5=>aS (.inr ⟨rfl,fun e=>h5 (Bq.2 e)⟩)) (fun h5=>?_);refine aN (vA rfl (by omega)) (aN (eh rfl (by omega)) (aS (.inl ⟨qq,rfl,hquo,by omega,fun e=>e (Bq.1 (by omega))⟩))))
        (fun c' hc'=>by dsimp only[wV];exact cz (by have:=hcf.1;omega) (aS rfl))
       refine Tm.bind inner ?_;rintro _ (⟨c2,rfl,hc2,hc2l,hall⟩|⟨rfl,j,hj,hF⟩)
       . refine Tm.bind (Hr hb.1 hs.div.1 (show ds.length<=_ by omega) (by omega)) ?_;rintro⟨qq,rr,oo⟩ hD;have hquo:=hD.quo;dsimp only at hquo;rw[jo _ (by omega)]at hquo;refine aS ?_;unfold mG;rw[if_pos ⟨he,hd⟩,hsum];dsimp only;rw[if_pos (fun j hj=>tj.1 (hall j hj))];exact⟨rfl,hc2,hquo⟩
       . refine aS ?_;unfold mG;rw[if_pos ⟨he,hd⟩,hsum];dsimp only;rw[if_neg (fun h=>hF (h j hj))]
     . refine aS ?_;unfold mG;rw[if_pos ⟨he,hd⟩,hsum]
open Go Go.X
def pR(n:Nat):List Int:=if h:n=0 then[]else((n%4294967296:Nat):Int)::pR (n/4294967296)
termination_by n
decreasing_by omega
theorem Sf(n:Nat):Dg aC (pR n) n:=by
 induction n using Nat.strongRecOn with
 |ind n ih=>
  rw[pR];split
  . rename_i h;subst h;exact Dg.nil
  . rename_i h;have h1:=ih (n/4294967296) (by omega);refine⟨h1.bL.cons ⟨by omega,by show((n%4294967296:Nat):Int)<4294967296;omega⟩,?_,?_⟩
    . unfold fH;cases hd:pR (n/4294967296)with
      |nil=>
       have:n/4294967296=0:=by have:=(h1.zero (by decide)).1 hd;omega
       simp;omega
      |cons x r=>rw[Uv,<-hd];exact h1.fg
    . rw[si,h1.val];show((n%4294967296:Nat):Int)+4294967296*((n/4294967296:Nat):Int)=n;omega
def B(v:Int):aB:=⟨decide (v<0),pR v.natAbs⟩
theorem mU(v:Int):Is (B v) v:=⟨Sf _,rfl⟩
theorem qg{x:aB}{v:Int}(h:Is x v):x=B v:=h.uniq (mU v)
theorem gA(v:Int):bv (B v)=v:=(mU v).bv
theorem bL(v:Int):bA aC (B v).aP:=(mU v).dg.bL
theorem B0:B 0=⟨false,[]⟩:=by unfold B;rw[show(0:Int).natAbs=0 from rfl,pR];rfl
def dl(v:Int):Nat:=(B v).aP.length
theorem okB{v:Int}{K:Nat}(h:dl v<=K):js K (B v):=⟨bL v,h⟩
theorem ra{v:Int}{k:Nat}(h:(v.natAbs:Int)<aC^k):dl v<=k:=(mU v).len h
theorem tZ(v:Int):(v.natAbs:Int)<aC^dl v:=by have:=(okB (v:=v) (bI _)).abs;rwa[gA]at this
theorem sJ{a b:Int}(h:a.natAbs<=b.natAbs):dl a<=dl b:=ra (by have:=tZ b;omega)
theorem Du{m n:Nat}(h:m<=n):aC^m<=aC^n:=km (by decide) h
theorem oO{a b:Int}{K:Nat}(ha:dl a<=K)(hb:dl b<=K):dl (a+b)<=K+1:=by
 apply ra;have h1:=tZ a;have h2:=tZ b;have h3:=Du ha;have h4:=Du hb;rw[fi];have h5:=kH (B:=aC) (by decide) K;have h6:aC^K*2<=aC^K*aC:=gg (by decide) (eb h5);omega
theorem fR(a:Int):dl (-a)=dl a:=Nat.le_antisymm (sJ (by omega)) (sJ (by omega))
theorem jL{a b:Int}{K:Nat}(ha:dl a<=K)(hb:dl b<=K):dl (a-b)<=K+1:=by
 rw[F6];exact oO ha (by rw[fR];exact hb)
theorem kh(a b:Int):dl (a*b)<=dl a+dl b:=by
 apply ra;have h1:=tZ a;have h2:=tZ b;rw[yt,FW,jE];exact Int.mul_lt_mul' (eb h1) h2 (by omega) (by omega)
theorem ie:dl 0=0:=by unfold dl;rw[B0];rfl
theorem j9{a:Int}(h:a.natAbs<4294967296):dl a<=1:=ra (by show(a.natAbs:Int)<4294967296^1;omega)
theorem EE{a:Int}(h:a.natAbs<18446744073709551616):dl a<=2:=ra (by show(a.natAbs:Int)<4294967296^2;omega)
theorem jA:dl 1<=1:=j9 (by decide)
theorem GI{a b:Int}:(a.fdiv b).natAbs<=a.natAbs:=by
 rcases tk b 0 with h|h|h
 . have e:a.fdiv b=(-a).fdiv (-b):=(Gc a b).symm;rw[e,jo _ (by omega)];have h1:0< -b:=by omega
   generalize-b=c at h1;have h2:=jF (-a) c;have h3:=lF (-a) (show c≠0 by omega);have h4:=lG (-a) h1;generalize(-a)/c=q at*;generalize(-a)%c=r at*;rcases qS q 0 with hq|hq
   . have:=fj (show(1:Int)<=c by omega) (show 0≤-q by omega);have e2:c*-q=-(c*q):=by grind
     have:c+c*q<=0:=by
      have:=gg (show q≤-1 by omega) (show 0<=c by omega);omega
     have h7:(c-1)*(-q-1)≥0:=eH (by omega) (by omega);have e3:(c-1)*(-q-1)=-(c*q)-c+q+1:=by grind
     omega
   . have:=fj (show(1:Int)<=c by omega) hq;omega
 . subst h;rw[MP];omega
 . rw[jo _ (by omega)];have h2:=jF a b;have h3:=lF a (show b≠0 by omega);have h4:=lG a h;generalize a/b=q at*;generalize a%b=r at*;rcases qS q 0 with hq|hq
   . have:b+b*q<=0:=by
      have:=gg (show q≤-1 by omega) (show 0<=b by omega);omega
     have h7:(b-1)*(-q-1)≥0:=eH (by omega) (by omega);have e3:(b-1)*(-q-1)=-(b*q)-b+q+1:=by grind
     omega
   . have:=fj (show(1:Int)<=b by omega) hq;omega
theorem se(a b:Int):dl (a.fdiv b)<=dl a:=sJ GI
theorem CY{a b:Int}(h:0<=b):dl (a/b)<=dl a:=by rw[<-jo a h];exact se a b
abbrev cX:Nat:=1099511627776
section
variable {a b:Int}
theorem mT(ha:dl a<=cX)(hb:dl b<=cX):Tm (fun N=>iW N (B a) (B b)) (·=B (a+b)):=
 (JX (bL a) (bL b) (bO ha (by decide)) (bO hb (by decide))).mono fun r h=>by rw[gA,gA]at h;exact qg h.1
theorem l6(ha:dl a<=cX)(hb:dl b<=cX):Tm (fun N=>iT N (B a) (B b)) (·=B (a-b)):=
 (P3 (bL a) (bL b) (bO ha (by decide)) (bO hb (by decide))).mono fun r h=>by rw[gA,gA]at h;exact qg h.1
theorem nT(ha:dl a<=cX)(hb:dl b<=cX):Tm (fun N=>j1 N (B a) (B b)) (·=B (a*b)):=
 (NX (bL a) (bL b) (bO ha (by decide)) (bO hb (by decide))).mono fun r h=>by rw[gA,gA]at h;exact qg h.1
theorem nF(ha:dl a<=cX):Tm (fun N=>ji N (B a)) (·=B (-a)):=
 (Ae (bL a) (bO ha (by decide))).mono fun r h=>by rw[gA]at h;exact qg h.1
theorem jm(ha:dl a<=cX):Tm (fun N=>gx N (B a)) (·=bM a 0):=
 (T3 (bL a) (bO ha (by decide))).mono fun r h=>by rw[gA]at h;exact h
theorem j2(ha:dl a<=cX)(hb:dl b<=cX):Tm (fun N=>iE N (B a) (B b)) (·=bM a b):=
 (Qg (bL a) (bL b) (bO ha (by decide)) (bO hb (by decide))).mono fun r h=>by rw[gA,gA]at h;exact h
theorem qz(ha:dl a<=cX)(hb:dl b<=cX):Tm (fun N=>kA N (B a) (B b)) (fun r=>r.1=B (a.fdiv b)):=
 (Q7 (bL a) (bL b) (bO ha (by decide)) (bO hb (by decide))).mono fun r h=>by have:=h.1.quo;rw[gA,gA]at this;exact qg this
theorem jP{n:Int}(h1:-9223372036854775808<=n)(h2:n<=9223372036854775807):Tm (fun N=>fL N n) (·=B n):=(Bb h1 h2).mono fun r h=>qg h.1
end
theorem O9{x y:Int}(hx:0<=x)(hy:0<=y):Nat.gcd y.toNat (x%y).toNat=Nat.gcd x.toNat y.toNat:=by
 obtain⟨m,rfl⟩:=qT hx;obtain⟨n,rfl⟩:=qT hy;rw[<-Int.natCast_emod,mg,mg,mg,Nat.gcd_comm n,<-Nat.gcd_rec,Nat.gcd_comm]
def gOf(a b:aB):Nat:=Nat.gcd (val aC a.aP).toNat (val aC b.aP).toNat
theorem OM{a b:aB}{K:Nat}(hK:K<=cX)(ha:bA aC a.aP)(hb:bA aC b.aP)(la:a.aP.length<=K)(lb:b.aP.length<=K):
 Tm (fun N=>uq N a b) (fun r=>Is r (gOf a b:Int)):=by
 have hL:cX=1099511627776:=rfl;unfold uq;refine Tm.bind (oQ ha (by omega)) (fun x ⟨hx,lx⟩=>Tm.bind (oQ hb (by omega)) (fun y ⟨hy,ly⟩=>?_));refine Tm.bind (Tm.loop (fun s:List Int×List Int=>bA aC s.1/\fH s.1/\s.1.length<=K/\bA aC s.2/\fH s.2/\s.2.length<=K/\Nat.gcd (val aC s.1).toNat (val aC s.2).toNat=gOf a b) (fun s=>(val aC s.2).toNat)
  (Q:=fun r=>bA aC r/\r.length<=K/\val aC r=gOf a b) ⟨hx.bL,hx.fg,by show x.length<=K;omega,hy.bL,hy.fg,by show y.length<=K;omega,by rw[hx.val,hy.val];rfl⟩ ?_) ?_
 . rintro⟨u,v⟩ ⟨u1,u2,u3,v1,v2,v3,hg⟩;dsimp only[C9]at*;refine aY (fun h=>?_) (fun h=>aS ?_)
   . have hv0:v≠[]:=fun e=>by rw[e]at h;simp at h
     have hvp:=wW (B:=aC) (by decide) v1 v2 hv0;have hup:=gF (B:=aC) (by decide) u1;refine Tm.bind (J9 u1 v1 u2 v2 (by omega) (by omega) (by omega)) (fun r ⟨_,hr,_,_⟩=>aS ?_);have hm:=hr.val;have h1:=lG (val aC u) hvp;have h2:=lF (val aC u) (show val aC v≠0 by omega);have h3:=gW (B:=aC) (by decide) v1;have hlen:r.2.length<=v.length:=EK mJ hr.bL hr.fg (by rw[hm];omega);exact⟨⟨v1,v2,v3,hr.bL,hr.fg,by show r.2.length<=K;omega,by rw[hm,O9 hup (eb hvp)];exact hg⟩,by show(val aC r.2).toNat<(val aC v).toNat;rw[hm];omega⟩
   . have hv0:v=[]:=mh.1 (by omega);have hup:=gF (B:=aC) (by decide) u1;rw[hv0]at hg;refine⟨u1,u3,?_⟩;rw[<-hg];simp[val];omega
 . rintro r ⟨r1,r2,r3⟩;refine Tm.bind (lK (neg:=false) r1 (by omega)) (fun z ⟨hz,lz⟩=>aS ?_);rw[<-r3];exact hz
theorem gOf_B(a b:Int):gOf (B a) (B b)=Int.gcd a b:=by
 unfold gOf Int.gcd;rw[(mU a).dg.val,(mU b).dg.val,mg,mg]
theorem tmGcd{a b:Int}(ha:dl a<=cX)(hb:dl b<=cX):Tm (fun N=>uq N (B a) (B b)) (·=B (Int.gcd a b)):=
 (OM (bI _) (bL a) (bL b) ha hb).mono fun r h=>by rw[gOf_B]at h;exact qg h
open Go Go.X
def Fs(N:Nat)(f:Linear)(x:(List aB)):(aB×Int)->Option (aK (aB×Int) aB)
 |(b,a)=>(if(a:Int)<(List.length f.aZ:Int)then (idx f.aZ a).bind fun c=>(kT N c.N).bind fun d=>(idx f.aZ a).bind fun e=>(idx x e.Var).bind fun g=>(sa N d g).bind fun i=>(oS N b i).bind fun j=>some (aK.next (j,(iw (a+1)))) else some (aK.done b))
def xG(N:Nat)(f:Linear)(x:(List aB)):Option aB:=(kT N f.Const).bind fun a=>(bK (Fs N f x) N (a,0)).bind fun ss=>match ss with
  |b=>some b
def xN(N:Nat)(l:(List Constraint))(x:(List aB)):Int->Option (aK Int (Sum Unit Bool))
 |a=>(if(a:Int)<(List.length l:Int)then (idx l a).bind fun c=>(xG N c.Linear x).bind fun d=>(kG N d).bind fun b=>(((if(b:Int)>0 then some true else (if(b:Int)<0 then (idx l a).bind fun e=>some e.iI else some false)):Option Bool)).bind fun ss=>match ss with
    |f=>(if f=true then some (aK.done (Sum.inr false)) else some (aK.next (iw (a+1)))) else some (aK.done (Sum.inl ())))
def ub(N:Nat)(l:(List Constraint))(x:(List aB)):Option Bool:=(bK (xN N l x) N 0).bind fun ss=>match ss with
  |(Sum.inl _)=>some true
  |(Sum.inr a)=>some a
def xO(N:Nat)(l:(List Constraint))(n:Int):Int->Option (aK Int (Sum Unit Bool))
 |a=>(if(a:Int)<(List.length l:Int)then (idx l a).bind fun b=>(q9 N b n).bind fun c=>(if(!c)=true then some (aK.done (Sum.inr false)) else some (aK.next (iw (a+1)))) else some (aK.done (Sum.inl ())))
def wH(N:Nat)(n:Int)(l:(List Constraint)):Option Bool:=(bK (xO N l n) N 0).bind fun ss=>match ss with
  |(Sum.inl _)=>(if(n:Int)≥0 then some (decide ((n:Int)<=512)) else some false)
  |(Sum.inr a)=>some a
def xA(N:Nat)(most:Int)(b:Constraint):Int->Option (aK Int (Sum Unit Bool))
 |a=>(if(a:Int)<(List.length b.Linear.aZ:Int)then (((idx b.Linear.aZ a).bind fun c=>(if(c.N:Int)>most then some true else (idx b.Linear.aZ a).bind fun d=>some (decide ((d.N:Int)<(iw (0-most))))):Option Bool)).bind fun ss=>match ss with
    |e=>(if e=true then some (aK.done (Sum.inr false)) else some (aK.next (iw (a+1)))) else some (aK.done (Sum.inl ())))
def xc(N:Nat)(l:(List Constraint))(most:Int):Int->Option (aK Int (Sum Unit Bool))
 |a=>(if(a:Int)<(List.length l:Int)then (idx l a).bind fun b=>(((if(b.Linear.Const:Int)>1000000 then some true else some (decide ((b.Linear.Const:Int)<(-1000000)))):Option Bool)).bind fun ss=>match ss with
    |c=>(if c=true then some (aK.done (Sum.inr false)) else (bK (xA N most b) N 0).bind fun ss=>match ss with
       |(Sum.inl _)=>some (aK.next (iw (a+1)))
       |(Sum.inr d)=>some (aK.done (Sum.inr d))) else some (aK.done (Sum.inl ())))
def wR(N:Nat)(n:Int)(l:(List Constraint))(most:Int):Option Bool:=(bK (xc N l most) N 0).bind fun ss=>match ss with
  |(Sum.inl _)=>(if(n:Int)<=4 then (if((List.length l:Int):Int)<=6 then (wH N n l).bind fun a=>some a else some false) else some false)
  |(Sum.inr b)=>some b
def qV(N:Nat)(n:Int)(l:(List Constraint))(p:Proof):Option Bool:=(wb N l n).bind fun r6=>(sC N r6 p).bind fun a=>some a
open Go Go.X
def ns(N:Nat)(s:(List aB)):Option (List aB):=(cP 32 ([]:(List aB)) s).bind fun a=>some a
def qC(N:Nat)(s:(List aX)):Option (List aX):=(cP 32 ([]:(List aX)) s).bind fun a=>some a
def zi(N:Nat)(s:(List (List aB))):Option (List (List aB)):=(cP 24 ([]:(List (List aB))) s).bind fun a=>some a
def AW(N:Nat)(s:(List Int)):Option (List Int):=(cP 8 ([]:(List Int)) s).bind fun a=>some a
def CE(N:Nat)(s:(List Step)):Option (List Step):= some s
def CW(N:Nat)(s:(List dI)):Option (List dI):= some s
def wE(N:Nat)(f:(aX->Option Bool))(s:(List aX)):Int->Option (aK Int (Sum Unit Int))
 |a=>(if(a:Int)<(List.length s:Int)then (idx s a).bind fun b=>(f b).bind fun c=>(if c=true then some (aK.done (Sum.inr a)) else some (aK.next (iw (a+1)))) else some (aK.done (Sum.inl ())))
def vB(N:Nat)(s:(List aX))(f:(aX->Option Bool)):Option Int:=(bK (wE N f s) N 0).bind fun ss=>match ss with
  |(Sum.inl _)=>some (-1)
  |(Sum.inr a)=>some a
def Aa(N:Nat)(s:(List aX))(f:(aX->Option Bool)):Option Bool:=(vB N s f).bind fun r1=>some (decide ((r1:Int)≥0))
def wJ(N:Nat)(eq:(aB->aB->Option Bool))(pb:(List aB))(s:(List aB)):Int->Option (aK Int (Sum Unit Bool))
 |a=>(if(a:Int)<(List.length s:Int)then (idx s a).bind fun b=>(idx pb a).bind fun c=>(eq b c).bind fun d=>(if(!d)=true then some (aK.done (Sum.inr false)) else some (aK.next (iw (a+1)))) else some (aK.done (Sum.inl ())))
def xo(N:Nat)(s:(List aB))(pb:(List aB))(eq:(aB->aB->Option Bool)):Option Bool:=(if((List.length s:Int):Int)≠(List.length pb:Int)then some false else (bK (wJ N eq pb s) N 0).bind fun ss=>match ss with
   |(Sum.inl _)=>some true
   |(Sum.inr a)=>some a)
def Dc(N:Nat)(del:(aX->Option Bool)):((List aX)×Int×Int)->Option (aK ((List aX)×Int×Int) ((List aX)×Int))
 |(a,b,c)=>(if(c:Int)<(List.length a:Int)then ((((idx a c).bind fun d=>(del d).bind fun e=>(if(!e)=true then (idx a b).bind fun j=>(di a b d).bind fun f=>some (f,(iw (b+1))) else some (a,b))):Option ((List aX)×Int))).bind fun ss=>match ss with
    |(g,i)=>some (aK.next (g,i,(iw (c+1)))) else some (aK.done (a,b)))
def vU(N:Nat)(s:(List aX))(del:(aX->Option Bool)):Option (List aX):=(vB N s del).bind fun r1=>(if(r1:Int)=(-1)then some s else (bK (Dc N del) N (s,r1,(iw (r1+1)))).bind fun ss=>match ss with
   |(a,b)=>(nX a b (List.length a:Int)).bind fun _=>(cut (qi a b (List.length a:Int) (aX.mk 0 ([]:(List aB)))) 0 b).bind fun c=>some c)
def zY(N:Nat)(n:Int):Option (List aX):=(if(n:Int)<0 then none else ((((if((iw (n-(iw (0-0)))):Int)>0 then (cP 32 [] (List.replicate (Int.toNat (iw (n-(iw (0-0))))) ((aX.mk 0 ([]:(List aB))):aX))).bind fun a=>(cut a 0 0).bind fun b=>some b else some ([]:(List aX)))):Option (List aX))).bind fun ss=>match ss with
   |s8=>some s8)
def w6(N:Nat)(slices:(List (List aX))):(Int×Int)->Option (aK (Int×Int) Int)
 |(a,b)=>(if(b:Int)<(List.length slices:Int)then (idx slices b).bind fun c=>(if((iw (a+(List.length c:Int))):Int)<0 then none else some (aK.next ((iw (a+(List.length c:Int))),(iw (b+1))))) else some (aK.done a))
def wh(N:Nat)(slices:(List (List aX))):((List aX)×Int)->Option (aK ((List aX)×Int) (List aX))
 |(b,a)=>(if(a:Int)<(List.length slices:Int)then (idx slices a).bind fun c=>(cP 32 b c).bind fun d=>some (aK.next (d,(iw (a+1)))) else some (aK.done b))
def uY(N:Nat)(slices:(List (List aX))):Option (List aX):=(bK (w6 N slices) N (0,0)).bind fun ss=>match ss with
  |a=>(zY N a).bind fun b=>(bK (wh N slices) N (b,0)).bind fun ss=>match ss with
    |c=>some c
end Go.D

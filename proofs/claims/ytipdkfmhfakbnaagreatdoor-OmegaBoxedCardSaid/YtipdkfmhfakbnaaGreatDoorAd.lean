/- Plain theorems and definitions of this seat, several texts in one. -/
import Derived.Test.YtipdkfmhfakbnaaGreatDoorAa
import Derived.Lib.Repeat
import Derived.Lib.Join
import Derived.Lib.Strings
import Derived.Lib.ItoaNum
import Derived.Test.YtipdkfmhfakbnaaGreatDoorProg
import Derived.Test.YtipdkfmhfakbnaaGreatDoorAc
import Derived.Lib.AppendIntMem
set_option linter.unusedVariables false
set_option linter.unusedSimpArgs false
set_option linter.unusedSectionVars false
namespace Go.D
open Go Go.X
structure aB where
 bF:Bool
 aP:(List Int)
 deriving DecidableEq
def aA:bP aB:=⟨2,fun H vs x=>∃v0,vs=[Value.bool x.bF,v0]/\Rs (aD .u32) H v0 x.aP/\True,
 fun H H' vs x hle h=>by obtain⟨v0,h0,k0,-⟩:=h;exact⟨v0,h0,k0.mono hle,trivial⟩,
 fun H vs x h=>by obtain⟨v0,h0,k0,-⟩:=h;rw[h0];rfl,
 fun H vs x h=>by obtain⟨v0,h0,k0,-⟩:=h;rw[h0];exact(dF rfl (dF k0.one kH))⟩
theorem NW{H:Hp}{vs:List Value}{x:aB}(h:aA.R H vs x):∃v0,vs=[Value.bool x.bF,v0]/\Rs (aD .u32) H v0 x.aP/\True:=h
theorem Ri{H:Hp}{vs:List Value}{x:aB}(h:∃v0,vs=[Value.bool x.bF,v0]/\Rs (aD .u32) H v0 x.aP/\True):aA.R H vs x:=h
structure gU where
 Var:Int
 N:Int
 deriving DecidableEq
def gR:bP gU:=⟨2,fun H vs x=>vs=[Value.int .i64 x.Var,Value.int .i64 x.N]/\True,
 fun H H' vs x hle h=>by obtain⟨h0,-⟩:=h;exact⟨h0,trivial⟩,
 fun H vs x h=>by obtain⟨h0,-⟩:=h;rw[h0];rfl,
 fun H vs x h=>by obtain⟨h0,-⟩:=h;rw[h0];exact(dF rfl (dF rfl kH))⟩
theorem Qs{H:Hp}{vs:List Value}{x:gU}(h:gR.R H vs x):vs=[Value.int .i64 x.Var,Value.int .i64 x.N]/\True:=h
theorem RG{H:Hp}{vs:List Value}{x:gU}(h:vs=[Value.int .i64 x.Var,Value.int .i64 x.N]/\True):gR.R H vs x:=h
structure Linear where
 Const:Int
 aZ:(List gU)
 deriving DecidableEq
def nH:bP Linear:=⟨2,fun H vs x=>∃v0,vs=[Value.int .i64 x.Const,v0]/\Rs gR H v0 x.aZ/\True,
 fun H H' vs x hle h=>by obtain⟨v0,h0,k0,-⟩:=h;exact⟨v0,h0,k0.mono hle,trivial⟩,
 fun H vs x h=>by obtain⟨v0,h0,k0,-⟩:=h;rw[h0];rfl,
 fun H vs x h=>by obtain⟨v0,h0,k0,-⟩:=h;rw[h0];exact(dF rfl (dF k0.one kH))⟩
theorem UK{H:Hp}{vs:List Value}{x:Linear}(h:nH.R H vs x):∃v0,vs=[Value.int .i64 x.Const,v0]/\Rs gR H v0 x.aZ/\True:=h
theorem N3{H:Hp}{vs:List Value}{x:Linear}(h:∃v0,vs=[Value.int .i64 x.Const,v0]/\Rs gR H v0 x.aZ/\True):nH.R H vs x:=h
structure Constraint where
 Linear:Linear
 iC:Bool
 deriving DecidableEq
def cT:bP Constraint:=⟨3,fun H vs x=>∃v0,vs=[Value.int .i64 x.Linear.Const,v0,Value.bool x.iC]/\Rs gR H v0 x.Linear.aZ/\True,
 fun H H' vs x hle h=>by obtain⟨v0,h0,k0,-⟩:=h;exact⟨v0,h0,k0.mono hle,trivial⟩,
 fun H vs x h=>by obtain⟨v0,h0,k0,-⟩:=h;rw[h0];rfl,
 fun H vs x h=>by obtain⟨v0,h0,k0,-⟩:=h;rw[h0];exact(dF rfl (dF k0.one (dF rfl kH)))⟩
theorem T0{H:Hp}{vs:List Value}{x:Constraint}(h:cT.R H vs x):∃v0,vs=[Value.int .i64 x.Linear.Const,v0,Value.bool x.iC]/\Rs gR H v0 x.Linear.aZ/\True:=h
theorem Ut{H:Hp}{vs:List Value}{x:Constraint}(h:∃v0,vs=[Value.int .i64 x.Linear.Const,v0,Value.bool x.iC]/\Rs gR H v0 x.Linear.aZ/\True):cT.R H vs x:=h
structure bA where
 aZ:(List aB)
 dz:aB
 deriving DecidableEq
def aE:bP bA:=⟨3,fun H vs x=>∃v0 v1,vs=[v0,Value.bool x.dz.bF,v1]/\Rs aA H v0 x.aZ/\Rs (aD .u32) H v1 x.dz.aP/\True,
 fun H H' vs x hle h=>by obtain⟨v0,v1,h0,k0,k1,-⟩:=h;exact⟨v0,v1,h0,k0.mono hle,k1.mono hle,trivial⟩,
 fun H vs x h=>by obtain⟨v0,v1,h0,k0,k1,-⟩:=h;rw[h0];rfl,
 fun H vs x h=>by obtain⟨v0,v1,h0,k0,k1,-⟩:=h;rw[h0];exact(dF k0.one (dF rfl (dF k1.one kH)))⟩
theorem Uc{H:Hp}{vs:List Value}{x:bA}(h:aE.R H vs x):∃v0 v1,vs=[v0,Value.bool x.dz.bF,v1]/\Rs aA H v0 x.aZ/\Rs (aD .u32) H v1 x.dz.aP/\True:=h
theorem S6{H:Hp}{vs:List Value}{x:bA}(h:∃v0 v1,vs=[v0,Value.bool x.dz.bF,v1]/\Rs aA H v0 x.aZ/\Rs (aD .u32) H v1 x.dz.aP/\True):aE.R H vs x:=h
structure dQ where
 Index:Int
 N:aB
 deriving DecidableEq
def ep:bP dQ:=⟨3,fun H vs x=>∃v0,vs=[Value.int .i64 x.Index,Value.bool x.N.bF,v0]/\Rs (aD .u32) H v0 x.N.aP/\True,
 fun H H' vs x hle h=>by obtain⟨v0,h0,k0,-⟩:=h;exact⟨v0,h0,k0.mono hle,trivial⟩,
 fun H vs x h=>by obtain⟨v0,h0,k0,-⟩:=h;rw[h0];rfl,
 fun H vs x h=>by obtain⟨v0,h0,k0,-⟩:=h;rw[h0];exact(dF rfl (dF rfl (dF k0.one kH)))⟩
theorem Si{H:Hp}{vs:List Value}{x:dQ}(h:ep.R H vs x):∃v0,vs=[Value.int .i64 x.Index,Value.bool x.N.bF,v0]/\Rs (aD .u32) H v0 x.N.aP/\True:=h
theorem Px{H:Hp}{vs:List Value}{x:dQ}(h:∃v0,vs=[Value.int .i64 x.Index,Value.bool x.N.bF,v0]/\Rs (aD .u32) H v0 x.N.aP/\True):ep.R H vs x:=h
structure Step where
 Uses:(List dQ)
 gh:aB
 deriving DecidableEq
def aJ:bP Step:=⟨3,fun H vs x=>∃v0 v1,vs=[v0,Value.bool x.gh.bF,v1]/\Rs ep H v0 x.Uses/\Rs (aD .u32) H v1 x.gh.aP/\True,
 fun H H' vs x hle h=>by obtain⟨v0,v1,h0,k0,k1,-⟩:=h;exact⟨v0,v1,h0,k0.mono hle,k1.mono hle,trivial⟩,
 fun H vs x h=>by obtain⟨v0,v1,h0,k0,k1,-⟩:=h;rw[h0];rfl,
 fun H vs x h=>by obtain⟨v0,v1,h0,k0,k1,-⟩:=h;rw[h0];exact(dF k0.one (dF rfl (dF k1.one kH)))⟩
theorem Of{H:Hp}{vs:List Value}{x:Step}(h:aJ.R H vs x):∃v0 v1,vs=[v0,Value.bool x.gh.bF,v1]/\Rs ep H v0 x.Uses/\Rs (aD .u32) H v1 x.gh.aP/\True:=h
theorem S9{H:Hp}{vs:List Value}{x:Step}(h:∃v0 v1,vs=[v0,Value.bool x.gh.bF,v1]/\Rs ep H v0 x.Uses/\Rs (aD .u32) H v1 x.gh.aP/\True):aJ.R H vs x:=h
structure Proof where
 Steps:(List Step)
 Form:(List aB)
 dz:aB
 lX:(List Proof)
def qN:Nat->Hp->List Value->Proof->Prop
 |0,_,_,_=>False
 |n+1,H,vs,x=>∃v0 v1 v2 v3,vs=[v0,v1,Value.bool x.dz.bF,v2,v3]/\Rs aJ H v0 x.Steps/\Rs aA H v1 x.Form/\Rs (aD .u32) H v2 x.dz.aP/\Sl 5 (qN n) H v3 x.lX/\True
theorem JW:∀(n:Nat) {H H':Hp} {vs:List Value} {x:Proof},Le H H'->qN n H vs x->qN n H' vs x
 |0,_,_,_,_,_,h=>h.elim
 |n+1,_,_,_,_,hle,h=>by obtain⟨v0,v1,v2,v3,h0,k0,k1,k2,k3,-⟩:=h;exact⟨v0,v1,v2,v3,h0,k0.mono hle,k1.mono hle,k2.mono hle,Sl.mono (R:=qN n) (fun _ _ _ _ a b=>JW n a b) hle k3,trivial⟩
theorem KC:∀{n m:Nat} {H:Hp} {vs:List Value} {x:Proof},n<=m->qN n H vs x->qN m H vs x
 |0,_,_,_,_,_,h=>h.elim
 |n+1,0,_,_,_,hm,_=>by omega
 |n+1,m+1,_,_,_,hm,h=>by have hm:n<=m:=(by omega);obtain⟨v0,v1,v2,v3,h0,k0,k1,k2,k3,-⟩:=h;exact⟨v0,v1,v2,v3,h0,k0,k1,k2,LZ (fun _ _=>KC hm) k3,trivial⟩
def iW:bP Proof:=⟨5,fun H vs x=>∃n,qN n H vs x,fun _ _ _ _ hle ⟨n,h⟩=>⟨n,JW n hle h⟩,
 fun H vs x h=>by obtain⟨n,h⟩:=h;cases n with|zero=>exact h.elim|succ n=>obtain⟨v0,v1,v2,v3,h0,k0,k1,k2,k3,-⟩:=h;rw[h0];rfl,
 fun H vs x h=>by obtain⟨n,h⟩:=h;cases n with|zero=>exact h.elim|succ n=>obtain⟨v0,v1,v2,v3,h0,k0,k1,k2,k3,-⟩:=h;rw[h0];exact(dF k0.one (dF k1.one (dF rfl (dF k2.one (dF (Sl.one k3) kH)))))⟩
theorem Qb{H:Hp}{vs:List Value}{x:Proof}(h:iW.R H vs x):∃v0 v1 v2 v3,vs=[v0,v1,Value.bool x.dz.bF,v2,v3]/\Rs aJ H v0 x.Steps/\Rs aA H v1 x.Form/\Rs (aD .u32) H v2 x.dz.aP/\Rs iW H v3 x.lX/\True:=by
 obtain⟨n,h⟩:=h;cases n with|zero=>exact h.elim|succ n=>obtain⟨v0,v1,v2,v3,h0,k0,k1,k2,k3,-⟩:=h;exact⟨v0,v1,v2,v3,h0,k0,k1,k2,LZ (fun _ _ h=>⟨n,h⟩) k3,trivial⟩
theorem QX{H:Hp}{vs:List Value}{x:Proof}(h:∃v0 v1 v2 v3,vs=[v0,v1,Value.bool x.dz.bF,v2,v3]/\Rs aJ H v0 x.Steps/\Rs aA H v1 x.Form/\Rs (aD .u32) H v2 x.dz.aP/\Rs iW H v3 x.lX/\True):iW.R H vs x:=by
 obtain⟨v0,v1,v2,v3,h0,k0,k1,k2,k3,-⟩:=h;obtain⟨n,hn⟩:=Qm (Rn:=qN) (fun _ _ _ _ hm h=>KC hm h) k3;exact⟨n+1,v0,v1,v2,v3,h0,k0,k1,k2,hn,trivial⟩
structure aX where
 pos:Int
 g:(List aB)
 deriving DecidableEq
def aH:bP aX:=⟨2,fun H vs x=>∃v0,vs=[Value.int .i64 x.pos,v0]/\Rs aA H v0 x.g/\True,
 fun H H' vs x hle h=>by obtain⟨v0,h0,k0,-⟩:=h;exact⟨v0,h0,k0.mono hle,trivial⟩,
 fun H vs x h=>by obtain⟨v0,h0,k0,-⟩:=h;rw[h0];rfl,
 fun H vs x h=>by obtain⟨v0,h0,k0,-⟩:=h;rw[h0];exact(dF rfl (dF k0.one kH))⟩
theorem NI{H:Hp}{vs:List Value}{x:aX}(h:aH.R H vs x):∃v0,vs=[Value.int .i64 x.pos,v0]/\Rs aA H v0 x.g/\True:=h
theorem PY{H:Hp}{vs:List Value}{x:aX}(h:∃v0,vs=[Value.int .i64 x.pos,v0]/\Rs aA H v0 x.g/\True):aH.R H vs x:=h
structure dJ where
 v:Int
 items:(List Int)
 dA:Bool
 deriving DecidableEq
def aM:bP dJ:=⟨3,fun H vs x=>∃v0,vs=[Value.int .i64 x.v,v0,Value.bool x.dA]/\Rs (aD .i64) H v0 x.items/\True,
 fun H H' vs x hle h=>by obtain⟨v0,h0,k0,-⟩:=h;exact⟨v0,h0,k0.mono hle,trivial⟩,
 fun H vs x h=>by obtain⟨v0,h0,k0,-⟩:=h;rw[h0];rfl,
 fun H vs x h=>by obtain⟨v0,h0,k0,-⟩:=h;rw[h0];exact(dF rfl (dF k0.one (dF rfl kH)))⟩
theorem Uw{H:Hp}{vs:List Value}{x:dJ}(h:aM.R H vs x):∃v0,vs=[Value.int .i64 x.v,v0,Value.bool x.dA]/\Rs (aD .i64) H v0 x.items/\True:=h
theorem QT{H:Hp}{vs:List Value}{x:dJ}(h:∃v0,vs=[Value.int .i64 x.v,v0,Value.bool x.dA]/\Rs (aD .i64) H v0 x.items/\True):aM.R H vs x:=h
structure aR where
 n:Int
 known:(List bA)
 steps:(List Step)
 u:(List (List aB))
 status:(List Int)
 value:(List aB)
 items:(List aX)
 stack:(List dJ)
 deriving DecidableEq
def Fk:bP aR:=⟨8,fun H vs x=>∃v0 v1 v2 v3 v4 v5 v6,vs=[Value.int .i64 x.n,v0,v1,v2,v3,v4,v5,v6]/\Rs aE H v0 x.known/\Rs aJ H v1 x.steps/\Rs (aU aA) H v2 x.u/\Rs (aD .i64) H v3 x.status/\Rs aA H v4 x.value/\Rs aH H v5 x.items/\Rs aM H v6 x.stack/\True,
 fun H H' vs x hle h=>by obtain⟨v0,v1,v2,v3,v4,v5,v6,h0,k0,k1,k2,k3,k4,k5,k6,-⟩:=h;exact⟨v0,v1,v2,v3,v4,v5,v6,h0,k0.mono hle,k1.mono hle,k2.mono hle,k3.mono hle,k4.mono hle,k5.mono hle,k6.mono hle,trivial⟩,
 fun H vs x h=>by obtain⟨v0,v1,v2,v3,v4,v5,v6,h0,k0,k1,k2,k3,k4,k5,k6,-⟩:=h;rw[h0];rfl,
 fun H vs x h=>by obtain⟨v0,v1,v2,v3,v4,v5,v6,h0,k0,k1,k2,k3,k4,k5,k6,-⟩:=h;rw[h0];exact(dF rfl (dF k0.one (dF k1.one (dF k2.one (dF k3.one (dF k4.one (dF k5.one (dF k6.one kH))))))))⟩
theorem Tb{H:Hp}{vs:List Value}{x:aR}(h:Fk.R H vs x):∃v0 v1 v2 v3 v4 v5 v6,vs=[Value.int .i64 x.n,v0,v1,v2,v3,v4,v5,v6]/\Rs aE H v0 x.known/\Rs aJ H v1 x.steps/\Rs (aU aA) H v2 x.u/\Rs (aD .i64) H v3 x.status/\Rs aA H v4 x.value/\Rs aH H v5 x.items/\Rs aM H v6 x.stack/\True:=h
theorem QB{H:Hp}{vs:List Value}{x:aR}(h:∃v0 v1 v2 v3 v4 v5 v6,vs=[Value.int .i64 x.n,v0,v1,v2,v3,v4,v5,v6]/\Rs aE H v0 x.known/\Rs aJ H v1 x.steps/\Rs (aU aA) H v2 x.u/\Rs (aD .i64) H v3 x.status/\Rs aA H v4 x.value/\Rs aH H v5 x.items/\Rs aM H v6 x.stack/\True):Fk.R H vs x:=h
structure bX where
 kind:Int
 x:(List aB)
 proof:Proof
 v:Int
def fw:bP bX:=⟨8,fun H vs x=>∃v0 v1 v2 v3 v4,vs=[Value.int .i64 x.kind,v0,v1,v2,Value.bool x.proof.dz.bF,v3,v4,Value.int .i64 x.v]/\Rs aA H v0 x.x/\Rs aJ H v1 x.proof.Steps/\Rs aA H v2 x.proof.Form/\Rs (aD .u32) H v3 x.proof.dz.aP/\Rs iW H v4 x.proof.lX/\True,
 fun H H' vs x hle h=>by obtain⟨v0,v1,v2,v3,v4,h0,k0,k1,k2,k3,k4,-⟩:=h;exact⟨v0,v1,v2,v3,v4,h0,k0.mono hle,k1.mono hle,k2.mono hle,k3.mono hle,k4.mono hle,trivial⟩,
 fun H vs x h=>by obtain⟨v0,v1,v2,v3,v4,h0,k0,k1,k2,k3,k4,-⟩:=h;rw[h0];rfl,
 fun H vs x h=>by obtain⟨v0,v1,v2,v3,v4,h0,k0,k1,k2,k3,k4,-⟩:=h;rw[h0];exact(dF rfl (dF k0.one (dF k1.one (dF k2.one (dF rfl (dF k3.one (dF k4.one (dF rfl kH))))))))⟩
theorem PU{H:Hp}{vs:List Value}{x:bX}(h:fw.R H vs x):∃v0 v1 v2 v3 v4,vs=[Value.int .i64 x.kind,v0,v1,v2,Value.bool x.proof.dz.bF,v3,v4,Value.int .i64 x.v]/\Rs aA H v0 x.x/\Rs aJ H v1 x.proof.Steps/\Rs aA H v2 x.proof.Form/\Rs (aD .u32) H v3 x.proof.dz.aP/\Rs iW H v4 x.proof.lX/\True:=h
theorem QJ{H:Hp}{vs:List Value}{x:bX}(h:∃v0 v1 v2 v3 v4,vs=[Value.int .i64 x.kind,v0,v1,v2,Value.bool x.proof.dz.bF,v3,v4,Value.int .i64 x.v]/\Rs aA H v0 x.x/\Rs aJ H v1 x.proof.Steps/\Rs aA H v2 x.proof.Form/\Rs (aD .u32) H v3 x.proof.dz.aP/\Rs iW H v4 x.proof.lX/\True):fw.R H vs x:=h
structure gI where
 up:aX
 low:aB
 high:aB
 deriving DecidableEq
def jD:bP gI:=⟨6,fun H vs x=>∃v0 v1 v2,vs=[Value.int .i64 x.up.pos,v0,Value.bool x.low.bF,v1,Value.bool x.high.bF,v2]/\Rs aA H v0 x.up.g/\Rs (aD .u32) H v1 x.low.aP/\Rs (aD .u32) H v2 x.high.aP/\True,
 fun H H' vs x hle h=>by obtain⟨v0,v1,v2,h0,k0,k1,k2,-⟩:=h;exact⟨v0,v1,v2,h0,k0.mono hle,k1.mono hle,k2.mono hle,trivial⟩,
 fun H vs x h=>by obtain⟨v0,v1,v2,h0,k0,k1,k2,-⟩:=h;rw[h0];rfl,
 fun H vs x h=>by obtain⟨v0,v1,v2,h0,k0,k1,k2,-⟩:=h;rw[h0];exact(dF rfl (dF k0.one (dF rfl (dF k1.one (dF rfl (dF k2.one kH))))))⟩
theorem Tn{H:Hp}{vs:List Value}{x:gI}(h:jD.R H vs x):∃v0 v1 v2,vs=[Value.int .i64 x.up.pos,v0,Value.bool x.low.bF,v1,Value.bool x.high.bF,v2]/\Rs aA H v0 x.up.g/\Rs (aD .u32) H v1 x.low.aP/\Rs (aD .u32) H v2 x.high.aP/\True:=h
theorem RM{H:Hp}{vs:List Value}{x:gI}(h:∃v0 v1 v2,vs=[Value.int .i64 x.up.pos,v0,Value.bool x.low.bF,v1,Value.bool x.high.bF,v2]/\Rs aA H v0 x.up.g/\Rs (aD .u32) H v1 x.low.aP/\Rs (aD .u32) H v2 x.high.aP/\True):jD.R H vs x:=h
def wg(N:Nat)(i b:Int):Option (List UInt8):=if 0<=i/\i<18446744073709551616/\b=10 then some (Go.Lib.decDigits i.toNat)else none
def wh(N:Nat)(s:List UInt8)(c:Int):Option (List UInt8):=if 0<=c/\c<=9223372036854775807/\(s.length:Int)*c<=140737488355328 then some (Go.Lib.repeatL s c.toNat)else none
def pW(N:Nat)(xs:List (List UInt8))(s:List UInt8):Option (List UInt8):=if xs.length<=140737488355328/\(Go.Lib.join xs s).length<=140737488355328 then some (Go.Lib.join xs s)else none
def xt(N:Nat)(xs:List (List UInt8)):Option (List (List UInt8)):=if xs.length<=9223372036854775807 then some xs.reverse else none
theorem Tl{xs Y:List (List UInt8)}{N:Nat}(h:xt N xs=some Y):xs.length<=9223372036854775807/\Y=xs.reverse:=by
 unfold xt at h;split at h
 . exact⟨by assumption,(gY h).symm⟩
 . cases h
open Go Go.X
def wS(N:Nat)(s:(List Int)):Option (List Int):=(cN 4 ([]:(List Int)) s).bind fun a=>some a
def digit(N:Nat)(d:(List Int))(i:Int):Option Int:=(if(i:Int)<(List.length d:Int)then (idx d i).bind fun x2=>some (uw x2) else some 0)
def zw(N:Nat)(n:Int):Option Int:= some (wX (imax n (-1)) 1)
def Df(N:Nat)(d:(List Int)):Int->Option (aK Int Int)
 |a=>(((if(a:Int)>0 then (idx d (iw (a-1))).bind fun b=>some (decide ((b:Int)=0)) else some false):Option Bool)).bind fun ss=>match ss with
   |c=>(if c=true then some (aK.next (iw (a-1))) else some (aK.done a))
def kP(N:Nat)(d:(List Int)):Option (List Int):=(bH (Df N d) N (List.length d:Int)).bind fun ss=>match ss with
  |a=>(cut d 0 a).bind fun b=>(wS N b).bind fun c=>some c
def jV(N:Nat)(negative:Bool)(d:(List Int)):Option aB:=(kP N d).bind fun r6=>(if((List.length r6:Int):Int)=0 then some (aB.mk false []) else some (aB.mk negative r6))
def Cu(N:Nat)(a:(List Int))(b:(List Int)):Int->Option (aK Int (Sum Unit Int))
 |c=>(if(c:Int)≥0 then (idx a c).bind fun d=>(idx b c).bind fun e=>(if(d:Int)<e then some (aK.done (Sum.inr (-1))) else (idx a c).bind fun f=>(idx b c).bind fun g=>(if(f:Int)>g then some (aK.done (Sum.inr 1)) else some (aK.next (iw (c-1))))) else some (aK.done (Sum.inl ())))
def qL(N:Nat)(a:(List Int))(b:(List Int)):Option Int:=(if((List.length a:Int):Int)≠(List.length b:Int)then (zw N (iw ((List.length a:Int)-(List.length b:Int)))).bind fun r2=>some r2 else (bH (Cu N a b) N (iw ((List.length a:Int)-1))).bind fun ss=>match ss with
   |(Sum.inl _)=>some 0
   |(Sum.inr c)=>some c)
def Es(N:Nat)(a:(List Int))(b:(List Int))(x2:(List Int)):((List Int)×Int×Int)->Option (aK ((List Int)×Int×Int) (List Int))
 |(d,e,c)=>(if(c:Int)<(List.length x2:Int)then (digit N a c).bind fun f=>(digit N b c).bind fun g=>(idx d c).bind fun j=>(dh d c (dX (uw (e+(uw (f+g)))))).bind fun i=>some (aK.next (i,(fq .u64 (uw (e+(uw (f+g)))) 32),(iw (c+1)))) else some (aK.done d))
def vB(N:Nat)(a:(List Int))(b:(List Int)):Option (List Int):=(fX (α:=Int) 4 0 (iw ((imax (List.length a:Int) (List.length b:Int))+1))).bind fun x2=>(bH (Es N a b x2) N (x2,0,0)).bind fun ss=>match ss with
  |c=>some c
def CY(N:Nat)(a:(List Int))(b:(List Int)):((List Int)×Int×Int)->Option (aK ((List Int)×Int×Int) (List Int))
 |(d,e,c)=>(if(c:Int)<(List.length a:Int)then (idx a c).bind fun f=>(digit N b c).bind fun g=>(idx d c).bind fun j=>(dh d c (dX (uw ((uw ((uw f)-g))-e)))).bind fun i=>some (aK.next (i,(fq .u64 (uw ((uw ((uw f)-g))-e)) 63),(iw (c+1)))) else some (aK.done d))
def sP(N:Nat)(a:(List Int))(b:(List Int)):Option (List Int):=(fX (α:=Int) 4 0 (List.length a:Int)).bind fun x2=>(bH (CY N a b) N (x2,0,0)).bind fun ss=>match ss with
  |c=>some c
def CT(N:Nat)(b:(List Int))(d:Int)(f:Int):((List Int)×Int×Int)->Option (aK ((List Int)×Int×Int) ((List Int)×Int))
 |(c,e,a)=>(if(a:Int)<(List.length b:Int)then (idx b a).bind fun g=>(idx c (iw (d+a))).bind fun i=>(idx c (iw (d+a))).bind fun k=>(dh c (iw (d+a)) (dX (uw (e+(uw ((uw ((uw f)*(uw g)))+(uw i))))))).bind fun j=>some (aK.next (j,(fq .u64 (uw (e+(uw ((uw ((uw f)*(uw g)))+(uw i))))) 32),(iw (a+1)))) else some (aK.done (c,e)))
def Et(N:Nat)(a:(List Int))(b:(List Int)):((List Int)×Int)->Option (aK ((List Int)×Int) (List Int))
 |(d,c)=>(if(c:Int)<(List.length a:Int)then (idx a c).bind fun f=>(bH (CT N b c f) N (d,0,0)).bind fun ss=>match ss with
    |(e,g)=>(idx e (iw (c+(List.length b:Int)))).bind fun j=>(dh e (iw (c+(List.length b:Int))) (dX g)).bind fun i=>some (aK.next (i,(iw (c+1)))) else some (aK.done d))
def wy(N:Nat)(a:(List Int))(b:(List Int)):Option (List Int):=(fX (α:=Int) 4 0 (iw ((List.length a:Int)+(List.length b:Int)))).bind fun x2=>(bH (Et N a b) N (x2,0)).bind fun ss=>match ss with
  |c=>some c
def F2(N:Nat)(a:(List Int))(pb:Int):((List Int)×Int×Int)->Option (aK ((List Int)×Int×Int) ((List Int)×Int))
 |(d,c,b)=>(if(b:Int)≥0 then (idx a b).bind fun e=>(sdiv .u64 (jE .u64 (jc .u64 c 32) (uw e)) (uw pb)).bind fun f=>(idx d b).bind fun i=>(dh d b (dX f)).bind fun g=>(srem (jE .u64 (jc .u64 c 32) (uw e)) (uw pb)).bind fun j=>some (aK.next (g,(Int.tmod (jE .u64 (jc .u64 c 32) (uw e)) (uw pb)),(iw (b-1)))) else some (aK.done (d,c)))
def vA(N:Nat)(a:(List Int))(pb:Int):Option ((List Int)×Int):=(fX (α:=Int) 4 0 (List.length a:Int)).bind fun x2=>(bH (F2 N a pb) N (x2,0,(iw ((List.length a:Int)-1)))).bind fun ss=>match ss with
  |(b,c)=>some (b,(dX c))
def D2(N:Nat)(a:(List Int))(n:Int):((List Int)×Int)->Option (aK ((List Int)×Int) (List Int))
 |(c,b)=>(if(b:Int)<(List.length a:Int)then (idx a b).bind fun d=>(kT (¬(n:Int)<0)).bind fun _=>(idx c b).bind fun f=>(idx c b).bind fun i=>(dh c b (jE .u32 f (dX (jc .u64 (uw d) n)))).bind fun e=>(idx e (iw (b+1))).bind fun j=>(dh e (iw (b+1)) (dX (fq .u64 (jc .u64 (uw d) n) 32))).bind fun g=>some (aK.next (g,(iw (b+1)))) else some (aK.done c))
def tX(N:Nat)(a:(List Int))(n:Int):Option (List Int):=(fX (α:=Int) 4 0 (iw ((List.length a:Int)+1))).bind fun x2=>(bH (D2 N a n) N (x2,0)).bind fun ss=>match ss with
  |b=>some b
open Go Go.X
def CI(N:Nat):(List Int)->Option (aK (List Int) (List Int))
 |a=>(((if((List.length a:Int):Int)>0 then (idx a (iw ((List.length a:Int)-1))).bind fun b=>some (decide ((b:Int)=0)) else some false):Option Bool)).bind fun ss=>match ss with
   |c=>(if c=true then (cut a 0 (iw ((List.length a:Int)-1))).bind fun d=>some (aK.next d) else some (aK.done a))
def nM(N:Nat)(l:(List Int)):Option (List Int):=(bH (CI N) N l).bind fun ss=>match ss with
  |a=>some a
def F7(N:Nat)(x:aB):((List Int)×Int)->Option (aK ((List Int)×Int) (List Int))
 |(b,a)=>(if(a:Int)<(List.length x.aP:Int)then (idx x.aP a).bind fun c=>(idx x.aP a).bind fun d=>(cN 8 b [(iw (Int.tmod c 65536)),(iw (dX (Int.tdiv d 65536)))]).bind fun e=>some (aK.next (e,(iw (a+1)))) else some (aK.done b))
def lC(N:Nat)(x:aB):Option (List Int):=(bH (F7 N x) N (([]:(List Int)),0)).bind fun ss=>match ss with
  |a=>(nM N a).bind fun b=>some b
def FZ(N:Nat)(r6:(List Int)):((List Int)×Int)->Option (aK ((List Int)×Int) (List Int))
 |(b,a)=>(if(a:Int)<(List.length r6:Int)then (idx r6 a).bind fun c=>(((if((iw (a+1)):Int)<(List.length r6:Int)then (idx r6 (iw (a+1))).bind fun d=>some (dX ((dX c)+(dX (65536*(dX d))))) else some (dX c)):Option Int)).bind fun ss=>match ss with
    |e=>(cN 4 b [e]).bind fun f=>some (aK.next (f,(iw (a+2)))) else some (aK.done b))
def kS(N:Nat)(negative:Bool)(l:(List Int)):Option aB:=(nM N l).bind fun r6=>(((if negative=true then some (decide (((List.length r6:Int):Int)>0)) else some false):Option Bool)).bind fun ss=>match ss with
  |a=>(bH (FZ N r6) N (([]:(List Int)),0)).bind fun ss=>match ss with
    |b=>some (aB.mk a b)
def xW(N:Nat)(x:aB):Option aB:=(lC N x).bind fun a=>(kS N x.bF a).bind fun b=>some b
def CX(N:Nat)(a:(List Int))(b:(List Int)):Int->Option (aK Int (Sum Unit Int))
 |c=>(if(c:Int)≥0 then (idx a c).bind fun d=>(idx b c).bind fun e=>(if(d:Int)<e then some (aK.done (Sum.inr (-1))) else (idx a c).bind fun f=>(idx b c).bind fun g=>(if(f:Int)>g then some (aK.done (Sum.inr 1)) else some (aK.next (iw (c-1))))) else some (aK.done (Sum.inl ())))
def tQ(N:Nat)(a:(List Int))(b:(List Int)):Option Int:=(if((List.length a:Int):Int)≠(List.length b:Int)then (if((List.length a:Int):Int)<(List.length b:Int)then some (-1) else some 1) else (bH (CX N a b) N (iw ((List.length a:Int)-1))).bind fun ss=>match ss with
   |(Sum.inl _)=>some 0
   |(Sum.inr c)=>some c)
def Ff(N:Nat)(a:(List Int))(b:(List Int)):((List Int)×Int×Int)->Option (aK ((List Int)×Int×Int) (List Int))
 |(e,d,c)=>(((if(c:Int)<(List.length a:Int)then some true else (if(c:Int)<(List.length b:Int)then some true else some (decide ((d:Int)>0)))):Option Bool)).bind fun ss=>match ss with
   |i=>(if i=true then (((if(c:Int)<(List.length a:Int)then (idx a c).bind fun j=>some (iw (d+j)) else some d):Option Int)).bind fun ss=>match ss with
      |f=>(((if(c:Int)<(List.length b:Int)then (idx b c).bind fun k=>some (iw (f+k)) else some f):Option Int)).bind fun ss=>match ss with
        |g=>(cN 8 e [(Int.tmod g 65536)]).bind fun l=>some (aK.next (l,(iw (Int.tdiv g 65536)),(iw (c+1)))) else some (aK.done e))
def oK(N:Nat)(a:(List Int))(b:(List Int)):Option (List Int):=(bH (Ff N a b) N (([]:(List Int)),0,0)).bind fun ss=>match ss with
  |c=>(nM N c).bind fun d=>some d
def CV(N:Nat)(a:(List Int))(b:(List Int)):((List Int)×Int×Int)->Option (aK ((List Int)×Int×Int) (List Int))
 |(e,f,c)=>(if(c:Int)<(List.length a:Int)then (idx a c).bind fun g=>(((if(c:Int)<(List.length b:Int)then (idx b c).bind fun i=>some (iw ((iw (g-f))-i)) else some (iw (g-f))):Option Int)).bind fun ss=>match ss with
    |d=>(((if(d:Int)<0 then some (1,(iw (d+65536))) else some (0,d)):Option (Int×Int))).bind fun ss=>match ss with
      |(j,k)=>(cN 8 e [k]).bind fun l=>some (aK.next (l,j,(iw (c+1)))) else some (aK.done e))
def rJ(N:Nat)(a:(List Int))(b:(List Int)):Option (List Int):=(bH (CV N a b) N (([]:(List Int)),0,0)).bind fun ss=>match ss with
  |c=>(nM N c).bind fun d=>some d
def kN(N:Nat)(x:aB):Option Int:=(lC N x).bind fun r6=>(if((List.length r6:Int):Int)=0 then some 0 else (if x.bF=true then some (-1) else some 1))
def pX(N:Nat)(x:aB):Option aB:=(lC N x).bind fun a=>(kS N (!x.bF) a).bind fun b=>some b
def pB(N:Nat)(a:aB)(b:aB):Option aB:=(lC N a).bind fun c=>(lC N b).bind fun d=>(if(a.bF==b.bF)=true then (oK N c d).bind fun e=>(kS N a.bF e).bind fun f=>some f else (tQ N c d).bind fun g=>(if(g:Int)≥0 then (rJ N c d).bind fun i=>(kS N a.bF i).bind fun j=>some j else (rJ N d c).bind fun k=>(kS N b.bF k).bind fun l=>some l))
def uD(N:Nat)(a:aB)(b:aB):Option aB:=(pX N b).bind fun c=>(pB N a c).bind fun d=>some d
def D7(N:Nat)(a:(List Int))(d:Int):((List Int)×Int×Int)->Option (aK ((List Int)×Int×Int) (List Int))
 |(e,c,b)=>(((if(b:Int)<(List.length a:Int)then some true else some (decide ((c:Int)>0))):Option Bool)).bind fun ss=>match ss with
   |g=>(if g=true then (((if(b:Int)<(List.length a:Int)then (idx a b).bind fun i=>some (iw (c+(iw (i*d)))) else some c):Option Int)).bind fun ss=>match ss with
      |f=>(cN 8 e [(Int.tmod f 65536)]).bind fun j=>some (aK.next (j,(iw (Int.tdiv f 65536)),(iw (b+1)))) else some (aK.done e))
def wF(N:Nat)(a:(List Int))(d:Int):Option (List Int):=(bH (D7 N a d) N (([]:(List Int)),0,0)).bind fun ss=>match ss with
  |b=>(nM N b).bind fun c=>some c
def E7(N:Nat)(c:(List Int))(d:(List Int)):((List Int)×Int)->Option (aK ((List Int)×Int) (List Int))
 |(b,a)=>(if(a:Int)≥0 then (cN 8 [0] b).bind fun e=>(idx d a).bind fun f=>(wF N c f).bind fun g=>(oK N e g).bind fun i=>some (aK.next (i,(iw (a-1)))) else some (aK.done b))
def sx(N:Nat)(a:aB)(b:aB):Option aB:=(lC N a).bind fun d=>(lC N b).bind fun c=>(bH (E7 N d c) N (([]:(List Int)),(iw ((List.length c:Int)-1)))).bind fun ss=>match ss with
  |e=>(kS N (!(a.bF==b.bF)) e).bind fun f=>some f
def BB(N:Nat)(a:(List Int))(b:(List Int))(e:Int):((List Int)×(List Int)×Int)->Option (aK ((List Int)×(List Int)×Int) ((List Int)×(List Int)))
 |(c,f,d)=>(if(d:Int)>0 then (oK N f f).bind fun i=>(idx a e).bind fun j=>(sdiv .i64 j d).bind fun k=>(((if((Int.tmod k 2):Int)=1 then (oK N i [1]).bind fun l=>some l else some i):Option (List Int))).bind fun ss=>match ss with
    |g=>(tQ N g b).bind fun m=>(if(m:Int)≥0 then (rJ N g b).bind fun n=>(idx c e).bind fun o=>(idx c e).bind fun s=>(dh c e (iw (o+d))).bind fun p=>some (aK.next (p,n,(iw (Int.tdiv d 2)))) else some (aK.next (c,g,(iw (Int.tdiv d 2))))) else some (aK.done (c,f)))
def Dz(N:Nat)(a:(List Int))(b:(List Int)):((List Int)×(List Int)×Int)->Option (aK ((List Int)×(List Int)×Int) ((List Int)×(List Int)))
 |(d,e,c)=>(if(c:Int)≥0 then (bH (BB N a b c) N (d,e,32768)).bind fun ss=>match ss with
    |(f,g)=>some (aK.next (f,g,(iw (c-1)))) else some (aK.done (d,e)))
def wC(N:Nat)(a:(List Int))(b:(List Int)):Option ((List Int)×(List Int)):=(fX (α:=Int) 8 0 (List.length a:Int)).bind fun x2=>(bH (Dz N a b) N (x2,([]:(List Int)),(iw ((List.length a:Int)-1)))).bind fun ss=>match ss with
  |(c,d)=>(nM N c).bind fun e=>some (e,d)
def DJ(N:Nat):(Int×(List Int))->Option (aK (Int×(List Int)) (List Int))
 |(a,b)=>(if(a:Int)>0 then (cN 8 b [(iw (Int.tmod a 65536))]).bind fun c=>some (aK.next ((uw (Int.tdiv a 65536)),c)) else some (aK.done b))
def kC(N:Nat)(n:Int):Option aB:=(((if(n:Int)<0 then some (uw ((uw (iw (0-(iw (n+1)))))+1)) else some (uw n)):Option Int)).bind fun ss=>match ss with
  |u8=>(bH (DJ N) N (u8,([]:(List Int)))).bind fun ss=>match ss with
    |a=>(kS N (decide ((n:Int)<0)) a).bind fun b=>some b
def uq(N:Nat)(a:aB)(b:aB):Option (aB×aB×Bool):=(kN N b).bind fun f=>(if(f:Int)=0 then some ((aB.mk false []),(aB.mk false []),false) else (lC N a).bind fun g=>(lC N b).bind fun i=>(wC N g i).bind fun d=>(kS N (!(a.bF==b.bF)) d.1).bind fun e=>(kS N a.bF d.2).bind fun c=>(((kN N c).bind fun j=>(if(j:Int)≠0 then (kN N c).bind fun k=>(kN N b).bind fun l=>some (decide ((k:Int)≠l)) else some false):Option Bool)).bind fun ss=>match ss with
   |m=>(((if m=true then (kC N 1).bind fun n=>(uD N e n).bind fun o=>(pB N c b).bind fun p=>some (o,p) else some (e,c)):Option (aB×aB))).bind fun ss=>match ss with
     |(s,u)=>some (s,u,true))
def Hd(N:Nat)(a:aB)(b:aB):Int->Option (aK Int (Sum Unit Bool))
 |c=>(if(c:Int)<(List.length a.aP:Int)then (idx a.aP c).bind fun d=>(idx b.aP c).bind fun e=>(if(d:Int)≠e then some (aK.done (Sum.inr false)) else some (aK.next (iw (c+1)))) else some (aK.done (Sum.inl ())))
def yc(N:Nat)(a:aB)(b:aB):Option Bool:=(((if(!(a.bF==b.bF))=true then some true else some (decide (((List.length a.aP:Int):Int)≠(List.length b.aP:Int)))):Option Bool)).bind fun ss=>match ss with
  |c=>(if c=true then some false else (bH (Hd N a b) N 0).bind fun ss=>match ss with
     |(Sum.inl _)=>some true
     |(Sum.inr d)=>some d)
open Go Go.X
def te:List UInt8:=[0,1,2,2,3,3,3,3,4,4,4,4,4,4,4,4,5,5,5,5,5,5,5,5,5,5,5,5,5,5,5,5,6,6,6,6,6,6,6,6,6,6,6,6,6,6,6,6,6,6,6,6,6,6,6,6,6,6,6,6,6,6,6,6,7,7,7,7,7,7,7,7,7,7,7,7,7,7,7,7,7,7,7,7,7,7,7,7,7,7,7,7,7,7,7,7,7,7,7,7,7,7,7,7,7,7,7,7,7,7,7,7,7,7,7,7,7,7,7,7,7,7,7,7,7,7,7,7,8,8,8,8,8,8,8,8,8,8,8,8,8,8,8,8,8,8,8,8,8,8,8,8,8,8,8,8,8,8,8,8,8,8,8,8,8,8,8,8,8,8,8,8,8,8,8,8,8,8,8,8,8,8,8,8,8,8,8,8,8,8,8,8,8,8,8,8,8,8,8,8,8,8,8,8,8,8,8,8,8,8,8,8,8,8,8,8,8,8,8,8,8,8,8,8,8,8,8,8,8,8,8,8,8,8,8,8,8,8,8,8,8,8,8,8,8,8,8,8,8,8,8,8,8,8,8,8]
def wZ(N:Nat)(x:Int):Option Int:=(((if(x:Int)≥65536 then some ((fq .u32 x 16),16) else some (x,0)):Option (Int×Int))).bind fun ss=>match ss with
  |(x2,n3)=>(((if(x2:Int)≥256 then some ((fq .u32 x2 8),(iw (n3+8))) else some (x2,n3)):Option (Int×Int))).bind fun ss=>match ss with
    |(a,b)=>(idx te (uw8 a)).bind fun c=>some (iw (b+(iw (UInt8.toNat c:Int))))
def yf(N:Nat)(x:Int):Option Int:=(wZ N x).bind fun r1=>some (iw (32-r1))
def Ac(N:Nat)(n:Int)(pa_hi:Int)(pa_lo:Int)(pb:(List Int)):((List Int)×Int×Int×Int)->Option (aK ((List Int)×Int×Int×Int) ((List Int)×Int))
 |(b,c,d,a)=>(if(a:Int)<(pa_hi-pa_lo)then (digit N pb a).bind fun e=>(kT (0<=a/\a<pa_hi-pa_lo)).bind fun _=>(idx b (pa_lo+a)).bind fun f=>(kT (0<=a/\a<pa_hi-pa_lo)).bind fun _=>(idx b (pa_lo+a)).bind fun i=>(dh b (pa_lo+a) (dX (uw ((uw ((uw f)-(qC .u64 (uw (c+(uw (n*e)))) 4294967295)))-d)))).bind fun g=>some (aK.next (g,(fq .u64 (uw (c+(uw (n*e)))) 32),(fq .u64 (uw ((uw ((uw f)-(qC .u64 (uw (c+(uw (n*e)))) 4294967295)))-d)) 63),(iw (a+1)))) else some (aK.done (b,d)))
def BT(N:Nat)(pa:(List Int))(pa_lo:Int)(pa_hi:Int)(pb:(List Int))(n:Int):Option (Bool×(List Int)):=(bH (Ac N n pa_hi pa_lo pb) N (pa,0,0,0)).bind fun ss=>match ss with
  |(a,b)=>some ((decide ((b:Int)≠0)),a)
def yU(N:Nat)(b:(List Int))(d:(List Int))(f:(List Int))(g:Int):(Int×Int)->Option (aK (Int×Int) Int)
 |(a,c)=>(((if(a:Int)>4294967295 then some true else (idx d (iw ((List.length b:Int)-2))).bind fun i=>(idx f (iw ((iw (g+(List.length b:Int)))-2))).bind fun j=>some (decide (((uw (a*(uw i))):Int)>(jE .u64 (jc .u64 c 32) (uw j))))):Option Bool)).bind fun ss=>match ss with
   |k=>(if k=true then (idx d (iw ((List.length b:Int)-1))).bind fun e=>(if((uw (c+(uw e))):Int)>4294967295 then some (aK.done (uw (a-1))) else some (aK.next ((uw (a-1)),(uw (c+(uw e)))))) else some (aK.done a))
def zi(N:Nat)(e:(List Int))(c:Int):((List Int)×Int×Int)->Option (aK ((List Int)×Int×Int) ((List Int)×Int))
 |(b,d,a)=>(if(a:Int)<(List.length e:Int)then (idx b (iw (c+a))).bind fun f=>(idx e a).bind fun g=>(idx b (iw (c+a))).bind fun j=>(dh b (iw (c+a)) (dX (uw (d+(uw ((uw f)+(uw g))))))).bind fun i=>some (aK.next (i,(fq .u64 (uw (d+(uw ((uw f)+(uw g))))) 32),(iw (a+1)))) else some (aK.done (b,d)))
def Am(N:Nat)(b:(List Int))(d:(List Int)):((List Int)×(List Int)×Int)->Option (aK ((List Int)×(List Int)×Int) ((List Int)×(List Int)))
 |(c,e,a)=>(if(a:Int)≥0 then (idx c (iw (a+(List.length b:Int)))).bind fun f=>(idx c (iw ((iw (a+(List.length b:Int)))-1))).bind fun g=>(idx d (iw ((List.length b:Int)-1))).bind fun m=>(sdiv .u64 (jE .u64 (jc .u64 (uw f) 32) (uw g)) (uw m)).bind fun n=>(idx d (iw ((List.length b:Int)-1))).bind fun l=>(srem (jE .u64 (jc .u64 (uw f) 32) (uw g)) (uw l)).bind fun a0=>(bH (yU N b d c a) N (n,(Int.tmod (jE .u64 (jc .u64 (uw f) 32) (uw g)) (uw l)))).bind fun ss=>match ss with
    |i=>(n7 c a (iw ((iw (a+(List.length b:Int)))+1))).bind fun _=>(BT N c a (iw ((iw (a+(List.length b:Int)))+1)) d i).bind fun j=>(((if j.1=true then (bH (zi N d a) N (j.2,0,0)).bind fun ss=>match ss with
       |(k,o)=>(idx k (iw (a+(List.length b:Int)))).bind fun p=>(idx k (iw (a+(List.length b:Int)))).bind fun a1=>(dh k (iw (a+(List.length b:Int))) (dX (p+(dX o)))).bind fun s=>some (s,(uw (i-1))) else some (j.2,i)):Option ((List Int)×Int))).bind fun ss=>match ss with
      |(u,v)=>(idx e a).bind fun a2=>(dh e a (dX v)).bind fun y=>some (aK.next (u,y,(iw (a-1)))) else some (aK.done (c,e)))
def A9(N:Nat)(c:Int)(d:(List Int))(e:(List Int)):((List Int)×Int)->Option (aK ((List Int)×Int) (List Int))
 |(b,a)=>(if(a:Int)<(List.length e:Int)then (idx d (iw (a+1))).bind fun f=>(idx d a).bind fun g=>(kT (¬((uw c):Int)<0)).bind fun _=>(idx b a).bind fun j=>(dh b a (dX (fq .u64 (jE .u64 (jc .u64 (uw f) 32) (uw g)) (uw c)))).bind fun i=>some (aK.next (i,(iw (a+1)))) else some (aK.done b))
def vN(N:Nat)(a:(List Int))(b:(List Int)):Option ((List Int)×(List Int)):=(qL N a b).bind fun r1=>(if(r1:Int)<0 then (kP N a).bind fun r9=>some (([]:(List Int)),r9) else (if((List.length b:Int):Int)=1 then (idx b 0).bind fun i=>(vA N a i).bind fun d=>(kP N d.1).bind fun j=>(kP N [d.2]).bind fun k=>some (j,k) else (idx b (iw ((List.length b:Int)-1))).bind fun l=>(yf N l).bind fun c=>(tX N a (uw c)).bind fun e=>(tX N b (uw c)).bind fun m=>(cut m 0 (List.length b:Int)).bind fun n=>(fX (α:=Int) 4 0 (iw ((List.length e:Int)-(List.length b:Int)))).bind fun f=>(bH (Am N b n) N (e,f,(iw ((List.length f:Int)-1)))).bind fun ss=>match ss with
    |(o,p)=>(fX (α:=Int) 4 0 (List.length b:Int)).bind fun g=>(bH (A9 N c o g) N (g,0)).bind fun ss=>match ss with
      |s=>(kP N p).bind fun u=>(kP N s).bind fun v=>some (u,v)))
def fM(N:Nat)(n:Int):Option aB:=(((if(n:Int)<0 then some (uw (0-(uw n))) else some (uw n)):Option Int)).bind fun ss=>match ss with
  |u8=>(jV N (decide ((n:Int)<0)) [(dX u8),(dX (fq .u64 u8 32))]).bind fun a=>some a
def k7(N:Nat)(x:aB):Option aB:=(jV N x.bF x.aP).bind fun a=>some a
def gG(N:Nat)(x:aB):Option Int:=(k7 N x).bind fun r6=>(if((List.length r6.aP:Int):Int)=0 then some 0 else (if r6.bF=true then some (-1) else some 1))
def iJ(N:Nat)(a:aB)(b:aB):Option Int:=(k7 N a).bind fun c=>(k7 N b).bind fun d=>(((if(!(c.bF==d.bF))=true then some c.bF else some false):Option Bool)).bind fun ss=>match ss with
  |e=>(if e=true then some (-1) else (if(!(c.bF==d.bF))=true then some 1 else (if c.bF=true then (qL N d.aP c.aP).bind fun f=>some f else (qL N c.aP d.aP).bind fun g=>some g)))
def jr(N:Nat)(x:aB):Option aB:=(jV N (!x.bF) x.aP).bind fun a=>some a
def ja(N:Nat)(a:aB)(b:aB):Option aB:=(k7 N a).bind fun c=>(k7 N b).bind fun d=>(if(c.bF==d.bF)=true then (vB N c.aP d.aP).bind fun e=>(jV N c.bF e).bind fun f=>some f else (qL N c.aP d.aP).bind fun g=>(if(g:Int)<0 then (sP N d.aP c.aP).bind fun i=>(jV N d.bF i).bind fun j=>some j else (sP N c.aP d.aP).bind fun k=>(jV N c.bF k).bind fun l=>some l))
def jb(N:Nat)(a:aB)(b:aB):Option aB:=(jr N b).bind fun c=>(ja N a c).bind fun d=>some d
def km(N:Nat)(a:aB)(b:aB):Option aB:=(wy N a.aP b.aP).bind fun c=>(jV N (!(a.bF==b.bF)) c).bind fun d=>some d
def kz(N:Nat)(a:aB)(b:aB):Option (aB×aB×Bool):=(k7 N a).bind fun e=>(k7 N b).bind fun d=>(if((List.length d.aP:Int):Int)=0 then some ((aB.mk false []),(aB.mk false []),false) else (vN N e.aP d.aP).bind fun c=>(if(!(e.bF==d.bF))=true then (((if((List.length c.2:Int):Int)>0 then (vB N c.1 [1]).bind fun f=>(sP N d.aP c.2).bind fun g=>some (f,g) else some (c.1,c.2)):Option ((List Int)×(List Int)))).bind fun ss=>match ss with
    |(i,j)=>(jV N true i).bind fun k=>(jV N d.bF j).bind fun l=>some (k,l,true) else (jV N false c.1).bind fun m=>(jV N d.bF c.2).bind fun n=>some (m,n,true)))
def FH(N:Nat):((List Int)×(List Int))->Option (aK ((List Int)×(List Int)) (List Int))
 |(b,a)=>(if((List.length a:Int):Int)>0 then (vN N b a).bind fun c=>some (aK.next (a,c.2)) else some (aK.done b))
def uy(N:Nat)(a:aB)(b:aB):Option aB:=(kP N a.aP).bind fun c=>(kP N b.aP).bind fun d=>(bH (FH N) N (c,d)).bind fun ss=>match ss with
  |e=>(jV N false e).bind fun f=>some f
def DL(N:Nat):((List (List UInt8))×(List Int))->Option (aK ((List (List UInt8))×(List Int)) (List (List UInt8)))
 |(b,c)=>(if((List.length c:Int):Int)>0 then (vA N c 1000000000).bind fun d=>(kP N d.1).bind fun e=>(wg N (uw d.2) 10).bind fun a=>(((if((List.length e:Int):Int)>0 then (wh N ([48]:List UInt8) (iw (9-(List.length a:Int)))).bind fun f=>(kT ((List.length f:Int)+List.length a<=9223372036854775807)).bind fun _=>some (f++a) else some a):Option (List UInt8))).bind fun ss=>match ss with
    |g=>(cN 16 b [g]).bind fun i=>some (aK.next (i,e)) else some (aK.done b))
def uM(N:Nat)(x:aB):Option (List UInt8):=(k7 N x).bind fun r6=>(if((List.length r6.aP:Int):Int)=0 then some ([48]:List UInt8) else (bH (DL N) N (([]:(List (List UInt8))),r6.aP)).bind fun ss=>match ss with
   |a=>(((if r6.bF=true then (cN 16 a [([45]:List UInt8)]).bind fun b=>some b else some a):Option (List (List UInt8)))).bind fun ss=>match ss with
     |c=>(xt N c).bind fun d=>(pW N d ([]:List UInt8)).bind fun e=>some e)
open Go Go.X
abbrev aC:Int:=4294967296
theorem my:(1:Int)<aC:=by decide
theorem S0{s:List Int}(hl:s.length<=35184372088832):Tm (fun N=>wS N s) (fun r=>r=s):=by
 unfold wS;exact aN (dP (by simp only[dM];omega) (by decide)) (aS rfl)
theorem oV{d:List Int}(hd:bB aC d)(hl:d.length<=35184372088832):Tm (fun N=>kP N d) (fun r=>Dg aC r (val aC d)/\r.length<=d.length):=by
 unfold kP;refine Tm.bind (Q:=fun n:Int=>∃k:Nat,n=k/\k<=d.length/\(∀j,(hj:j<d.length)->k<=j->d[j]=0)/\(k=0\/∃hk:k-1<d.length,d[k-1]≠0))
  (Tm.loop (fun n:Int=>∃k:Nat,n=k/\k<=d.length/\∀j,(hj:j<d.length)->k<=j->d[j]=0) (fun n=>n.toNat) ⟨d.length,rfl,bK _,fun j h1 h2=>absurd h1 (by omega)⟩ ?_) ?_
 . rintro _ ⟨k,rfl,hk,h0⟩;dsimp only[Df];rcases gw k with rfl|hk0
   . refine Tm.bind (Q:=(·=false)) (cA (by omega) (aS rfl)) ?_;rintro _ rfl;exact cA (by simp) (aS ⟨0,rfl,hk,h0,.inl rfl⟩)
   . refine Tm.bind (Q:=(·=decide (d[k-1]=0))) (db (by omega) (aN (gC (n:=k-1) (by rw[bJ]<;>omega) (by omega)) (aS rfl))) ?_;rintro _ rfl;by_cases h:d[k-1]=0
     . refine db (by simpa using h) (aS ⟨⟨k-1,by rw[bJ]<;>omega,by omega,fun j h1 h2=>?_⟩,?_⟩)
       . rcases Nat.eq_or_lt_of_le h2 with rfl|h3
         . exact h
         . exact h0 j h1 (by omega)
       . show(iw ((k:Int)-1)).toNat<((k:Int)).toNat;rw[bJ]<;>omega
     . exact cA (by simpa using h) (aS ⟨k,rfl,hk,h0,.inr ⟨by omega,h⟩⟩)
 . rintro _ ⟨k,rfl,hk,h0,h1⟩;refine aN (ri (m:=0) (n:=k) rfl rfl (by omega) hk) ?_;refine Tm.bind (S0 (by simp;omega)) ?_;rintro _ rfl;refine aS ⟨by simpa using Co hk hd h0 h1,by simp;omega⟩
def bv(x:aB):Int:=if x.bF=true then-val aC x.aP else val aC x.aP
structure Is (x:aB)(v:Int):Prop where
 dg:Dg aC x.aP v.natAbs
 neg:x.bF=decide (v<0)
theorem Is.bv{x:aB}{v:Int}(h:Is x v):bv x=v:=by
 unfold D.bv;rw[h.neg,h.dg.val];by_cases hv:v<0
 . simp[hv];omega
 . simp[hv];omega
theorem Is.uniq{x y:aB}{v:Int}(h:Is x v)(h':Is y v):x=y:=by
 have h1:=h.dg.uniq my h'.dg;have h2:=h.neg.trans h'.neg.symm;cases x;cases y;simp_all
theorem lU{neg:Bool}{d:List Int}(hd:bB aC d)(hl:d.length<=35184372088832):Tm (fun N=>jV N neg d) (fun r=>Is r (if neg=true then-val aC d else val aC d)/\r.aP.length<=d.length):=by
 unfold jV;refine Tm.bind (oV hd hl) ?_;rintro r ⟨hr,hl'⟩;have h0:=hr.xR (by decide);refine aY (fun h=>aS ?_) (fun h=>aS ?_)
 . have he:r=[]:=mo.1 (by omega);have hv:=(hr.zero (by decide)).1 he;refine⟨⟨?_,?_⟩,by simp⟩
   . simp only[hv];simp;exact Dg.nil
   . simp[hv]
 . have he:r≠[]:=fun e=>h (by simp[e]);have hv:val aC d≠0:=fun e=>he ((hr.zero (by decide)).2 e);refine⟨⟨?_,?_⟩,hl'⟩
   . cases neg<;>simp<;>rw[show((val aC d).natAbs:Int)=val aC d by omega]<;>exact hr
   . cases neg<;>simp<;>omega
theorem o6{x:aB}(hd:bB aC x.aP)(hl:x.aP.length<=35184372088832):Tm (fun N=>k7 N x) (fun r=>Is r (bv x)/\r.aP.length<=x.aP.length):=by
 unfold k7;exact Tm.bind (lU hd hl) (fun r h=>aS h)
theorem Az{x:aB}(hd:bB aC x.aP)(hl:x.aP.length<=35184372088832):Tm (fun N=>jr N x) (fun r=>Is r (-bv x)/\r.aP.length<=x.aP.length):=by
 unfold jr;refine Tm.bind (lU hd hl) (fun r h=>aS ?_);refine⟨?_,h.2⟩;have:=h.1;unfold bv;cases hx:x.bF<;>rw[hx]at this<;>simpa using this
theorem Tk{x:aB}(hd:bB aC x.aP)(hl:x.aP.length<=35184372088832):Tm (fun N=>gG N x) (fun r=>r=bM (bv x) 0):=by
 unfold gG;refine Tm.bind (o6 hd hl) ?_;rintro r ⟨hr,-⟩;have hz:=hr.dg.zero (by decide);refine aY (fun h=>aS ?_) (fun h=>?_)
 . have:=hz.1 (mo.1 (by omega));unfold bM;rw[if_neg (by omega),if_neg (by omega)]
 . have:bv x≠0:=fun e=>h (by rw[hz.2 (by omega)];rfl);refine aY (fun h'=>aS ?_) (fun h'=>aS ?_)
   . have:=hr.neg.symm.trans h';simp at this;unfold bM;rw[if_pos (by omega)]
   . have:¬bv x<0:=fun e=>h' (by rw[hr.neg];simpa using e);unfold bM;rw[if_neg (by omega),if_pos (by omega)]
theorem Al{n:Int}(h1:-9223372036854775808<=n)(h2:n<=9223372036854775807):Tm (fun N=>fM N n) (fun r=>Is r n/\r.aP.length<=2):=by
 unfold fM;refine Tm.bind (Q:=(·=(n.natAbs:Int))) (aY (fun h=>aS ?_) (fun h=>aS ?_)) ?_
 . rw[fJ,fJ];omega
 . rw[fJ];omega
 rintro _ rfl;have hs:fq .u64 (n.natAbs:Int) 32=(n.natAbs:Int)/4294967296:=by
  unfold fq;rw[show((2:Int)^(min (32:Int).toNat IntKind.u64.bits))=4294967296 from rfl,js _ (by decide)]
 refine Tm.bind (lU (d:=[dX (n.natAbs:Int),dX (fq .u64 (n.natAbs:Int) 32)]) ?_ (by simp)) (fun r h=>aS ?_)
 . rw[hs,gj,gj];exact bB.cons (B:=4294967296) (by omega) (bB.cons (by omega) bB.nil)
 . refine⟨?_,h.2⟩;have hv:val aC [dX (n.natAbs:Int),dX (fq .u64 (n.natAbs:Int) 32)]=n.natAbs:=by
    rw[hs,gj,gj];simp only[val,aC];omega
   have h:=h.1;rw[hv]at h;by_cases hn:n<0
   . simp only[hn,decide_true,if_true]at h;rwa[show-(n.natAbs:Int)=n by omega]at h
   . simp only[hn,decide_false,ml,if_false]at h;rwa[show(n.natAbs:Int)=n by omega]at h
theorem Qo{n:Int}:wX (imax n (-1)) 1=bM n 0:=by
 unfold wX imax bM;by_cases h:-1>n<;>simp only[h,if_true,if_false]<;>(repeat' split)<;>omega
theorem zP{a b:List Int}(ha:bB aC a)(hb:bB aC b)(na:fK a)(nb:fK b)(hl:a.length<=35184372088832)(hl':b.length<=35184372088832):Tm (fun N=>qL N a b) (fun r=>r=bM (val aC a) (val aC b)):=by
 unfold qL;refine aY (fun h=>?_) (fun h=>?_)
 . unfold zw;refine aN rfl (aS ?_);rw[bJ (by omega) (by omega),Qo];unfold bM;rcases cw a.length b.length with h'|h'
   . have:=ng my ha hb nb h';rw[if_pos this];(repeat' split)<;>omega
   . have:=ng my hb ha na (by omega);rw[if_neg (by omega),if_pos this];(repeat' split)<;>omega
 . have hle:a.length=b.length:=by omega
   refine Tm.bind (Q:=fun r:Sum Unit Int=>(match r with|.inl _=>0|.inr z=>z)=bM (val aC a) (val aC b))
    (Tm.loop (fun i:Int=>∃n:Nat,i=(n:Int)-1/\n<=a.length/\a.drop n=b.drop n) (fun i=>(i+1).toNat) ⟨a.length,by rw[bJ]<;>omega,bK _,by rw[yw (bK _),yw (by omega)]⟩ ?_) ?_
   . rintro _ ⟨n,rfl,hn,hd⟩;dsimp only[Cu];refine aY (fun h1=>?_) (fun h1=>?_)
     . have hna:n-1<a.length:=by omega
       have hnb:n-1<b.length:=by omega
       refine aN (gC (n:=n-1) (by omega) hna) (aN (gC (n:=n-1) (by omega) hnb) (aY (fun h2=>?_) (fun h2=>?_)))
       . have:=zH my ha hb hle hna (by rw[show n-1+1=n by omega];exact hd) h2;refine aS ?_;show(-1:Int)=_;unfold bM;rw[if_pos this]
       . refine aN (gC (n:=n-1) (by omega) hna) (aN (gC (n:=n-1) (by omega) hnb) (aY (fun h3=>?_) (fun h3=>?_)))
         . have:=zH my hb ha hle.symm hnb (by rw[show n-1+1=n by omega];exact hd.symm) h3;refine aS ?_;show(1:Int)=_;unfold bM;rw[if_neg (by omega),if_pos this]
         . refine aS ⟨⟨n-1,by rw[bJ]<;>omega,by omega,?_⟩,?_⟩
           . rw[eU hna,eU hnb,show n-1+1=n by omega,hd,show a[n-1]=b[n-1] by omega]
           . show(iw ((n:Int)-1-1)+1).toNat<((n:Int)-1+1).toNat;rw[bJ]<;>omega
     . have:n=0:=by omega
       subst this;refine aS ?_;show(0:Int)=_;have:a=b:=by simpa using hd
       rw[this];unfold bM;rw[if_neg (by omega),if_neg (by omega)]
   . rintro(_|z) h<;>exact aS h
theorem y5{d:List Int}(hd:bB aC d){i:Nat}:Tm (fun N=>digit N d (i:Int)) (fun r=>r=d.getD i 0):=by
 unfold digit;have h0:=hd.getD (by decide) i;refine aY (fun h=>?_) (fun h=>aS ?_)
 . refine aN (dd (by omega)) (aS ?_);rw[cy,bV (by omega)]at*;simp only[B3,aC]at*;rw[fJ];omega
 . rw[cy,fP (by omega)];rfl
theorem yt{x:Int}:fq .u64 x 32=x/4294967296:=by
 unfold fq;rw[show((2:Int)^(min (32:Int).toNat IntKind.u64.bits))=4294967296 from rfl,js _ (by decide)]
theorem K7{x:Int}:fq .u64 x 63=x/9223372036854775808:=by
 unfold fq;rw[show((2:Int)^(min (63:Int).toNat IntKind.u64.bits))=9223372036854775808 from rfl,js _ (by decide)]
theorem take_set{l:List Int}{n:Nat}{y:Int}(h:n<l.length):val aC ((l.set n y).take (n+1))=val aC (l.take n)+aC^n*y:=by
 rw[fA,yE (bK n),cy,yv h];rfl
theorem JI{a b:List Int}(ha:bB aC a)(hb:bB aC b)(hl:a.length<=17592186044416)(hl':b.length<=17592186044416):Tm (fun N=>vB N a b) (fun r=>bB aC r/\val aC r=val aC a+val aC b/\r.length=max a.length b.length+1):=by
 unfold vB;have hi:iw (imax (a.length:Int) (b.length:Int)+1)=((max a.length b.length+1:Nat):Int):=by
  unfold imax;split<;>rw[bJ]<;>omega
 refine aN (gN hi (by omega) (by decide)) ?_;generalize hL:max a.length b.length+1=L;refine Tm.bind (Q:=fun r=>bB aC r/\val aC r=val aC a+val aC b/\r.length=L)
  (Tm.loop (fun s:List Int×Int×Int=>∃n:Nat,s.2.2=n/\n<=L/\s.1.length=L/\bB aC s.1/\0<=s.2.1/\s.2.1<=1/\val aC (s.1.take n)+aC^n*s.2.1=val aC (a.take n)+val aC (b.take n)) (fun s=>L-s.2.2.toNat)
   ⟨0,rfl,fC _,by simp,bB.dp (by decide),by simp,by simp,by simp[val]⟩ ?_) (fun r h=>aS h)
 rintro⟨out,carry,i⟩ ⟨n,rfl,hn,ho,hB,h0,h1,hv⟩;dsimp only[Es]at*;simp only[gZ];refine aY (fun h=>?_) (fun h=>aS ?_)
 . refine Tm.bind (y5 ha) ?_;rintro x rfl;refine Tm.bind (y5 hb) ?_;rintro y rfl;refine aN (dd (by omega)) ?_;refine aN (dV rfl (by omega)) (aS ?_);have hx:=ha.getD (by decide) n;have hy:=hb.getD (by decide) n;generalize ex:a.getD n 0=x at*;generalize ey:b.getD n 0=y at*;have e1:uw (carry+uw (x+y))=carry+x+y:=by
    simp only[aC]at*;rw[fJ,fJ];omega
   rw[e1,yt,gj];refine⟨⟨n+1,?_,by omega,by simp;omega,hB.set (by simp only[aC];omega),?_,?_,?_⟩,?_⟩
   . show iw ((n:Int)+1)=_;rw[bJ]<;>omega
   . show 0<=(carry+x+y)/4294967296;omega
   . show(carry+x+y)/4294967296<=1;simp only[aC]at*;omega
   . show val aC ((out.set n ((carry+x+y)%4294967296)).take (n+1))+aC^(n+1)*((carry+x+y)/4294967296)=_;rw[take_set (by omega),fA,fA,ex,ey,fl];have:=jK (carry+x+y) 4294967296;have hw:aC=4294967296:=rfl;grind
   . show L-(iw ((n:Int)+1)).toNat<L-((n:Int)).toNat;rw[bJ]<;>omega
 . have hnL:n=L:=by omega
   subst hnL;rw[eV (by omega),eV (by omega),eV (by omega)]at hv;refine⟨hB,?_,ho⟩;show val aC out=_;have l1:=ig (by decide) ha;have l2:=ig (by decide) hb;have l3:=gE (by decide) hB;have p1:=j4 (B:=aC) (by decide) (show a.length<=n-1 by omega);have p2:=j4 (B:=aC) (by decide) (show b.length<=n-1 by omega);have p3:aC^n=aC^(n-1)*aC:=by rw[<-fl];congr 1;omega
   have p4:=kL (B:=aC) (by decide) (n-1);have hc:carry=0\/carry=1:=by omega
   rcases hc with rfl|rfl
   . omega
   . simp only[aC]at*;omega
theorem DY{a b:List Int}(ha:bB aC a)(hb:bB aC b)(hl:a.length<=17592186044416)(hl':b.length<=a.length)(hv:val aC b<=val aC a):Tm (fun N=>sP N a b) (fun r=>bB aC r/\val aC r=val aC a-val aC b/\r.length=a.length):=by
 unfold sP;refine aN (gN rfl (by omega) (by decide)) ?_;generalize hL:a.length=L;refine Tm.bind (Q:=fun r=>bB aC r/\val aC r=val aC a-val aC b/\r.length=L)
  (Tm.loop (fun s:List Int×Int×Int=>∃n:Nat,s.2.2=n/\n<=L/\s.1.length=L/\bB aC s.1/\0<=s.2.1/\s.2.1<=1/\val aC (s.1.take n)=val aC (a.take n)-val aC (b.take n)+aC^n*s.2.1) (fun s=>L-s.2.2.toNat)
   ⟨0,rfl,fC _,by simp[hL],bB.dp (by decide),by simp,by simp,by simp[val]⟩ ?_) (fun r h=>aS h)
 rintro⟨out,borrow,i⟩ ⟨n,rfl,hn,ho,hB,h0,h1,hv'⟩;dsimp only[CY]at*;refine aY (fun h=>?_) (fun h=>aS ?_)
 . refine aN (dd (by omega)) ?_;refine Tm.bind (y5 hb) ?_;rintro y rfl;refine aN (dd (by omega)) ?_;refine aN (dV rfl (by omega)) (aS ?_);have hx:=ha.get (n:=n) (by omega);have hy:=hb.getD (by decide) n;have ex:a.getD n 0=a[n]'(by omega):=by rw[cy,bV (by omega)];rfl
   generalize a[n]'(by omega)=x at*;generalize ey:b.getD n 0=y at*;have e1:uw (uw (uw x-y)-borrow)=(x-y-borrow)%18446744073709551616:=by
    simp only[aC]at*;rw[fJ,fJ,fJ];omega
   rw[e1,K7,gj];simp only[aC]at hx hy;refine⟨⟨n+1,?_,by omega,by simp;omega,hB.set (by simp only[aC];omega),?_,?_,?_⟩,?_⟩
   . show iw ((n:Int)+1)=_;rw[bJ]<;>omega
   . show 0<=(x-y-borrow)%18446744073709551616/9223372036854775808;omega
   . show(x-y-borrow)%18446744073709551616/9223372036854775808<=1;omega
   . show val aC ((out.set n ((x-y-borrow)%18446744073709551616%4294967296)).take (n+1))=_+aC^(n+1)*((x-y-borrow)%18446744073709551616/9223372036854775808);rw[take_set (by omega),fA,fA,ex,ey,fl];have hd:(x-y-borrow)%18446744073709551616%4294967296=x-y-borrow+aC*((x-y-borrow)%18446744073709551616/9223372036854775808):=by
      simp only[aC];omega
     rw[hd];grind
   . show L-(iw ((n:Int)+1)).toNat<L-((n:Int)).toNat;rw[bJ]<;>omega
 . have hnL:n=L:=by omega
   subst hnL;rw[eV (by omega),eV (by omega),eV (by omega)]at hv';refine⟨hB,?_,ho⟩;show val aC out=_;have l1:=ig (by decide) hB;rw[ho]at l1;have hc:borrow=0\/borrow=1:=by omega
   rcases hc with rfl|rfl
   . omega
   . simp only[aC]at*;omega
theorem Is.zB{x:aB}{v:Int}(h:Is x v):val aC x.aP=if v<0 then-v else v:=by rw[h.dg.val];split<;>omega
theorem KX{a b:aB}(ha:bB aC a.aP)(hb:bB aC b.aP)(hl:a.aP.length<=17592186044416)(hl':b.aP.length<=17592186044416):
 Tm (fun N=>ja N a b) (fun r=>Is r (bv a+bv b)/\r.aP.length<=max a.aP.length b.aP.length+1):=by
 unfold ja;refine Tm.bind (o6 ha (by omega)) ?_;rintro x ⟨hx,hxl⟩;refine Tm.bind (o6 hb (by omega)) ?_;rintro y ⟨hy,hyl⟩;have vx:=hx.zB;have vy:=hy.zB;have n1:=hx.neg;have n2:=hy.neg;refine aY (fun h=>?_) (fun h=>?_)
 . have hn:x.bF=y.bF:=by simpa using h
   refine Tm.bind (JI hx.dg.bL hy.dg.bL (by omega) (by omega)) ?_;rintro s ⟨hs,sv,sl⟩;refine Tm.bind (lU hs (by omega)) (fun r hr=>aS ⟨?_,by omega⟩);have hr:=hr.1;rw[sv,vx,vy]at hr;by_cases p:bv a<0<;>by_cases q:bv b<0<;>simp only[p,q,decide_true,decide_false]at n1 n2 hn
   . simp only[n1,p,q,if_true]at hr;rwa[show-(-bv a+-bv b)=bv a+bv b by omega]at hr
   . rw[n1,n2]at hn;cases hn
   . rw[n1,n2]at hn;cases hn
   . simpa only[n1,p,q,if_false,ml]using hr
 . have hn:¬x.bF=y.bF:=by simpa using h
   refine Tm.bind (zP hx.dg.bL hy.dg.bL hx.dg.fi hy.dg.fi (by omega) (by omega)) ?_;rintro c rfl;refine aY (fun hc=>?_) (fun hc=>?_)
   . have hlt:val aC x.aP<val aC y.aP:=by revert hc;unfold bM;split<;>(try split)<;>omega
     have hle:x.aP.length<=y.aP.length:=by
      rcases cw y.aP.length x.aP.length with h'|h'
      . have:=ng my hy.dg.bL hx.dg.bL hx.dg.fi h';omega
      . exact h'
     refine Tm.bind (DY hy.dg.bL hx.dg.bL (by omega) hle (by omega)) ?_;rintro s ⟨hs,sv,sl⟩;refine Tm.bind (lU hs (by omega)) (fun r hr=>aS ⟨?_,by omega⟩);have hr:=hr.1;rw[sv,vx,vy]at hr;by_cases p:bv a<0<;>by_cases q:bv b<0<;>simp only[p,q,decide_true,decide_false]at n1 n2 hn
     . rw[n1,n2]at hn;exact absurd rfl hn
     . simp only[n2,p,q,if_true,if_false,ml]at hr;rwa[show bv b- -bv a=bv a+bv b by omega]at hr
     . simp only[n2,p,q,if_true,if_false]at hr;rwa[show-(-bv b-bv a)=bv a+bv b by omega]at hr
     . rw[n1,n2]at hn;exact absurd rfl hn
   . have hge:val aC y.aP<=val aC x.aP:=by revert hc;unfold bM;split<;>(try split)<;>omega
     have hle:y.aP.length<=x.aP.length:=by
      rcases cw x.aP.length y.aP.length with h'|h'
      . have:=ng my hx.dg.bL hy.dg.bL hy.dg.fi h';omega
      . exact h'
     refine Tm.bind (DY hx.dg.bL hy.dg.bL (by omega) hle hge) ?_;rintro s ⟨hs,sv,sl⟩;refine Tm.bind (lU hs (by omega)) (fun r hr=>aS ⟨?_,by omega⟩);have hr:=hr.1;rw[sv,vx,vy]at hr;by_cases p:bv a<0<;>by_cases q:bv b<0<;>simp only[p,q,decide_true,decide_false]at n1 n2 hn
     . rw[n1,n2]at hn;exact absurd rfl hn
     . simp only[n1,p,q,if_true,if_false]at hr;rwa[show-(-bv a-bv b)=bv a+bv b by omega]at hr
     . simp only[n1,p,q,if_true,if_false,ml]at hr;rwa[show bv a- -bv b=bv a+bv b by omega]at hr
     . rw[n1,n2]at hn;exact absurd rfl hn
theorem Oa{a b:aB}(ha:bB aC a.aP)(hb:bB aC b.aP)(hl:a.aP.length<=17592186044416)(hl':b.aP.length<=17592186044416):
 Tm (fun N=>jb N a b) (fun r=>Is r (bv a-bv b)/\r.aP.length<=max a.aP.length b.aP.length+1):=by
 unfold jb;refine Tm.bind (Az hb (by omega)) ?_;rintro y ⟨hy,hyl⟩;refine Tm.bind (KX ha hy.dg.bL (by omega) (by omega)) (fun r h=>aS ⟨?_,by omega⟩);have:=h.1;rwa[hy.bv,<-Gw]at this
theorem RZ{a b:List Int}(ha:bB aC a)(hb:bB aC b)(hl:a.length<=17592186044416)(hl':b.length<=17592186044416):
 Tm (fun N=>wy N a b) (fun r=>bB aC r/\val aC r=val aC a*val aC b/\r.length=a.length+b.length):=by
 unfold wy;refine aN (gN (n:=a.length+b.length) (by rw[bJ]<;>omega) (by omega) (by decide)) ?_;refine Tm.bind (Q:=fun r=>bB aC r/\val aC r=val aC a*val aC b/\r.length=a.length+b.length)
  (Tm.loop (fun s:List Int×Int=>∃n:Nat,s.2=n/\n<=a.length/\s.1.length=a.length+b.length/\bB aC s.1/\val aC s.1=val aC (a.take n)*val aC b/\∀k,n+b.length<=k->(hk:k<s.1.length)->s.1[k]=0) (fun s=>a.length-s.2.toNat)
   ⟨0,rfl,fC _,by simp,bB.dp (by decide),by simp[val,Bn],by simp⟩ ?_) (fun r h=>aS h)
 rintro⟨out,i⟩ ⟨n,rfl,hn,ho,hB,hv,hz⟩;dsimp only[Et]at*;refine aY (fun h=>?_) (fun h=>aS ?_)
 . refine aN (dd (by omega)) ?_;have hx:=ha.get (n:=n) (by omega);have ex:a.getD n 0=a[n]'(by omega):=by rw[cy,bV (by omega)];rfl
   generalize a[n]'(by omega)=x at*;refine Tm.bind (Q:=fun r:List Int×Int=>bB aC r.1/\r.1.length=a.length+b.length/\0<=r.2/\r.2<aC/\val aC r.1+aC^(n+b.length)*r.2=val aC (a.take n)*val aC b+aC^n*x*val aC b/\∀k,n+b.length<=k->(hk:k<r.1.length)->r.1[k]=0)
    (Tm.loop (fun s:List Int×Int×Int=>∃m:Nat,s.2.2=m/\m<=b.length/\s.1.length=a.length+b.length/\bB aC s.1/\0<=s.2.1/\s.2.1<aC/\val aC s.1+aC^(n+m)*s.2.1=val aC (a.take n)*val aC b+aC^n*x*val aC (b.take m)/\∀k,n+b.length<=k->(hk:k<s.1.length)->s.1[k]=0) (fun s=>b.length-s.2.2.toNat)
     ⟨0,rfl,fC _,ho,hB,by simp,(by decide:(0:Int)<aC),by simpa[val]using hv,hz⟩ ?_) ?_
   . rintro⟨out1,carry,j⟩ ⟨m,rfl,hm,ho1,hB1,c0,c1,hv1,hz1⟩;dsimp only[CT]at*;refine aY (fun h1=>?_) (fun h1=>aS ?_)
     . refine aN (dd (by omega)) ?_;have hi:iw ((n:Int)+(m:Int))=((n+m:Nat):Int):=by rw[bJ]<;>omega
       have hy:=hb.get (n:=m) (by omega);have ey:b.getD m 0=b[m]'(by omega):=by rw[cy,bV (by omega)];rfl
       generalize b[m]'(by omega)=y at*;refine aN (gC (n:=n+m) hi (by omega)) (aN (gC (n:=n+m) hi (by omega)) (aN (dV (n:=n+m) hi (by omega)) (aS ?_)));have hz':=hB1.get (n:=n+m) (by omega);have hvs:=fun y'=>tF (B:=aC) (l:=out1) (n:=n+m) (y:=y') (by omega);generalize out1[n+m]'(by omega)=z at*;have hxy:0<=x*y/\x*y<=4294967295*4294967295:=by
        refine⟨eH hx.1 hy.1,?_⟩;exact nq (by simp only[aC]at hx;omega) (by simp only[aC]at hy;omega) hy.1 (by decide)
       generalize exy:x*y=xy at*;have e1:uw (carry+uw (uw (uw x*uw y)+uw z))=carry+xy+z:=by
        simp only[aC]at*;rw[show uw x=x by rw[fJ];omega,show uw y=y by rw[fJ];omega,exy,fJ,fJ,fJ,fJ];omega
       rw[e1,yt,gj];simp only[aC]at hz' c1;refine⟨⟨m+1,?_,by omega,by simp;omega,hB1.set (by simp only[aC];omega),?_,?_,?_,?_⟩,?_⟩
       . show iw ((m:Int)+1)=_;rw[bJ]<;>omega
       . show 0<=(carry+xy+z)/4294967296;omega
       . show(carry+xy+z)/4294967296<aC;simp only[aC];omega
       . show val aC (out1.set (n+m) ((carry+xy+z)%4294967296))+aC^(n+(m+1))*((carry+xy+z)/4294967296)=_;rw[hvs,fA,ey,<-pM,fl];have:=jK (carry+xy+z) 4294967296;have hw:aC=4294967296:=rfl;have hp:aC^(n+m)=aC^n*aC^m:=jI ..;grind
       . intro k hk hk';rw[Gx (by omega)];exact hz1 k hk (by simpa using hk')
       . show b.length-(iw ((m:Int)+1)).toNat<b.length-((m:Int)).toNat;rw[bJ]<;>omega
     . have hmL:m=b.length:=by omega
       subst hmL;rw[eV (bK _)]at hv1;exact⟨hB1,ho1,c0,c1,hv1,hz1⟩
   . rintro⟨out2,carry⟩ ⟨hB2,ho2,c0,c1,hv2,hz2⟩;dsimp only at*;have hi:iw ((n:Int)+(b.length:Int))=((n+b.length:Nat):Int):=by rw[bJ]<;>omega
     refine aN (gC hi (by omega)) (aN (dV hi (by omega)) (aS ?_));have e1:dX carry=carry:=by rw[gj];simp only[aC]at c1;omega
     rw[e1];refine⟨⟨n+1,?_,by omega,by simp;omega,hB2.set ⟨c0,c1⟩,?_,?_⟩,?_⟩
     . show iw ((n:Int)+1)=_;rw[bJ]<;>omega
     . show val aC (out2.set (n+b.length) carry)=_;rw[tF (by omega),hz2 _ (bK _) (by omega),fA,ex];grind
     . intro k hk hk';rw[Gx (by omega)];exact hz2 k (by omega) (by simpa using hk')
     . show a.length-(iw ((n:Int)+1)).toNat<a.length-((n:Int)).toNat;rw[bJ]<;>omega
 . have hnL:n=a.length:=by omega
   subst hnL;rw[eV (bK _)]at hv;exact⟨hB,hv,ho⟩
theorem Km{a b:aB}:bv a*bv b=if(!(a.bF==b.bF))=true then-(val aC a.aP*val aC b.aP)else val aC a.aP*val aC b.aP:=by
 unfold bv;cases a.bF<;>cases b.bF<;>simp[lL,nr]
theorem UM{a b:aB}(ha:bB aC a.aP)(hb:bB aC b.aP)(hl:a.aP.length<=8796093022208)(hl':b.aP.length<=8796093022208):
 Tm (fun N=>km N a b) (fun r=>Is r (bv a*bv b)/\r.aP.length<=a.aP.length+b.aP.length):=by
 unfold km;refine Tm.bind (RZ ha hb (by omega) (by omega)) ?_;rintro s ⟨hs,sv,sl⟩;refine Tm.bind (lU hs (by omega)) (fun r h=>aS ⟨?_,by omega⟩);rw[Km,<-sv];exact h.1
theorem QA{a b:aB}(ha:bB aC a.aP)(hb:bB aC b.aP)(hl:a.aP.length<=35184372088832)(hl':b.aP.length<=35184372088832):Tm (fun N=>iJ N a b) (fun r=>r=bM (bv a) (bv b)):=by
 unfold iJ;refine Tm.bind (o6 ha hl) ?_;rintro x ⟨hx,hxl⟩;refine Tm.bind (o6 hb hl') ?_;rintro y ⟨hy,hyl⟩;have hxv:=hx.dg.val;have hyv:=hy.dg.val;refine Tm.bind (Q:=(·=(x.bF&&!y.bF))) (aY (fun h=>aS ?_) (fun h=>aS ?_)) ?_
 . revert h;cases x.bF<;>cases y.bF<;>simp
 . revert h;cases x.bF<;>cases y.bF<;>simp
 rintro _ rfl;have c1:=zP (a:=y.aP) (b:=x.aP) hy.dg.bL hx.dg.bL hy.dg.fi hx.dg.fi (by omega) (by omega);have c2:=zP (a:=x.aP) (b:=y.aP) hx.dg.bL hy.dg.bL hx.dg.fi hy.dg.fi (by omega) (by omega);rw[hxv,hyv]at c1 c2;have n1:=hx.neg;have n2:=hy.neg;by_cases p:bv a<0<;>by_cases q:bv b<0
 . simp only[p,q,decide_true]at n1 n2;simp only[n1,n2];refine cA (by simp) (cA (by simp) (db (by simp) (Tm.bind c1 (fun r h=>aS ?_))));rw[h];unfold bM;split<;>split<;>(try split)<;>omega
 . simp only[p,q,decide_true,decide_false]at n1 n2;simp only[n1,n2];refine db (by simp) (aS ?_);unfold bM;rw[if_pos (by omega)]
 . simp only[p,q,decide_true,decide_false]at n1 n2;simp only[n1,n2];refine cA (by simp) (db (by simp) (aS ?_));unfold bM;rw[if_neg (by omega),if_pos (by omega)]
 . simp only[p,q,decide_false]at n1 n2;simp only[n1,n2];refine cA (by simp) (cA (by simp) (cA (by simp) (Tm.bind c2 (fun r h=>aS ?_))));rw[h];unfold bM;split<;>split<;>(try split)<;>omega
open Go Go.X
abbrev aW:Int:=65536
theorem om:(1:Int)<aW:=by decide
theorem zO{x:Int}(h:0<=x):Int.tmod x 65536=x%65536:=M9 h
theorem Bq{x:Int}(h:0<=x):Int.tdiv x 65536=x/65536:=Vb h
theorem tS{l:List Int}(hd:bB aW l)(hl:l.length<=35184372088832):Tm (fun N=>nM N l) (fun r=>Dg aW r (val aW l)/\r.length<=l.length):=by
 unfold nM;refine Tm.bind (Tm.loop (fun s:List Int=>∃n:Nat,n<=l.length/\s=l.take n/\(∀j,(hj:j<l.length)->n<=j->l[j]=0)) (fun s=>s.length) (Q:=fun r=>Dg aW r (val aW l)/\r.length<=l.length) ⟨l.length,bK _,by simp,fun j h1 h2=>absurd h1 (by omega)⟩ ?_) (fun r h=>aS h);rintro _ ⟨n,hn,rfl,h0⟩;have hlen:(l.take n).length=n:=by simp;omega
 dsimp only[CI];rcases gw n with rfl|hk0
 . refine Tm.bind (Q:=(·=false)) (cA (by simp) (aS rfl)) ?_;rintro _ rfl;exact cA (by simp) (aS ⟨Co hn hd h0 (.inl rfl),by simp⟩)
 . refine Tm.bind (Q:=(·=decide (l[n-1]=0))) (db (by omega) (aN (gC (n:=n-1) (by rw[bJ]<;>omega) (by omega)) (aS ?_))) ?_
   . rw[List.getElem_take]
   rintro _ rfl;by_cases h:l[n-1]=0
   . refine db (by simpa using h) (aN (ri (m:=0) (n:=n-1) rfl (by rw[bJ]<;>omega) (by omega) (by omega)) (aS ⟨⟨n-1,by omega,?_,fun j h1 h2=>?_⟩,?_⟩))
     . simp[MV]
     . rcases Nat.eq_or_lt_of_le h2 with rfl|h3
       . exact h
       . exact h0 j h1 (by omega)
     . simp;omega
   . exact cA (by simpa using h) (aS ⟨Co hn hd h0 (.inr ⟨by omega,h⟩),by omega⟩)
theorem oE{x:aB}(hd:bB aC x.aP)(hl:x.aP.length<=8796093022208):Tm (fun N=>lC N x) (fun r=>Dg aW r (val aC x.aP)/\r.length<=2*x.aP.length):=by
 unfold lC;refine Tm.bind (Tm.loop (fun s:List Int×Int=>∃n:Nat,s.2=n/\n<=x.aP.length/\s.1.length=2*n/\bB aW s.1/\val aW s.1=val aC (x.aP.take n)) (fun s=>x.aP.length-s.2.toNat) (Q:=fun r=>bB aW r/\val aW r=val aC x.aP/\r.length=2*x.aP.length) ⟨0,rfl,fC _,rfl,.nil,by simp[val]⟩ ?_) ?_
 . rintro⟨l,i⟩ ⟨n,rfl,hn,ho,hB,hv⟩;dsimp only[F7]at*;refine aY (fun h=>?_) (fun h=>aS ?_)
   . refine aN (dd (by omega)) (aN (dd (by omega)) ?_);have hx:=hd.get (n:=n) (by omega);have ex:x.aP.getD n 0=x.aP[n]'(by omega):=by rw[cy,bV (by omega)];rfl
     generalize x.aP[n]'(by omega)=y at*;simp only[aC]at hx;rw[zO hx.1,Bq hx.1,gj];have e1:iw (y%65536)=y%65536:=by rw[bJ]<;>omega
     have e2:iw (y/65536%4294967296)=y/65536:=by rw[bJ]<;>omega
     rw[e1,e2];refine aN (dP (by simp only[cz,dM];omega) (by decide)) (aS ⟨⟨n+1,by dsimp only;rw[bJ]<;>omega,by omega,by simp;omega,hB.append (.cons (B:=65536) (by omega) (.cons (by omega) .nil)),?_⟩,?_⟩)
     . show val aW (l++[y%65536,y/65536])=_;rw[oU,fA,ho,hv,ex,Int.pow_mul];have:val aW [y%65536,y/65536]=y:=by simp only[val,aW];omega
       rw[this];rfl
     . dsimp only;rw[bJ]<;>omega
   . have hnL:n=x.aP.length:=by omega
     subst hnL;rw[eV (bK _)]at hv;exact⟨hB,hv,ho⟩
 . rintro r ⟨h1,h2,h3⟩;exact Tm.bind (tS h1 (by omega)) (fun r' h=>aS ⟨h2▸h.1,by omega⟩)
theorem N7{l:List Int}{d:Int}(h:d≠0):fK (l++[d]):=by simp[fK,h]
theorem pI{neg:Bool}{l:List Int}(hd:bB aW l)(hl:l.length<=17592186044416):Tm (fun N=>kS N neg l) (fun r=>Is r (if neg=true then-val aW l else val aW l)/\r.aP.length<=(l.length+1)/2):=by
 unfold kS;refine Tm.bind (tS hd (by omega)) ?_;rintro t ⟨ht,htl⟩;have h0:=ht.xR (by decide);have hz:=ht.zero (by decide);refine Tm.bind (Q:=(·=(neg&&decide (val aW l≠0)))) (aY (fun h=>aS ?_) (fun h=>aS ?_)) ?_
 . rw[h];by_cases e:t=[]
   . have:=hz.1 e;simp[e,this]
   . have:val aW l≠0:=fun e'=>e (hz.2 e');have:=qX.2 e;simp_all
 . simp at h;simp[h]
 rintro _ rfl;refine Tm.bind (Tm.loop (fun s:List Int×Int=>∃n:Nat,s.2=((2*n:Nat):Int)/\2*n<=t.length+1/\s.1.length=n/\bB aC s.1/\val aC s.1=val aW (t.take (2*n))/\(t.length<=2*n->fK s.1)) (fun s=>t.length+2-s.2.toNat) (Q:=fun r=>Dg aC r (val aW t)/\r.length<=(t.length+1)/2)
  ⟨0,rfl,by omega,rfl,.nil,by simp[val],fun _=>Jl⟩ ?_) ?_
 . rintro⟨ds,i⟩ ⟨n,rfl,hn,ho,hB,hv,hN⟩;dsimp only[FZ]at*;refine aY (fun h=>?_) (fun h=>aS ?_)
   . refine aN (dd (by omega)) ?_;have hx:=ht.bL.get (n:=2*n) (by omega);have ex:t.getD (2*n) 0=t[2*n]'(by omega):=by rw[cy,bV (by omega)];rfl
     have hlast:t.length=2*n+1->t[2*n]'(by omega)≠0:=fun e h'=>ht.fi (by rw[Gp,e,MY,bV (by omega),h']);generalize t[2*n]'(by omega)=x at*;have hi:iw (((2*n:Nat):Int)+1)=((2*n+1:Nat):Int):=by rw[bJ]<;>omega
     refine Tm.bind (Q:=fun d=>d=x+65536*t.getD (2*n+1) 0/\(t.length<=2*n+2->d≠0)) ?_ ?_
     . refine aY (fun h1=>?_) (fun h1=>aS ?_)
       . refine aN (gC hi (by omega)) (aS ?_);have hy:=ht.bL.get (n:=2*n+1) (by omega);have ey:t.getD (2*n+1) 0=t[2*n+1]'(by omega):=by rw[cy,bV (by omega)];rfl
         have hlast':t.length=2*n+2->t[2*n+1]'(by omega)≠0:=fun e h'=>ht.fi (by rw[Gp,e,show 2*n+2-1=2*n+1 by omega,bV (by omega),h']);rw[ey];generalize t[2*n+1]'(by omega)=y at*;simp only[aW]at hx hy;have e1:dX (dX x+dX (65536*dX y))=x+65536*y:=by
          rw[gj,gj,gj,gj];omega
         rw[e1];exact⟨rfl,fun h'=>by have:=hlast' (by omega);omega⟩
       . have ey:t.getD (2*n+1) 0=0:=by rw[cy,fP (by omega)];rfl
         rw[ey];simp only[aW]at hx;have:=hlast (by omega);rw[gj];exact⟨by omega,fun _=>by omega⟩
     . rintro _ ⟨rfl,hd0⟩;have hy:=ht.bL.getD (by decide) (2*n+1);have et:val aW (t.take (2*(n+1)))=val aW (t.take (2*n))+aW^(2*n)*(x+65536*t.getD (2*n+1) 0):=by
        rw[show 2*(n+1)=2*n+1+1 by omega,fA,fA,ex,fl];have hw:aW=65536:=rfl;grind
       generalize t.getD (2*n+1) 0=y at*;simp only[aW]at hx hy;refine aN (dP (by simp only[cz,dM];omega) (by decide)) (aS ⟨⟨n+1,by dsimp only;rw[bJ]<;>omega,by omega,by simp;omega,hB.append (.cons (B:=4294967296) (by omega) .nil),?_,fun h'=>N7 (hd0 (by omega))⟩,?_⟩)
       . show val aC (ds++[x+65536*y])=_;rw[oU,et,ho,hv,Int.pow_mul];have hw:aW^2=aC:=by decide
         rw[hw];simp only[val];simp
       . dsimp only;rw[bJ]<;>omega
   . rw[eV (by omega)]at hv;exact⟨⟨hB,hN (by omega),hv⟩,by omega⟩
 . rintro r ⟨hr,hrl⟩;refine aS ⟨⟨?_,?_⟩,bO (show r.length<=_ from hrl) (Nat.div_le_div_right (by omega))⟩
   . have e:(((if neg=true then-val aW l else val aW l):Int).natAbs:Int)=val aW t:=by rw[ht.val];cases neg<;>simp<;>omega
     rw[e];exact hr
   . show(neg&&decide (val aW l≠0))=_;by_cases e:val aW l=0
     . cases neg<;>simp[e]
     . cases neg
       . simp;omega
       . have:-val aW l<0:=by omega
         simp[e,this];omega
theorem L3{x:aB}(hd:bB aC x.aP)(hl:x.aP.length<=8796093022208):Tm (fun N=>xW N x) (fun r=>Is r (bv x)/\r.aP.length<=x.aP.length):=by
 unfold xW;refine Tm.bind (oE hd hl) ?_;rintro h ⟨hh,hhl⟩;refine Tm.bind (pI hh.bL (by omega)) (fun r hr=>aS ⟨?_,by omega⟩);have:=hr.1;rw[hh.val]at this;exact this
theorem xh{x:aB}(hd:bB aC x.aP)(hl:x.aP.length<=8796093022208):Tm (fun N=>pX N x) (fun r=>Is r (-bv x)/\r.aP.length<=x.aP.length):=by
 unfold pX;refine Tm.bind (oE hd hl) ?_;rintro h ⟨hh,hhl⟩;refine Tm.bind (pI hh.bL (by omega)) (fun r hr=>aS ⟨?_,by omega⟩);have:=hr.1;rw[hh.val]at this;unfold bv;cases hx:x.bF<;>rw[hx]at this<;>simpa using this
theorem nB{x:aB}(hd:bB aC x.aP)(hl:x.aP.length<=8796093022208):Tm (fun N=>kN N x) (fun r=>r=bM (bv x) 0):=by
 unfold kN;refine Tm.bind (oE hd hl) ?_;rintro h ⟨hh,-⟩;have hz:=hh.zero (by decide);have h0:=hh.xR (by decide);unfold bv;refine aY (fun h1=>aS ?_) (fun h1=>?_)
 . have:=hz.1 (mo.1 (by omega));unfold bM;rw[this];simp
 . have:val aC x.aP≠0:=fun e=>h1 (by rw[hz.2 e];rfl);refine aY (fun h'=>aS ?_) (fun h'=>aS ?_)
   . rw[if_pos h'];unfold bM;rw[if_pos (by omega)]
   . rw[if_neg h'];unfold bM;rw[if_neg (by omega),if_pos (by omega)]
theorem Ji{a b:List Int}(ha:bB aW a)(hb:bB aW b)(na:fK a)(nb:fK b)(hl:a.length<=35184372088832)(hl':b.length<=35184372088832):Tm (fun N=>tQ N a b) (fun r=>r=bM (val aW a) (val aW b)):=by
 unfold tQ;refine aY (fun h=>?_) (fun h=>?_)
 . refine aY (fun h'=>aS ?_) (fun h'=>aS ?_)
   . have:=ng om ha hb nb (by omega);unfold bM;rw[if_pos this]
   . have:=ng om hb ha na (by omega);unfold bM;rw[if_neg (by omega),if_pos this]
 . have hle:a.length=b.length:=by omega
   refine Tm.bind (Q:=fun r:Sum Unit Int=>(match r with|.inl _=>0|.inr z=>z)=bM (val aW a) (val aW b))
    (Tm.loop (fun i:Int=>∃n:Nat,i=(n:Int)-1/\n<=a.length/\a.drop n=b.drop n) (fun i=>(i+1).toNat) ⟨a.length,by rw[bJ]<;>omega,bK _,by rw[yw (bK _),yw (by omega)]⟩ ?_) ?_
   . rintro _ ⟨n,rfl,hn,hd⟩;dsimp only[CX];refine aY (fun h1=>?_) (fun h1=>?_)
     . have hna:n-1<a.length:=by omega
       have hnb:n-1<b.length:=by omega
       refine aN (gC (n:=n-1) (by omega) hna) (aN (gC (n:=n-1) (by omega) hnb) (aY (fun h2=>?_) (fun h2=>?_)))
       . have:=zH om ha hb hle hna (by rw[show n-1+1=n by omega];exact hd) h2;refine aS ?_;show(-1:Int)=_;unfold bM;rw[if_pos this]
       . refine aN (gC (n:=n-1) (by omega) hna) (aN (gC (n:=n-1) (by omega) hnb) (aY (fun h3=>?_) (fun h3=>?_)))
         . have:=zH om hb ha hle.symm hnb (by rw[show n-1+1=n by omega];exact hd.symm) h3;refine aS ?_;show(1:Int)=_;unfold bM;rw[if_neg (by omega),if_pos this]
         . refine aS ⟨⟨n-1,by rw[bJ]<;>omega,by omega,?_⟩,?_⟩
           . rw[eU hna,eU hnb,show n-1+1=n by omega,hd,show a[n-1]=b[n-1] by omega]
           . show(iw ((n:Int)-1-1)+1).toNat<((n:Int)-1+1).toNat;rw[bJ]<;>omega
     . have:n=0:=by omega
       subst this;refine aS ?_;show(0:Int)=_;have:a=b:=by simpa using hd
       rw[this];unfold bM;rw[if_neg (by omega),if_neg (by omega)]
   . rintro(_|z) h<;>exact aS h
theorem fY{l:List Int}{n:Nat}(h:n<l.length):l.getD n 0=l[n]:=by rw[cy,bV h];rfl
theorem mW{l:List Int}{n:Nat}(h:l.length<=n):l.getD n 0=0:=by rw[cy,fP h];rfl
theorem kG{l:List Int}{n:Nat}(h:l.length<=n):l.take n=l:=eV h
theorem yV{a b:List Int}(ha:bB aW a)(hb:bB aW b)(hl:a.length<=8796093022208)(hl':b.length<=8796093022208):Tm (fun N=>oK N a b) (fun r=>Dg aW r (val aW a+val aW b)/\r.length<=max a.length b.length+1):=by
 unfold oK;generalize hL:max a.length b.length=L;refine Tm.bind (Q:=fun r=>bB aW r/\val aW r=val aW a+val aW b/\r.length<=L+1)
  (Tm.loop (fun s:List Int×Int×Int=>∃n:Nat,s.2.2=n/\n<=L+1/\s.1.length=n/\bB aW s.1/\0<=s.2.1/\s.2.1<=1/\(L<n->s.2.1=0)/\val aW s.1+aW^n*s.2.1=val aW (a.take n)+val aW (b.take n)) (fun s=>L+1-s.2.2.toNat)
   ⟨0,rfl,fC _,rfl,.nil,by simp,by simp,fun _=>rfl,by simp[val]⟩ ?_) ?_
 . rintro⟨out,carry,i⟩ ⟨n,rfl,hn,ho,hB,h0,h1,hc,hv⟩;dsimp only[Ff]at*;refine Tm.bind (Q:=(·=decide (n<L\/0<carry))) (aY (fun h=>aS ?_) (fun h=>aY (fun h'=>aS ?_) (fun h'=>aS ?_))) ?_
   . have:n<L:=by omega
     simp[this]
   . have:n<L:=by omega
     simp[this]
   . have:¬n<L:=by omega
     simp[this]
   rintro _ rfl;refine aY (fun h=>?_) (fun h=>aS ?_)
   . have h:=of_decide_eq_true h;have hx:=ha.getD (by decide) n;have hy:=hb.getD (by decide) n;simp only[aW]at hx hy;refine Tm.bind (Q:=(·=carry+a.getD n 0)) (aY (fun h2=>?_) (fun h2=>aS ?_)) ?_
     . rw[fY (l:=a) (by omega)]at*;refine aN (dd (by omega)) (aS ?_);rw[bJ]<;>omega
     . rw[mW (by omega)];omega
     rintro _ rfl;refine Tm.bind (Q:=(·=carry+a.getD n 0+b.getD n 0)) (aY (fun h2=>?_) (fun h2=>aS ?_)) ?_
     . rw[fY (l:=b) (by omega)]at*;refine aN (dd (by omega)) (aS ?_);rw[bJ]<;>omega
     . rw[mW (l:=b) (by omega)];omega
     rintro _ rfl;have hz:L<=n->a.getD n 0=0/\b.getD n 0=0:=fun h=>⟨mW (by omega),mW (by omega)⟩;generalize ex:a.getD n 0=x at*;generalize ey:b.getD n 0=y at*;rw[zO (by omega),Bq (by omega)];refine aN (dP (by simp only[cz,dM];omega) (by decide)) (aS ⟨⟨n+1,?_,by omega,by simp;omega,hB.append (.cons (B:=65536) (by omega) .nil),?_,?_,?_,?_⟩,?_⟩)
     . show iw ((n:Int)+1)=_;rw[bJ]<;>omega
     . show 0<=iw ((carry+x+y)/65536);rw[bJ]<;>omega
     . show iw ((carry+x+y)/65536)<=1;rw[bJ]<;>omega
     . intro h';show iw ((carry+x+y)/65536)=0;have:=hz (by omega);rw[bJ]<;>omega
     . show val aW (out++[(carry+x+y)%65536])+aW^(n+1)*iw ((carry+x+y)/65536)=_;rw[bJ (by omega) (by omega),oU,fA,fA,ex,ey,ho,fl];have:=jK (carry+x+y) 65536;have hw:aW=65536:=rfl;simp only[val];grind
     . show L+1-(iw ((n:Int)+1)).toNat<L+1-((n:Int)).toNat;rw[bJ]<;>omega
   . have h:¬(n<L\/0<carry):=fun e=>h (decide_eq_true e);rw[kG (by omega),kG (by omega),show carry=0 by omega]at hv;exact⟨hB,by show val aW out=_;omega,by show out.length<=_;omega⟩
 . rintro r ⟨h1,h2,h3⟩;exact Tm.bind (tS h1 (by omega)) (fun r' h=>aS ⟨h2▸h.1,by omega⟩)
theorem Db{a b:List Int}(ha:bB aW a)(hb:bB aW b)(hl:a.length<=8796093022208)(hl':b.length<=a.length)(hv:val aW b<=val aW a):Tm (fun N=>rJ N a b) (fun r=>Dg aW r (val aW a-val aW b)/\r.length<=a.length):=by
 unfold rJ;generalize hL:a.length=L at*;refine Tm.bind (Q:=fun r=>bB aW r/\val aW r=val aW a-val aW b/\r.length=L)
  (Tm.loop (fun s:List Int×Int×Int=>∃n:Nat,s.2.2=n/\n<=L/\s.1.length=n/\bB aW s.1/\0<=s.2.1/\s.2.1<=1/\val aW s.1=val aW (a.take n)-val aW (b.take n)+aW^n*s.2.1) (fun s=>L-s.2.2.toNat)
   ⟨0,rfl,fC _,rfl,.nil,by simp,by simp,by simp[val]⟩ ?_) ?_
 . rintro⟨out,borrow,i⟩ ⟨n,rfl,hn,ho,hB,h0,h1,hv'⟩;dsimp only[CV]at*;refine aY (fun h=>?_) (fun h=>aS ?_)
   . have hx:=ha.getD (by decide) n;have hy:=hb.getD (by decide) n;simp only[aW]at hx hy;refine aN (dd (by omega)) ?_;rw[<-fY (by omega)];refine Tm.bind (Q:=(·=a.getD n 0-borrow-b.getD n 0)) (aY (fun h2=>?_) (fun h2=>aS ?_)) ?_
     . rw[fY (l:=b) (by omega)]at*;refine aN (dd (by omega)) (aS ?_);rw[bJ,bJ]<;>(try rw[bJ])<;>omega
     . rw[mW (l:=b) (by omega),bJ]<;>omega
     rintro _ rfl;generalize ex:a.getD n 0=x at*;generalize ey:b.getD n 0=y at*;refine Tm.bind (Q:=fun p:Int×Int=>0<=p.1/\p.1<=1/\0<=p.2/\p.2<65536/\p.2=x-borrow-y+65536*p.1) (aY (fun h2=>aS ?_) (fun h2=>aS ?_)) ?_
     . dsimp only;rw[bJ]<;>omega
     . dsimp only;omega
     rintro⟨bo,d⟩ ⟨g1,g2,g3,g4,g5⟩;dsimp only at*;refine aN (dP (by simp only[cz,dM];omega) (by decide)) (aS ⟨⟨n+1,?_,by omega,by simp;omega,hB.append (.cons (B:=65536) (by omega) .nil),g1,g2,?_⟩,?_⟩)
     . show iw ((n:Int)+1)=_;rw[bJ]<;>omega
     . show val aW (out++[d])=_;rw[oU,fA,fA,ex,ey,ho,fl];have hw:aW=65536:=rfl;simp only[val];grind
     . show L-(iw ((n:Int)+1)).toNat<L-((n:Int)).toNat;rw[bJ]<;>omega
   . have hnL:n=L:=by omega
     subst hnL;rw[kG (by omega),kG (by omega)]at hv';refine⟨hB,?_,ho⟩;show val aW out=_;have l1:=ig (by decide) hB;rw[ho]at l1;have hc:borrow=0\/borrow=1:=by omega
     rcases hc with rfl|rfl
     . omega
     . simp only[aW]at*;omega
 . rintro r ⟨h1,h2,h3⟩;exact Tm.bind (tS h1 (by omega)) (fun r' h=>aS ⟨h2▸h.1,by omega⟩)
theorem J4{a b:Int}:bM a b≥0↔b<=a:=by unfold bM;(repeat' split)<;>omega
theorem xG{a b:aB}(ha:bB aC a.aP)(hb:bB aC b.aP)(hl:a.aP.length<=2199023255552)(hl':b.aP.length<=2199023255552):
 Tm (fun N=>pB N a b) (fun r=>Is r (bv a+bv b)/\r.aP.length<=max a.aP.length b.aP.length+1):=by
 unfold pB;refine Tm.bind (oE ha (by omega)) ?_;rintro x ⟨hx,hxl⟩;refine Tm.bind (oE hb (by omega)) ?_;rintro y ⟨hy,hyl⟩;refine aY (fun h=>?_) (fun h=>?_)
 . have hn:a.bF=b.bF:=by simpa using h
   refine Tm.bind (yV hx.bL hy.bL (by omega) (by omega)) ?_;rintro s ⟨hs,sl⟩;refine Tm.bind (pI hs.bL (by omega)) (fun r hr=>aS ⟨?_,by omega⟩);have hr:=hr.1;rw[hs.val,hx.val,hy.val]at hr;unfold bv;rw[<-hn];cases e:a.bF<;>rw[e]at hr
   . simpa using hr
   . simp only[if_true]at hr⊢;rwa[show-(val aC a.aP+val aC b.aP)=-val aC a.aP+-val aC b.aP by omega]at hr
 . have hn:¬a.bF=b.bF:=by simpa using h
   refine Tm.bind (Ji hx.bL hy.bL hx.fi hy.fi (by omega) (by omega)) ?_;rintro c rfl;refine aY (fun hc=>?_) (fun hc=>?_)
   . have hge:=J4.1 hc;have hle:y.length<=x.length:=by
      rcases cw x.length y.length with h'|h'
      . have:=ng om hx.bL hy.bL hy.fi h';omega
      . exact h'
     refine Tm.bind (Db hx.bL hy.bL (by omega) hle hge) ?_;rintro s ⟨hs,sl⟩;refine Tm.bind (pI hs.bL (by omega)) (fun r hr=>aS ⟨?_,by omega⟩);have hr:=hr.1;rw[hs.val,hx.val,hy.val]at hr;unfold bv;cases e:a.bF<;>cases e':b.bF<;>rw[e]at hr hn<;>rw[e']at hn
     . exact absurd rfl hn
     . simpa[Gw]using hr
     . simp only[if_true,ml,if_false]at hr⊢;rwa[show-(val aC a.aP-val aC b.aP)=-val aC a.aP+val aC b.aP by omega]at hr
     . exact absurd rfl hn
   . have hlt:¬val aW y<=val aW x:=fun e=>hc (J4.2 e);have hle:x.length<=y.length:=by
      rcases cw y.length x.length with h'|h'
      . have:=ng om hy.bL hx.bL hx.fi h';omega
      . exact h'
     refine Tm.bind (Db hy.bL hx.bL (by omega) hle (by omega)) ?_;rintro s ⟨hs,sl⟩;refine Tm.bind (pI hs.bL (by omega)) (fun r hr=>aS ⟨?_,by omega⟩);have hr:=hr.1;rw[hs.val,hx.val,hy.val]at hr;unfold bv;cases e:a.bF<;>cases e':b.bF<;>rw[e']at hr hn<;>rw[e]at hn
     . exact absurd rfl hn
     . simp only[if_true,ml,if_false]at hr⊢;rwa[show-(val aC b.aP-val aC a.aP)=val aC a.aP+-val aC b.aP by omega]at hr
     . simp only[if_true,ml,if_false]at hr⊢;rwa[show val aC b.aP-val aC a.aP=-val aC a.aP+val aC b.aP by omega]at hr
     . exact absurd rfl hn
theorem Jn{a b:aB}(ha:bB aC a.aP)(hb:bB aC b.aP)(hl:a.aP.length<=2199023255552)(hl':b.aP.length<=2199023255552):
 Tm (fun N=>uD N a b) (fun r=>Is r (bv a-bv b)/\r.aP.length<=max a.aP.length b.aP.length+1):=by
 unfold uD;refine Tm.bind (xh hb (by omega)) ?_;rintro y ⟨hy,hyl⟩;refine Tm.bind (xG ha hy.dg.bL (by omega) (by omega)) (fun r h=>aS ⟨?_,by omega⟩);have:=h.1;rwa[hy.bv,<-Gw]at this
theorem OI{a:List Int}{d:Int}(ha:bB aW a)(h0:0<=d)(h1:d<aW)(hl:a.length<=8796093022208):Tm (fun N=>wF N a d) (fun r=>Dg aW r (val aW a*d)/\r.length<=a.length+1):=by
 unfold wF;refine Tm.bind (Q:=fun r=>bB aW r/\val aW r=val aW a*d/\r.length<=a.length+1)
  (Tm.loop (fun s:List Int×Int×Int=>∃n:Nat,s.2.2=n/\n<=a.length+1/\s.1.length=n/\bB aW s.1/\0<=s.2.1/\s.2.1<aW/\(a.length<n->s.2.1=0)/\val aW s.1+aW^n*s.2.1=val aW (a.take n)*d) (fun s=>a.length+1-s.2.2.toNat)
   ⟨0,rfl,fC _,rfl,.nil,by simp,(by decide:(0:Int)<aW),fun _=>rfl,by simp[val]⟩ ?_) ?_
 . rintro⟨out,carry,i⟩ ⟨n,rfl,hn,ho,hB,c0,c1,hc,hv⟩;dsimp only[D7]at*;refine Tm.bind (Q:=(·=decide (n<a.length\/0<carry))) (aY (fun h=>aS ?_) (fun h=>aS ?_)) ?_
   . have:n<a.length:=by omega
     simp[this]
   . have:¬n<a.length:=by omega
     simp[this]
   rintro _ rfl;refine aY (fun h=>?_) (fun h=>aS ?_)
   . have h:=of_decide_eq_true h;have hx:=ha.getD (by decide) n;simp only[aW]at hx h1 c1;have hm:0<=a.getD n 0*d/\a.getD n 0*d<=65535*65535:=⟨eH hx.1 h0,nq (by omega) (by omega) h0 (by decide)⟩;refine Tm.bind (Q:=(·=carry+a.getD n 0*d)) (aY (fun h2=>?_) (fun h2=>aS ?_)) ?_
     . rw[fY (l:=a) (by omega)]at*;refine aN (dd (by omega)) (aS ?_);rw[bJ (z:=_*_) (by omega) (by omega),bJ (by omega) (by omega)]
     . rw[mW (by omega)];simp
     rintro _ rfl;have hz:a.length<=n->a.getD n 0=0:=fun h=>mW (by omega);have hz':a.length<=n->a.getD n 0*d=0:=fun h=>by rw[hz h];simp
     generalize exd:a.getD n 0*d=xd at*;rw[zO (by omega),Bq (by omega)];refine aN (dP (by simp only[cz,dM];omega) (by decide)) (aS ⟨⟨n+1,?_,by omega,by simp;omega,hB.append (.cons (B:=65536) (by omega) .nil),?_,?_,?_,?_⟩,?_⟩)
     . show iw ((n:Int)+1)=_;rw[bJ]<;>omega
     . show 0<=iw ((carry+xd)/65536);rw[bJ]<;>omega
     . show iw ((carry+xd)/65536)<65536;rw[bJ]<;>omega
     . intro h';show iw ((carry+xd)/65536)=0;have:=hz' (by omega);rw[bJ]<;>omega
     . show val aW (out++[(carry+xd)%65536])+aW^(n+1)*iw ((carry+xd)/65536)=_;rw[bJ (by omega) (by omega),oU,fA,ho,fl];have:=jK (carry+xd) 65536;have hw:aW=65536:=rfl;simp only[val];grind
     . show a.length+1-(iw ((n:Int)+1)).toNat<a.length+1-((n:Int)).toNat;rw[bJ]<;>omega
   . have h:¬(n<a.length\/0<carry):=fun e=>h (decide_eq_true e);rw[kG (by omega),show carry=0 by omega]at hv;exact⟨hB,by show val aW out=_;omega,by show out.length<=_;omega⟩
 . rintro r ⟨h1,h2,h3⟩;exact Tm.bind (tS h1 (by omega)) (fun r' h=>aS ⟨h2▸h.1,by omega⟩)
theorem De{a b:aB}(ha:bB aC a.aP)(hb:bB aC b.aP)(hl:a.aP.length<=1099511627776)(hl':b.aP.length<=1099511627776):
 Tm (fun N=>sx N a b) (fun r=>Is r (bv a*bv b)/\r.aP.length<=a.aP.length+b.aP.length):=by
 unfold sx;refine Tm.bind (oE ha (by omega)) ?_;rintro x ⟨hx,hxl⟩;refine Tm.bind (oE hb (by omega)) ?_;rintro y ⟨hy,hyl⟩;refine Tm.bind (Tm.loop (fun s:List Int×Int=>∃n:Nat,s.2=(n:Int)-1/\n<=y.length/\Dg aW s.1 (val aW x*val aW (y.drop n))/\s.1.length<=x.length+(y.length-n)) (fun s=>(s.2+1).toNat) (Q:=fun r=>Dg aW r (val aW x*val aW y)/\r.length<=x.length+y.length)
  ⟨y.length,by dsimp only;rw[bJ]<;>omega,bK _,by simpa[val]using Dg.nil,by simp⟩ ?_) ?_
 . rintro⟨sum,i⟩ ⟨n,rfl,hn,hs,hsl⟩;dsimp only[E7]at*;refine aY (fun h=>?_) (fun h=>aS ?_)
   . refine aN (dP (by simp only[cz,dM];omega) (by decide)) ?_;have hny:n-1<y.length:=by omega
     refine aN (gC (n:=n-1) (by omega) hny) ?_;have hd:=hy.bL.get hny;refine Tm.bind (OI hx.bL hd.1 hd.2 (by omega)) ?_;rintro t ⟨ht,htl⟩;refine Tm.bind (yV (a:=[0]++sum) (.append (.cons (by decide) .nil) hs.bL) ht.bL (by simp;omega) (by omega)) ?_;rintro r ⟨hr,hrl⟩;refine aS ⟨⟨n-1,by dsimp only;rw[bJ]<;>omega,by omega,?_,?_⟩,?_⟩
     . have e:val aW ([0]++sum)+val aW t=val aW x*val aW (y.drop (n-1)):=by
        rw[ht.val,eU hny,show n-1+1=n by omega];simp only[M7,val,hs.val];grind
       show Dg aW r _;rw[<-e];exact hr
     . show r.length<=_;have hb:val aW ([0]++sum)+val aW t<aW^(x.length+(y.length-(n-1))):=by
        have e:val aW ([0]++sum)+val aW t=val aW x*val aW (y.drop (n-1)):=by
         rw[ht.val,eU hny,show n-1+1=n by omega];simp only[M7,val,hs.val];grind
        rw[e,jI];have l1:=ig (by decide) hx.bL;have l2:=ig (by decide) (hy.bL.drop (n-1));have l3:=gE (by decide) hx.bL;have l4:=gE (by decide) (hy.bL.drop (n-1));rw[oz]at l2;exact Int.mul_lt_mul' (by omega) l2 l4 (kL (by decide) _)
       exact CP om hr.bL hr.fi (by rw[hr.val];exact hb)
     . show(iw ((n:Int)-1-1)+1).toNat<((n:Int)-1+1).toNat;rw[bJ]<;>omega
   . have:n=0:=by omega
     subst this;exact⟨by simpa using hs,by simpa using hsl⟩
 . rintro s ⟨hs,hsl⟩;refine Tm.bind (pI hs.bL (by omega)) (fun r hr=>aS ⟨?_,by omega⟩);have hr:=hr.1;rw[hs.val,hx.val,hy.val]at hr;rw[Km];exact hr
theorem sD{n:Int}(h1:-9223372036854775808<=n)(h2:n<=9223372036854775807):Tm (fun N=>kC N n) (fun r=>Is r n/\r.aP.length<=2):=by
 unfold kC;refine Tm.bind (Q:=(·=(n.natAbs:Int))) (aY (fun h=>aS ?_) (fun h=>aS ?_)) ?_
 . rw[bJ (z:=n+1) (by omega) (by omega),bJ (by omega) (by omega),fJ,fJ];omega
 . rw[fJ];omega
 rintro _ rfl;refine Tm.bind (Tm.loop (fun s:Int×List Int=>∃m:Nat,m<=4/\s.2.length=m/\bB aW s.2/\0<=s.1/\s.1<aW^(4-m)/\val aW s.2+aW^m*s.1=n.natAbs) (fun s=>s.1.toNat) (Q:=fun r=>bB aW r/\val aW r=n.natAbs/\r.length<=4)
  ⟨0,by omega,rfl,.nil,by simp,by simp only[aW];omega,by simp[val]⟩ ?_) ?_
 . rintro⟨u,l⟩ ⟨m,hm,hl,hB,u0,u1,hv⟩;dsimp only[DJ]at*;refine aY (fun h=>?_) (fun h=>aS ?_)
   . have hm':m≠4:=by rintro rfl;simp at u1;omega
     have hu:u<18446744073709551616:=by
      have:aW^(4-m)<=aW^4:=j4 (by decide) (by omega);have e:aW^4=18446744073709551616:=by decide
      omega
     rw[zO u0,Bq u0];have e1:iw (u%65536)=u%65536:=by rw[bJ]<;>omega
     have e2:uw (u/65536)=u/65536:=by rw[fJ];omega
     rw[e1,e2];refine aN (dP (by simp only[cz,dM];omega) (by decide)) (aS ⟨⟨m+1,by omega,by simp;omega,hB.append (.cons (B:=65536) (by omega) .nil),?_,?_,?_⟩,?_⟩)
     . show 0<=u/65536;omega
     . show u/65536<aW^(4-(m+1));have e:aW^(4-m)=aW^(4-(m+1))*65536:=by rw[show 4-m=4-(m+1)+1 by omega,fl]
       rw[e]at u1;exact Gy (by decide) u1
     . show val aW (l++[u%65536])+aW^(m+1)*(u/65536)=_;rw[oU,hl,fl];have:=jK u 65536;have hw:aW=65536:=rfl;simp only[val];grind
     . show(u/65536).toNat<u.toNat;omega
   . have:u=0:=by omega
     subst this;exact⟨hB,by show val aW l=_;simpa using hv,by show l.length<=4;omega⟩
 . rintro l ⟨hB,hv,hl⟩;refine Tm.bind (pI hB (by omega)) (fun r hr=>aS ⟨?_,by omega⟩);have hr:=hr.1;rw[hv]at hr;by_cases hn:n<0
   . simp only[hn,decide_true,if_true]at hr;rwa[show-(n.natAbs:Int)=n by omega]at hr
   . simp only[hn,decide_false,ml,if_false]at hr;rwa[show(n.natAbs:Int)=n by omega]at hr
open Go Go.X
def DQ(N:Nat)(c:Constraint)(n:Int):(Int×Int)->Option (aK (Int×Int) (Sum Unit Bool))
 |(d,a)=>(if(a:Int)<(List.length c.Linear.aZ:Int)then (idx c.Linear.aZ a).bind fun b=>(((if(b.Var:Int)<=d then some true else some (decide ((b.Var:Int)≥n))):Option Bool)).bind fun ss=>match ss with
    |e=>(if e=true then some (aK.done (Sum.inr false)) else some (aK.next (b.Var,(iw (a+1))))) else some (aK.done (Sum.inl ())))
def uW(N:Nat)(c:Constraint)(n:Int):Option Bool:=(bH (DQ N c n) N ((-1),0)).bind fun ss=>match ss with
  |(Sum.inl _)=>(if(n:Int)≥0 then some (decide ((n:Int)<=512)) else some false)
  |(Sum.inr a)=>some a
def Fs(N:Nat)(l:(List aB)):((List aB)×Int)->Option (aK ((List aB)×Int) (List aB))
 |(b,a)=>(if(a:Int)<(List.length l:Int)then (idx l a).bind fun c=>(jr N c).bind fun d=>(cN 32 b [d]).bind fun e=>some (aK.next (e,(iw (a+1)))) else some (aK.done b))
def xB(N:Nat)(l:(List aB))(bound:aB):Option bA:=(k7 N bound).bind fun a=>(bH (Fs N l) N (([]:(List aB)),0)).bind fun ss=>match ss with
  |b=>some (bA.mk b a)
def EC(N:Nat)(c:Constraint):((List aB)×Int)->Option (aK ((List aB)×Int) (List aB))
 |(a,b)=>(if(b:Int)<(List.length c.Linear.aZ:Int)then (idx c.Linear.aZ b).bind fun d=>(fM N d.N).bind fun e=>(idx a d.Var).bind fun g=>(dh a d.Var e).bind fun f=>some (aK.next (f,(iw (b+1)))) else some (aK.done a))
def cOf(N:Nat)(c:Constraint)(n:Int):Option (List bA):=(uW N c n).bind fun r6=>(if(!r6)=true then some ([]:(List bA)) else (fX (α:=aB) 32 (aB.mk false []) n).bind fun d=>(fM N c.Linear.Const).bind fun e=>(jr N e).bind fun b=>(bH (EC N c) N (d,0)).bind fun ss=>match ss with
   |a=>(if(!c.iC)=true then some [(bA.mk a b)] else (fM N c.Linear.Const).bind fun f=>(xB N a f).bind fun g=>some [(bA.mk a b),g]))
def Dr(N:Nat)(l:(List Constraint))(n:Int):((List bA)×Int)->Option (aK ((List bA)×Int) (Sum (List bA) (List bA)))
 |(b,a)=>(if(a:Int)<(List.length l:Int)then (idx l a).bind fun c=>(uW N c n).bind fun d=>(if(!d)=true then some (aK.done (Sum.inr ([]:(List bA)))) else (cOf N c n).bind fun e=>(cN 56 b e).bind fun f=>some (aK.next (f,(iw (a+1))))) else some (aK.done (Sum.inl b)))
def uP(N:Nat)(l:(List Constraint))(n:Int):Option (List bA):=(bH (Dr N l n) N (([]:(List bA)),0)).bind fun ss=>match ss with
  |(Sum.inl a)=>some a
  |(Sum.inr b)=>some b
def zr(N:Nat)(s:(List bA)):Option (List bA):=(cN 56 ([]:(List bA)) s).bind fun a=>some a
def An(N:Nat)(s:(List bA)):Option (List bA):= some s
open Go Go.X
def vH(N:Nat)(n:Int):Option bA:=(fX (α:=aB) 32 (aB.mk false []) n).bind fun x7=>some (bA.mk x7 (aB.mk false ([]:(List Int))))
def Ew(N:Nat)(c:Constraint)(n:Int):Int->Option (aK Int (Sum Unit Bool))
 |a=>(if(a:Int)<(List.length c.Linear.aZ:Int)then (idx c.Linear.aZ a).bind fun b=>(((if(b.Var:Int)<0 then some true else (if(b.Var:Int)≥n then some true else (if(a:Int)>0 then (idx c.Linear.aZ (iw (a-1))).bind fun d=>some (decide ((b.Var:Int)<=d.Var)) else some false))):Option Bool)).bind fun ss=>match ss with
    |e=>(if e=true then some (aK.done (Sum.inr false)) else some (aK.next (iw (a+1)))) else some (aK.done (Sum.inl ())))
def rj(N:Nat)(c:Constraint)(n:Int):Option Bool:=(bH (Ew N c n) N 0).bind fun ss=>match ss with
  |(Sum.inl _)=>(if(n:Int)≥0 then some (decide ((n:Int)<=512)) else some false)
  |(Sum.inr a)=>some a
def Ba(N:Nat)(q:bA):((List aB)×Int)->Option (aK ((List aB)×Int) (List aB))
 |(b,a)=>(if(a:Int)<(List.length q.aZ:Int)then (idx q.aZ a).bind fun c=>(pX N c).bind fun d=>(cN 32 b [d]).bind fun e=>some (aK.next (e,(iw (a+1)))) else some (aK.done b))
def qy(N:Nat)(q:bA)(bound:aB):Option bA:=(xW N bound).bind fun a=>(bH (Ba N q) N (([]:(List aB)),0)).bind fun ss=>match ss with
  |b=>some (bA.mk b a)
def FM(N:Nat)(c:Constraint):((List aB)×Int)->Option (aK ((List aB)×Int) (List aB))
 |(b,a)=>(if(a:Int)<(List.length c.Linear.aZ:Int)then (idx c.Linear.aZ a).bind fun d=>(idx c.Linear.aZ a).bind fun e=>(kC N e.N).bind fun f=>(idx b d.Var).bind fun i=>(dh b d.Var f).bind fun g=>some (aK.next (g,(iw (a+1)))) else some (aK.done b))
def wH(N:Nat)(c:Constraint)(n:Int):Option (List bA):=(rj N c n).bind fun r6=>(if(!r6)=true then some ([]:(List bA)) else (vH N n).bind fun e=>(bH (FM N c) N (e.aZ,0)).bind fun ss=>match ss with
   |a=>(kC N c.Linear.Const).bind fun d=>(pX N d).bind fun b=>(if(!c.iC)=true then some [(bA.mk a b)] else (qy N (bA.mk a b) d).bind fun f=>some [(bA.mk a b),f]))
def EN(N:Nat)(l:(List Constraint))(n:Int):((List bA)×Int)->Option (aK ((List bA)×Int) (Sum (List bA) (List bA)))
 |(b,a)=>(if(a:Int)<(List.length l:Int)then (idx l a).bind fun c=>(rj N c n).bind fun d=>(if(!d)=true then some (aK.done (Sum.inr ([]:(List bA)))) else (idx l a).bind fun e=>(wH N e n).bind fun f=>(cN 56 b f).bind fun g=>some (aK.next (g,(iw (a+1))))) else some (aK.done (Sum.inl b)))
def xO(N:Nat)(l:(List Constraint))(n:Int):Option (List bA):=(bH (EN N l n) N (([]:(List bA)),0)).bind fun ss=>match ss with
  |(Sum.inl a)=>some a
  |(Sum.inr b)=>some b
def wG(N:Nat)(l:(List bA)):Int->Option (aK Int (Sum Unit Bool))
 |a=>(if(a:Int)<(List.length l:Int)then (idx l a).bind fun b=>(idx l 0).bind fun c=>(if((List.length b.aZ:Int):Int)≠(List.length c.aZ:Int)then some (aK.done (Sum.inr false)) else some (aK.next (iw (a+1)))) else some (aK.done (Sum.inl ())))
def u9(N:Nat)(l:(List bA)):Option Bool:=(bH (wG N l) N 0).bind fun ss=>match ss with
  |(Sum.inl _)=>some true
  |(Sum.inr a)=>some a
def xJ(N:Nat)(c:Int)(d:dQ)(e:bA):((List aB)×Int)->Option (aK ((List aB)×Int) (List aB))
 |(b,a)=>(if(a:Int)<c then (idx b a).bind fun f=>(idx e.aZ a).bind fun g=>(sx N g d.N).bind fun i=>(pB N f i).bind fun j=>(idx b a).bind fun l=>(dh b a j).bind fun k=>some (aK.next (k,(iw (a+1)))) else some (aK.done b))
def C6(N:Nat)(l:(List bA))(s:Step)(i:Int):((List aB)×Bool×(List Int)×Int)->Option (aK ((List aB)×Bool×(List Int)×Int) (Sum ((List aB)×Bool×(List Int)) (bA×Bool)))
 |(c,d,e,b)=>(if(b:Int)<(List.length s.Uses:Int)then (idx s.Uses b).bind fun a=>(((if(a.Index:Int)<0 then some true else (if(a.Index:Int)≥(List.length l:Int)then some true else (kN N a.N).bind fun j=>some (decide ((j:Int)<0)))):Option Bool)).bind fun ss=>match ss with
    |k=>(if k=true then some (aK.done (Sum.inr ((bA.mk [] (aB.mk false [])),false))) else (idx l a.Index).bind fun f=>(bH (xJ N i a f) N (c,0)).bind fun ss=>match ss with
       |m=>(sx N f.dz a.N).bind fun n=>(pB N (aB.mk d e) n).bind fun g=>some (aK.next (m,g.bF,g.aP,(iw (b+1))))) else some (aK.done (Sum.inl (c,d,e))))
def xc(N:Nat)(s:Step)(d:Int):((List aB)×Int)->Option (aK ((List aB)×Int) (Sum (List aB) (bA×Bool)))
 |(b,a)=>(if(a:Int)<d then (idx b a).bind fun e=>(uq N e s.gh).bind fun c=>(kN N c.2.1).bind fun f=>(if(f:Int)≠0 then some (aK.done (Sum.inr ((bA.mk [] (aB.mk false [])),false))) else (idx b a).bind fun i=>(dh b a c.1).bind fun g=>some (aK.next (g,(iw (a+1))))) else some (aK.done (Sum.inl b)))
def ya(N:Nat)(l:(List bA))(s:Step):Option (bA×Bool):=(((u9 N l).bind fun c=>(if(!c)=true then some true else (kN N s.gh).bind fun d=>some (decide ((d:Int)<=0))):Option Bool)).bind fun ss=>match ss with
  |e=>(if e=true then some ((bA.mk [] (aB.mk false [])),false) else (((if((List.length l:Int):Int)>0 then (idx l 0).bind fun f=>some (List.length f.aZ:Int) else some 0):Option Int)).bind fun ss=>match ss with
     |a=>(vH N a).bind fun b=>(bH (C6 N l s a) N (b.aZ,b.dz.bF,b.dz.aP,0)).bind fun ss=>match ss with
       |(Sum.inl (g,i,j))=>(bH (xc N s a) N (g,0)).bind fun ss=>match ss with
         |(Sum.inl k)=>(uq N (aB.mk i j) s.gh).bind fun m=>some ((bA.mk k m.1),true)
         |(Sum.inr n)=>some n
       |(Sum.inr o)=>some o)
def xm(N:Nat)(q:bA):Int->Option (aK Int (Sum Unit Bool))
 |a=>(if(a:Int)<(List.length q.aZ:Int)then (idx q.aZ a).bind fun b=>(kN N b).bind fun c=>(if(c:Int)≠0 then some (aK.done (Sum.inr false)) else some (aK.next (iw (a+1)))) else some (aK.done (Sum.inl ())))
def w6(N:Nat)(q:bA):Option Bool:=(bH (xm N q) N 0).bind fun ss=>match ss with
  |(Sum.inl _)=>(kN N q.dz).bind fun a=>some (decide ((a:Int)<0))
  |(Sum.inr b)=>some b
def BS(N:Nat)(p:Proof):((List bA)×Int)->Option (aK ((List bA)×Int) (Sum (List bA) Bool))
 |(a,b)=>(if(b:Int)<(List.length p.Steps:Int)then (idx p.Steps b).bind fun d=>(ya N a d).bind fun c=>(if(!c.2)=true then some (aK.done (Sum.inr false)) else (cN 56 a [c.1]).bind fun e=>some (aK.next (e,(iw (b+1))))) else some (aK.done (Sum.inl a)))
def Da(N:Nat)(b:(List bA)):Int->Option (aK Int (Sum Unit Bool))
 |a=>(if(a:Int)<(List.length b:Int)then (idx b a).bind fun c=>(w6 N c).bind fun d=>(if d=true then some (aK.done (Sum.inr true)) else some (aK.next (iw (a+1)))) else some (aK.done (Sum.inl ())))
def sC(N:Nat)(self:(List bA)->Proof->Option Bool)(l:(List bA))(p:Proof):Option Bool:=(u9 N l).bind fun r6=>(if(!r6)=true then some false else (cN 56 ([]:(List bA)) l).bind fun b=>(bH (BS N p) N (b,0)).bind fun ss=>match ss with
   |(Sum.inl a)=>(if((List.length p.lX:Int):Int)=0 then (bH (Da N a) N 0).bind fun ss=>match ss with
      |(Sum.inl _)=>some false
      |(Sum.inr c)=>some c else (((if((List.length p.lX:Int):Int)≠2 then some true else (if((List.length a:Int):Int)>0 then (idx a 0).bind fun d=>some (decide (((List.length p.Form:Int):Int)≠(List.length d.aZ:Int))) else some false)):Option Bool)).bind fun ss=>match ss with
      |e=>(if e=true then some false else (pX N p.dz).bind fun f=>(kC N 1).bind fun g=>(uD N f g).bind fun i=>(qy N (bA.mk p.Form p.dz) i).bind fun j=>(cN 56 ([]:(List bA)) a).bind fun k=>(cN 56 k [(bA.mk p.Form p.dz)]).bind fun m=>(cN 56 ([]:(List bA)) a).bind fun n=>(cN 56 n [j]).bind fun o=>(idx p.lX 0).bind fun s=>(self m s).bind fun u=>(if u=true then (idx p.lX 1).bind fun v=>(self o v).bind fun y=>some y else some false)))
   |(Sum.inr a0)=>some a0)
def sE:Nat->(List bA)->Proof->Option Bool
 |0=>fun _ _=>none
 |N+1=>sC N (sE N)
open Go Go.X
def jG(K:Nat)(x:aB):Prop:=bB aC x.aP/\x.aP.length<=K
def qQ(K:Nat)(q:bA):Prop:=q.aZ.length<=K/\(∀b∈q.aZ,jG K b)/\jG K q.dz
theorem jG.mono{K K':Nat}{x:aB}(h:jG K x)(hK:K<=K'):jG K' x:=⟨h.1,by have:=h.2;omega⟩
theorem jG.nil{K:Nat}{b:Bool}:jG K ⟨b,[]⟩:=⟨.nil,fC _⟩
abbrev eN:aB:=⟨false,[]⟩
theorem Ts{b:Bool}:bv ⟨b,[]⟩=0:=by cases b<;>rfl
theorem Is.ok{x:aB}{v:Int}{K:Nat}(h:Is x v)(hl:x.aP.length<=K):jG K x:=⟨h.dg.bL,hl⟩
theorem Tm.each{α β:Type}{body:Nat->Int->Option (aK Int (Sum Unit β))}(xs:List α)(P:α->Prop){Q:Sum Unit β->Prop}(hl:xs.length<=9223372036854775807)
 (step:∀(n:Nat) (hn:n<xs.length),(∀j,(hj:j<xs.length)->j<n->P xs[j])->Tm (fun N=>body N (n:Int)) (fun t=>(t=.next (iw ((n:Int)+1))/\P xs[n])\/(∃b,t=.done (.inr b)/\Q (.inr b))))
 (fin:(∀x∈xs,P x)->Tm (fun N=>body N (xs.length:Int)) (fun t=>∃r,t=.done r/\Q r)):Tm (fun N=>bH (body N) N 0) Q:=by
 refine Tm.loop (fun i:Int=>∃n:Nat,i=n/\n<=xs.length/\∀j,(hj:j<xs.length)->j<n->P xs[j]) (fun i:Int=>xs.length-i.toNat) ⟨0,rfl,fC _,fun _ _ h=>absurd h (by omega)⟩ ?_;rintro _ ⟨n,rfl,hn,hP⟩;rcases cw n xs.length with h|h
 . refine(step n h hP).mono ?_;rintro t (⟨rfl,hp⟩|⟨b,rfl,hq⟩)
   . refine⟨⟨n+1,by rw[bJ]<;>omega,by omega,fun j hj hlt=>?_⟩,?_⟩
     . rcases cw j n with h'|h'
       . exact hP j hj h'
       . obtain rfl:j=n:=by omega
         exact hp
     . show xs.length-(iw ((n:Int)+1)).toNat<xs.length-((n:Int)).toNat;rw[bJ]<;>omega
   . exact hq
 . obtain rfl:n=xs.length:=by omega
   refine(fin fun x hx=>?_).mono ?_
   . obtain⟨j,hj,rfl⟩:=Gl.1 hx;exact hP j hj hj
   . rintro t ⟨r,rfl,hq⟩;exact hq
theorem sr{l:List aB}{n:Nat}(h:n<l.length):l.getD n eN=l[n]:=by rw[cy,bV h];rfl
theorem CL{a b:Int}:bM a b<=0↔a<=b:=by unfold bM;(repeat' split)<;>omega
def xQ(q:bA):Bool:=decide ((∀b∈q.aZ,bv b=0)/\bv q.dz<0)
theorem Ar{a:Int}:bM a 0=0↔a=0:=by unfold bM;(repeat' split)<;>omega
theorem Ad{a:Int}:bM a 0<0↔a<0:=by unfold bM;(repeat' split)<;>omega
theorem Oc{K:Nat}{q:bA}(hK:K<=1073741824)(hq:qQ K q):Tm (fun N=>w6 N q) (fun r=>r=xQ q):=by
 unfold w6 xQ;have hlK:=hq.1;refine Tm.bind (Tm.each (body:=fun N=>xm N q) q.aZ (fun b=>bv b=0) (Q:=fun r=>(r=.inr false/\¬∀b∈q.aZ,bv b=0)\/(r=.inl ()/\∀b∈q.aZ,bv b=0)) (by omega) ?_ ?_) ?_
 . intro n hn _;unfold xm;have h1:=hq.2.1 _ (dt hn);refine db (by omega) (aN (dd hn) (Tm.bind (nB h1.1 (by have:=h1.2;omega)) ?_));rintro _ rfl;refine aY (fun h=>aS (.inr ⟨_,rfl,.inl ⟨rfl,fun h'=>h (Ar.2 (h' _ (dt hn)))⟩⟩)) (fun h=>aS (.inl ⟨rfl,Ar.1 (by omega)⟩))
 . intro h;unfold xm;exact cA (by omega) (aS ⟨_,rfl,.inr ⟨rfl,h⟩⟩)
 . rintro _ (⟨rfl,h⟩|⟨rfl,h⟩)
   . refine aS ?_;simp only[h,false_and,decide_false]
   . refine Tm.bind (nB hq.2.2.1 (by have:=hq.2.2.2;omega)) ?_;rintro _ rfl;refine aS ?_;simp only[Ad];exact decide_eq_decide.2 ⟨fun h'=>⟨h,h'⟩,fun h'=>h'.2⟩
open Go Go.X
def fF(c:Constraint)(n:Int):Prop:=(∀i,(h:i<c.Linear.aZ.length)->0<=c.Linear.aZ[i].Var/\c.Linear.aZ[i].Var<n/\(∀(_:0<i),(c.Linear.aZ[i-1]'(by omega)).Var<c.Linear.aZ[i].Var))/\0<=n/\n<=512
theorem IU{c:Constraint}{n:Int}(hl:c.Linear.aZ.length<=9223372036854775807):Tm (fun N=>uW N c n) (fun r=>r=true↔fF c n):=by
 unfold uW;generalize hcs:c.Linear.aZ=cs at hl;have hR:fF c n↔((∀i,(h:i<cs.length)->0<=cs[i].Var/\cs[i].Var<n/\(∀(_:0<i),(cs[i-1]'(by omega)).Var<cs[i].Var))/\0<=n/\n<=512):=by subst hcs;rfl
 refine Tm.bind (Tm.loop (fun s:Int×Int=>∃k:Nat,s.2=k/\k<=cs.length/\(k=0->s.1=-1)/\(∀h:0<k/\k-1<cs.length,s.1=cs[k-1].Var)/\∀i,(h:i<cs.length)->i<k->0<=cs[i].Var/\cs[i].Var<n/\(∀(_:0<i),(cs[i-1]'(by omega)).Var<cs[i].Var)) (fun s=>cs.length-s.2.toNat)
  (Q:=fun r=>(r=.inl ()/\∀i,(h:i<cs.length)->0<=cs[i].Var/\cs[i].Var<n/\(∀(_:0<i),(cs[i-1]'(by omega)).Var<cs[i].Var))\/(r=.inr false/\¬fF c n)) ⟨0,rfl,fC _,fun _=>rfl,fun h=>absurd h.1 (by omega),fun i _ h=>absurd h (by omega)⟩ ?_) ?_
 . rintro⟨last,i⟩ ⟨k,rfl,hk,h0,h1,hP⟩;dsimp only[DQ]at*;rw[hcs];refine aY (fun h=>?_) (fun h=>aS (.inl ⟨rfl,fun i hi=>hP i hi (by omega)⟩));have hkl:k<cs.length:=by omega
   refine aN (dd hkl) (Tm.bind (Q:=(·=decide (cs[k].Var<=last\/cs[k].Var≥n))) (aY (fun h=>aS ?_) (fun h=>aS ?_)) ?_)
   . simp[h]
   . simp[h]
   rintro _ rfl;refine aY (fun h=>aS (.inr ⟨rfl,fun hr=>?_⟩)) (fun h=>aS ⟨⟨k+1,by dsimp only;rw[bJ]<;>omega,by omega,fun h=>by omega,fun _=>rfl,fun i hi hik=>?_⟩,?_⟩)
   . have h:=of_decide_eq_true h;have:=(hR.1 hr).1 k hkl;rcases gw k with h'|h'
     . have:=h0 h';omega
     . have h2:=this.2.2 h';have h3:=h1 ⟨h',by omega⟩;omega
   . have h:¬(cs[k].Var<=last\/cs[k].Var≥n):=fun e=>h (decide_eq_true e);rcases cw i k with h'|h'
     . exact hP i hi h'
     . obtain rfl:i=k:=by omega
       rcases gw i with h'|h'
       . have:=h0 h';exact⟨by omega,by omega,fun e=>by omega⟩
       . have h3:=h1 ⟨h',by omega⟩;have h4:=hP (i-1) (by omega) (by omega);exact⟨by omega,by omega,fun _=>by omega⟩
   . show cs.length-(iw ((k:Int)+1)).toNat<cs.length-((k:Int)).toNat;rw[bJ]<;>omega
 . rintro _ (⟨rfl,h⟩|⟨rfl,h⟩)
   . refine aY (fun h1=>aS ?_) (fun h1=>aS ?_)
     . rw[hR];simp only[decide_eq_true_eq];exact⟨fun h2=>⟨h,by omega,h2⟩,fun h2=>h2.2.2⟩
     . rw[hR];exact⟨fun h2=>(by cases h2),fun h2=>absurd h2.2.1 (by omega)⟩
   . exact aS ⟨fun h'=>(by cases h'),fun h'=>absurd h' h⟩
theorem DC{c:Constraint}{n:Int}(hl:c.Linear.aZ.length<=9223372036854775807):Tm (fun N=>rj N c n) (fun r=>r=true↔fF c n):=by
 unfold rj;generalize hcs:c.Linear.aZ=cs at hl;have hR:fF c n↔((∀i,(h:i<cs.length)->0<=cs[i].Var/\cs[i].Var<n/\(∀(_:0<i),(cs[i-1]'(by omega)).Var<cs[i].Var))/\0<=n/\n<=512):=by subst hcs;rfl
 refine Tm.bind (Tm.loop (fun s:Int=>∃k:Nat,s=k/\k<=cs.length/\∀i,(h:i<cs.length)->i<k->0<=cs[i].Var/\cs[i].Var<n/\(∀(_:0<i),(cs[i-1]'(by omega)).Var<cs[i].Var)) (fun s=>cs.length-s.toNat)
  (Q:=fun r=>(r=.inl ()/\∀i,(h:i<cs.length)->0<=cs[i].Var/\cs[i].Var<n/\(∀(_:0<i),(cs[i-1]'(by omega)).Var<cs[i].Var))\/(r=.inr false/\¬fF c n)) ⟨0,rfl,fC _,fun i _ h=>absurd h (by omega)⟩ ?_) ?_
 . rintro _ ⟨k,rfl,hk,hP⟩;dsimp only[Ew]at*;rw[hcs];refine aY (fun h=>?_) (fun h=>aS (.inl ⟨rfl,fun i hi=>hP i hi (by omega)⟩));have hkl:k<cs.length:=by omega
   refine aN (dd hkl) (Tm.bind (Q:=fun r=>r=true↔¬(0<=cs[k].Var/\cs[k].Var<n/\(∀(_:0<k),(cs[k-1]'(by omega)).Var<cs[k].Var))) (aY (fun h=>aS ?_) (fun h=>aY (fun h'=>aS ?_) (fun h'=>aY (fun h2=>?_) (fun h2=>aS ?_)))) ?_)
   . exact⟨fun _ e=>by omega,fun _=>rfl⟩
   . exact⟨fun _ e=>by omega,fun _=>rfl⟩
   . refine aN (gC (n:=k-1) (by rw[bJ]<;>omega) (by omega)) (aS ?_);simp only[decide_eq_true_eq];exact⟨fun e e'=>by have:=e'.2.2 (by omega);omega,fun e=>by
      rcases qY (cs[k-1]'(by omega)).Var cs[k].Var with e'|e'
      . exact absurd ⟨by omega,by omega,fun _=>e'⟩ e
      . exact e'⟩
   . exact⟨fun e=>(by cases e),fun e=>absurd ⟨by omega,by omega,fun e'=>absurd e' (by omega)⟩ e⟩
   intro r hr;refine aY (fun h=>aS (.inr ⟨rfl,fun hr'=>hr.1 h ((hR.1 hr').1 k hkl)⟩)) (fun hf=>aS ⟨⟨k+1,by rw[bJ]<;>omega,by omega,fun i hi hik=>?_⟩,?_⟩)
   . rcases cw i k with h'|h'
     . exact hP i hi h'
     . obtain rfl:i=k:=by omega
       exact jH fun e=>hf (hr.2 e)
   . show cs.length-(iw ((k:Int)+1)).toNat<cs.length-((k:Int)).toNat;rw[bJ]<;>omega
 . rintro _ (⟨rfl,h⟩|⟨rfl,h⟩)
   . refine aY (fun h1=>aS ?_) (fun h1=>aS ?_)
     . rw[hR];simp only[decide_eq_true_eq];exact⟨fun h2=>⟨h,by omega,h2⟩,fun h2=>h2.2.2⟩
     . rw[hR];exact⟨fun h2=>(by cases h2),fun h2=>absurd h2.2.1 (by omega)⟩
   . exact aS ⟨fun h'=>(by cases h'),fun h'=>absurd h' h⟩
def eZ(xs:List aB)(vs:List Int):Prop:=xs.length=vs.length/\∀j,(h:j<xs.length)->(h':j<vs.length)->Is xs[j] vs[j]
theorem eZ.uniq{xs ys:List aB}{vs:List Int}(h:eZ xs vs)(h':eZ ys vs):xs=ys:=by
 apply pR (h.1.trans h'.1.symm);intro i h1 h2;exact(h.2 i h1 (by rw[<-h.1];exact h1)).uniq (h'.2 i h2 (by rw[<-h.1];exact h1))
theorem eZ.nil:eZ [] []:=⟨rfl,fun j h=>absurd h (by simp)⟩
theorem is0:Is eN 0:=⟨Dg.nil,rfl⟩
theorem eZ.dp{n:Nat}:eZ (List.replicate n eN) (List.replicate n 0):=⟨by simp,fun j h h'=>by simpa using is0⟩
theorem eZ.set{xs:List aB}{vs:List Int}(h:eZ xs vs){k:Nat}{x:aB}{v:Int}(hx:Is x v):eZ (xs.set k x) (vs.set k v):=by
 refine⟨by simpa using h.1,fun j h1 h2=>?_⟩;by_cases hj:k=j
 . subst hj;simpa using hx
 . rw[Gx hj,Gx hj];exact h.2 j (by simpa using h1) (by simpa using h2)
theorem eZ.snoc{xs:List aB}{vs:List Int}(h:eZ xs vs){x:aB}{v:Int}(hx:Is x v):eZ (xs++[x]) (vs++[v]):=by
 refine⟨by simp[h.1],fun j h1 h2=>?_⟩;rcases cw j xs.length with hj|hj
 . rw[Na hj,Na (by rw[<-h.1];exact hj)];exact h.2 j hj _
 . simp only[cM,kq]at h1 h2;have hj':j=xs.length:=by omega
   have hj2:j=vs.length:=by rw[<-h.1];exact hj'
   have e1:(xs++[x])[j]?=some x:=by rw[hj'];simp
   have e2:(vs++[v])[j]?=some v:=by rw[hj2];simp
   rw[(dU.1 e1).2,(dU.1 e2).2];exact hx
theorem Is.len{x:aB}{v:Int}(h:Is x v){k:Nat}(hv:(v.natAbs:Int)<aC^k):x.aP.length<=k:=CP my h.dg.bL h.dg.fi (by rw[h.dg.val];exact hv)
def pJ(q:bA)(vs:List Int)(b:Int):Prop:=eZ q.aZ vs/\Is q.dz b
theorem pJ.uniq{p q:bA}{vs:List Int}{b:Int}(h:pJ p vs b)(h':pJ q vs b):p=q:=by
 have h1:=h.1.uniq h'.1;have h2:=h.2.uniq h'.2;cases p;cases q;simp_all
def eY(z:Int):Prop:=-9223372036854775808<=z/\z<=9223372036854775807
structure nA (c:Constraint):Prop where
 len:c.Linear.aZ.length<=9223372036854775807
 const:eY c.Linear.Const
 lE:∀k∈c.Linear.aZ,eY k.N
def qa(l:List Int)(k:gU):List Int:=l.set k.Var.toNat k.N
def fW(c:Constraint)(n:Int)(k:Nat):List Int:=(c.Linear.aZ.take k).foldl qa (List.replicate n.toNat 0)
theorem w7{c:Constraint}{n:Int}{k:Nat}(h:k<c.Linear.aZ.length):fW c n (k+1)=qa (fW c n k) c.Linear.aZ[k]:=by
 unfold fW;rw[pQ h,Nb];rfl
theorem se{c:Constraint}{n:Int}{k:Nat}:(fW c n k).length=n.toNat:=by
 unfold fW;generalize c.Linear.aZ.take k=l;have:∀(l:List gU) (v:List Int),(l.foldl qa v).length=v.length:=by
  intro l
  induction l with
  |nil=>intro v;rfl
  |cons x l ih=>intro v;rw[List.foldl_cons,ih];simp[qa]
 rw[this];simp
def od(c:Constraint)(n:Int)(r:List bA):Prop:=(¬fF c n/\r=[])\/(fF c n/\∃q,pJ q (fW c n c.Linear.aZ.length) (-c.Linear.Const)/\((c.iC=false/\r=[q])\/(c.iC=true/\∃q',pJ q' ((fW c n c.Linear.aZ.length).map (fun v=>-v)) c.Linear.Const/\r=[q,q'])))
theorem od.uniq{c:Constraint}{n:Int}{r s:List bA}(h:od c n r)(h':od c n s):r=s:=by
 rcases h with⟨h1,rfl⟩|⟨h1,q,hq,h2⟩<;>rcases h' with⟨g1,rfl⟩|⟨g1,q',gq,g2⟩
 . rfl
 . exact absurd g1 h1
 . exact absurd h1 g1
 . have e:=hq.uniq gq;subst e;rcases h2 with⟨h3,rfl⟩|⟨h3,p,hp,rfl⟩<;>rcases g2 with⟨g3,rfl⟩|⟨g3,p',gp,rfl⟩
   . rfl
   . rw[h3]at g3;cases g3
   . rw[h3]at g3;cases g3
   . rw[hp.uniq gp]
theorem yS{z:Int}{x:aB}(h:Is x z)(hz:eY z):bB aC x.aP/\x.aP.length<=2:=⟨h.dg.bL,h.len (by unfold eY at hz;have e:aC^2=18446744073709551616:=(by decide);omega)⟩
theorem Pw{l:List aB}{vs:List Int}{bound:aB}{z:Int}(hl:eZ l vs)(hv:∀v∈vs,eY v)(hb:Is bound z)(hz:eY z)(hn:l.length<=512):Tm (fun N=>xB N l bound) (fun r=>pJ r (vs.map (fun v=>-v)) z):=by
 unfold xB;refine Tm.bind (o6 hb.dg.bL (by have:=(yS hb hz).2;omega)) ?_;rintro b ⟨hb',-⟩;rw[hb.bv]at hb';refine Tm.bind (Tm.loop (fun s:List aB×Int=>∃k:Nat,s.2=k/\k<=l.length/\eZ s.1 ((vs.take k).map (fun v=>-v))) (fun s=>l.length-s.2.toNat) (Q:=fun r=>eZ r (vs.map (fun v=>-v))) ⟨0,rfl,fC _,by simpa using eZ.nil⟩ ?_) (fun r h=>aS ⟨h,hb'⟩);rintro⟨cs,i⟩ ⟨k,rfl,hk,h⟩;have hlv:=hl.1;dsimp only[Fs]at*;refine aY (fun h1=>?_) (fun h1=>aS ?_)
 . have hkl:k<l.length:=by omega
   have hx:=hl.2 k hkl (by omega);have hxv:=hv _ (dt (show k<vs.length by omega));refine aN (dd hkl) (Tm.bind (Az hx.dg.bL (by have:=(yS hx hxv).2;omega)) ?_);rintro m ⟨hm,-⟩;rw[hx.bv]at hm;have hcl:=h.1;simp only[cP,e9]at hcl;refine aN (dP (by simp only[cz,dM];omega) (by decide)) (aS ⟨⟨k+1,by dsimp only;rw[bJ]<;>omega,by omega,?_⟩,?_⟩)
   . rw[pQ (by omega),jJ];exact h.snoc hm
   . show l.length-(iw ((k:Int)+1)).toNat<l.length-((k:Int)).toNat;rw[bJ]<;>omega
 . show eZ cs _;rwa[eV (by omega)]at h
theorem Q0{q:bA}{vs:List Int}{bound:aB}{z:Int}(hl:eZ q.aZ vs)(hv:∀v∈vs,eY v)(hb:Is bound z)(hz:eY z)(hn:q.aZ.length<=512):Tm (fun N=>qy N q bound) (fun r=>pJ r (vs.map (fun v=>-v)) z):=by
 unfold qy;refine Tm.bind (L3 hb.dg.bL (by have:=(yS hb hz).2;omega)) ?_;rintro b ⟨hb',-⟩;rw[hb.bv]at hb';refine Tm.bind (Tm.loop (fun s:List aB×Int=>∃k:Nat,s.2=k/\k<=q.aZ.length/\eZ s.1 ((vs.take k).map (fun v=>-v))) (fun s=>q.aZ.length-s.2.toNat) (Q:=fun r=>eZ r (vs.map (fun v=>-v))) ⟨0,rfl,fC _,by simpa using eZ.nil⟩ ?_) (fun r h=>aS ⟨h,hb'⟩);rintro⟨cs,i⟩ ⟨k,rfl,hk,h⟩;have hlv:=hl.1;dsimp only[Ba]at*;refine aY (fun h1=>?_) (fun h1=>aS ?_)
 . have hkl:k<q.aZ.length:=by omega
   have hx:=hl.2 k hkl (by omega);have hxv:=hv _ (dt (show k<vs.length by omega));refine aN (dd hkl) (Tm.bind (xh hx.dg.bL (by have:=(yS hx hxv).2;omega)) ?_);rintro m ⟨hm,-⟩;rw[hx.bv]at hm;have hcl:=h.1;simp only[cP,e9]at hcl;refine aN (dP (by simp only[cz,dM];omega) (by decide)) (aS ⟨⟨k+1,by dsimp only;rw[bJ]<;>omega,by omega,?_⟩,?_⟩)
   . rw[pQ (by omega),jJ];exact h.snoc hm
   . show q.aZ.length-(iw ((k:Int)+1)).toNat<q.aZ.length-((k:Int)).toNat;rw[bJ]<;>omega
 . show eZ cs _;rwa[eV (by omega)]at h
theorem zl{c:Constraint}{n:Int}{k:Nat}(hc:nA c):∀v∈fW c n k,eY v:=by
 induction k with
 |zero=>
  intro v hv;simp only[fW,Nc,Nd]at hv;rw[(tv.1 hv).2];unfold eY;omega
 |succ k ih=>
  rcases cw k c.Linear.aZ.length with h|h
  . rw[w7 h];intro v hv;rcases pO hv with hv|rfl
    . exact ih v hv
    . exact hc.lE _ (dt h)
  . have e:fW c n (k+1)=fW c n k:=by
     unfold fW;rw[eV (by omega),eV h]
    rw[e];exact ih
theorem QW{c:Constraint}{n:Int}(hc:nA c):Tm (fun N=>cOf N c n) (od c n):=by
 unfold cOf;refine Tm.bind (IU hc.len) ?_;intro r hr;refine aY (fun h=>aS (.inl ⟨fun e=>(by rw[hr.2 e]at h;cases h),rfl⟩)) (fun h=>?_);have hR:fF c n:=hr.1 (by simpa using h);refine aN (gN (n:=n.toNat) (by have:=hR.2;omega) (by have:=hR.2;omega) (by decide)) ?_;have hn:n.toNat<=512:=by have:=hR.2;omega
 refine Tm.bind (Al hc.const.1 hc.const.2) ?_;rintro k0 ⟨hk0,hk0l⟩;refine Tm.bind (Az hk0.dg.bL (by omega)) ?_;rintro b ⟨hb,-⟩;rw[hk0.bv]at hb;refine Tm.bind (Tm.loop (fun s:List aB×Int=>∃k:Nat,s.2=k/\k<=c.Linear.aZ.length/\eZ s.1 (fW c n k)) (fun s=>c.Linear.aZ.length-s.2.toNat) (Q:=fun r=>eZ r (fW c n c.Linear.aZ.length)) ⟨0,rfl,fC _,by simpa[fW]using eZ.dp⟩ ?_) ?_
 . rintro⟨cs,i⟩ ⟨k,rfl,hk,h⟩;dsimp only[EC]at*;refine aY (fun h1=>?_) (fun h1=>aS ?_)
   . have hkl:k<c.Linear.aZ.length:=by omega
     have hv:=hR.1 k hkl;have hx:=hc.lE _ (dt hkl);have hcl:=h.1;rw[se]at hcl;refine aN (dd hkl) (Tm.bind (Al hx.1 hx.2) ?_);rintro m ⟨hm,-⟩;refine aN (gC (n:=c.Linear.aZ[k].Var.toNat) (by omega) (by omega)) (aN (dV (n:=c.Linear.aZ[k].Var.toNat) (by omega) (by omega)) (aS ⟨⟨k+1,by have:=hc.len;dsimp only;rw[bJ]<;>omega,by omega,?_⟩,?_⟩))
     . rw[w7 hkl];exact h.set hm
     . show c.Linear.aZ.length-(iw ((k:Int)+1)).toNat<c.Linear.aZ.length-((k:Int)).toNat;have:=hc.len;rw[bJ]<;>omega
   . obtain rfl:k=c.Linear.aZ.length:=by omega
     exact h
 . rintro cs hcs;refine aY (fun h1=>aS (.inr ⟨hR,_,⟨hcs,hb⟩,.inl ⟨by simpa using h1,rfl⟩⟩)) (fun h1=>?_);refine Tm.bind (Al hc.const.1 hc.const.2) ?_;rintro k1 ⟨hk1,-⟩;refine Tm.bind (Pw hcs (zl hc) hk1 hc.const (by rw[hcs.1,se];exact hn)) ?_;rintro q' hq';exact aS (.inr ⟨hR,_,⟨hcs,hb⟩,.inr ⟨by simpa using h1,q',hq',rfl⟩⟩)
theorem Tw{c:Constraint}{n:Int}(hc:nA c):Tm (fun N=>wH N c n) (od c n):=by
 unfold wH;refine Tm.bind (DC hc.len) ?_;intro r hr;refine aY (fun h=>aS (.inl ⟨fun e=>(by rw[hr.2 e]at h;cases h),rfl⟩)) (fun h=>?_);have hR:fF c n:=hr.1 (by simpa using h);have hn:n.toNat<=512:=by have:=hR.2;omega
 refine Tm.bind (Q:=(·=bA.mk (List.replicate n.toNat eN) eN)) ?_ ?_
 . unfold vH;exact aN (gN (n:=n.toNat) (by have:=hR.2;omega) (by omega) (by decide)) (aS rfl)
 rintro _ rfl;dsimp only;refine Tm.bind (Tm.loop (fun s:List aB×Int=>∃k:Nat,s.2=k/\k<=c.Linear.aZ.length/\eZ s.1 (fW c n k)) (fun s=>c.Linear.aZ.length-s.2.toNat) (Q:=fun r=>eZ r (fW c n c.Linear.aZ.length)) ⟨0,rfl,fC _,by simpa[fW]using eZ.dp⟩ ?_) ?_
 . rintro⟨cs,i⟩ ⟨k,rfl,hk,h⟩;dsimp only[FM]at*;refine aY (fun h1=>?_) (fun h1=>aS ?_)
   . have hkl:k<c.Linear.aZ.length:=by omega
     have hv:=hR.1 k hkl;have hx:=hc.lE _ (dt hkl);have hcl:=h.1;rw[se]at hcl;refine aN (dd hkl) (aN (dd hkl) (Tm.bind (sD hx.1 hx.2) ?_));rintro m ⟨hm,-⟩;refine aN (gC (n:=c.Linear.aZ[k].Var.toNat) (by omega) (by omega)) (aN (dV (n:=c.Linear.aZ[k].Var.toNat) (by omega) (by omega)) (aS ⟨⟨k+1,by have:=hc.len;dsimp only;rw[bJ]<;>omega,by omega,?_⟩,?_⟩))
     . rw[w7 hkl];exact h.set hm
     . show c.Linear.aZ.length-(iw ((k:Int)+1)).toNat<c.Linear.aZ.length-((k:Int)).toNat;have:=hc.len;rw[bJ]<;>omega
   . obtain rfl:k=c.Linear.aZ.length:=by omega
     exact h
 . rintro cs hcs;refine Tm.bind (sD hc.const.1 hc.const.2) ?_;rintro k0 ⟨hk0,hk0l⟩;refine Tm.bind (xh hk0.dg.bL (by omega)) ?_;rintro b ⟨hb,-⟩;rw[hk0.bv]at hb;refine aY (fun h1=>aS (.inr ⟨hR,_,⟨hcs,hb⟩,.inl ⟨by simpa using h1,rfl⟩⟩)) (fun h1=>?_);refine Tm.bind (Q0 (q:=⟨cs,b⟩) hcs (zl hc) hk0 hc.const (by show cs.length<=_;rw[hcs.1,se];exact hn)) ?_;rintro q' hq';exact aS (.inr ⟨hR,_,⟨hcs,hb⟩,.inr ⟨by simpa using h1,q',hq',rfl⟩⟩)
end Go.D
namespace Go.Proofs.YtipdkfmhfakbnaaGreatDoor.TB
open Go Go.RowKit Go.X Go.Q
instance:eT:=⟨[0],fun _ o=>∃t fr,o=.cells (Lib.pow10Tab.map fun z=>Value.int .u64 z).toArray t fr⟩
theorem Qx{w:World}(h:∀g∈eT.l,∃o,w.heap[g]?=some o/\eT.p g o):Lib.TabIs Tryz.prog w "internal/strconv.uint64pow10" .u64 Lib.pow10Tab:=by
 obtain⟨o,h1,t,fr,rfl⟩:=h 0 (cI.2 rfl);unfold Lib.TabIs World.var?;rw[show Program.globalNamed Tryz.prog "internal/strconv.uint64pow10"=some 0 by kernel_rfl];simp[h1]
theorem PO{w:World}(h:Lib.TabIs Tryz.prog w "internal/strconv.uint64pow10" .u64 Lib.pow10Tab):∀g∈eT.l,∃o,w.heap[g]?=some o/\eT.p g o:=by
 intro g hg;obtain rfl:=cI.1 hg;unfold Lib.TabIs World.var? at h;rw[show Program.globalNamed Tryz.prog "internal/strconv.uint64pow10"=some 0 by kernel_rfl]at h;simp only[F9]at h;cases ho:w.heap[0]?with
 |none=>rw[ho]at h;cases h
 |some o=>
  rw[ho]at h;cases o with
  |cells cs t fr=>exact⟨_,rfl,t,fr,by rw[gY h]⟩
  |_=>cases h
end Go.Proofs.YtipdkfmhfakbnaaGreatDoor.TB
namespace Go.D
open Go Go.X
theorem NN:∀i,i<256->te.getD i 0<=8/\(0<i->0<(te.getD i 0).toNat/\2^((te.getD i 0).toNat-1)<=i/\i<2^(te.getD i 0).toNat):=by decide+kernel
theorem DW:te.length=256:=by decide+kernel
theorem I2{x:Int}{n:Nat}(h:n<=32):fq .u32 x n=x/2^n:=by
 unfold fq;rw[show min ((n:Int)).toNat IntKind.u32.bits=n by show min _ 32=n;omega];exact js _ (ee (kr (by decide)))
theorem TG{x:Int}(h0:0<x)(h1:x<4294967296):Tm (fun N=>wZ N x) (fun r=>∃k:Nat,r=k/\0<k/\k<=32/\2^(k-1)<=x/\x<2^k):=by
 unfold wZ;refine Tm.bind (Q:=fun p:Int×Int=>∃m:Nat,p.2=m/\m<=16/\0<p.1/\p.1<65536/\p.1*2^m<=x/\x<(p.1+1)*2^m) (aY (fun h=>aS ?_) (fun h=>aS ?_)) ?_
 . refine⟨16,rfl,by decide,?_⟩;rw[show fq .u32 x 16=x/2^16 from I2 (n:=16) (by decide)];have e:(2:Int)^16=65536:=by decide
   dsimp only;rw[e];omega
 . exact⟨0,rfl,by decide,h0,by dsimp only;omega,by simp,by dsimp only;omega⟩
 rintro⟨y,_⟩ ⟨m,rfl,hm,y0,y1,hy,hy'⟩;dsimp only at*;refine Tm.bind (Q:=fun p:Int×Int=>∃m:Nat,p.2=m/\m<=24/\0<p.1/\p.1<256/\p.1*2^m<=x/\x<(p.1+1)*2^m) (aY (fun h=>aS ?_) (fun h=>aS ?_)) ?_
 . refine⟨m+8,by dsimp only;rw[bJ]<;>omega,by omega,?_⟩;rw[show fq .u32 y 8=y/2^8 from I2 (n:=8) (by decide)];have e:(2:Int)^8=256:=by decide
   have hp:(0:Int)<2^m:=kr (by decide);dsimp only;rw[jI,e];refine⟨by omega,by omega,?_,?_⟩
   . have:y/256*256*2^m<=y*2^m:=fm (by omega) (by omega);have e2:y/256*(2^m*256)=y/256*256*2^m:=by grind
     omega
   . have:(y+1)*2^m<=(y/256+1)*256*2^m:=fm (by omega) (by omega);have e2:(y/256+1)*(2^m*256)=(y/256+1)*256*2^m:=by grind
     omega
 . exact⟨m,rfl,by omega,y0,by dsimp only;omega,hy,hy'⟩
 rintro⟨z,_⟩ ⟨m,rfl,hm,z0,z1,hz,hz'⟩;dsimp only at*;have hu:uw8 z=(z.toNat:Int):=by unfold uw8;rw[show IntKind.u8.wrap z=z%256 from wu8];omega
 refine aN (gC (n:=z.toNat) hu (by rw[DW];omega)) (aS ?_);obtain⟨t1,t2⟩:=NN z.toNat (by omega);rw[cy,bV (by rw[DW];omega)]at t1 t2;simp only[B3]at t1 t2;generalize te[z.toNat]'(by rw[DW];omega)=t at*;obtain⟨p0,p1,p2⟩:=t2 (by omega);have t1':t.toNat<=8:=by simpa[UInt8.le_iff_toNat_le]using t1
 have e1:iw (t.toNat:Int)=t.toNat:=by rw[bJ]<;>omega
 rw[e1];have hp:(0:Int)<2^m:=kr (by decide);have p1':((2:Int)^(t.toNat-1))<=z:=by
  have h:((2^(t.toNat-1):Nat):Int)<=(z.toNat:Int):=Int.ofNat_le.2 p1;rw[Int.toNat_of_nonneg (by omega),Gz]at h;exact h
 have p2':z+1<=(2:Int)^t.toNat:=by
  have h:(z.toNat:Int)<((2^t.toNat:Nat):Int):=Int.ofNat_lt.2 p2;rw[Int.toNat_of_nonneg (by omega),Gz]at h;exact h
 refine⟨m+t.toNat,by rw[bJ]<;>omega,by omega,by omega,?_,?_⟩
 . rw[show m+t.toNat-1=(t.toNat-1)+m by omega,jI];exact Int.le_trans (fm p1' (by omega)) hz
 . rw[Nat.add_comm,jI];exact Int.lt_of_lt_of_le hz' (fm p2' (by omega))
theorem Qe{x:Int}(h0:0<x)(h1:x<4294967296):Tm (fun N=>yf N x) (fun r=>∃s:Nat,r=s/\s<=31/\2147483648<=x*2^s/\x*2^s<4294967296):=by
 unfold yf;refine Tm.bind (TG h0 h1) ?_;rintro _ ⟨k,rfl,k0,k1,hk,hk'⟩;refine aS ⟨32-k,by rw[bJ]<;>omega,by omega,?_,?_⟩
 . have:=fm hk (show(0:Int)<=2^(32-k) from ee (kr (by decide)));rw[<-jI,show k-1+(32-k)=31 by omega]at this;exact this
 . have:=Nf hk' (show(0:Int)<2^(32-k) from kr (by decide));rw[<-jI,show k+(32-k)=32 by omega]at this;exact this
open Go Go.X
theorem TD{k:IntKind}{x y n:Nat}(hx:k.wrap (x:Int)=x)(hy:k.wrap (y:Int)=y)(h:x<2^n)(hm:2^n∣y):jE k x y=((x+y:Nat):Int):=by
 rw[MJ hx hy];obtain⟨q,rfl⟩:=hm;rw[Nat.or_comm,<-Nat.two_pow_add_eq_or_of_lt h,Nat.add_comm]
theorem rB{l:List Int}{n m:Nat}{y:Int}(h:n<l.length):(l.set n y).getD m 0=if n=m then y else l.getD m 0:=by
 rw[cy,cy,qS];by_cases e:n=m
 . subst e;simp[h]
 . simp[e]
theorem Ih{z:Nat}(h:z<4294967296):IntKind.u32.wrap (z:Int)=z:=by rw[show IntKind.u32.wrap (z:Int)=(z:Int)%4294967296 from wu32];omega
theorem BP{s:Nat}(h:s<=31):(2:Int)^s*2^(32-s)=4294967296:=by rw[<-jI,show s+(32-s)=32 by omega];decide
theorem HE{a:List Int}{n:Int}{s:Nat}(hn:n=s)(hs:s<=31)(ha:bB aC a)(hl:a.length<=17592186044416):Tm (fun N=>tX N a n) (fun r=>bB aC r/\val aC r=val aC a*2^s/\r.length=a.length+1):=by
 unfold tX;subst hn;have hP:(0:Int)<2^s:=kr (by decide);have hQ:(0:Int)<2^(32-s):=kr (by decide);have hPQ:=BP hs;refine aN (gN (n:=a.length+1) (by rw[bJ]<;>omega) (by omega) (by decide)) ?_;refine Tm.bind (Q:=fun r=>bB aC r/\val aC r=val aC a*2^s/\r.length=a.length+1)
  (Tm.loop (fun t:List Int×Int=>∃k:Nat,t.2=k/\k<=a.length/\t.1.length=a.length+1/\bB aC t.1/\t.1.getD k 0<2^s/\val aC (t.1.take (k+1))=val aC (a.take k)*2^s) (fun t=>a.length-t.2.toNat)
   ⟨0,rfl,fC _,by simp,bB.dp (by decide),?_,?_⟩ ?_) (fun r h=>aS h)
 . show(List.replicate (a.length+1) (0:Int)).getD 0 0<_;simpa using hP
 . show val aC ((List.replicate (a.length+1) (0:Int)).take 1)=_;rw[List.take_replicate,Bn];simp[val]
 rintro⟨out,i⟩ ⟨k,rfl,hk,ho,hB,hc,hv⟩;dsimp only[D2]at*;refine aY (fun h=>?_) (fun h=>aS ?_)
 . have hx:=ha.get (n:=k) (by omega);have ex:a.getD k 0=a[k]'(by omega):=fY (by omega);refine aN (dd (by omega)) (aN (xn (by omega)) (aN (dd (by omega)) (aN (dd (by omega)) ?_)));generalize a[k]'(by omega)=x at*;have hco:=hB.get (n:=k) (by omega);have eo:out.getD k 0=out[k]'(by omega):=fY (by omega);have hvs:=fun y=>take_set (l:=out) (n:=k) (y:=y) (by omega);rw[eo]at hc;rw[fA,eo]at hv;generalize out[k]'(by omega)=c at*;simp only[aC]at hx;have hw0:0<=x*2^s:=eH hx.1 (by omega);have hP31:(2:Int)^s<=2147483648:=by
    have:=j4 (B:=2) (by decide) hs;exact this
   have hw1:x*2^s<=4294967295*2147483648:=nq (by omega) hP31 (by omega) (by decide);have ew:jc .u64 (uw x) s=x*2^s:=by
    unfold jc;rw[show uw x=x by rw[fJ];omega,show min ((s:Int)).toNat IntKind.u64.bits=s by show min _ 64=s;omega];rw[show IntKind.u64.wrap (x*2^s)=(x*2^s)%18446744073709551616 from wu];omega
   rw[ew,yt,gj];have hlo:(x*2^s)%4294967296=(x%2^(32-s))*2^s:=by
    rw[<-hPQ,fH x,Int.mul_emod_mul_of_pos _ _ hP,fH]
   have hhi:x*2^s/4294967296=x/2^(32-s):=by
    rw[<-hPQ,fH ((2:Int)^s) (2^(32-s)),Int.mul_ediv_mul_of_pos_left _ _ hP]
   have hhi1:x/2^(32-s)<2^s:=Gy hQ (by rw[hPQ];omega);have hhi0:0<=x/2^(32-s):=yF hx.1 (by omega);have hlo0:0<=x%2^(32-s):=lM _ (by omega);have hlo1:x%2^(32-s)+1<=2^(32-s):=lO _ hQ;have hlo2:(x%2^(32-s))*2^s+2^s<=4294967296:=by
    have:=fm hlo1 (show(0:Int)<=2^s by omega);rw[fH (2^(32-s)) (2^s),hPQ]at this;grind
   have hor:jE .u32 c ((x*2^s)%4294967296)=c+(x%2^(32-s))*2^s:=by
    rw[hlo];obtain⟨cn,rfl⟩:=qZ hco.1;obtain⟨ln,hln⟩:=qZ hlo0;rw[hln];have e1:(ln:Int)*2^s=((ln*2^s:Nat):Int):=by simp
    have hl0:0<=(ln:Int)*2^s:=eH (by omega) (by omega);rw[hln]at hlo2;rw[e1]at hlo2⊢;simp only[aC]at hco;rw[TD (n:=s) (Ih (by omega)) (Ih (by omega)) (by have:((cn:Nat):Int)<((2^s:Nat):Int):=(by simpa using hc);omega) (Nat.dvd_mul_left _ _)];omega
   rw[hor];refine aN (dV rfl (by omega)) ?_;have hB1:bB aC (out.set k (c+(x%2^(32-s))*2^s)):=hB.set (by
    have:0<=(x%2^(32-s))*2^s:=eH hlo0 (by omega);simp only[aC]at*;omega)
   have hi1:iw ((k:Int)+1)=((k+1:Nat):Int):=by rw[bJ]<;>omega
   refine aN (gC hi1 (by simp;omega)) (aN (dV hi1 (by simp;omega)) ?_);have ehi:dX (x*2^s/4294967296)=x/2^(32-s):=by rw[hhi,gj];omega
   rw[ehi];refine aS ⟨⟨k+1,hi1,by omega,by simp;omega,hB1.set (by simp only[aC];omega),?_,?_⟩,?_⟩
   . show(((out.set k _).set (k+1) _).getD (k+1) 0)<2^s;rw[rB (by simp;omega),if_pos rfl];exact hhi1
   . show val aC (((out.set k _).set (k+1) _).take (k+1+1))=_;rw[take_set (by simp;omega),hvs,fA,ex,fl];have:=jK x (2^(32-s));have hw:aC=2^s*2^(32-s):=hPQ.symm;have e3:aC^k*aC*(x/2^(32-s))=aC^k*(2^s*(2^(32-s)*(x/2^(32-s)))):=by
      conv=>lhs;rw[Ng,show aC*(x/2^(32-s))=2^s*2^(32-s)*(x/2^(32-s)) by rw[<-hw]]
      rw[Ng]
     rw[e3];grind
   . show a.length-(iw ((k:Int)+1)).toNat<a.length-((k:Int)).toNat;rw[hi1];omega
 . obtain rfl:k=a.length:=by omega
   rw[kG (by omega),kG (bK _)]at hv;exact⟨hB,hv,ho⟩
open Go Go.X
theorem gn{xs:List Int}{i:Int}{n:Nat}(e:i=(n:Int))(h:n<xs.length):idx xs i=some (xs.getD n 0):=by
 rw[fY h];exact gC e h
theorem Ex{k:IntKind}{x y:Int}(h:y≠0):sdiv k x y=some (k.wrap (x.tdiv y)):=by unfold sdiv;rw[if_neg h]
theorem GW{x y:Int}(h:y≠0):srem x y=some (x.tmod y):=by unfold srem;rw[if_neg h]
theorem BD{z:Nat}(h:z<18446744073709551616):IntKind.u64.wrap (z:Int)=z:=by rw[show IntKind.u64.wrap (z:Int)=(z:Int)%18446744073709551616 from wu];omega
theorem Ty{x:Int}(h0:0<=x)(h1:x<4294967296):jc .u64 x 32=x*4294967296:=by
 unfold jc;rw[show((2:Int)^(min (32:Int).toNat IntKind.u64.bits))=4294967296 from rfl];rw[show IntKind.u64.wrap (x*4294967296)=(x*4294967296)%18446744073709551616 from wu];omega
theorem zh{x y:Int}(h0:0<=x)(h1:x<4294967296)(h2:0<=y)(h3:y<4294967296):jE .u64 (jc .u64 x 32) y=x*4294967296+y:=by
 rw[Ty h0 h1];obtain⟨a,rfl⟩:=qZ h0;obtain⟨b,rfl⟩:=qZ h2;rw[show(a:Int)*4294967296=((a*2^32:Nat):Int) by simp];rw[MJ (BD (by omega)) (BD (by omega)),<-Nat.shiftLeft_eq,<-Nat.shiftLeft_add_eq_or_of_lt (by omega),Nat.shiftLeft_eq];omega
theorem PI{z:Int}(h0:0<=z)(h1:z<18446744073709551616):qC .u64 z 4294967295=z%4294967296:=by
 obtain⟨a,rfl⟩:=qZ h0;rw[show(4294967295:Int)=((2^32-1:Nat):Int) by decide,TY (BD (by omega)) (BD (by decide)),Nat.and_two_pow_sub_one_eq_mod];omega
theorem gJ{z:Int}(h0:0<=z)(h1:z<18446744073709551616):uw z=z:=by rw[fJ];omega
theorem AY{x y:Int}(h:0<=x):x.tdiv y=x/y:=Vb h
theorem CM{x y:Int}(h:0<=x):x.tmod y=x%y:=M9 h
theorem I6{a:List Int}{y:Int}(ha:bB aC a)(h0:0<y)(h1:y<aC)(hl:a.length<=17592186044416):
 Tm (fun N=>vA N a y) (fun r=>bB aC r.1/\val aC r.1=val aC a/y/\r.2=val aC a%y/\r.1.length=a.length):=by
 unfold vA;refine aN (gN rfl (by omega) (by decide)) ?_;refine Tm.bind (Q:=fun r:List Int×Int=>bB aC r.1/\r.1.length=a.length/\0<=r.2/\r.2<y/\val aC r.1*y+r.2=val aC a)
  (Tm.loop (fun t:List Int×Int×Int=>∃k:Nat,t.2.2=(k:Int)-1/\k<=a.length/\t.1.length=a.length/\bB aC t.1/\0<=t.2.1/\t.2.1<y/\(∀j,j<k->t.1.getD j 0=0)/\val aC t.1*y+aC^k*t.2.1+val aC (a.take k)=val aC a) (fun t=>(t.2.2+1).toNat)
   ⟨a.length,by rw[bJ]<;>omega,bK _,by simp,bB.dp (by decide),by simp,h0,fun j hj=>by rw[fY (by simpa using hj)];simp,by rw[kG (bK _),Bn];simp⟩ ?_) ?_
 . rintro⟨out,rest,i⟩ ⟨k,rfl,hk,ho,hB,r0,r1,hz,hv⟩;dsimp only[F2]at*;refine aY (fun h=>?_) (fun h=>aS ?_)
   . obtain⟨n,rfl⟩:∃n,k=n+1:=⟨k-1,by omega⟩;have hi:((n+1:Nat):Int)-1=(n:Int):=by omega
     rw[hi];have hx:=ha.getD (by decide) n;have hvt:=fA (B:=aC) (l:=a) (n:=n);refine aN (gn rfl (by omega)) ?_;generalize a.getD n 0=x at*;simp only[aC]at hx h1;have ex:uw x=x:=gJ hx.1 (by omega);have ey:uw y=y:=gJ (by omega) (by omega);rw[ex,ey,zh r0 (by omega) hx.1 hx.2];have hT0:0<=rest*4294967296+x:=by omega
     have hq1:(rest*4294967296+x)/y<4294967296:=Gy h0 (by
      have:=fm (show rest+1<=y by omega) (show(0:Int)<=4294967296 by decide);rw[fH 4294967296 y];omega)
     have hq0:0<=(rest*4294967296+x)/y:=yF hT0 (by omega);refine aN (Ex (by omega)) (aN (gn rfl (by omega)) (aN (dV rfl (by omega)) (aN (GW (by omega)) (aS ?_))));rw[AY hT0,CM hT0,show IntKind.u64.wrap ((rest*4294967296+x)/y)=(rest*4294967296+x)/y from gJ hq0 (by omega),show dX ((rest*4294967296+x)/y)=(rest*4294967296+x)/y by rw[gj];omega];have hm0:=lM (rest*4294967296+x) (show y≠0 by omega);have hm1:=lO (rest*4294967296+x) h0;have hd:=jK (rest*4294967296+x) y;refine⟨⟨n,by show iw ((n:Int)-1)=_;rw[bJ]<;>omega,by omega,by simp;omega,hB.set (by simp only[aC];omega),hm0,hm1,fun j hj=>?_,?_⟩,?_⟩
     . show(out.set n _).getD j 0=0;rw[rB (by omega),if_neg (by omega)];exact hz j (by omega)
     . show val aC (out.set n _)*y+aC^n*((rest*4294967296+x)%y)+val aC (a.take n)=_;have hon:out[n]'(by omega)=0:=by have:=hz n (by omega);rwa[fY (by omega)]at this
       rw[tF (by omega),hon];rw[fl]at hv;have hw:aC=4294967296:=rfl;generalize(rest*4294967296+x)/y=q at*;generalize(rest*4294967296+x)%y=t at*;rw[<-hv,hvt];have e1:aC^n*aC*rest=aC^n*(rest*4294967296):=by rw[hw];grind
       have e2:aC^n*(t+y*q)=aC^n*(rest*4294967296+x):=by rw[hd]
       rw[e1];grind
     . show(iw ((n:Int)-1)+1).toNat<((n:Int)+1).toNat;rw[bJ]<;>omega
   . obtain rfl:k=0:=by omega
     refine⟨hB,ho,r0,r1,?_⟩;simpa[val]using hv
 . rintro⟨out,rest⟩ ⟨hB,ho,r0,r1,hv⟩;dsimp only at*;simp only[aC]at h1;refine aS ⟨hB,?_,?_,ho⟩
   . show val aC out=_;rw[<-hv,Int.add_comm,Int.add_mul_ediv_right _ _ (by omega),Nh r0 r1];omega
   . show dX rest=_;rw[gj,<-hv,Int.add_comm,Int.add_mul_emod_self_right,vS r0 r1];omega
section
variable {W V R v1 v2 u2 top p vl rl g rest:Int}
theorem g_dec(hp:0<p)(hV:V=(v1*W+v2)*p+vl)(hvl:0<=vl)(hR:R=(top*W+u2)*p+rl)(hrl:rl<p)(ht:top=g*v1+rest)(hg:0<=g)(h:rest*W+u2<g*v2):R<g*V:=by
 have h1:top*W+u2+1<=g*(v1*W+v2):=by
  have e:g*(v1*W+v2)=(g*v1)*W+g*v2:=by grind
  have e2:top*W=(g*v1)*W+rest*W:=by rw[ht];grind
  omega
 have h2:=fm h1 (ee hp);have h3:0<=g*vl:=eH hg hvl;have e1:g*V=g*(v1*W+v2)*p+g*vl:=by rw[hV];grind
 have e2:(top*W+u2+1)*p=(top*W+u2)*p+p:=by grind
 omega
theorem g_top(hp:0<p)(hW:0<W)(hv2:v2<W)(hV:V=(v1*W+v2)*p+vl)(hvl:vl<p)(hR:R=(top*W+u2)*p+rl)(hu2:0<=u2)(hrl:0<=rl)(h:R<W*V):top<(v1+1)*W:=by
 have h1:top*W<W*(v1*W+v2+1):=by
  rcases qY (top*W) (W*(v1*W+v2+1))with h1|h1
  . exact h1
  . exfalso;have h2:=fm (show W*(v1*W+v2+1)<=top*W+u2 by omega) (ee hp);have h3:W*vl<W*p:=Int.mul_lt_mul_of_pos_left hvl hW;have e1:W*V=W*(v1*W+v2)*p+W*vl:=by rw[hV];grind
    have e2:W*(v1*W+v2+1)*p=W*(v1*W+v2)*p+W*p:=by grind
    omega
 have h2:W*top<W*(v1*W+v2+1):=by rw[fH W top];exact h1
 have h3:=GA h2 (ee hW);have e:(v1+1)*W=v1*W+W:=by grind
 omega
theorem Uy(hv1:0<v1)(ht:top=g*v1+rest)(hr:W<=rest)(h:top<(v1+1)*W):g<W:=by
 have h1:g*v1<W*v1:=by
  have e:(v1+1)*W=W*v1+W:=by grind
  omega
 exact Ni h1 (ee hv1)
theorem g_brk(hp:0<p)(hW:0<W)(hv2:0<=v2)(hv2':v2<W)(hV:V=(v1*W+v2)*p+vl)(hvl:0<=vl)(hvl':vl<p)(hR:R=(top*W+u2)*p+rl)(hu2:0<=u2)(hrl:0<=rl)
 (ht:top=g*v1+rest)(hr:W<=rest)(hg:0<=g)(hgW:g<W):g*V<=R:=by
 have h1:g*(v2*p+vl)<=W*(W*p):=by
  have:v2*p+vl<=W*p:=by
   have:=fm (show v2+1<=W by omega) (ee hp);have e:(v2+1)*p=v2*p+p:=by grind
   omega
  have h0:0<=v2*p+vl:=by have:=eH hv2 (ee hp);omega
  exact nq (by omega) this h0 (by omega)
 have h2:W*(W*p)<=rest*(W*p):=fm hr (eH (by omega) (by omega));have h3:0<=u2*p:=eH hu2 (by omega);have e1:g*V=g*v1*(W*p)+g*(v2*p+vl):=by rw[hV];grind
 have e2:R=g*v1*(W*p)+rest*(W*p)+u2*p+rl:=by rw[hR,ht];grind
 omega
theorem g_end(hp:0<p)(hW:0<W)(hv1:0<v1)(hv2:0<=v2)(hV:V=(v1*W+v2)*p+vl)(hvl:0<=vl)(hvl':vl<p)(hR:R=(top*W+u2)*p+rl)(hrl:0<=rl)
 (ht:top=g*v1+rest)(hg:0<=g)(hgW:g<W)(h:g*v2<=rest*W+u2):g*V<=R+V:=by
 have h1:g*(v1*W+v2)<=top*W+u2:=by
  have e:g*(v1*W+v2)=(g*v1)*W+g*v2:=by grind
  have e2:top*W=(g*v1)*W+rest*W:=by rw[ht];grind
  omega
 have h2:=fm h1 (ee hp);have h3:g*vl<=W*p:=nq (by omega) (by omega) hvl (by omega);have h4:W*p<=v1*(W*p):=by
  have:=fm (show 1<=v1 by omega) (show 0<=W*p from eH (by omega) (by omega));omega
 have h5:0<=v2*p:=eH hv2 (by omega);have e1:g*V=g*(v1*W+v2)*p+g*vl:=by rw[hV];grind
 have e2:V=v1*(W*p)+v2*p+vl:=by rw[hV];grind
 omega
theorem OV(hp:0<p)(hW:0<W)(hv1:0<v1)(hv2:0<=v2)(hV:V=(v1*W+v2)*p+vl)(hvl:0<=vl)(hR:R=(top*W+u2)*p+rl)(hu2:u2<W)(hrl:rl<p)
 (ht:top=g*v1+rest)(hr:rest<v1)(hg:0<=g):R<(g+1)*V:=by
 have h1:(top+1)*(W*p)<=(g+1)*v1*(W*p):=fm (by have e:(g+1)*v1=g*v1+v1:=(by grind);omega) (eH (by omega) (by omega));have h2:0<=(g+1)*(v2*p+vl):=eH (by omega) (by have:=eH hv2 (ee hp);omega);have h3:=fm (show u2+1<=W by omega) (ee hp);have e1:(g+1)*V=(g+1)*v1*(W*p)+(g+1)*(v2*p+vl):=by rw[hV];grind
 have e2:R=top*(W*p)+u2*p+rl:=by rw[hR];grind
 have e3:(top+1)*(W*p)=top*(W*p)+W*p:=by grind
 have e4:(u2+1)*p=u2*p+p:=by grind
 omega
end
theorem b2_tm{b v u:List Int}{n m:Nat}{V R v1 v2 u2 top p vl rl g0 r0:Int}(hb:b.length=m)(hv:v.length=m)(hm:2<=m)(hu:n+m<u.length)(hul:u.length<=35184372088832)
 (e1:v.getD (m-1) 0=v1)(e2:v.getD (m-2) 0=v2)(e3:u.getD (n+m-2) 0=u2)(hv1:0<v1/\v1<4294967296)(hv2:0<=v2/\v2<4294967296)(hu2:0<=u2/\u2<4294967296)
 (hp:0<p)(hV:V=(v1*4294967296+v2)*p+vl)(hvl:0<=vl/\vl<p)(hR:R=(top*4294967296+u2)*p+rl)(hrl:0<=rl/\rl<p)(hRV:R<4294967296*V)
 (ht:top=g0*v1+r0)(hr0:0<=r0/\r0<v1)(hg0:0<=g0/\g0<18446744073709551616):
 Tm (fun N=>bH (yU N b v u n) N (g0,r0)) (fun g=>0<=g/\g<4294967296/\R<(g+1)*V/\g*V<=R+V):=by
 have htop:=g_top hp (by decide) hv2.2 hV hvl.2 hR hu2.1 hrl.1 hRV;have hV0:0<=V:=by
  have h1:=eH (show 0<=v1*4294967296+v2 by omega) (ee hp);omega
 refine Tm.loop (fun t:Int×Int=>0<=t.1/\t.1<18446744073709551616/\0<=t.2/\t.2<4294967296/\top=t.1*v1+t.2/\R<(t.1+1)*V) (fun t=>t.1.toNat)
  ⟨hg0.1,hg0.2,hr0.1,by omega,ht,OV hp (by decide) hv1.1 hv2.1 hV hvl.1 hR hu2.2 hrl.2 ht hr0.2 hg0.1⟩ ?_
 rintro⟨g,rest⟩ ⟨g1,g2,r1,r2,ht,hRg⟩;dsimp only[yU]at*;have ev2:uw v2=v2:=gJ hv2.1 (by omega);have eu2:uw u2=u2:=gJ hu2.1 (by omega);have ev1:uw v1=v1:=gJ (by omega) (by omega);refine Tm.bind (Q:=(·=decide (4294967295<g\/rest*4294967296+u2<g*v2))) (aY (fun h=>aS ?_) (fun h=>?_)) ?_
 . simp[show 4294967295<g from h]
 . refine aN (gn (n:=m-2) (by rw[bJ]<;>omega) (by omega)) (aN (gn (n:=n+m-2) (by rw[show iw ((n:Int)+(b.length:Int))=(n:Int)+m by rw[bJ]<;>omega,bJ]<;>omega) (by omega)) (aS ?_));rw[e2,e3,ev2,eu2,zh r1 r2 hu2.1 hu2.2];have hgv:0<=g*v2/\g*v2<=4294967295*4294967295:=⟨eH g1 hv2.1,nq (by omega) (by omega) hv2.1 (by decide)⟩;rw[gJ hgv.1 (by omega)];have:¬4294967295<g:=h;simp[this]
 rintro _ rfl;refine aY (fun h=>?_) (fun h=>aS ?_)
 . have h:=of_decide_eq_true h;have hgp:0<g:=by
    rcases h with h|h
    . omega
    . rcases qY 0 g with h'|h'
      . exact h'
      . have:g=0:=by omega
        subst this;simp at h;omega
   have hRg':R<g*V:=by
    rcases h with h|h
    . have:=fm (show 4294967296<=g by omega) hV0;omega
    . exact g_dec hp hV hvl.1 hR hrl.2 ht g1 h
   have ht':top=(g-1)*v1+(rest+v1):=by rw[ht];grind
   refine aN (gn (n:=m-1) (by rw[bJ]<;>omega) (by omega)) ?_;rw[e1,ev1,gJ (show 0<=g-1 by omega) (by omega),gJ (show 0<=rest+v1 by omega) (by omega)];refine aY (fun h1=>aS ?_) (fun h1=>aS ⟨⟨by dsimp only;omega,by dsimp only;omega,by dsimp only;omega,by dsimp only;omega,ht',?_⟩,?_⟩)
   . have hgW:=Uy hv1.1 ht' (show 4294967296<=rest+v1 by omega) htop;have:=g_brk hp (by decide) hv2.1 hv2.2 hV hvl.1 hvl.2 hR hu2.1 hrl.1 ht' (show 4294967296<=rest+v1 by omega) (by omega) hgW;refine⟨by omega,hgW,?_,by omega⟩;rw[show g-1+1=g by omega];exact hRg'
   . show R<(g-1+1)*V;rw[show g-1+1=g by omega];exact hRg'
   . show(g-1).toNat<g.toNat;omega
 . have h:¬(4294967295<g\/rest*4294967296+u2<g*v2):=fun e=>h (by simpa using e);refine⟨g1,by omega,hRg,?_⟩;exact g_end hp (by decide) hv1.1 hv2.1 hV hvl.1 hvl.2 hR hrl.1 ht g1 (by omega) (by omega)
open Go Go.X
theorem u4{l:List Int}{m:Nat}(h:bB aC l)(hv:val aC l<aC^m):∀j,m<=j->l.getD j 0=0:=by
 intro j hj;rcases cw j l.length with hl|hl
 . rw[fY hl];have h1:=h.get hl;rcases qY 0 l[j]with h2|h2
   . exfalso;have e:=pq (B:=aC) (l:=l) j (by omega);rw[eU hl,sY]at e;have p0:=gE (B:=aC) (by decide) (h.take j);have p1:=gE (B:=aC) (by decide) (h.drop (j+1));have p2:=kL (B:=aC) (by decide) j;have p3:=j4 (B:=aC) (by decide) hj;have p4:aC^j*1<=aC^j*(l[j]+aC*val aC (l.drop (j+1))):=fZ (by have:=eH (show(0:Int)<=aC by decide) p1;omega) (by omega);omega
   . omega
 . exact mW hl
theorem KL{l:List Int}{m:Nat}(h:bB aC l)(hz:∀j,m<=j->l.getD j 0=0):val aC l<aC^m:=by
 rcases cw m l.length with hm|hm
 . have:=wD (B:=aC) (l:=l) (n:=m) (by omega) (fun k hk hmk=>by have:=hz k hmk;rwa[fY hk]at this);rw[<-this];have h2:=ig (B:=aC) (by decide) (h.take m);rwa[e9,jX (by omega)]at h2
 . have h2:=ig (B:=aC) (by decide) h;have h3:=j4 (B:=aC) (by decide) hm;omega
theorem rq{l:List Int}{n j:Nat}:(l.drop n).getD j 0=l.getD (n+j) 0:=by
 rw[cy,cy,tk]
theorem b3_tm{b v u:List Int}{n m:Nat}{g:Int}(hb:b.length=m)(hv:v.length=m)(hvB:bB aC v)(huB:bB aC u)(hu:n+m<u.length)(hul:u.length<=35184372088832)(g0:0<=g)(g1:g<4294967296):
 Tm (fun N=>bH (Ac N g ((n+m+1:Nat):Int) (n:Int) v) N (u,0,0,0)) (fun r=>bB aC r.1/\r.1.length=u.length/\r.1.take n=u.take n/\(∀k,n+m<k->r.1.getD k 0=u.getD k 0)/\0<=r.2/\r.2<=1/\val aC r.1=val aC u-aC^n*(g*val aC v)+aC^(n+(m+1))*r.2):=by
 refine Tm.loop (fun t:List Int×Int×Int×Int=>∃j:Nat,t.2.2.2=j/\j<=m+1/\bB aC t.1/\t.1.length=u.length/\t.1.take n=u.take n/\(∀k,n+j<=k->t.1.getD k 0=u.getD k 0)/\0<=t.2.1/\t.2.1<4294967296/\(m<j->t.2.1=0)/\0<=t.2.2.1/\t.2.2.1<=1/\val aC t.1=val aC u-aC^n*(g*val aC (v.take j))+aC^(n+j)*(t.2.1+t.2.2.1)) (fun t=>m+1-t.2.2.2.toNat)
  ⟨0,rfl,by omega,huB,rfl,rfl,fun _ _=>rfl,by simp,by simp,fun _=>rfl,by simp,by simp,by simp[val]⟩ ?_
 rintro⟨x,carry,borrow,jj⟩ ⟨j,rfl,hj,hB,hx,htk,hup,c0,c1,hc,b0,b1,hval⟩;dsimp only[Ac]at*;refine aY (fun h=>?_) (fun h=>aS ?_)
 . have hjm:j<=m:=by omega
   refine Tm.bind (y5 hvB) ?_;rintro d rfl;have hij:(n:Int)+(j:Int)=((n+j:Nat):Int):=by omega
   refine aN (xn (by omega)) (aN (gn hij (by omega)) (aN (xn (by omega)) (aN (gn hij (by omega)) (aN (dV hij (by omega)) (aS ?_)))));have hd:=hvB.getD (by decide) j;have hvt:=fA (B:=aC) (l:=v) (n:=j);have hd0:m<=j->v.getD j 0=0:=fun h=>mW (by omega);have huu:=hB.getD (by decide) (n+j);have hset:=fun y=>tF (B:=aC) (l:=x) (n:=n+j) (y:=y) (by omega);rw[<-fY (l:=x) (n:=n+j) (by omega)]at hset;generalize v.getD j 0=d at*;generalize hUU:x.getD (n+j) 0=uu at*;simp only[aC]at hd huu;have hgd:0<=g*d/\g*d<=4294967295*4294967295:=⟨eH g0 hd.1,nq (by omega) (by omega) hd.1 (by decide)⟩;rw[gJ hgd.1 (by omega)];have hgd0:m<=j->g*d=0:=fun h=>by rw[hd0 h];simp
   generalize hC:g*d=gd at*;rw[gJ (show 0<=carry+gd by omega) (by omega),PI (by omega) (by omega),yt];have e1:uw (uw (uw uu-(carry+gd)%4294967296)-borrow)=(uu-(carry+gd)%4294967296-borrow)%18446744073709551616:=by
    rw[fJ,fJ,fJ];omega
   rw[e1,K7,gj];have hy:(uu-(carry+gd)%4294967296-borrow)%18446744073709551616%4294967296=uu-(carry+gd)%4294967296-borrow+4294967296*((uu-(carry+gd)%4294967296-borrow)%18446744073709551616/9223372036854775808):=by omega
   have hb':0<=(uu-(carry+gd)%4294967296-borrow)%18446744073709551616/9223372036854775808/\(uu-(carry+gd)%4294967296-borrow)%18446744073709551616/9223372036854775808<=1:=by omega
   have hy2:0<=(uu-(carry+gd)%4294967296-borrow)%18446744073709551616%4294967296/\(uu-(carry+gd)%4294967296-borrow)%18446744073709551616%4294967296<4294967296:=by omega
   generalize(uu-(carry+gd)%4294967296-borrow)%18446744073709551616%4294967296=y at*;generalize(uu-(carry+gd)%4294967296-borrow)%18446744073709551616/9223372036854775808=bb at*;have hdm:=jK (carry+gd) 4294967296;refine⟨⟨j+1,by show iw ((j:Int)+1)=_;rw[bJ]<;>omega,by omega,hB.set (by simp only[aC];omega),by simp;omega,?_,?_,?_,?_,?_,hb'.1,hb'.2,?_⟩,?_⟩
   . show(x.set (n+j) y).take n=_;rw[yE (by omega)];exact htk
   . intro k hk;show(x.set (n+j) y).getD k 0=_;rw[rB (by omega),if_neg (by omega)];exact hup k (by omega)
   . show 0<=(carry+gd)/4294967296;omega
   . show(carry+gd)/4294967296<4294967296;omega
   . intro h1;show(carry+gd)/4294967296=0;have:=hgd0 (by omega);omega
   . show val aC (x.set (n+j) y)=_+aC^(n+(j+1))*((carry+gd)/4294967296+bb);rw[hset,hval,hvt,hy];have hw:aC=4294967296:=rfl;have hp:aC^(n+(j+1))=aC^n*aC^j*4294967296:=by rw[jI,fl,hw];grind
     rw[hp,jI];generalize aC^n=P at*;generalize aC^j=Q at*;have e3:g*(val aC (v.take j)+Q*d)=g*val aC (v.take j)+Q*gd:=by rw[<-hC];grind
     rw[e3];generalize(carry+gd)/4294967296=cc at*;generalize(carry+gd)%4294967296=c2 at*;have e4:gd=c2+4294967296*cc-carry:=by omega
     rw[e4];grind
   . show m+1-(iw ((j:Int)+1)).toNat<m+1-((j:Int)).toNat;rw[bJ]<;>omega
 . have hjm:j=m+1:=by omega
   subst hjm;refine⟨hB,hx,htk,fun k hk=>hup k (by omega),b0,b1,?_⟩;show val aC x=_;rw[hval,hc (by omega),kG (by omega),Cg]
theorem b4_tm{v u:List Int}{n m:Nat}(hv:v.length=m)(hvB:bB aC v)(huB:bB aC u)(hu:n+m<u.length)(hul:u.length<=35184372088832):
 Tm (fun N=>bH (zi N v n) N (u,0,0)) (fun r=>bB aC r.1/\r.1.length=u.length/\r.1.take n=u.take n/\(∀k,n+m<=k->r.1.getD k 0=u.getD k 0)/\0<=r.2/\r.2<=1/\val aC r.1=val aC u+aC^n*val aC v-aC^(n+m)*r.2):=by
 refine Tm.loop (fun t:List Int×Int×Int=>∃j:Nat,t.2.2=j/\j<=m/\bB aC t.1/\t.1.length=u.length/\t.1.take n=u.take n/\(∀k,n+j<=k->t.1.getD k 0=u.getD k 0)/\0<=t.2.1/\t.2.1<=1/\val aC t.1=val aC u+aC^n*val aC (v.take j)-aC^(n+j)*t.2.1) (fun t=>m-t.2.2.toNat)
  ⟨0,rfl,by omega,huB,rfl,rfl,fun _ _=>rfl,by simp,by simp,by simp[val]⟩ ?_
 rintro⟨x,carry,jj⟩ ⟨j,rfl,hj,hB,hx,htk,hup,c0,c1,hval⟩;dsimp only[zi]at*;refine aY (fun h=>?_) (fun h=>aS ?_)
 . have hij:iw ((n:Int)+(j:Int))=((n+j:Nat):Int):=by rw[bJ]<;>omega
   refine aN (gn hij (by omega)) (aN (gn rfl (by omega)) (aN (gn hij (by omega)) (aN (dV hij (by omega)) (aS ?_))));have hd:=hvB.getD (by decide) j;have hvt:=fA (B:=aC) (l:=v) (n:=j);have huu:=hB.getD (by decide) (n+j);have hset:=fun y=>tF (B:=aC) (l:=x) (n:=n+j) (y:=y) (by omega);rw[<-fY (l:=x) (n:=n+j) (by omega)]at hset;generalize v.getD j 0=d at*;generalize hUU:x.getD (n+j) 0=uu at*;simp only[aC]at hd huu;have e1:uw (carry+uw (uw uu+uw d))=carry+uu+d:=by rw[fJ,fJ,fJ,fJ];omega
   rw[e1,yt,gj];have hdm:=jK (carry+uu+d) 4294967296;refine⟨⟨j+1,by show iw ((j:Int)+1)=_;rw[bJ]<;>omega,by omega,hB.set (by simp only[aC];omega),by simp;omega,?_,?_,?_,?_,?_⟩,?_⟩
   . show(x.set (n+j) _).take n=_;rw[yE (by omega)];exact htk
   . intro k hk;show(x.set (n+j) _).getD k 0=_;rw[rB (by omega),if_neg (by omega)];exact hup k (by omega)
   . show 0<=(carry+uu+d)/4294967296;omega
   . show(carry+uu+d)/4294967296<=1;omega
   . show val aC (x.set (n+j) ((carry+uu+d)%4294967296))=_-aC^(n+(j+1))*((carry+uu+d)/4294967296);rw[hset,hval,hvt];have hw:aC=4294967296:=rfl;have hp:aC^(n+(j+1))=aC^n*aC^j*4294967296:=by rw[jI,fl,hw];grind
     rw[hp,jI];generalize aC^n=P at*;generalize aC^j=Q at*;generalize(carry+uu+d)/4294967296=cc at*;generalize(carry+uu+d)%4294967296=c2 at*;have e4:c2=carry+uu+d-4294967296*cc:=by omega
     rw[e4];grind
   . show m-(iw ((j:Int)+1)).toNat<m-((j:Int)).toNat;rw[bJ]<;>omega
 . have hjm:j=m:=by omega
   subst hjm;rw[kG (by omega)]at hval;exact⟨hB,hx,htk,hup,c0,c1,hval⟩
theorem Ip{u x:List Int}{n:Nat}{t:Int}(hu:n<=u.length)(hx:x.length=u.length)(htk:x.take n=u.take n)(h:val aC x=val aC u+aC^n*t):val aC (x.drop n)=val aC (u.drop n)+t:=by
 rw[pq (B:=aC) (l:=x) n (by omega),pq (B:=aC) (l:=u) n hu,htk]at h;have h1:aC^n*val aC (x.drop n)=aC^n*(val aC (u.drop n)+t):=by rw[tw];omega
 exact Gn (by have:=kL (B:=aC) (by decide) n;omega) h1
theorem top3{l:List Int}{m:Nat}(h:bB aC l)(hm:2<=m)(hl:m<l.length)(hv:val aC l<aC^(m+1)):val aC l=((l.getD m 0*aC+l.getD (m-1) 0)*aC+l.getD (m-2) 0)*aC^(m-2)+val aC (l.take (m-2)):=by
 have h0:=wD (B:=aC) (l:=l) (n:=m+1) (by omega) (fun k hk hmk=>by have:=u4 h hv k hmk;rwa[fY hk]at this);obtain⟨k,rfl⟩:∃k,m=k+2:=⟨m-2,by omega⟩;rw[<-h0,fA,fA (n:=k+1),fA (n:=k),show k+2-1=k+1 by omega,show k+2-2=k by omega,fl,fl];grind
theorem top2{l:List Int}{m:Nat}(hm:2<=m)(hl:l.length=m):val aC l=(l.getD (m-1) 0*aC+l.getD (m-2) 0)*aC^(m-2)+val aC (l.take (m-2)):=by
 obtain⟨k,rfl⟩:∃k,m=k+2:=⟨m-2,by omega⟩;have h0:l.take (k+1+1)=l:=kG (by omega);rw[<-h0,fA,fA (n:=k),h0,show k+2-1=k+1 by omega,show k+2-2=k by omega,fl];grind
theorem b1_tm{b v u q:List Int}{m:Nat}(hb:b.length=m)(hm:2<=m)(hv:v.length=m)(hvB:bB aC v)(huB:bB aC u)(hqB:bB aC q)(hu:u.length=q.length+m)(hul:u.length<=17592186044416)(hv1:0<v.getD (m-1) 0)(h0:val aC (u.drop q.length)<val aC v):
 Tm (fun N=>bH (Am N b v) N (u,q,iw ((q.length:Int)-1))) (fun r=>bB aC r.1/\r.1.length=u.length/\bB aC r.2/\r.2.length=q.length/\val aC u=val aC r.1+val aC v*val aC r.2/\val aC r.1<val aC v):=by
 refine Tm.loop (fun t:List Int×List Int×Int=>∃k:Nat,t.2.2=(k:Int)-1/\k<=q.length/\bB aC t.1/\t.1.length=u.length/\bB aC t.2.1/\t.2.1.length=q.length/\val aC u=val aC t.1+aC^k*(val aC v*val aC (t.2.1.drop k))/\val aC (t.1.drop k)<val aC v) (fun t=>(t.2.2+1).toNat)
  ⟨q.length,by rw[bJ]<;>omega,bK _,huB,rfl,hqB,rfl,by simp[val],h0⟩ ?_
 rintro⟨x,y,ii⟩ ⟨k,rfl,hk,hxB,hx,hyB,hy,hval,hlt⟩;dsimp only[Am]at*;refine aY (fun h=>?_) (fun h=>aS ?_)
 . obtain⟨n,rfl⟩:∃n,k=n+1:=⟨k-1,by omega⟩;have hi:((n+1:Nat):Int)-1=(n:Int):=by omega
   rw[hi];have him:iw ((n:Int)+(b.length:Int))=((n+m:Nat):Int):=by rw[bJ]<;>omega
   have him1:iw (((n+m:Nat):Int)-1)=((n+m-1:Nat):Int):=by rw[bJ]<;>omega
   have hbm:iw ((b.length:Int)-1)=((m-1:Nat):Int):=by rw[bJ]<;>omega
   rw[him,him1,hbm];refine aN (gn rfl (by omega)) (aN (gn rfl (by omega)) (aN (gn rfl (by omega)) ?_));have hV:=top2 hm hv;have hVl:=gE (B:=aC) (by decide) (hvB.take (m-2));have hVl':=ig (B:=aC) (by decide) (hvB.take (m-2));rw[e9,jX (by omega)]at hVl';have hVW:val aC v<aC^m:=by have:=ig (B:=aC) (by decide) hvB;rwa[hv]at this
   have hxn:=hxB.getD (B:=aC) (by decide) n;have hRe:val aC (x.drop n)=x.getD n 0+aC*val aC (x.drop (n+1)):=by rw[eU (by omega),sY,fY (by omega)]
   have hR0:=gE (B:=aC) (by decide) (hxB.drop n);have hRV:val aC (x.drop n)<4294967296*val aC v:=by
    rw[hRe];simp only[aC]at*;omega
   have hR1:val aC (x.drop n)<aC^(m+1):=by
    rw[fl];simp only[aC]at*;omega
   have hR:=top3 (hxB.drop n) hm (by simp;omega) hR1;have hRl:=gE (B:=aC) (by decide) ((hxB.drop n).take (m-2));have hRl':=ig (B:=aC) (by decide) ((hxB.drop n).take (m-2));rw[e9,oz,jX (by omega)]at hRl';rw[rq,rq,rq,show n+(m-1)=n+m-1 by omega,show n+(m-2)=n+m-2 by omega]at hR;have d1:=hvB.getD (B:=aC) (by decide) (m-1);have d2:=hvB.getD (B:=aC) (by decide) (m-2);have d3:=hxB.getD (B:=aC) (by decide) (n+m);have d4:=hxB.getD (B:=aC) (by decide) (n+m-1);have d5:=hxB.getD (B:=aC) (by decide) (n+m-2);have hp:=kL (B:=aC) (by decide) (m-2);have hV0:=gE (B:=aC) (by decide) hvB;simp only[aC]at d1 d2 d3 d4 d5;rw[gJ (z:=x.getD (n+m) 0) d3.1 (by omega),gJ (z:=x.getD (n+m-1) 0) d4.1 (by omega),gJ (z:=v.getD (m-1) 0) d1.1 (by omega),zh d3.1 d3.2 d4.1 d4.2];have t0:0<=x.getD (n+m) 0*4294967296+x.getD (n+m-1) 0:=by omega
   have t1:x.getD (n+m) 0*4294967296+x.getD (n+m-1) 0<18446744073709551616:=by omega
   refine aN (Ex (by omega)) (aN (gn rfl (by omega)) ?_);rw[gJ (z:=v.getD (m-1) 0) d1.1 (by omega)];refine aN (GW (by omega)) ?_;rw[AY t0,CM t0];have hq0:=yF t0 (show 0<=v.getD (m-1) 0 by omega);have hq1:(x.getD (n+m) 0*4294967296+x.getD (n+m-1) 0)/v.getD (m-1) 0<=x.getD (n+m) 0*4294967296+x.getD (n+m-1) 0:=Int.ediv_le_self _ t0;have hm0:=lM (x.getD (n+m) 0*4294967296+x.getD (n+m-1) 0) (show v.getD (m-1) 0≠0 by omega);have hm1:=lO (x.getD (n+m) 0*4294967296+x.getD (n+m-1) 0) hv1;have hdm:=jK (x.getD (n+m) 0*4294967296+x.getD (n+m-1) 0) (v.getD (m-1) 0);rw[show IntKind.u64.wrap ((x.getD (n+m) 0*4294967296+x.getD (n+m-1) 0)/v.getD (m-1) 0)=(x.getD (n+m) 0*4294967296+x.getD (n+m-1) 0)/v.getD (m-1) 0 from gJ hq0 (by omega)];refine Tm.bind (b2_tm (b:=b) (v:=v) (u:=x) (n:=n) (m:=m) (V:=val aC v) (R:=val aC (x.drop n)) (top:=x.getD (n+m) 0*4294967296+x.getD (n+m-1) 0) hb hv hm (by omega) (by omega) rfl rfl rfl ⟨hv1,d1.2⟩ d2 d5 hp hV ⟨hVl,hVl'⟩ hR ⟨hRl,hRl'⟩ hRV
    (by have:=fH (v.getD (m-1) 0) ((x.getD (n+m) 0*4294967296+x.getD (n+m-1) 0)/v.getD (m-1) 0);omega) ⟨hm0,hm1⟩ ⟨hq0,by omega⟩) ?_
   rintro g ⟨g0,g1,hgR,hgV⟩;clear hdm hm0 hm1 hq0 hq1;generalize hRR:val aC (x.drop n)=R at*;generalize hVV:val aC v=V at*;have hsg:iw (((n+m:Nat):Int)+1)=((n+m+1:Nat):Int):=by rw[bJ]<;>omega
   rw[hsg];refine aN (f:=n7 _ _ _) (a:=()) (by unfold n7;rw[if_pos (by omega)]) ?_;refine Tm.bind (Q:=fun r:Bool×List Int=>bB aC r.2/\r.2.length=x.length/\r.2.take n=x.take n/\(∀k,n+m<k->r.2.getD k 0=x.getD k 0)/\((r.1=false/\val aC (r.2.drop n)=R-g*V)\/(r.1=true/\val aC (r.2.drop n)=R-g*V+aC^(m+1)))) ?_ ?_
   . unfold BT;refine Tm.bind (b3_tm (b:=b) (v:=v) (u:=x) (n:=n) (m:=m) (g:=g) hb hv hvB hxB (by omega) (by omega) g0 g1) ?_;rintro⟨z,bo⟩ ⟨z1,z2,z3,z4,z5,z6,z7⟩;dsimp only at*;refine aS ⟨z1,z2,z3,z4,?_⟩;have hva:=Ip (u:=x) (x:=z) (n:=n) (t:=-(g*V)+aC^(m+1)*bo) (by omega) z2 z3 (by rw[z7,hVV,jI aC n (m+1)];grind);rw[hRR]at hva;rcases(show bo=0\/bo=1 by omega)with rfl|rfl
     . exact .inl ⟨rfl,by rw[hva,Int.mul_zero];omega⟩
     . exact .inr ⟨rfl,by rw[hva,yG];omega⟩
   rintro⟨bz,z⟩ ⟨z1,z2,z3,z4,z5⟩;dsimp only at*;have hzn:=gE (B:=aC) (by decide) (z1.drop n);have hzW:val aC (z.drop n)<aC^(m+1):=KL (z1.drop n) (fun j hj=>by rw[rq,z4 _ (by omega)];have:=u4 (hxB.drop n) (by rw[hRR];exact hR1) j hj;rwa[rq]at this);have e1:(g+1)*V=g*V+V:=by grind
   refine Tm.bind (Q:=fun r:List Int×Int=>bB aC r.1/\r.1.length=x.length/\r.1.take n=x.take n/\0<=r.2/\r.2<4294967296/\val aC (r.1.drop n)=R-r.2*V/\val aC (r.1.drop n)<V) ?_ ?_
   . refine aY (fun hz=>?_) (fun hz=>aS ?_)
     . have z6:val aC (z.drop n)=R-g*V+aC^(m+1):=by
        rcases z5 with z5|z5
        . rw[z5.1]at hz;cases hz
        . exact z5.2
       refine Tm.bind (b4_tm (v:=v) (u:=z) (n:=n) (m:=m) hv hvB z1 (by omega) (by omega)) ?_;rintro⟨s,carry⟩ ⟨s1,s2,s3,s4,s5,s6,s7⟩;dsimp only at*;have hset:=fun y=>tF (B:=aC) (l:=s) (n:=n+m) (y:=y) (by omega);rw[<-fY (l:=s) (n:=n+m) (by omega)]at hset;have hsd:=s1.getD (B:=aC) (by decide) (n+m);refine aN (gn rfl (by omega)) (aN (gn rfl (by omega)) (aN (dV rfl (by omega)) (aS ?_)));have hsu:=fun k hk=>s4 k hk;generalize hD:s.getD (n+m) 0=D at*;simp only[aC]at hsd;have ec:dX (D+dX carry)=(D+carry)%4294967296:=by rw[gj,gj];omega
       rw[ec];have hdm:=jK (D+carry) 4294967296;have hdb:0<=(D+carry)%4294967296/\(D+carry)%4294967296<4294967296:=by omega
       generalize(D+carry)%4294967296=D' at*;generalize(D+carry)/4294967296=tt at*;have hB':bB aC (s.set (n+m) D'):=s1.set (by simp only[aC];omega);have hva:=Ip (u:=z) (x:=s.set (n+m) D') (n:=n) (t:=V-aC^(m+1)*tt) (by omega) (by simp;omega) (by rw[yE (by omega)];exact s3) (by
        rw[hset,s7,hVV,jI,fl];have hw:aC=4294967296:=rfl;have e4:D'=D+carry-4294967296*tt:=by omega
        rw[e4];generalize aC^n=P at*;generalize aC^m=Q at*;rw[hw];grind)
       have hlo:=gE (B:=aC) (by decide) (hB'.drop n);have hhi:val aC ((s.set (n+m) D').drop n)<aC^(m+1):=KL (hB'.drop n) (fun j hj=>by
        rw[rq,rB (by omega),if_neg (by omega),s4 _ (by omega),z4 _ (by omega)];have:=u4 (hxB.drop n) (by rw[hRR];exact hR1) j hj;rwa[rq]at this)
       have hpp:=kL (B:=aC) (by decide) (m+1);have hgp:0<g:=by
        rcases qY 0 g with h'|h'
        . exact h'
        . have:g=0:=by omega
          subst this;rw[Int.zero_mul]at z6;omega
       have htt:tt=1:=by
        have e3:tt=0\/tt=1:=by omega
        rcases e3 with e3|e3
        . subst e3;rw[hva,z6,Int.mul_zero]at hhi;omega
        . exact e3
       subst htt;have e5:(g-1)*V=g*V-V:=by grind
       refine⟨hB',by simp;omega,by dsimp only;rw[yE (by omega)];exact s3.trans z3,?_,?_,?_,?_⟩
       . show 0<=uw (g-1);rw[gJ]<;>omega
       . show uw (g-1)<_;rw[gJ]<;>omega
       . show val aC ((s.set (n+m) D').drop n)=R-uw (g-1)*V;rw[gJ (show 0<=g-1 by omega) (by omega),hva,z6,e5,yG];omega
       . show val aC ((s.set (n+m) D').drop n)<V;rw[hva,z6,yG];omega
     . have z6:val aC (z.drop n)=R-g*V:=by
        rcases z5 with z5|z5
        . exact z5.2
        . exact absurd z5.1 hz
       exact⟨z1,z2,z3,g0,g1,z6,by dsimp only;omega⟩
   rintro⟨s,g'⟩ ⟨s1,s2,s3,s4,s5,s6,s7⟩;dsimp only at*;refine aN (gn rfl (by omega)) (aN (dV rfl (by omega)) (aS ?_));have eg:dX g'=g':=by rw[gj];omega
   rw[eg];refine⟨⟨n,by show iw ((n:Int)-1)=_;rw[bJ]<;>omega,by omega,s1,s2.trans hx,hyB.set (by simp only[aC];omega),by simp;omega,?_,s7⟩,?_⟩
   . show val aC u=val aC s+aC^n*(V*val aC ((y.set n g').drop n));rw[eU (by simp;omega),sY,List.getElem_set_self,List.drop_set_of_lt (by omega),hval,pq (B:=aC) (l:=s) n (by omega),s6,s3,pq (B:=aC) (l:=x) n (by omega),hRR,fl];generalize aC^n=P at*;generalize aC=W at*;grind
   . show(iw ((n:Int)-1)+1).toNat<((n:Int)+1).toNat;rw[bJ]<;>omega
 . obtain rfl:k=0:=by omega
   simp only[lH,Int.pow_zero,Int.one_mul]at hval hlt;exact⟨hxB,hx,hyB,hy,hval,hlt⟩
open Go Go.X
theorem Sm{x:Int}{s:Nat}(hs:s<=31)(z:Int)(h:x=2^s*z):x%4294967296%2^s=0:=by
 have hPQ:=BP hs;rw[<-hPQ,Int.emod_emod_of_dvd _ (Int.dvd_mul_right _ _),h,Int.mul_emod_right]
theorem b5_tm{u z:List Int}{n:Int}{s m:Nat}{t:Int}(hn:uw n=s)(hs:s<=31)(hz:z=List.replicate m 0)(huB:bB aC u)(hu:m<u.length)(hul:u.length<=17592186044416)(hm:0<m)(hv:val aC u<aC^m)(ht:val aC u=t*2^s):
 Tm (fun N=>bH (A9 N n u z) N (z,0)) (fun r=>bB aC r/\r.length=m/\val aC r=t):=by
 subst hz;have hPQ:=BP hs;have hP:(0:Int)<2^s:=kr (by decide);have hQ:(0:Int)<2^(32-s):=kr (by decide);have hP31:(2:Int)^s<=2147483648:=j4 (B:=2) (by decide) hs;have c0:u.getD 0 0%2^s=0:=by
  have h1:val aC u%4294967296=u.getD 0 0:=by
   cases u with
   |nil=>simp at hu
   |cons x l=>
    have:=huB.head;simp only[val,List.getD_cons_zero];rw[show aC*val aC l=4294967296*val aC l from rfl,yC];simp only[aC]at this;omega
  rw[<-h1];exact Sm hs t (by rw[ht,fH])
 refine Tm.loop (fun r:List Int×Int=>∃j:Nat,r.2=j/\j<=m/\bB aC r.1/\r.1.length=m/\val aC (r.1.take j)*2^s=val aC (u.take j)+aC^j*(u.getD j 0%2^s)) (fun r=>m-r.2.toNat)
  ⟨0,rfl,by omega,bB.dp (by decide),by simp,by rw[c0];simp[val]⟩ ?_
 rintro⟨r,jj⟩ ⟨j,rfl,hj,hB,hr,hval⟩;dsimp only[A9]at*;rw[gZ];refine aY (fun h=>?_) (fun h=>aS ?_)
 . have hj1:iw ((j:Int)+1)=((j+1:Nat):Int):=by rw[bJ]<;>omega
   rw[hj1,hn];refine aN (gn rfl (by omega)) (aN (gn rfl (by omega)) (aN (xn (by omega)) (aN (gn rfl (by omega)) (aN (dV rfl (by omega)) (aS ?_)))));have hx:=huB.getD (B:=aC) (by decide) j;have hy:=huB.getD (B:=aC) (by decide) (j+1);have hut:=fA (B:=aC) (l:=u) (n:=j);have hts:=fun y=>take_set (l:=r) (n:=j) (y:=y) (by omega);generalize u.getD j 0=x at*;generalize hY:u.getD (j+1) 0=y at*;simp only[aC]at hx hy;rw[gJ hx.1 (by omega),gJ hy.1 (by omega),zh hy.1 hy.2 hx.1 hx.2];have esh:fq .u64 (y*4294967296+x) (s:Int)=(y*4294967296+x)/2^s:=by
    unfold fq;rw[show min ((s:Int)).toNat IntKind.u64.bits=s by show min _ 64=s;omega];exact js _ (ee hP)
   rw[esh];have hx1:=jK x (2^s);have hy1:=jK y (2^s);have hxm0:=lM x (show(2:Int)^s≠0 by omega);have hxm1:=lO x hP;have hym0:=lM y (show(2:Int)^s≠0 by omega);have hym1:=lO y hP;have hxd1:x/2^s<2^(32-s):=Gy hP (by rw[fH,hPQ];omega);have hxd0:0<=x/2^s:=yF hx.1 (by omega);have e1:(y*4294967296+x)/2^s=y*2^(32-s)+x/2^s:=by
    rw[<-hPQ,show y*(2^s*2^(32-s))+x=x+2^s*(y*2^(32-s)) by grind,Int.add_mul_ediv_left _ _ (by omega),Int.add_comm]
   have e2:dX (y*2^(32-s)+x/2^s)=(y%2^s)*2^(32-s)+x/2^s:=by
    have hle:(y%2^s)*2^(32-s)+2^(32-s)<=4294967296:=by
     have:=fm (show y%2^s+1<=2^s by omega) (show(0:Int)<=2^(32-s) by omega);rw[hPQ]at this;have e:(y%2^s+1)*2^(32-s)=(y%2^s)*2^(32-s)+2^(32-s):=by grind
     omega
    have hge:0<=(y%2^s)*2^(32-s):=eH hym0 (by omega);have e3:y*2^(32-s)+x/2^s=(y%2^s)*2^(32-s)+x/2^s+4294967296*(y/2^s):=by
     have e4:4294967296*(y/2^s)=2^s*2^(32-s)*(y/2^s):=by rw[hPQ]
     have e5:y*2^(32-s)=(y%2^s+2^s*(y/2^s))*2^(32-s):=by rw[hy1]
     rw[e4,e5];grind
    rw[gj,e3,yC,vS (by omega) (by omega)]
   rw[e1,e2];have hdig:0<=(y%2^s)*2^(32-s)+x/2^s/\(y%2^s)*2^(32-s)+x/2^s<4294967296:=by
    rw[<-e2,gj];omega
   refine⟨⟨j+1,rfl,by omega,hB.set (by simp only[aC];exact hdig),by simp;omega,?_⟩,?_⟩
   . show val aC ((r.set j _).take (j+1))*2^s=val aC (u.take (j+1))+aC^(j+1)*(u.getD (j+1) 0%2^s);rw[hY];rw[hts,hut,fl];have hw:aC=2^s*2^(32-s):=hPQ.symm;have e6:aC^j*aC*(y%2^s)=aC^j*(2^s*2^(32-s))*(y%2^s):=by rw[<-hw]
     rw[e6];have e7:aC^j*x=aC^j*(x%2^s+2^s*(x/2^s)):=by rw[hx1]
     rw[e7];generalize aC^j=P at*;generalize val aC (r.take j)=a1 at*;generalize val aC (u.take j)=a2 at*;have:(a1+P*((y%2^s)*2^(32-s)+x/2^s))*2^s=a1*2^s+P*((y%2^s)*2^(32-s)+x/2^s)*2^s:=by grind
     rw[this,hval];grind
   . show m-(((j+1:Nat):Int)).toNat<m-((j:Int)).toNat;omega
 . obtain rfl:j=m:=by omega
   rw[kG (by omega),u4 huB hv j (bK _)]at hval;have h1:=wD (B:=aC) (l:=u) (n:=j) (by omega) (fun k hk hmk=>by have:=u4 huB hv k hmk;rwa[fY hk]at this);rw[h1,ht]at hval;simp only[Int.zero_emod,Int.mul_zero,Int.add_zero]at hval;exact⟨hB,hr,Int.eq_of_mul_eq_mul_right (by omega) hval⟩
theorem PL{l:List Int}(h:bB aC l)(hn:fK l)(hl:0<l.length):0<l.getD (l.length-1) 0:=by
 have h1:=h.getD (B:=aC) (by decide) (l.length-1);have h2:l.getD (l.length-1) 0≠0:=by
  intro e;apply hn;rw[Gp,bV (by omega)];rw[fY (by omega)]at e;rw[e]
 omega
theorem J3{a b:List Int}(ha:bB aC a)(hb:bB aC b)(na:fK a)(nb:fK b)(hb0:0<b.length)(hl:a.length<=8796093022208)(hl':b.length<=8796093022208):
 Tm (fun N=>vN N a b) (fun r=>Dg aC r.1 (val aC a/val aC b)/\Dg aC r.2 (val aC a%val aC b)/\r.1.length<=a.length/\r.2.length<=a.length+1):=by
 unfold vN;have hA0:=gE (B:=aC) (by decide) ha;have hB0:=wv (B:=aC) (by decide) hb nb (by intro e;rw[e]at hb0;simp at hb0);refine Tm.bind (zP ha hb na nb (by omega) (by omega)) ?_;rintro _ rfl;refine aY (fun h=>?_) (fun h=>?_)
 . have hlt:val aC a<val aC b:=by revert h;unfold bM;split<;>(try split)<;>omega
   refine Tm.bind (oV ha (by omega)) ?_;rintro r ⟨hr,hrl⟩;refine aS ⟨?_,?_,by simp,by dsimp only;omega⟩
   . rw[Nh hA0 hlt];exact Dg.nil
   . rw[vS hA0 hlt];exact hr
 . have hge:val aC b<=val aC a:=by revert h;unfold bM;split<;>(try split)<;>omega
   have hle:b.length<=a.length:=by
    rcases cw a.length b.length with h'|h'
    . have:=ng my ha hb nb h';omega
    . exact h'
   have hlast:=PL hb nb hb0;have hlast':=hb.getD (B:=aC) (by decide) (b.length-1);refine aY (fun h1=>?_) (fun h1=>?_)
   . have hb1:b.length=1:=by omega
     refine aN (gn (n:=0) rfl (by omega)) ?_;have hbv:val aC b=b.getD 0 0:=by
      match b,hb1 with
      |[x],_=>simp[val]
     rw[hb1]at hlast hlast';simp only[ox]at hlast hlast';refine Tm.bind (I6 ha hlast hlast'.2 (by omega)) ?_;rintro⟨q,r⟩ ⟨hq,hqv,hrv,hql⟩;dsimp only at*;refine Tm.bind (oV hq (by omega)) ?_;rintro q' ⟨hq',hql'⟩;have hr0:=lM (val aC a) (show b.getD 0 0≠0 by omega);have hr1:=lO (val aC a) hlast;refine Tm.bind (oV (d:=[r]) (bB.cons (by rw[hrv];omega) bB.nil) (by simp)) ?_;rintro r' ⟨hr',hrl'⟩;refine aS ⟨?_,?_,by dsimp only;omega,by simp at hrl';dsimp only;omega⟩
     . rw[hbv,<-hqv];exact hq'
     . rw[hbv,<-hrv];simpa[val]using hr'
   . have hm:2<=b.length:=by omega
     generalize hmm:b.length=m at*;have hbm:iw ((m:Int)-1)=((m-1:Nat):Int):=by rw[bJ]<;>omega
     rw[hbm];refine aN (gn rfl (by omega)) ?_;generalize hx:b.getD (m-1) 0=x at*;refine Tm.bind (Qe hlast hlast'.2) ?_;rintro _ ⟨s,rfl,hs,s1,s2⟩;have eus:uw (s:Int)=s:=gJ (by omega) (by omega);refine Tm.bind (HE eus hs ha (by omega)) ?_;rintro u ⟨huB,huv,hul⟩;refine Tm.bind (HE eus hs hb (by omega)) ?_;rintro v0 ⟨hvB0,hvv0,hvl0⟩;refine aN (ri (m:=0) (n:=m) rfl rfl (by omega) (by omega)) ?_;simp only[lH];have hPQ:=BP hs;have hP:(0:Int)<2^s:=kr (by decide);have hQ:(0:Int)<2^(32-s):=kr (by decide);have hP31:(2:Int)^s<=2147483648:=j4 (B:=2) (by decide) hs;have hbt:val aC b=val aC (b.take (m-1))+aC^(m-1)*x:=by
      have:=fA (B:=aC) (l:=b) (n:=m-1);rwa[kG (by omega),hx]at this
     have hbl:=ig (B:=aC) (by decide) (hb.take (m-1));rw[e9,jX (by omega)]at hbl;have hbl0:=gE (B:=aC) (by decide) (hb.take (m-1));have pm:=kL (B:=aC) (by decide) (m-1);have pm1:aC^m=aC^(m-1)*aC:=by rw[<-fl];congr 1;omega
     have hx32:(x+1)*2^s<=4294967296:=by
      have h1:x*2^s<2^(32-s)*2^s:=by rw[fH (2^(32-s)),hPQ];exact s2
      have h2:=Ni h1 (by omega);have h3:=fm (show x+1<=2^(32-s) by omega) (show(0:Int)<=2^s by omega);rw[fH (2^(32-s)),hPQ]at h3;exact h3
     have hv0m:val aC v0<aC^m:=by
      have h1:val aC b<aC^(m-1)*(x+1):=by rw[tw];omega
      have h2:=Nf h1 hP;have h3:=fZ hx32 (show 0<=aC^(m-1) by omega);have e:aC^(m-1)*(x+1)*2^s=aC^(m-1)*((x+1)*2^s):=by grind
      rw[hvv0,pm1];simp only[aC]at*;omega
     have hvv:val aC (v0.take m)=val aC b*2^s:=by
      rw[<-hvv0];exact wD (by omega) (fun k hk hmk=>by have:=u4 hvB0 hv0m k hmk;rwa[fY hk]at this)
     have hvl:(v0.take m).length=m:=by simp;omega
     have hvB:=hvB0.take m;generalize v0.take m=v at*;have hvge:2147483648*aC^(m-1)<=val aC v:=by
      rw[hvv];have h1:=fm (show aC^(m-1)*x<=val aC b by omega) (show(0:Int)<=2^s by omega);have h2:=fZ s1 (show 0<=aC^(m-1) by omega);have e:aC^(m-1)*x*2^s=aC^(m-1)*(x*2^s):=by grind
      rw[fH 2147483648];omega
     have hv1:0<v.getD (m-1) 0:=by
      have h1:val aC v=val aC (v.take (m-1))+aC^(m-1)*v.getD (m-1) 0:=by
       have:=fA (B:=aC) (l:=v) (n:=m-1);rwa[kG (by omega)]at this
      have h2:=ig (B:=aC) (by decide) (hvB.take (m-1));rw[e9,jX (by omega)]at h2;have h3:=hvB.getD (B:=aC) (by decide) (m-1);rcases qY 0 (v.getD (m-1) 0)with h4|h4
      . exact h4
      . have h5:v.getD (m-1) 0=0:=by omega
        rw[h5]at h1;omega
     refine aN (gN (n:=a.length+1-m) (by rw[hul,bJ]<;>omega) (by omega) (by decide)) ?_;have hul2:u.length=(List.replicate (a.length+1-m) (0:Int)).length+m:=by simp;omega
     refine Tm.bind (b1_tm (b:=b) (v:=v) (u:=u) (q:=List.replicate (a.length+1-m) 0) (m:=m) hmm hm hvl hvB huB (bB.dp (by decide)) hul2 (by omega) hv1 ?_) ?_
     . have h1:=pq (B:=aC) (l:=u) (List.replicate (a.length+1-m) (0:Int)).length (by omega);rw[gZ]at h1⊢;have h2:=gE (B:=aC) (by decide) (huB.take (a.length+1-m));have h3:=Nf (ig (B:=aC) (by decide) ha) hP;have p1:aC^a.length=aC^(a.length+1-m)*aC^(m-1):=by rw[<-jI];congr 1;omega
       have h4:aC^(a.length+1-m)*val aC (u.drop (a.length+1-m))<aC^(a.length+1-m)*(aC^(m-1)*2^s):=by
        rw[<-Ng,<-p1];omega
       have h5:=GA h4 (by have:=kL (B:=aC) (by decide) (a.length+1-m);omega);have h6:=fZ hP31 (show 0<=aC^(m-1) by omega);rw[fH 2147483648]at hvge;omega
     rintro⟨u',q⟩ ⟨hu'B,hu'l,hqB,hql,hAv,hlt⟩;dsimp only at*;refine aN (gN (n:=m) rfl (by omega) (by decide)) ?_;have hu0:=gE (B:=aC) (by decide) hu'B;have ht:val aC u'=(val aC a-val aC b*val aC q)*2^s:=by
      rw[huv,hvv]at hAv;have e:(val aC a-val aC b*val aC q)*2^s=val aC a*2^s-val aC b*2^s*val aC q:=by grind
      omega
     have hr0:0<=val aC a-val aC b*val aC q:=by
      rcases qY (val aC a-val aC b*val aC q) 0 with h1|h1
      . have:=fm (show val aC a-val aC b*val aC q≤-1 by omega) (show(0:Int)<=2^s by omega);omega
      . exact h1
     have hr1:val aC a-val aC b*val aC q<val aC b:=by
      rw[ht,hvv]at hlt;exact Ni hlt (by omega)
     refine Tm.bind (b5_tm (u:=u') (n:=(s:Int)) (s:=s) (m:=m) eus hs rfl hu'B (by omega) (by omega) (by omega) (by have:=ig (B:=aC) (by decide) hvB;rw[hvl]at this;omega) ht) ?_;rintro r ⟨hrB,hrl,hrv⟩;refine Tm.bind (oV hqB (by rw[hql];simp;omega)) ?_;rintro q' ⟨hq',hql'⟩;refine Tm.bind (oV hrB (by omega)) ?_;rintro r' ⟨hr',hrl'⟩;have hdm:=(GC (a:=val aC a) (b:=val aC b) (r:=val aC a-val aC b*val aC q) (q:=val aC q) hB0).2 ⟨by omega,hr0,hr1⟩;rw[gZ]at hql;refine aS ⟨?_,?_,by dsimp only;omega,by dsimp only;omega⟩
     . rw[hdm.1];exact hq'
     . rw[hdm.2,<-hrv];exact hr'
structure DivP (a b:Int)(r:aB×aB×Bool):Prop where
 ok:r.2.2=decide (b≠0)
 quo:Is r.1 (a.fdiv b)
 rem:Is r.2.1 (if b=0 then 0 else a.fmod b)
theorem G9{x y:Int}(hx:0<=x)(hy:0<y):(-x).fdiv (-y)=x/y/\(-x).fmod (-y)=-(x%y):=by
 have h1:(-x).fdiv (-y)=x.fdiv y:=GF _ _;rw[h1,js _ (by omega)];refine⟨rfl,?_⟩;have h2:=GG (-x) (-y);rw[h1,js _ (by omega)]at h2;have h3:=jK x y;have e:-y*(x/y)=-(y*(x/y)):=by grind
 omega
theorem KZ{x y:Int}(hy:0<y):(-x).fdiv y=(if x%y=0 then-(x/y)else-(x/y+1))/\(-x).fmod y=(if x%y=0 then 0 else y-x%y):=by
 rw[js _ (by omega),GH _ (by omega)];have h3:=jK x y;have h4:=lM x (show y≠0 by omega);have h5:=lO x hy;split
 . rename_i h;have:=(GC (a:=-x) (b:=y) (r:=0) (q:=-(x/y)) hy).2 ⟨by have e:y*-(x/y)=-(y*(x/y)):=(by grind);omega,by omega,by omega⟩;exact this
 . have:=(GC (a:=-x) (b:=y) (r:=y-x%y) (q:=-(x/y+1)) hy).2 ⟨by have e:y*-(x/y+1)=-(y*(x/y))-y:=(by grind);omega,by omega,by omega⟩;exact this
theorem Kd{x y:Int}:x.fdiv (-y)=(-x).fdiv y/\x.fmod (-y)=-((-x).fmod y):=by
 have h1:x.fdiv (-y)=(-x).fdiv y:=by rw[<-GF x,Int.neg_neg]
 refine⟨h1,?_⟩;have h2:=GG x (-y);have h3:=GG (-x) y;rw[h1]at h2;have e:-y*(-x).fdiv y=-(y*(-x).fdiv y):=by grind
 omega
theorem inB1:bB aC [1]:=bB.cons (by decide) bB.nil
theorem RC{a b:aB}(ha:bB aC a.aP)(hb:bB aC b.aP)(hl:a.aP.length<=4398046511104)(hl':b.aP.length<=4398046511104):
 Tm (fun N=>kz N a b) (fun r=>DivP (bv a) (bv b) r/\r.1.aP.length<=a.aP.length+2/\r.2.1.aP.length<=max (a.aP.length+1) b.aP.length):=by
 unfold kz;refine Tm.bind (o6 ha (by omega)) ?_;rintro x ⟨hx,hxl⟩;refine Tm.bind (o6 hb (by omega)) ?_;rintro y ⟨hy,hyl⟩;have hz:=hy.dg.zero (by decide);refine aY (fun h=>aS ?_) (fun h=>?_)
 . have h0:bv b=0:=by have:=hz.1 (mo.1 (by omega));omega
   refine⟨⟨by simp[h0],?_,?_⟩,by simp,by simp⟩
   . rw[h0,Nj];exact⟨Dg.nil,rfl⟩
   . rw[if_pos h0];exact⟨Dg.nil,rfl⟩
 . have h0:bv b≠0:=fun e=>h (by rw[hz.2 (by omega)];rfl);have hyl0:0<y.aP.length:=by omega
   have vx:=hx.zB;have vy:=hy.zB;have n1:=hx.neg;have n2:=hy.neg;have X0:=gE (B:=aC) (by decide) hx.dg.bL;refine Tm.bind (J3 hx.dg.bL hy.dg.bL hx.dg.fi hy.dg.fi hyl0 (by omega) (by omega)) ?_;rintro⟨q,r⟩ ⟨hq,hr,hql,hrl⟩;dsimp only at*;generalize hX:val aC x.aP=X at*;generalize hY:val aC y.aP=Y at*;have Y0:0<Y:=by rw[vy];split<;>omega
   have hr0:=lM X (show Y≠0 by omega);have hr1:=lO X Y0;have hq0:=yF X0 (show 0<=Y by omega);have hrz:=hr.zero (by decide);refine aY (fun hs=>?_) (fun hs=>?_)
   . 
     have hab:(bv a).fdiv (bv b)=(-X).fdiv Y/\(bv a).fmod (bv b)=if y.bF=true then-((-X).fmod Y)else(-X).fmod Y:=by
      have hs':¬x.bF=y.bF:=by simpa using hs
      by_cases p:bv a<0<;>by_cases p':bv b<0<;>simp only[p,p',decide_true,decide_false,if_true,if_false]at n1 n2 vx vy
      . rw[n1,n2]at hs';exact absurd rfl hs'
      . rw[n2,show bv a=-X by omega,show bv b=Y by omega];simp
      . rw[n2,show bv a=X by omega,show bv b=-Y by omega];simpa using Kd
      . rw[n1,n2]at hs';exact absurd rfl hs'
     have hdd:=KZ (x:=X) Y0;refine Tm.bind (Q:=fun t:List Int×List Int=>bB aC t.1/\bB aC t.2∧-(val aC t.1)=(-X).fdiv Y/\val aC t.2=(-X).fmod Y/\t.1.length<=x.aP.length+2/\t.2.length<=max (x.aP.length+1) y.aP.length) (aY (fun hrp=>?_) (fun hrp=>aS ?_)) ?_
     . have hrne:X%Y≠0:=fun e=>by have:=hrz.2 e;rw[this]at hrp;simp at hrp
       rw[if_neg hrne,if_neg hrne]at hdd;refine Tm.bind (JI hq.bL inB1 (by omega) (by simp)) ?_;rintro q1 ⟨hq1,hq1v,hq1l⟩;have hle:r.length<=y.aP.length:=by
        rcases cw y.aP.length r.length with h'|h'
        . have:=ng my hy.dg.bL hr.bL hr.fi h';rw[hY,hr.val]at this;omega
        . exact h'
       refine Tm.bind (DY hy.dg.bL hr.bL (by omega) hle (by rw[hY,hr.val];omega)) ?_;rintro r1 ⟨hr1B,hr1v,hr1l⟩;refine aS ⟨hq1,hr1B,?_,?_,?_,by dsimp only;omega⟩
       . rw[hdd.1,hq1v,hq.val];simp[val]
       . rw[hdd.2,hr1v,hY,hr.val]
       . simp only[cz,dM]at hq1l;dsimp only;omega
     . have hre:r=[]:=mo.1 (by omega);have hrz':=hrz.1 hre;rw[if_pos hrz',if_pos hrz']at hdd;refine⟨hq.bL,hr.bL,?_,?_,by dsimp only;omega,by dsimp only;omega⟩
       . rw[hdd.1,hq.val]
       . rw[hdd.2,hr.val,hrz']
     rintro⟨q1,r1⟩ ⟨hq1,hr1B,hq1v,hr1v,hq1l,hr1l⟩;dsimp only at*;refine Tm.bind (lU hq1 (by omega)) ?_;rintro q2 ⟨hq2,hq2l⟩;refine Tm.bind (lU hr1B (by omega)) ?_;rintro r2 ⟨hr2,hr2l⟩;refine aS ⟨⟨by simp[h0],?_,?_⟩,by dsimp only;omega,by dsimp only;omega⟩
     . rw[hab.1,<-hq1v];simpa using hq2
     . rw[if_neg h0,hab.2,<-hr1v];exact hr2
   . 
     have hs':x.bF=y.bF:=by simpa using hs
     have hab:(bv a).fdiv (bv b)=X/Y/\(bv a).fmod (bv b)=if y.bF=true then-(X%Y)else X%Y:=by
      by_cases p:bv a<0<;>by_cases p':bv b<0<;>simp only[p,p',decide_true,decide_false,if_true,if_false]at n1 n2 vx vy
      . rw[n2,show bv a=-X by omega,show bv b=-Y by omega];simpa using G9 X0 Y0
      . rw[n1,n2]at hs';cases hs'
      . rw[n1,n2]at hs';cases hs'
      . rw[n2,show bv a=X by omega,show bv b=Y by omega,js _ (by omega),GH _ (by omega)];simp
     refine Tm.bind (lU hq.bL (by omega)) ?_;rintro q2 ⟨hq2,hq2l⟩;refine Tm.bind (lU hr.bL (by omega)) ?_;rintro r2 ⟨hr2,hr2l⟩;refine aS ⟨⟨by simp[h0],?_,?_⟩,by dsimp only;omega,by dsimp only;omega⟩
     . rw[hab.1,<-hq.val];simpa using hq2
     . rw[if_neg h0,hab.2,<-hr.val];exact hr2
open Go Go.X
theorem EB{B:Int}(hB:1<B){a b:List Int}(ha:bB B a)(hb:bB B b)(nb:fK b)(h:val B b<=val B a):b.length<=a.length:=by
 rcases cw a.length b.length with h'|h'
 . have:=ng hB ha hb nb h';omega
 . exact h'
def vI(j:Nat):Int:=if j=0 then 0 else 2^(j-1)
theorem zJ(j:Nat):vI (j+1)=2^j:=by simp[vI]
theorem UF(j:Nat)(hj:j<16):iw (Int.tdiv (vI (j+1)) 2)=vI j:=by
 rw[zJ];cases j with
 |zero=>decide
 |succ j=>
  rw[zJ,AY (ee (kr (by decide))),fl,Int.mul_ediv_cancel _ (by decide)];have h1:=kL (B:=2) (by decide) j;have h2:=j4 (B:=2) (by decide) (show j<=15 by omega);have e:(2:Int)^15=32768:=by decide
  rw[bJ]<;>omega
theorem Rh{x:Int}(hx:0<=x)(j:Nat):x/2^j=2*(x/2^(j+1))+x/2^j%2:=by
 have h:=jK (x/2^j) 2;have e:x/2^j/2=x/2^(j+1):=by rw[Int.ediv_ediv_of_nonneg (ee (kr (by decide))),fl]
 rw[e]at h;omega
theorem NR{a b q r:List Int}{n:Nat}{H Qh:Int}(ha:bB aW a)(hb:bB aW b)(nb:fK b)(hb0:0<val aW b)(hla:a.length<=4398046511104)(hlb:b.length<=4398046511104)(hn:n<a.length)(hq:q.length=a.length)(hqB:bB aW q)(hqn:q.getD n 0=0)
 (hr:Dg aW r (val aW r))(hrlt:val aW r<val aW b)(hI:H=val aW b*Qh+val aW r):
 Tm (fun N=>bH (BB N a b n) N (q,r,32768)) (fun t=>t.1.length=a.length/\bB aW t.1/\Dg aW t.2 (val aW t.2)/\val aW t.2<val aW b/\(∀m,m≠n->t.1.getD m 0=q.getD m 0)/\H*65536+a.getD n 0=val aW b*(Qh*65536+t.1.getD n 0)+val aW t.2):=by
 have hx:=ha.getD (B:=aW) (by decide) n;generalize hxx:a.getD n 0=x at*;simp only[aW]at hx;have key:∀r:List Int,Dg aW r (val aW r)->val aW r<val aW b->r.length<=b.length:=fun r h1 h2=>EB om hb h1.bL h1.fi (by omega);refine Tm.loop (fun t:List Int×List Int×Int=>∃(j:Nat) (y:Int),t.2.2=vI j/\j<=16/\t.1.length=a.length/\bB aW t.1/\Dg aW t.2.1 (val aW t.2.1)/\val aW t.2.1<val aW b/\(∀m,m≠n->t.1.getD m 0=q.getD m 0)/\0<=y/\y<2^(16-j)/\t.1.getD n 0=y*2^j/\H*2^(16-j)+x/2^j=val aW b*(Qh*2^(16-j)+y)+val aW t.2.1) (fun t=>t.2.2.toNat)
  ⟨16,0,rfl,bK _,hq,hqB,hr,hrlt,fun _ _=>rfl,by simp,by simp,by rw[hqn];simp,?_⟩ ?_
 . show H*2^(16-16)+x/2^16=_;have e:(2:Int)^16=65536:=by decide
   rw[e,Nh hx.1 hx.2];simp;omega
 rintro⟨qq,rr,bit⟩ ⟨j,y,rfl,hj,hql,hqqB,hrr,hrrlt,hoth,y0,y1,hy,hI2⟩;dsimp only[BB]at*;have hr0:=hrr.xR (by decide);cases j with
 |zero=>
  refine cA (by decide) (aS ⟨hql,hqqB,hrr,hrrlt,hoth,?_⟩);simp only[Nat.sub_zero,Int.pow_zero,yG,Int.ediv_one]at hy hI2;have e:(2:Int)^16=65536:=by decide
  rw[e]at hI2;show H*65536+x=val aW b*(Qh*65536+qq.getD n 0)+val aW rr;rw[hy];exact hI2
 |succ j=>
  have hhalf:=UF j (by omega);rw[hhalf];rw[zJ];have hP:=kr (n:=2) (m:=j) (by decide);have hP2:(2:Int)^j<=32768:=j4 (B:=2) (by decide) (show j<=15 by omega);refine db (by omega) ?_;have hrl:=key rr hrr hrrlt;refine Tm.bind (yV hrr.bL hrr.bL (by omega) (by omega)) ?_;rintro r2 ⟨hr2,hr2l⟩;refine aN (gn rfl (by omega)) ?_;rw[hxx];refine aN (Ex (by omega)) ?_;rw[AY hx.1];have hd0:=yF hx.1 (show(0:Int)<=2^j by omega);have hd1:x/2^j<=x:=Int.ediv_le_self _ hx.1;rw[show IntKind.i64.wrap (x/2^j)=x/2^j from wi64 (by omega) (by omega),CM hd0];have hhb:=Rh hx.1 j;have hv:val aW r2=val aW rr+val aW rr:=hr2.val;have r3:Tm (fun N=>if x/2^j%2=1 then(oK N r2 [1]).bind fun r1352=>some r1352 else some r2) (fun t=>Dg aW t (2*val aW rr+x/2^j%2)/\t.length<=b.length+2):=by
   refine aY (fun h=>?_) (fun h=>aS ⟨?_,by omega⟩)
   . refine Tm.bind (yV hr2.bL (bB.cons (by decide) bB.nil) (by omega) (by simp)) ?_;rintro t ⟨ht,htl⟩;refine aS ⟨?_,by simp only[cz,dM]at htl;omega⟩;rw[hv]at ht;simp only[val]at ht;rw[h,show 2*val aW rr+1=val aW rr+val aW rr+(1+aW*0) by omega];exact ht
   . rw[show 2*val aW rr+x/2^j%2=val aW rr+val aW rr by omega];exact hr2
  refine Tm.bind r3 ?_;rintro r3 ⟨h3,h3l⟩;refine Tm.bind (Ji h3.bL hb h3.fi nb (by omega) (by omega)) ?_;rintro _ rfl;rw[h3.val];have hbit:0<=x/2^j%2/\x/2^j%2<=1:=by omega
  have hsub:16-j=(16-(j+1))+1:=by omega
  have hy2:(2:Int)^(16-j)=2*2^(16-(j+1)):=by rw[hsub,fl,fH]
  have hyj:y*2^(j+1)=2*y*2^j:=by rw[fl];grind
  have hmeas:(vI j).toNat<((2:Int)^j).toNat:=by
   cases j with
   |zero=>decide
   |succ j=>
    rw[zJ,fl];have:=kr (n:=2) (m:=j) (by decide);omega
  refine aY (fun h=>?_) (fun h=>aS ⟨⟨j,2*y,rfl,by omega,hql,hqqB,by rw[h3.val];exact h3,?_,hoth,by omega,by omega,by rw[hy,hyj],?_⟩,hmeas⟩)
  . have hge:val aW b<=2*val aW rr+x/2^j%2:=by revert h;unfold bM;split<;>(try split)<;>omega
    have hle:b.length<=r3.length:=EB om h3.bL hb nb (by rw[h3.val];exact hge);refine Tm.bind (Db h3.bL hb (by omega) hle (by rw[h3.val];exact hge)) ?_;rintro r4 ⟨h4,h4l⟩;rw[h3.val]at h4;have hqn:=hqqB.getD (B:=aW) (by decide) n;refine aN (gn rfl (by omega)) (aN (gn rfl (by omega)) (aN (dV rfl (by omega)) (aS ?_)));simp only[aW]at hqn;rw[hy,hyj]at hqn⊢;have hq2:2*y*2^j+2^j=(2*y+1)*2^j:=by grind
    have hlt:(2*y+1)*2^j<65536:=by
     have h5:=fm (show 2*y+1+1<=2^(16-j) by omega) (show(0:Int)<=2^j by omega);rw[<-jI,show 16-j+j=16 by omega]at h5;have e:(2:Int)^16=65536:=by decide
     have e2:(2*y+1+1)*2^j=(2*y+1)*2^j+2^j:=by grind
     omega
    rw[show iw (2*y*2^j+2^j)=(2*y+1)*2^j by rw[bJ]<;>omega];refine⟨⟨j,2*y+1,rfl,by omega,by simp;omega,hqqB.set (by simp only[aW];omega),by rw[h4.val];exact h4,by dsimp only;rw[h4.val];omega,fun m hm=>?_,by omega,by omega,?_,?_⟩,hmeas⟩
    . show(qq.set n _).getD m 0=_;rw[rB (by omega),if_neg (fun e=>hm e.symm)];exact hoth m hm
    . show(qq.set n _).getD n 0=_;rw[rB (by omega),if_pos rfl]
    . show H*2^(16-j)+x/2^j=val aW b*(Qh*2^(16-j)+(2*y+1))+val aW r4;rw[h4.val,hy2,hhb];generalize val aW b=B at*;generalize val aW rr=R at*;generalize(2:Int)^(16-(j+1))=T at*;generalize x/2^(j+1)=X at*;generalize x/2^j%2=z at*;grind
  . show val aW r3<val aW b;rw[h3.val];revert h;unfold bM;split<;>(try split)<;>omega
  . show H*2^(16-j)+x/2^j=val aW b*(Qh*2^(16-j)+2*y)+val aW r3;rw[h3.val,hy2,hhb];generalize val aW b=B at*;generalize val aW rr=R at*;generalize(2:Int)^(16-(j+1))=T at*;generalize x/2^(j+1)=X at*;generalize x/2^j%2=z at*;grind
theorem RQ{a b:List Int}(ha:bB aW a)(hb:bB aW b)(nb:fK b)(hb0:0<val aW b)(hla:a.length<=4398046511104)(hlb:b.length<=4398046511104):
 Tm (fun N=>wC N a b) (fun t=>Dg aW t.1 (val aW a/val aW b)/\Dg aW t.2 (val aW a%val aW b)/\t.1.length<=a.length/\t.2.length<=b.length):=by
 unfold wC;refine aN (gN rfl (by omega) (by decide)) ?_;refine Tm.bind (Q:=fun t:List Int×List Int=>t.1.length=a.length/\bB aW t.1/\Dg aW t.2 (val aW t.2)/\val aW t.2<val aW b/\val aW a=val aW b*val aW t.1+val aW t.2)
  (Tm.loop (fun t:List Int×List Int×Int=>∃k:Nat,t.2.2=(k:Int)-1/\k<=a.length/\t.1.length=a.length/\bB aW t.1/\Dg aW t.2.1 (val aW t.2.1)/\val aW t.2.1<val aW b/\(∀m,m<k->t.1.getD m 0=0)/\val aW (a.drop k)=val aW b*val aW (t.1.drop k)+val aW t.2.1) (fun t=>(t.2.2+1).toNat)
   ⟨a.length,by rw[bJ]<;>omega,bK _,by simp,bB.dp (by decide),Dg.nil,by simpa[val]using hb0,fun m hm=>by rw[fY (by simpa using hm)];simp,by simp[val]⟩ ?_) ?_
 . rintro⟨q,r,i⟩ ⟨k,rfl,hk,hq,hqB,hr,hrlt,hz,hv⟩;dsimp only[Dz]at*;refine aY (fun h=>?_) (fun h=>aS ?_)
   . obtain⟨n,rfl⟩:∃n,k=n+1:=⟨k-1,by omega⟩;have hi:((n+1:Nat):Int)-1=(n:Int):=by omega
     rw[hi];refine Tm.bind (NR (n:=n) ha hb nb hb0 hla hlb (by omega) hq hqB (hz n (by omega)) hr hrlt hv) ?_;rintro⟨q',r'⟩ ⟨h1,h2,h3,h4,h5,h6⟩;dsimp only at*;refine aS ⟨⟨n,by show iw ((n:Int)-1)=_;rw[bJ]<;>omega,by omega,h1,h2,h3,h4,fun m hm=>?_,?_⟩,?_⟩
     . show q'.getD m 0=0;rw[h5 m (by omega)];exact hz m (by omega)
     . show val aW (a.drop n)=val aW b*val aW (q'.drop n)+val aW r';have hqd:q'.drop (n+1)=q.drop (n+1):=by
        apply pR (by simp;omega);intro i g1 g2;rw[yD,yD];have:=h5 (n+1+i) (by omega);simp only[oz]at g1 g2;rwa[fY (by omega),fY (by omega)]at this
       rw[eU (l:=a) (by omega),eU (l:=q') (by omega),sY,sY,hqd,<-fY (l:=a),<-fY (l:=q')];have hw:aW=65536:=rfl;rw[hw]at*;generalize val 65536 (a.drop (n+1))=H at*;generalize val 65536 (q.drop (n+1))=Qh at*;have e1:a.getD n 0+65536*H=H*65536+a.getD n 0:=by omega
       have e2:q'.getD n 0+65536*Qh=Qh*65536+q'.getD n 0:=by omega
       rw[e1,e2];exact h6
     . show(iw ((n:Int)-1)+1).toNat<((n:Int)+1).toNat;rw[bJ]<;>omega
   . obtain rfl:k=0:=by omega
     simp only[lH]at hv;exact⟨hq,hqB,hr,hrlt,hv⟩
 . rintro⟨q,r⟩ ⟨hq,hqB,hr,hrlt,hv⟩;dsimp only at*;refine Tm.bind (tS hqB (by omega)) ?_;rintro q' ⟨hq',hql⟩;have hr0:=hr.xR (by decide);have hdm:=(GC (a:=val aW a) (b:=val aW b) (r:=val aW r) (q:=val aW q) hb0).2 ⟨by omega,hr0,hrlt⟩;refine aS ⟨?_,?_,by dsimp only;omega,EB om hb hr.bL hr.fi (show val aW r<=val aW b by omega)⟩
   . rw[hdm.1];exact hq'
   . rw[hdm.2];exact hr
theorem HM{a b:aB}(ha:bB aC a.aP)(hb:bB aC b.aP)(hl:a.aP.length<=1099511627776)(hl':b.aP.length<=1099511627776):
 Tm (fun N=>uq N a b) (fun r=>DivP (bv a) (bv b) r):=by
 unfold uq;refine Tm.bind (nB hb (by omega)) ?_;rintro _ rfl;refine aY (fun h=>aS ?_) (fun h=>?_)
 . have h0:bv b=0:=by revert h;unfold bM;split<;>(try split)<;>omega
   exact⟨by simp[h0],by rw[h0,Nj];exact⟨Dg.nil,rfl⟩,by rw[if_pos h0];exact⟨Dg.nil,rfl⟩⟩
 . have h0:bv b≠0:=by revert h;unfold bM;split<;>(try split)<;>omega
   refine Tm.bind (oE ha (by omega)) ?_;rintro l ⟨hl1,hl2⟩;refine Tm.bind (oE hb (by omega)) ?_;rintro m ⟨hm1,hm2⟩;have A0:=gE (B:=aC) (by decide) ha;have B0:=gE (B:=aC) (by decide) hb;have hbv:bv b=if b.bF=true then-val aC b.aP else val aC b.aP:=rfl;have hav:bv a=if a.bF=true then-val aC a.aP else val aC a.aP:=rfl;have B1:0<val aC b.aP:=by revert h0;rw[hbv];split<;>omega
   refine Tm.bind (RQ hl1.bL hm1.bL hm1.fi (by rw[hm1.val];exact B1) (by omega) (by omega)) ?_;rintro⟨q,r⟩ ⟨hq,hr,hql,hrl⟩;rw[hl1.val,hm1.val]at hq hr;dsimp only at*;refine Tm.bind (pI (neg:=!(a.bF==b.bF)) hq.bL (by omega)) ?_;rintro q1 ⟨hq1,hq1l⟩;refine Tm.bind (pI (neg:=a.bF) hr.bL (by omega)) ?_;rintro r1 ⟨hr1,hr1l⟩;rw[hq.val]at hq1;rw[hr.val]at hr1;generalize hA:val aC a.aP=A at*;generalize hB:val aC b.aP=B at*;have m0:=lM A (show B≠0 by omega);have m1:=lO A B1;have hdd:=KZ (x:=A) B1;have hds:=G9 A0 B1;have hdn:=Kd (x:=A) (y:=B);generalize hQ:(if(!(a.bF==b.bF))=true then-(A/B)else A/B)=Q at*;generalize hR:(if a.bF=true then-(A%B)else A%B)=R at*;have hfd:(bv a).fdiv (bv b)=(if bM R 0≠0/\bM R 0≠bM (bv b) 0 then Q-1 else Q)/\(bv a).fmod (bv b)=(if bM R 0≠0/\bM R 0≠bM (bv b) 0 then R+bv b else R):=by
    have sp:bM B 0=1:=by unfold bM;rw[if_neg (by omega),if_pos (by omega)]
    have sn:bM (-B) 0=-1:=by unfold bM;rw[if_pos (by omega)]
    rw[hav,hbv];cases hna:a.bF<;>cases hnb:b.bF<;>simp only[hna,hnb]at hQ hR<;>simp at hQ hR<;>subst hQ<;>subst hR
    . simp only[ml,if_false,sp];have e:¬(bM (A%B) 0≠0/\bM (A%B) 0≠1):=by unfold bM;rw[if_neg (by omega)];split<;>omega
      rw[if_neg e,if_neg e,js _ (by omega),GH _ (by omega)];exact⟨rfl,rfl⟩
    . simp only[ml,if_false,if_true,sn];rw[hdn.1,hdn.2,hdd.1,hdd.2];by_cases e0:A%B=0
      . have e:¬(bM (A%B) 0≠0/\bM (A%B) 0≠-1):=by rw[e0];decide
        rw[if_neg e,if_neg e,if_pos e0,if_pos e0];omega
      . have e:bM (A%B) 0≠0/\bM (A%B) 0≠-1:=by unfold bM;rw[if_neg (by omega),if_pos (by omega)];decide
        rw[if_pos e,if_pos e,if_neg e0,if_neg e0];omega
    . simp only[ml,if_false,if_true,sp];rw[hdd.1,hdd.2];by_cases e0:A%B=0
      . have e:¬(bM (-(A%B)) 0≠0/\bM (-(A%B)) 0≠1):=by rw[e0];decide
        rw[if_neg e,if_neg e,if_pos e0,if_pos e0];omega
      . have e:bM (-(A%B)) 0≠0/\bM (-(A%B)) 0≠1:=by unfold bM;rw[if_pos (by omega)];decide
        rw[if_pos e,if_pos e,if_neg e0,if_neg e0];omega
    . simp only[if_true,sn];have e:¬(bM (-(A%B)) 0≠0/\bM (-(A%B)) 0≠-1):=by unfold bM;split<;>(try split)<;>omega
      rw[if_neg e,if_neg e];exact hds
   have hr1v:=hr1.bv;refine Tm.bind (Q:=(·=decide (bM R 0≠0/\bM R 0≠bM (bv b) 0))) (Tm.bind (nB hr1.dg.bL (by omega)) ?_) ?_
   . rintro _ rfl;rw[hr1v];refine aY (fun h1=>?_) (fun h1=>aS ?_)
     . refine Tm.bind (nB hr1.dg.bL (by omega)) ?_;rintro _ rfl;refine Tm.bind (nB hb (by omega)) ?_;rintro _ rfl;rw[hr1v];refine aS ?_;simp[h1]
     . simp at h1;simp[h1]
   rintro _ rfl;refine Tm.bind (Q:=fun t:aB×aB=>Is t.1 ((bv a).fdiv (bv b))/\Is t.2 ((bv a).fmod (bv b))) ?_ ?_
   . rw[hfd.1,hfd.2];refine aY (fun h1=>?_) (fun h1=>aS ?_)
     . have h1:=of_decide_eq_true h1;refine Tm.bind (sD (n:=1) (by decide) (by decide)) ?_;rintro o ⟨ho,hol⟩;refine Tm.bind (Jn hq1.dg.bL ho.dg.bL (by omega) (by omega)) ?_;rintro q2 ⟨hq2,_⟩;refine Tm.bind (xG hr1.dg.bL hb (by omega) (by omega)) ?_;rintro r2 ⟨hr2,_⟩;rw[hq1.bv,ho.bv]at hq2;rw[hr1v]at hr2;refine aS ⟨?_,?_⟩
       . rw[if_pos h1];exact hq2
       . rw[if_pos h1];exact hr2
     . have h1:¬(bM R 0≠0/\bM R 0≠bM (bv b) 0):=by simpa using h1
       rw[if_neg h1,if_neg h1];exact⟨hq1,hr1⟩
   . rintro⟨q2,r2⟩ ⟨hq2,hr2⟩;exact aS ⟨by simp[h0],hq2,by rw[if_neg h0];exact hr2⟩
open Go Go.X
abbrev lg:bA:=⟨[],⟨false,[]⟩⟩
theorem uf{xs:List aB}{i:Int}{n:Nat}(e:i=(n:Int))(h:n<xs.length):idx xs i=some (xs.getD n eN):=by
 rw[sr h];exact gC e h
theorem D9{xs:List bA}{i:Int}{n:Nat}(e:i=(n:Int))(h:n<xs.length):idx xs i=some (xs.getD n lg):=by
 rw[cy,bV h];exact gC e h
theorem MA{l:List aB}{n m:Nat}{y:aB}(h:n<l.length):(l.set n y).getD m eN=if n=m then y else l.getD m eN:=by
 rw[cy,cy,qS];by_cases e:n=m
 . subst e;simp[h]
 . simp[e]
theorem Ei{l:List bA}{n:Nat}(h:n<l.length):l.getD n lg∈l:=by
 rw[cy,bV h];exact dt h
theorem J1{l:List aB}{n:Nat}(h:n<l.length):l.getD n eN∈l:=by
 rw[cy,bV h];exact dt h
def iu(n:Nat)(c:List aB)(f:Nat->Int):Prop:=c.length=n/\∀j,j<n->Is (c.getD j eN) (f j)
theorem iu.uniq{n:Nat}{c c':List aB}{f:Nat->Int}(h:iu n c f)(h':iu n c' f):c=c':=by
 apply pR (h.1.trans h'.1.symm);intro i h1 h2;have g1:=h.2 i (by rw[<-h.1];exact h1);have g2:=h'.2 i (by rw[<-h.1];exact h1);rw[sr h1]at g1;rw[sr h2]at g2;exact g1.uniq g2
theorem Kq{ρ:Type}{body:Nat->List aB×Int->Option (aK (List aB×Int) ρ)}{fin:List aB->ρ}{bad:ρ}{n K K':Nat}{f g:Nat->Int}{F:Nat->Prop}{c0:List aB}(hn:n<=1073741824)(h0:iu n c0 f)(hk0:∀j,j<n->(c0.getD j eN).aP.length<=K)
 (step:∀k,k<n->∀c:List aB,c.length=n->Is (c.getD k eN) (f k)->(c.getD k eN).aP.length<=K->
  Tm (fun N=>body N (c,(k:Int))) (fun s=>(∃y,s=.next (c.set k y,iw ((k:Int)+1))/\Is y (g k)/\y.aP.length<=K'/\¬F k)\/(s=.done bad/\F k)))
 (stop:∀c:List aB,c.length=n->Tm (fun N=>body N (c,(n:Int))) (fun s=>s=.done (fin c))):
 Tm (fun N=>bH (body N) N (c0,0)) (fun r=>(∃c,r=fin c/\iu n c g/\(∀j,j<n->(c.getD j eN).aP.length<=K')/\∀k,k<n->¬F k)\/(r=bad/\∃k,k<n/\F k)):=by
 refine Tm.loop (fun t:List aB×Int=>∃k:Nat,t.2=k/\k<=n/\t.1.length=n/\(∀j,j<k->Is (t.1.getD j eN) (g j)/\(t.1.getD j eN).aP.length<=K'/\¬F j)/\∀j,k<=j->j<n->Is (t.1.getD j eN) (f j)/\(t.1.getD j eN).aP.length<=K) (fun t=>n-t.2.toNat)
  ⟨0,rfl,fC _,h0.1,fun j hj=>absurd hj (by omega),fun j _ hj=>⟨h0.2 j hj,hk0 j hj⟩⟩ ?_
 rintro⟨c,kk⟩ ⟨k,rfl,hk,hc,h1,h2⟩;dsimp only at*;rcases cw k n with hkn|hkn
 . refine(step k hkn c hc (h2 k (bK _) hkn).1 (h2 k (bK _) hkn).2).mono ?_;rintro s (⟨y,rfl,hy,hyl,hF⟩|⟨rfl,hF⟩)
   . refine⟨⟨k+1,by show iw ((k:Int)+1)=_;rw[bJ]<;>omega,by omega,by simp;omega,fun j hj=>?_,fun j hj hjn=>?_⟩,?_⟩
     . show Is ((c.set k y).getD j eN) (g j)/\((c.set k y).getD j eN).aP.length<=K'/\¬F j;rw[MA (by omega)];by_cases e:k=j
       . subst e;rw[if_pos rfl];exact⟨hy,hyl,hF⟩
       . rw[if_neg e];exact h1 j (by omega)
     . show Is ((c.set k y).getD j eN) (f j)/\((c.set k y).getD j eN).aP.length<=K;rw[MA (by omega),if_neg (by omega)];exact h2 j (by omega) hjn
     . show n-(iw ((k:Int)+1)).toNat<n-((k:Int)).toNat;rw[bJ]<;>omega
   . exact .inr ⟨rfl,k,hkn,hF⟩
 . obtain rfl:k=n:=by omega
   refine(stop c hc).mono ?_;rintro s rfl;exact .inl ⟨c,rfl,⟨hc,fun j hj=>(h1 j hj).1⟩,fun j hj=>(h1 j hj).2.1,fun j hj=>(h1 j hj).2.2⟩
def nV(l:List bA):Nat:=(l.getD 0 lg).aZ.length
def mj(l:List bA):Prop:=∀q∈l,q.aZ.length=nV l
instance (l:List bA):Decidable (mj l):=inferInstanceAs (Decidable (∀q∈l,q.aZ.length=nV l))
def mO(l:List bA)(u:dQ):Prop:=u.Index<0\/(l.length:Int)<=u.Index\/bv u.N<0
instance (l:List bA)(u:dQ):Decidable (mO l u):=inferInstanceAs (Decidable (_\/_\/_))
def w5(l:List bA)(u:dQ)(a:(Nat->Int)×Int):(Nat->Int)×Int:=(fun j=>a.1 j+bv u.N*bv ((l.getD u.Index.toNat lg).aZ.getD j eN),a.2+bv u.N*bv (l.getD u.Index.toNat lg).dz)
def lY(l:List bA):List dQ->(Nat->Int)×Int->Option ((Nat->Int)×Int)
 |[],a=>some a
 |u::us,a=>if mO l u then none else lY l us (w5 l u a)
def mS(l:List bA)(s:Step)(r:bA×Bool):Prop:= if mj l/\0<bv s.gh then match lY l s.Uses (fun _=>0,0)with
  |none=>r=(lg,false)
  |some (f,b)=>if∀j,j<nV l->f j%bv s.gh=0 then r.2=true/\iu (nV l) r.1.aZ (fun j=>f j/bv s.gh)/\Is r.1.dz (b/bv s.gh)else r=(lg,false) else r=(lg,false)
theorem mS.uniq{l:List bA}{s:Step}{r r':bA×Bool}(h:mS l s r)(h':mS l s r'):r=r':=by
 unfold mS at h h';split at h
 . rename_i hc;rw[if_pos hc]at h';cases hs:lY l s.Uses (fun _=>0,0)with
   |none=>rw[hs]at h h';exact h.trans h'.symm
   |some a=>
    rw[hs]at h h';obtain⟨f,b⟩:=a;dsimp only at h h';split at h
    . rename_i hd;rw[if_pos hd]at h';obtain⟨⟨c,d⟩,t⟩:=r;obtain⟨⟨c',d'⟩,t'⟩:=r';have h1:c=c':=h.2.1.uniq h'.2.1;have h2:d=d':=h.2.2.uniq h'.2.2;have h3:t=t':=h.1.trans h'.1.symm;subst h1;subst h2;subst h3;rfl
    . rename_i hd;rw[if_neg hd]at h';exact h.trans h'.symm
 . rename_i hc;rw[if_neg hc]at h';exact h.trans h'.symm
theorem PC{a:Int}:0<bM a 0↔0<a:=by unfold bM;(repeat' split)<;>omega
structure OkS (s:Step):Prop where
 len:s.Uses.length<=12
 use:∀u∈s.Uses,jG 4 u.N
 div:jG 4 s.gh
theorem D4{l:List bA}(hl:l.length<=9223372036854775807):Tm (fun N=>u9 N l) (fun r=>r=decide (mj l)):=by
 unfold u9;refine Tm.bind (Tm.each (body:=fun N=>wG N l) l (fun q=>q.aZ.length=nV l) (Q:=fun r=>(r=.inl ()/\mj l)\/(r=.inr false/\¬mj l)) hl ?_ ?_) ?_
 . intro n hn hP;dsimp only[wG];refine db (by omega) (aN (dd hn) (aN (D9 (n:=0) rfl (by omega)) ?_));refine aY (fun h=>aS (.inr ⟨_,rfl,.inr ⟨rfl,fun he=>?_⟩⟩)) (fun h=>aS (.inl ⟨rfl,?_⟩))
   . have:=he _ (dt hn);unfold nV at this;omega
   . unfold nV;omega
 . intro hP;dsimp only[wG];exact cA (by omega) (aS ⟨_,rfl,.inl ⟨rfl,hP⟩⟩)
 . rintro _ (⟨rfl,h⟩|⟨rfl,h⟩)
   . exact aS (by simp[h])
   . exact aS (by simp[h])
theorem mj.get{l:List bA}(h:mj l){n:Nat}(hn:n<l.length):(l.getD n lg).aZ.length=nV l:=h _ (Ei hn)
theorem iu.dp{n:Nat}:iu n (List.replicate n eN) (fun _=>0):=⟨by simp,fun j hj=>by rw[sr (by simpa using hj)];simpa using is0⟩
theorem drop_cons{l:List dQ}{k:Nat}(h:k<l.length):l.drop k=l[k]::l.drop (k+1):=eU h
open Go Go.X
theorem pJ.same{q:bA}{vs:List Int}{b:Int}(h:pJ q vs b)(hv:∀v∈vs,(v.natAbs:Int)<aC^2)(hb:(b.natAbs:Int)<aC^2)(hl:vs.length<=512):qQ 512 q:=by
 refine⟨by rw[h.1.1];exact hl,fun x hx=>?_,h.2.dg.bL,by have:=h.2.len hb;omega⟩;obtain⟨j,hj,rfl⟩:=Gl.1 hx;have:=h.1.2 j hj (by rw[<-h.1.1];exact hj);exact⟨this.dg.bL,by have:=this.len (hv _ (dt _));omega⟩
theorem Ln{z:Int}(h:eY z):(z.natAbs:Int)<aC^2:=by unfold eY at h;have e:aC^2=18446744073709551616:=(by decide);omega
theorem HI{z:Int}(h:eY z):((-z).natAbs:Int)<aC^2:=by unfold eY at h;have e:aC^2=18446744073709551616:=(by decide);omega
theorem od.ok{c:Constraint}{n:Int}{r:List bA}(hc:nA c)(h:od c n r):r.length<=2/\∀q∈r,qQ 512 q:=by
 rcases h with⟨_,rfl⟩|⟨hR,q,hq,h⟩
 . exact⟨by simp,fun q hq=>by cases hq⟩
 . have hn:(fW c n c.Linear.aZ.length).length<=512:=by rw[se];have:=hR.2;omega
   have h1:qQ 512 q:=hq.same (fun v hv=>Ln (zl hc v hv)) (HI hc.const) hn;rcases h with⟨_,rfl⟩|⟨_,q',hq',rfl⟩
   . exact⟨by simp,fun p hp=>by simp at hp;exact hp▸h1⟩
   . have h2:qQ 512 q':=hq'.same (fun v hv=>by obtain⟨u,hu,rfl⟩:=dL.1 hv;exact HI (zl hc u hu)) (Ln hc.const) (by simpa using hn);refine⟨by simp,fun p hp=>?_⟩;simp only[dT,M4,or_false]at hp;rcases hp with rfl|rfl
     . exact h1
     . exact h2
def kx(n:Int):List Constraint->List bA->Prop
 |[],r=>r=[]
 |c::l,r=>∃a b,od c n a/\kx n l b/\r=a++b
theorem kx.uniq{n:Int}:∀{l:List Constraint} {r s:List bA},kx n l r->kx n l s->r=s
 |[],_,_,h,h'=>h.trans h'.symm
 |_::_,_,_,⟨a,b,h1,h2,h3⟩,⟨a',b',g1,g2,g3⟩=>by rw[h3,g3,h1.uniq g1,kx.uniq h2 g2]
theorem kx.snoc{n:Int}:∀{l:List Constraint} {c:Constraint} {r a:List bA},kx n l r->od c n a->kx n (l++[c]) (r++a)
 |[],_,_,a,h,h'=>⟨a,[],h',rfl,by rw[show _=[] from h];simp⟩
 |_::_,_,_,_,⟨x,y,h1,h2,h3⟩,h'=>⟨x,_,h1,h2.snoc h',by rw[h3];simp⟩
theorem kx.ok{n:Int}:∀{l:List Constraint} {r:List bA},(∀c∈l,nA c)->kx n l r->r.length<=2*l.length/\∀q∈r,qQ 512 q
 |[],_,_,h=>by rw[show _=[] from h];exact⟨by simp,fun q hq=>by cases hq⟩
 |c::l,_,hc,⟨a,b,h1,h2,h3⟩=>by
  have e1:=h1.ok (hc c cK);have e2:=h2.ok (fun c h=>hc c (cG _ h));subst h3;refine⟨by simp;omega,fun q hq=>?_⟩;rcases fb.1 hq with h|h
  . exact e1.2 q h
  . exact e2.2 q h
def qG(l:List Constraint)(n:Int)(r:List bA):Prop:=((∀c∈l,fF c n)/\kx n l r)\/(¬(∀c∈l,fF c n)/\r=[])
theorem qG.uniq{l:List Constraint}{n:Int}{r s:List bA}(h:qG l n r)(h':qG l n s):r=s:=by
 rcases h with⟨h1,h2⟩|⟨h1,rfl⟩<;>rcases h' with⟨g1,g2⟩|⟨g1,rfl⟩
 . exact h2.uniq g2
 . exact absurd h1 g1
 . exact absurd g1 h1
 . rfl
theorem Q1{l:List Constraint}{n:Int}(hc:∀c∈l,nA c)(hl:l.length<=1000):Tm (fun N=>uP N l n) (qG l n):=by
 unfold uP;refine Tm.bind (Tm.loop (fun s:List bA×Int=>∃k:Nat,s.2=k/\k<=l.length/\(∀c∈l.take k,fF c n)/\kx n (l.take k) s.1) (fun s=>l.length-s.2.toNat)
  (Q:=fun r=>qG l n (match r with|.inl a=>a|.inr a=>a)) ⟨0,rfl,fC _,by simp,rfl⟩ ?_) (fun r h=>by cases r<;>exact aS h)
 rintro⟨out,i⟩ ⟨k,rfl,hk,hR,hS⟩;dsimp only[Dr]at*;refine aY (fun h1=>?_) (fun h1=>aS ?_)
 . have hkl:k<l.length:=by omega
   have hck:=hc _ (dt hkl);refine aN (dd hkl) (Tm.bind (IU hck.len) ?_);intro r hr;refine aY (fun h=>aS (.inr ⟨fun e=>?_,rfl⟩)) (fun h=>Tm.bind (QW hck) ?_)
   . rw[hr.2 (e _ (dt hkl))]at h;cases h
   . intro a ha;have h2:=hS.ok (fun c h=>hc c (tu h));have h3:=ha.ok hck;have h4:(l.take k).length<=1000:=by simp;omega
     refine aN (dP (by omega) (by decide)) (aS ⟨⟨k+1,by dsimp only;rw[bJ]<;>omega,by omega,?_,?_⟩,?_⟩)
     . rw[pQ hkl];intro c hc';rcases fb.1 hc' with h'|h'
       . exact hR c h'
       . rw[cI.1 h'];exact hr.1 (by simpa using h)
     . rw[pQ hkl];exact hS.snoc ha
     . show l.length-(iw ((k:Int)+1)).toNat<l.length-((k:Int)).toNat;rw[bJ]<;>omega
 . rw[eV (by omega)]at hR hS;exact .inl ⟨hR,hS⟩
theorem Ps{l:List Constraint}{n:Int}(hc:∀c∈l,nA c)(hl:l.length<=1000):Tm (fun N=>xO N l n) (qG l n):=by
 unfold xO;refine Tm.bind (Tm.loop (fun s:List bA×Int=>∃k:Nat,s.2=k/\k<=l.length/\(∀c∈l.take k,fF c n)/\kx n (l.take k) s.1) (fun s=>l.length-s.2.toNat)
  (Q:=fun r=>qG l n (match r with|.inl a=>a|.inr a=>a)) ⟨0,rfl,fC _,by simp,rfl⟩ ?_) (fun r h=>by cases r<;>exact aS h)
 rintro⟨out,i⟩ ⟨k,rfl,hk,hR,hS⟩;dsimp only[EN]at*;refine aY (fun h1=>?_) (fun h1=>aS ?_)
 . have hkl:k<l.length:=by omega
   have hck:=hc _ (dt hkl);refine aN (dd hkl) (Tm.bind (DC hck.len) ?_);intro r hr;refine aY (fun h=>aS (.inr ⟨fun e=>?_,rfl⟩)) (fun h=>aN (dd hkl) (Tm.bind (Tw hck) ?_))
   . rw[hr.2 (e _ (dt hkl))]at h;cases h
   . intro a ha;have h2:=hS.ok (fun c h=>hc c (tu h));have h3:=ha.ok hck;have h4:(l.take k).length<=1000:=by simp;omega
     refine aN (dP (by omega) (by decide)) (aS ⟨⟨k+1,by dsimp only;rw[bJ]<;>omega,by omega,?_,?_⟩,?_⟩)
     . rw[pQ hkl];intro c hc';rcases fb.1 hc' with h'|h'
       . exact hR c h'
       . rw[cI.1 h'];exact hr.1 (by simpa using h)
     . rw[pQ hkl];exact hS.snoc ha
     . show l.length-(iw ((k:Int)+1)).toNat<l.length-((k:Int)).toNat;rw[bJ]<;>omega
 . rw[eV (by omega)]at hR hS;exact .inl ⟨hR,hS⟩
open Go Go.X
def nC(vs xs:List Int):Nat->Int
 |0=>0
 |n+1=>nC vs xs n+vs.getD n 0*xs.getD n 0
theorem Lu{l xs:List Int}{v:Nat}{y:Int}(hv:v<l.length):∀n,nC (l.set v y) xs n=nC l xs n+(if v<n then(y-l.getD v 0)*xs.getD v 0 else 0)
 |0=>by simp[nC]
 |n+1=>by
  rw[nC,nC,Lu hv n];rcases Nk v n with h|h|h
  . have:(l.set v y).getD n 0=l.getD n 0:=by rw[cy,cy,vQ (by omega)]
    rw[this,if_pos h,if_pos (by omega)];grind
  . subst h;have:(l.set v y).getD v 0=y:=by rw[cy,yv hv];rfl
    rw[this,if_neg (by omega),if_pos (by omega)];grind
  . have:(l.set v y).getD n 0=l.getD n 0:=by rw[cy,cy,vQ (by omega)]
    rw[this,if_neg (by omega),if_neg (by omega)];grind
theorem Mb{xs:List Int}{m:Nat}:∀n,nC (List.replicate m 0) xs n=0
 |0=>rfl
 |n+1=>by
  rw[nC,Mb n];have:(List.replicate m (0:Int)).getD n 0=0:=by
   rcases cw n m with hn|hn
   . rw[fY (by simpa using hn)];simp
   . rw[mW (by simpa using hn)]
  rw[this];simp
theorem MI{c:Constraint}{n:Int}(h:fF c n):∀{i k:Nat},(hik:i<k)->(hk:k<c.Linear.aZ.length)->(c.Linear.aZ[i]'(by omega)).Var<c.Linear.aZ[k].Var:=by
 intro i k
 induction k with
 |zero=>intro h;omega
 |succ k ih=>
  intro hik hk;have h1:=(h.1 (k+1) hk).2.2 (by omega);simp only[MY]at h1;rcases cw i k with h2|h2
  . have:=ih h2 (by omega);omega
  . obtain rfl:i=k:=by omega
    exact h1
theorem UB{c:Constraint}{n:Int}(h:fF c n):(c.Linear.aZ.length:Int)<=n:=by
 have key:∀k,(hk:k<c.Linear.aZ.length)->(k:Int)<=c.Linear.aZ[k].Var:=by
  intro k
  induction k with
  |zero=>intro hk;have:=(h.1 0 hk).1;omega
  |succ k ih=>intro hk;have:=ih (by omega);have:=MI h (show k<k+1 by omega) hk;omega
 rcases gw c.Linear.aZ.length with h0|h0
 . have:=h.2;omega
 . have h1:=key (c.Linear.aZ.length-1) (by omega);have h2:=(h.1 (c.Linear.aZ.length-1) (by omega)).2.1;omega
theorem OE{c:Constraint}{n:Int}(h:fF c n){k:Nat}(hk:k<=c.Linear.aZ.length){j:Nat}(hj:∀i,(hi:i<k)->(c.Linear.aZ[i]'(by omega)).Var≠j):(fW c n k).getD j 0=0:=by
 induction k with
 |zero=>
  simp only[fW,Nc,Nd];rcases cw j n.toNat with hn|hn
  . rw[fY (by simpa using hn)];simp
  . rw[mW (by simpa using hn)]
 |succ k ih=>
  rw[w7 (by omega),qa,cy,vQ]
  . rw[<-cy];exact ih (by omega) (fun i hi=>hj i (by omega))
  . have h1:=hj k (by omega);have h2:=(h.1 k (by omega)).1;omega
def qJ(c:Constraint)(x:List Int):Nat->Int
 |0=>0
 |k+1=>qJ c x k+(c.Linear.aZ.getD k ⟨0,0⟩).N*x.getD (c.Linear.aZ.getD k ⟨0,0⟩).Var.toNat 0
theorem getDc{l:List gU}{n:Nat}(h:n<l.length):l.getD n ⟨0,0⟩=l[n]:=by rw[cy,bV h];rfl
theorem Ur{c:Constraint}{x:List Int}(h:fF c x.length):∀{k:Nat},k<=c.Linear.aZ.length->nC (fW c x.length k) x x.length=qJ c x k:=by
 intro k
 induction k with
 |zero=>intro _;simp only[fW,Nc,Nd];rw[Mb];rfl
 |succ k ih=>
  intro hk;have hv:=h.1 k (by omega);have hz:(fW c x.length k).getD c.Linear.aZ[k].Var.toNat 0=0:=OE h (by omega) (fun i hi=>by have:=MI h hi (by omega);omega);rw[w7 (by omega),qa,Lu (by rw[se];omega),ih (by omega),if_pos (by omega),hz,qJ,getDc (by omega)];grind
open Go Go.X
theorem jG.abs{K:Nat}{x:aB}(h:jG K x):((bv x).natAbs:Int)<aC^K:=by
 have h0:=gE (B:=aC) (by decide) h.1;have h1:=ig (B:=aC) (by decide) h.1;have h2:=j4 (B:=aC) (by decide) h.2;unfold bv;split<;>omega
theorem P8{K:Nat}{l:List bA}{s:Step}(hK:K<=536870912)(hl:l.length<=1073741824)(hq:∀q∈l,qQ K q)(hs:OkS s):Tm (fun N=>ya N l s) (fun r=>mS l s r):=by
 unfold ya;refine Tm.bind (Q:=(·=decide (¬(mj l/\0<bv s.gh)))) (Tm.bind (D4 (by omega)) ?_) ?_
 . rintro _ rfl;refine aY (fun h=>aS ?_) (fun h=>?_)
   . have:¬mj l:=by simpa using h
     simp[this]
   . have he:mj l:=by simpa using h
     refine Tm.bind (nB hs.div.1 (by have:=hs.div.2;omega)) ?_;rintro _ rfl;refine aS ?_;have:=PC (a:=bv s.gh);by_cases h1:0<bv s.gh
     . have h2:=this.2 h1;simp[he,h1];omega
     . have h2:¬0<bM (bv s.gh) 0:=fun e=>h1 (this.1 e);simp[h1];omega
 rintro _ rfl;refine aY (fun h=>aS ?_) (fun h=>?_)
 . unfold mS;rw[if_neg (of_decide_eq_true h)]
 . have hc:mj l/\0<bv s.gh:=by simpa using h
   obtain⟨he,hd⟩:=hc;have hn:nV l<=K:=by
    rcases gw l.length with h0|h0
    . have:l=[]:=mo.1 h0;subst this;simp[nV]
    . exact(hq _ (Ei h0)).1
   refine Tm.bind (Q:=(·=(nV l:Int))) (aY (fun h1=>aN (D9 (n:=0) rfl (by omega)) (aS rfl)) (fun h1=>aS ?_)) ?_
   . have:l=[]:=mo.1 (by omega);subst this;simp[nV]
   rintro _ rfl;refine Tm.bind (Q:=(·=⟨List.replicate (nV l) eN,eN⟩)) (by unfold vH;exact aN (gN rfl (by omega) (by decide)) (aS rfl)) ?_;rintro _ rfl;dsimp only;refine Tm.bind (Q:=fun r:Sum (List aB×Bool×List Int) (bA×Bool)=>(∃f c neg ds,r=.inl (c,neg,ds)/\lY l s.Uses (fun _=>0,0)=some (f,bv ⟨neg,ds⟩)/\iu (nV l) c f/\(∀j,j<nV l->(c.getD j eN).aP.length<=K+16)/\jG (K+16) ⟨neg,ds⟩)\/(r=.inr (lg,false)/\lY l s.Uses (fun _=>0,0)=none))
    (Tm.loop (fun t:List aB×Bool×List Int×Int=>∃(k:Nat) (f:Nat->Int),t.2.2.2=k/\k<=s.Uses.length/\lY l s.Uses (fun _=>0,0)=lY l (s.Uses.drop k) (f,bv ⟨t.2.1,t.2.2.1⟩)/\iu (nV l) t.1 f/\(∀j,j<nV l->(t.1.getD j eN).aP.length<=K+4+k)/\jG (K+4+k) ⟨t.2.1,t.2.2.1⟩) (fun t=>s.Uses.length-t.2.2.2.toNat)
     ⟨0,fun _=>0,rfl,fC _,by rw[lH,Ts],iu.dp,fun j hj=>by rw[sr (by simpa using hj)];simp,.nil⟩ ?_) ?_
   . rintro⟨c,neg,ds,kk⟩ ⟨k,f,rfl,hk,hsum,hcf,hcl,hb⟩;have hlen:=hs.len;dsimp only[C6]at*;refine aY (fun h1=>?_) (fun h1=>aS ?_)
     . have hku:k<s.Uses.length:=by omega
       refine aN (dd hku) ?_;have hu:=hs.use _ (dt hku);rw[drop_cons hku]at hsum;generalize s.Uses[k]=u at*;simp only[lY]at hsum;refine Tm.bind (Q:=(·=decide (mO l u))) (aY (fun h2=>aS ?_) (fun h2=>aY (fun h3=>aS ?_) (fun h3=>?_))) ?_
       . have:mO l u:=.inl h2;simp[this]
       . have:mO l u:=.inr (.inl (by omega));simp[this]
       . refine Tm.bind (nB hu.1 (by have:=hu.2;omega)) ?_;rintro _ rfl;refine aS ?_;have:=Ad (a:=bv u.N);unfold mO;by_cases h4:bv u.N<0
         . simp[h4,this.2 h4]
         . have:¬bM (bv u.N) 0<0:=fun e=>h4 (this.1 e);simp[h4,this];omega
       rintro _ rfl;refine aY (fun h2=>aS ?_) (fun h2=>?_)
       . rw[if_pos (of_decide_eq_true h2)]at hsum;exact .inr ⟨rfl,hsum⟩
       . have hbu:¬mO l u:=by simpa using h2
         rw[if_neg hbu]at hsum;have hi:0<=u.Index/\u.Index<l.length/\0<=bv u.N:=by unfold mO at hbu;omega
         have hii:u.Index=(u.Index.toNat:Int):=by omega
         have hil:u.Index.toNat<l.length:=by omega
         refine aN (D9 hii hil) ?_;have hqq:=hq _ (Ei hil);have hqn:=he.get hil;generalize hQ:l.getD u.Index.toNat lg=q at*;have hu4:=hu.2;have hqb:=hqq.2.2.2;have inner:=Kq (ρ:=List aB) (body:=fun N=>xJ N (nV l:Int) u q) (fin:=fun c=>c) (bad:=[]) (n:=nV l) (K:=K+4+k) (K':=K+4+(k+1)) (f:=f) (g:=fun j=>f j+bv u.N*bv (q.aZ.getD j eN)) (F:=fun _=>False) (c0:=c) (by omega) hcf hcl
          (fun j hj c' hc' h3 h4=>by
           dsimp only[xJ];have hqj:=hqq.2.1 _ (J1 (l:=q.aZ) (n:=j) (by omega));have:=hqj.2;refine db (by omega) (aN (uf rfl (by omega)) (aN (uf rfl (by omega)) (Tm.bind (De hqj.1 hu.1 (by omega) (by omega)) ?_)));rintro m ⟨hm,hml⟩;refine Tm.bind (xG h3.dg.bL hm.dg.bL (by omega) (by omega)) ?_;rintro a ⟨ha,hal⟩;refine aN (uf rfl (by omega)) (aN (dV rfl (by omega)) (aS (.inl ⟨a,rfl,?_,by omega,fun e=>e⟩)));rw[h3.bv,hm.bv,fH]at ha;exact ha)
          (fun c' hc'=>by dsimp only[xJ];exact cA (by omega) (aS rfl))
         refine Tm.bind inner ?_;rintro c2 (⟨_,rfl,hc2,hc2l,-⟩|⟨-,j,hj,hF⟩)
         . refine Tm.bind (De hqq.2.2.1 hu.1 (by omega) (by omega)) ?_;rintro m ⟨hm,hml⟩;have hb2:ds.length<=K+4+k:=hb.2;refine Tm.bind (xG hb.1 hm.dg.bL (show ds.length<=_ by omega) (by omega)) ?_;rintro a ⟨ha,hal⟩;dsimp only at hal;refine aS ⟨⟨k+1,_,by show iw ((k:Int)+1)=_;rw[bJ]<;>omega,by omega,?_,hc2,hc2l,ha.ok ?_⟩,?_⟩
           . show lY l s.Uses (fun _=>0,0)=lY l (s.Uses.drop (k+1)) (_,bv a);rw[ha.bv,hm.bv,hsum,fH (bv q.dz)];unfold w5;rw[hQ]
           . omega
           . show s.Uses.length-(iw ((k:Int)+1)).toNat<s.Uses.length-((k:Int)).toNat;rw[bJ]<;>omega
         . exact hF.elim
     . have hkL:k=s.Uses.length:=by omega
       subst hkL;rw[Ch]at hsum;exact .inl ⟨f,c,neg,ds,rfl,hsum,hcf,fun j hj=>by have:=hcl j hj;omega,hb.mono (by omega)⟩
   . rintro _ (⟨f,c,neg,ds,rfl,hsum,hcf,hcl,hb⟩|⟨rfl,hsum⟩)
     . dsimp only;have hb2:ds.length<=K+16:=hb.2;have hdv:=hs.div.2;have inner:=Kq (ρ:=Sum (List aB) (bA×Bool)) (body:=fun N=>xc N s (nV l:Int)) (fin:=fun c=>.inl c) (bad:=.inr (lg,false)) (n:=nV l) (K:=K+16) (K':=K+20) (f:=f) (g:=fun j=>f j/bv s.gh) (F:=fun j=>¬f j%bv s.gh=0) (c0:=c) (by omega) hcf hcl
        (fun j hj c' hc' h3 h4=>by
         dsimp only[xc];refine db (by have:=hcf.1;omega) (aN (uf rfl (by omega)) (Tm.bind (HM h3.dg.bL hs.div.1 (by omega) (by omega)) ?_));rintro⟨qq,rr,oo⟩ hD;have hquo:=hD.quo;have hrem:=hD.rem;dsimp only at hquo hrem;rw[h3.bv,js _ (by omega)]at hquo;rw[h3.bv,if_neg (by omega),GH _ (by omega)]at hrem;have hrl:=hrem.len (k:=4) (by have:=hs.div.abs;have m0:=lM (f j) (show bv s.gh≠0 by omega);have m1:=lO (f j) hd;omega);have hql:=hquo.len (k:=K+16) (by have:=(h3.ok h4).abs;rw[h3.bv]at this;have:=Int.natAbs_ediv_le_natAbs (f j) (bv s.gh);omega);refine Tm.bind (nB hrem.dg.bL (show rr.aP.length<=_ by omega)) ?_;rintro _ rfl;rw[hrem.bv];refine aY (fun h5=>aS (.inr ⟨rfl,fun e=>h5 (Ar.2 e)⟩)) (fun h5=>?_);refine aN (uf rfl (by omega)) (aN (dV rfl (by omega)) (aS (.inl ⟨qq,rfl,hquo,by omega,fun e=>e (Ar.1 (by omega))⟩))))
        (fun c' hc'=>by dsimp only[xc];exact cA (by have:=hcf.1;omega) (aS rfl))
       refine Tm.bind inner ?_;rintro _ (⟨c2,rfl,hc2,hc2l,hall⟩|⟨rfl,j,hj,hF⟩)
       . refine Tm.bind (HM hb.1 hs.div.1 (show ds.length<=_ by omega) (by omega)) ?_;rintro⟨qq,rr,oo⟩ hD;have hquo:=hD.quo;dsimp only at hquo;rw[js _ (by omega)]at hquo;refine aS ?_;unfold mS;rw[if_pos ⟨he,hd⟩,hsum];dsimp only;rw[if_pos (fun j hj=>tB.1 (hall j hj))];exact⟨rfl,hc2,hquo⟩
       . refine aS ?_;unfold mS;rw[if_pos ⟨he,hd⟩,hsum];dsimp only;rw[if_neg (fun h=>hF (h j hj))]
     . refine aS ?_;unfold mS;rw[if_pos ⟨he,hd⟩,hsum]
open Go Go.X
def qI(n:Nat):List Int:=if h:n=0 then[]else((n%4294967296:Nat):Int)::qI (n/4294967296)
termination_by n
decreasing_by omega
theorem Uh(n:Nat):Dg aC (qI n) n:=by
 induction n using Nat.strongRecOn with
 |ind n ih=>
  rw[qI];split
  . rename_i h;subst h;exact Dg.nil
  . rename_i h;have h1:=ih (n/4294967296) (by omega);refine⟨h1.bL.cons ⟨by omega,by show((n%4294967296:Nat):Int)<4294967296;omega⟩,?_,?_⟩
    . unfold fK;cases hd:qI (n/4294967296)with
      |nil=>
       have:n/4294967296=0:=by have:=(h1.zero (by decide)).1 hd;omega
       simp;omega
      |cons x r=>rw[U9,<-hd];exact h1.fi
    . rw[sY,h1.val];show((n%4294967296:Nat):Int)+4294967296*((n/4294967296:Nat):Int)=n;omega
def B(v:Int):aB:=⟨decide (v<0),qI v.natAbs⟩
theorem mR(v:Int):Is (B v) v:=⟨Uh _,rfl⟩
theorem pf{x:aB}{v:Int}(h:Is x v):x=B v:=h.uniq (mR v)
theorem gz(v:Int):bv (B v)=v:=(mR v).bv
theorem bL(v:Int):bB aC (B v).aP:=(mR v).dg.bL
theorem B0:B 0=⟨false,[]⟩:=by unfold B;rw[show(0:Int).natAbs=0 from rfl,qI];rfl
def dl(v:Int):Nat:=(B v).aP.length
theorem okB{v:Int}{K:Nat}(h:dl v<=K):jG K (B v):=⟨bL v,h⟩
theorem rV{v:Int}{k:Nat}(h:(v.natAbs:Int)<aC^k):dl v<=k:=(mR v).len h
theorem tE(v:Int):(v.natAbs:Int)<aC^dl v:=by have:=(okB (v:=v) (bK _)).abs;rwa[gz]at this
theorem rz{a b:Int}(h:a.natAbs<=b.natAbs):dl a<=dl b:=rV (by have:=tE b;omega)
theorem Fy{m n:Nat}(h:m<=n):aC^m<=aC^n:=j4 (by decide) h
theorem oO{a b:Int}{K:Nat}(ha:dl a<=K)(hb:dl b<=K):dl (a+b)<=K+1:=by
 apply rV;have h1:=tE a;have h2:=tE b;have h3:=Fy ha;have h4:=Fy hb;rw[fl];have h5:=kL (B:=aC) (by decide) K;have h6:aC^K*2<=aC^K*aC:=fZ (by decide) (ee h5);omega
theorem fV(a:Int):dl (-a)=dl a:=Nat.le_antisymm (rz (by omega)) (rz (by omega))
theorem jU{a b:Int}{K:Nat}(ha:dl a<=K)(hb:dl b<=K):dl (a-b)<=K+1:=by
 rw[Gw];exact oO ha (by rw[fV];exact hb)
theorem j6(a b:Int):dl (a*b)<=dl a+dl b:=by
 apply rV;have h1:=tE a;have h2:=tE b;rw[yH,Gi,jI];exact Int.mul_lt_mul' (ee h1) h2 (by omega) (by omega)
theorem ie:dl 0=0:=by unfold dl;rw[B0];rfl
theorem jP{a:Int}(h:a.natAbs<4294967296):dl a<=1:=rV (by show(a.natAbs:Int)<4294967296^1;omega)
theorem DB{a:Int}(h:a.natAbs<18446744073709551616):dl a<=2:=rV (by show(a.natAbs:Int)<4294967296^2;omega)
theorem jw:dl 1<=1:=jP (by decide)
theorem K5{a b:Int}:(a.fdiv b).natAbs<=a.natAbs:=by
 rcases tC b 0 with h|h|h
 . have e:a.fdiv b=(-a).fdiv (-b):=(GF a b).symm;rw[e,js _ (by omega)];have h1:0< -b:=by omega
   generalize-b=c at h1;have h2:=jK (-a) c;have h3:=lM (-a) (show c≠0 by omega);have h4:=lO (-a) h1;generalize(-a)/c=q at*;generalize(-a)%c=r at*;rcases qY q 0 with hq|hq
   . have:=fm (show(1:Int)<=c by omega) (show 0≤-q by omega);have e2:c*-q=-(c*q):=by grind
     have:c+c*q<=0:=by
      have:=fZ (show q≤-1 by omega) (show 0<=c by omega);omega
     have h7:(c-1)*(-q-1)≥0:=eH (by omega) (by omega);have e3:(c-1)*(-q-1)=-(c*q)-c+q+1:=by grind
     omega
   . have:=fm (show(1:Int)<=c by omega) hq;omega
 . subst h;rw[Nj];omega
 . rw[js _ (by omega)];have h2:=jK a b;have h3:=lM a (show b≠0 by omega);have h4:=lO a h;generalize a/b=q at*;generalize a%b=r at*;rcases qY q 0 with hq|hq
   . have:b+b*q<=0:=by
      have:=fZ (show q≤-1 by omega) (show 0<=b by omega);omega
     have h7:(b-1)*(-q-1)≥0:=eH (by omega) (by omega);have e3:(b-1)*(-q-1)=-(b*q)-b+q+1:=by grind
     omega
   . have:=fm (show(1:Int)<=b by omega) hq;omega
theorem rh(a b:Int):dl (a.fdiv b)<=dl a:=rz K5
theorem Dk{a b:Int}(h:0<=b):dl (a/b)<=dl a:=by rw[<-js a h];exact rh a b
abbrev cZ:Nat:=1099511627776
section
variable {a b:Int}
theorem mG(ha:dl a<=cZ)(hb:dl b<=cZ):Tm (fun N=>ja N (B a) (B b)) (·=B (a+b)):=
 (KX (bL a) (bL b) (bO ha (by decide)) (bO hb (by decide))).mono fun r h=>by rw[gz,gz]at h;exact pf h.1
theorem mh(ha:dl a<=cZ)(hb:dl b<=cZ):Tm (fun N=>jb N (B a) (B b)) (·=B (a-b)):=
 (Oa (bL a) (bL b) (bO ha (by decide)) (bO hb (by decide))).mono fun r h=>by rw[gz,gz]at h;exact pf h.1
theorem nT(ha:dl a<=cZ)(hb:dl b<=cZ):Tm (fun N=>km N (B a) (B b)) (·=B (a*b)):=
 (UM (bL a) (bL b) (bO ha (by decide)) (bO hb (by decide))).mono fun r h=>by rw[gz,gz]at h;exact pf h.1
theorem n5(ha:dl a<=cZ):Tm (fun N=>jr N (B a)) (·=B (-a)):=
 (Az (bL a) (bO ha (by decide))).mono fun r h=>by rw[gz]at h;exact pf h.1
theorem jk(ha:dl a<=cZ):Tm (fun N=>gG N (B a)) (·=bM a 0):=
 (Tk (bL a) (bO ha (by decide))).mono fun r h=>by rw[gz]at h;exact h
theorem j8(ha:dl a<=cZ)(hb:dl b<=cZ):Tm (fun N=>iJ N (B a) (B b)) (·=bM a b):=
 (QA (bL a) (bL b) (bO ha (by decide)) (bO hb (by decide))).mono fun r h=>by rw[gz,gz]at h;exact h
theorem qj(ha:dl a<=cZ)(hb:dl b<=cZ):Tm (fun N=>kz N (B a) (B b)) (fun r=>r.1=B (a.fdiv b)):=
 (RC (bL a) (bL b) (bO ha (by decide)) (bO hb (by decide))).mono fun r h=>by have:=h.1.quo;rw[gz,gz]at this;exact pf this
theorem jT{n:Int}(h1:-9223372036854775808<=n)(h2:n<=9223372036854775807):Tm (fun N=>fM N n) (·=B n):=(Al h1 h2).mono fun r h=>pf h.1
end
theorem NC{x y:Int}(hx:0<=x)(hy:0<=y):Nat.gcd y.toNat (x%y).toNat=Nat.gcd x.toNat y.toNat:=by
 obtain⟨m,rfl⟩:=qZ hx;obtain⟨n,rfl⟩:=qZ hy;rw[<-Int.natCast_emod,lJ,lJ,lJ,Nat.gcd_comm n,<-Nat.gcd_rec,Nat.gcd_comm]
def gOf(a b:aB):Nat:=Nat.gcd (val aC a.aP).toNat (val aC b.aP).toNat
theorem P0{a b:aB}{K:Nat}(hK:K<=cZ)(ha:bB aC a.aP)(hb:bB aC b.aP)(la:a.aP.length<=K)(lb:b.aP.length<=K):
 Tm (fun N=>uy N a b) (fun r=>Is r (gOf a b:Int)):=by
 have hL:cZ=1099511627776:=rfl;unfold uy;refine Tm.bind (oV ha (by omega)) (fun x ⟨hx,lx⟩=>Tm.bind (oV hb (by omega)) (fun y ⟨hy,ly⟩=>?_));refine Tm.bind (Tm.loop (fun s:List Int×List Int=>bB aC s.1/\fK s.1/\s.1.length<=K/\bB aC s.2/\fK s.2/\s.2.length<=K/\Nat.gcd (val aC s.1).toNat (val aC s.2).toNat=gOf a b) (fun s=>(val aC s.2).toNat)
  (Q:=fun r=>bB aC r/\r.length<=K/\val aC r=gOf a b) ⟨hx.bL,hx.fi,by show x.length<=K;omega,hy.bL,hy.fi,by show y.length<=K;omega,by rw[hx.val,hy.val];rfl⟩ ?_) ?_
 . rintro⟨u,v⟩ ⟨u1,u2,u3,v1,v2,v3,hg⟩;dsimp only[FH]at*;refine aY (fun h=>?_) (fun h=>aS ?_)
   . have hv0:v≠[]:=fun e=>by rw[e]at h;simp at h
     have hvp:=wv (B:=aC) (by decide) v1 v2 hv0;have hup:=gE (B:=aC) (by decide) u1;refine Tm.bind (J3 u1 v1 u2 v2 (by omega) (by omega) (by omega)) (fun r ⟨_,hr,_,_⟩=>aS ?_);have hm:=hr.val;have h1:=lO (val aC u) hvp;have h2:=lM (val aC u) (show val aC v≠0 by omega);have h3:=ig (B:=aC) (by decide) v1;have hlen:r.2.length<=v.length:=CP my hr.bL hr.fi (by rw[hm];omega);exact⟨⟨v1,v2,v3,hr.bL,hr.fi,by show r.2.length<=K;omega,by rw[hm,NC hup (ee hvp)];exact hg⟩,by show(val aC r.2).toNat<(val aC v).toNat;rw[hm];omega⟩
   . have hv0:v=[]:=mo.1 (by omega);have hup:=gE (B:=aC) (by decide) u1;rw[hv0]at hg;refine⟨u1,u3,?_⟩;rw[<-hg];simp[val];omega
 . rintro r ⟨r1,r2,r3⟩;refine Tm.bind (lU (neg:=false) r1 (by omega)) (fun z ⟨hz,lz⟩=>aS ?_);rw[<-r3];exact hz
theorem gOf_B(a b:Int):gOf (B a) (B b)=Int.gcd a b:=by
 unfold gOf Int.gcd;rw[(mR a).dg.val,(mR b).dg.val,lJ,lJ]
theorem tmGcd{a b:Int}(ha:dl a<=cZ)(hb:dl b<=cZ):Tm (fun N=>uy N (B a) (B b)) (·=B (Int.gcd a b)):=
 (P0 (bK _) (bL a) (bL b) ha hb).mono fun r h=>by rw[gOf_B]at h;exact pf h
open Go Go.X
def Bc(N:Nat)(pa:Int)(c:Int):Option Constraint:= some (Constraint.mk (Linear.mk (iw (0-c)) [(gU.mk pa 1)]) false)
def Ag(N:Nat)(pa:Int)(c:Int):Option Constraint:= some (Constraint.mk (Linear.mk c [(gU.mk pa (-1))]) false)
def DV(N:Nat)(f:Linear)(x:(List aB)):(aB×Int)->Option (aK (aB×Int) aB)
 |(b,a)=>(if(a:Int)<(List.length f.aZ:Int)then (idx f.aZ a).bind fun c=>(kC N c.N).bind fun d=>(idx f.aZ a).bind fun e=>(idx x e.Var).bind fun g=>(sx N d g).bind fun i=>(pB N b i).bind fun j=>some (aK.next (j,(iw (a+1)))) else some (aK.done b))
def wz(N:Nat)(f:Linear)(x:(List aB)):Option aB:=(kC N f.Const).bind fun a=>(bH (DV N f x) N (a,0)).bind fun ss=>match ss with
  |b=>some b
def we(N:Nat)(l:(List Constraint))(x:(List aB)):Int->Option (aK Int (Sum Unit Bool))
 |a=>(if(a:Int)<(List.length l:Int)then (idx l a).bind fun c=>(wz N c.Linear x).bind fun d=>(kN N d).bind fun b=>(((if(b:Int)>0 then some true else (if(b:Int)<0 then (idx l a).bind fun e=>some e.iC else some false)):Option Bool)).bind fun ss=>match ss with
    |f=>(if f=true then some (aK.done (Sum.inr false)) else some (aK.next (iw (a+1)))) else some (aK.done (Sum.inl ())))
def ra(N:Nat)(l:(List Constraint))(x:(List aB)):Option Bool:=(bH (we N l x) N 0).bind fun ss=>match ss with
  |(Sum.inl _)=>some true
  |(Sum.inr a)=>some a
def Fi(N:Nat)(l:(List Int)):((List aB)×Int)->Option (aK ((List aB)×Int) (List aB))
 |(b,a)=>(if(a:Int)<(List.length l:Int)then (idx l a).bind fun c=>(kC N c).bind fun d=>(cN 32 b [d]).bind fun e=>some (aK.next (e,(iw (a+1)))) else some (aK.done b))
def yu(N:Nat)(l:(List Int)):Option (List aB):=(bH (Fi N l) N (([]:(List aB)),0)).bind fun ss=>match ss with
  |a=>some a
def yo(N:Nat)(l:(List Constraint))(n:Int):Int->Option (aK Int (Sum Unit Bool))
 |a=>(if(a:Int)<(List.length l:Int)then (idx l a).bind fun b=>(rj N b n).bind fun c=>(if(!c)=true then some (aK.done (Sum.inr false)) else some (aK.next (iw (a+1)))) else some (aK.done (Sum.inl ())))
def wM(N:Nat)(n:Int)(l:(List Constraint)):Option Bool:=(bH (yo N l n) N 0).bind fun ss=>match ss with
  |(Sum.inl _)=>(if(n:Int)≥0 then some (decide ((n:Int)<=512)) else some false)
  |(Sum.inr a)=>some a
def vZ(N:Nat)(most:Int)(b:Constraint):Int->Option (aK Int (Sum Unit Bool))
 |a=>(if(a:Int)<(List.length b.Linear.aZ:Int)then (((idx b.Linear.aZ a).bind fun c=>(if(c.N:Int)>most then some true else (idx b.Linear.aZ a).bind fun d=>some (decide ((d.N:Int)<(iw (0-most))))):Option Bool)).bind fun ss=>match ss with
    |e=>(if e=true then some (aK.done (Sum.inr false)) else some (aK.next (iw (a+1)))) else some (aK.done (Sum.inl ())))
def xV(N:Nat)(l:(List Constraint))(most:Int):Int->Option (aK Int (Sum Unit Bool))
 |a=>(if(a:Int)<(List.length l:Int)then (idx l a).bind fun b=>(((if(b.Linear.Const:Int)>1000000 then some true else some (decide ((b.Linear.Const:Int)<(-1000000)))):Option Bool)).bind fun ss=>match ss with
    |c=>(if c=true then some (aK.done (Sum.inr false)) else (bH (vZ N most b) N 0).bind fun ss=>match ss with
       |(Sum.inl _)=>some (aK.next (iw (a+1)))
       |(Sum.inr d)=>some (aK.done (Sum.inr d))) else some (aK.done (Sum.inl ())))
def xA(N:Nat)(n:Int)(l:(List Constraint))(most:Int):Option Bool:=(bH (xV N l most) N 0).bind fun ss=>match ss with
  |(Sum.inl _)=>(if(n:Int)<=4 then (if((List.length l:Int):Int)<=6 then (wM N n l).bind fun a=>some a else some false) else some false)
  |(Sum.inr b)=>some b
def CN(N:Nat)(most:Int)(n:Int):((List Constraint)×Int)->Option (aK ((List Constraint)×Int) (List Constraint))
 |(b,a)=>(if(a:Int)<n then (Ag N a 0).bind fun c=>(Bc N a most).bind fun d=>(cN 40 b [c,d]).bind fun e=>some (aK.next (e,(iw (a+1)))) else some (aK.done b))
def wA(N:Nat)(n:Int)(l:(List Constraint))(most:Int):Option (List Constraint):=(cN 40 ([]:(List Constraint)) l).bind fun a=>(bH (CN N most n) N (a,0)).bind fun ss=>match ss with
  |b=>some b
def Fw(N:Nat)(n:Int)(most:Int):((List Int)×Int)->Option (aK ((List Int)×Int) ((List Int)×Int))
 |(b,a)=>((((if(a:Int)<n then (idx b a).bind fun c=>some (decide ((c:Int)=most)) else some false)):Option Bool)).bind fun ss=>match ss with
   |d=>(if d=true then (idx b a).bind fun f=>(dh b a 0).bind fun e=>some (aK.next (e,(iw (a+1)))) else some (aK.done (b,a)))
def FD(N:Nat)(n:Int)(l:(List Constraint))(most:Int):(List Int)->Option (aK (List Int) Bool)
 |c=>(yu N c).bind fun d=>(ra N l d).bind fun e=>(if e=true then some (aK.done true) else (bH (Fw N n most) N (c,0)).bind fun ss=>match ss with
    |(b,a)=>(if(a:Int)=n then some (aK.done false) else (idx b a).bind fun f=>(idx b a).bind fun i=>(dh b a (iw (f+1))).bind fun g=>some (aK.next g)))
def xF(N:Nat)(n:Int)(l:(List Constraint))(most:Int):Option Bool:=(fX (α:=Int) 8 0 n).bind fun x1=>(bH (FD N n l most) N x1).bind fun ss=>match ss with
  |z=>some z
def si(N:Nat)(n:Int)(l:(List Constraint))(p:Proof):Option Bool:=(xO N l n).bind fun r6=>(sE N r6 p).bind fun a=>some a
open Go Go.X
def nF(N:Nat)(s:(List aB)):Option (List aB):=(cN 32 ([]:(List aB)) s).bind fun a=>some a
def pV(N:Nat)(s:(List aX)):Option (List aX):=(cN 32 ([]:(List aX)) s).bind fun a=>some a
def AM(N:Nat)(s:(List (List aB))):Option (List (List aB)):=(cN 24 ([]:(List (List aB))) s).bind fun a=>some a
def A6(N:Nat)(s:(List Int)):Option (List Int):=(cN 8 ([]:(List Int)) s).bind fun a=>some a
def CJ(N:Nat)(s:(List Step)):Option (List Step):= some s
def Dw(N:Nat)(s:(List dJ)):Option (List dJ):= some s
def yq(N:Nat)(f:(aX->Option Bool))(s:(List aX)):Int->Option (aK Int (Sum Unit Int))
 |a=>(if(a:Int)<(List.length s:Int)then (idx s a).bind fun b=>(f b).bind fun c=>(if c=true then some (aK.done (Sum.inr a)) else some (aK.next (iw (a+1)))) else some (aK.done (Sum.inl ())))
def uQ(N:Nat)(s:(List aX))(f:(aX->Option Bool)):Option Int:=(bH (yq N f s) N 0).bind fun ss=>match ss with
  |(Sum.inl _)=>some (-1)
  |(Sum.inr a)=>some a
def yX(N:Nat)(s:(List aX))(f:(aX->Option Bool)):Option Bool:=(uQ N s f).bind fun r1=>some (decide ((r1:Int)≥0))
def xp(N:Nat)(eq:(aB->aB->Option Bool))(pb:(List aB))(s:(List aB)):Int->Option (aK Int (Sum Unit Bool))
 |a=>(if(a:Int)<(List.length s:Int)then (idx s a).bind fun b=>(idx pb a).bind fun c=>(eq b c).bind fun d=>(if(!d)=true then some (aK.done (Sum.inr false)) else some (aK.next (iw (a+1)))) else some (aK.done (Sum.inl ())))
def xi(N:Nat)(s:(List aB))(pb:(List aB))(eq:(aB->aB->Option Bool)):Option Bool:=(if((List.length s:Int):Int)≠(List.length pb:Int)then some false else (bH (xp N eq pb s) N 0).bind fun ss=>match ss with
   |(Sum.inl _)=>some true
   |(Sum.inr a)=>some a)
def DO(N:Nat)(del:(aX->Option Bool)):((List aX)×Int×Int)->Option (aK ((List aX)×Int×Int) ((List aX)×Int))
 |(a,b,c)=>(if(c:Int)<(List.length a:Int)then ((((idx a c).bind fun d=>(del d).bind fun e=>(if(!e)=true then (idx a b).bind fun j=>(dh a b d).bind fun f=>some (f,(iw (b+1))) else some (a,b))):Option ((List aX)×Int))).bind fun ss=>match ss with
    |(g,i)=>some (aK.next (g,i,(iw (c+1)))) else some (aK.done (a,b)))
def yg(N:Nat)(s:(List aX))(del:(aX->Option Bool)):Option (List aX):=(uQ N s del).bind fun r1=>(if(r1:Int)=(-1)then some s else (bH (DO N del) N (s,r1,(iw (r1+1)))).bind fun ss=>match ss with
   |(a,b)=>(n7 a b (List.length a:Int)).bind fun _=>(cut (ql a b (List.length a:Int) (aX.mk 0 ([]:(List aB)))) 0 b).bind fun c=>some c)
def Ae(N:Nat)(n:Int):Option (List aX):=(if(n:Int)<0 then none else ((((if((iw (n-(iw (0-0)))):Int)>0 then (cN 32 [] (List.replicate (Int.toNat (iw (n-(iw (0-0))))) ((aX.mk 0 ([]:(List aB))):aX))).bind fun a=>(cut a 0 0).bind fun b=>some b else some ([]:(List aX)))):Option (List aX))).bind fun ss=>match ss with
   |s8=>some s8)
def wT(N:Nat)(slices:(List (List aX))):(Int×Int)->Option (aK (Int×Int) Int)
 |(a,b)=>(if(b:Int)<(List.length slices:Int)then (idx slices b).bind fun c=>(if((iw (a+(List.length c:Int))):Int)<0 then none else some (aK.next ((iw (a+(List.length c:Int))),(iw (b+1))))) else some (aK.done a))
def ye(N:Nat)(slices:(List (List aX))):((List aX)×Int)->Option (aK ((List aX)×Int) (List aX))
 |(b,a)=>(if(a:Int)<(List.length slices:Int)then (idx slices a).bind fun c=>(cN 32 b c).bind fun d=>some (aK.next (d,(iw (a+1)))) else some (aK.done b))
def uj(N:Nat)(slices:(List (List aX))):Option (List aX):=(bH (wT N slices) N (0,0)).bind fun ss=>match ss with
  |a=>(Ae N a).bind fun b=>(bH (ye N slices) N (b,0)).bind fun ss=>match ss with
    |c=>some c
end Go.D

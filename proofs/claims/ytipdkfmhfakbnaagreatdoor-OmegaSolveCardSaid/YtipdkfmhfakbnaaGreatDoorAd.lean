/- Plain theorems and definitions of this seat, several texts in one. -/
import Derived.Test.YtipdkfmhfakbnaaGreatDoorAa
import Derived.Lib.Repeat
import Derived.Lib.Join
import Derived.Lib.Strings
import Derived.Lib.ItoaNum
import Derived.Test.YtipdkfmhfakbnaaGreatDoorProg
import Derived.Test.YtipdkfmhfakbnaaGreatDoorAc
import Derived.Lib.AppendIntMem
set_option linter.unusedVariables false
set_option linter.unusedSimpArgs false
set_option linter.unusedSectionVars false
namespace Go.D
open Go Go.X
structure aB where
 bF:Bool
 aP:(List Int)
 deriving DecidableEq
def aA:bP aB:=⟨2,fun H vs x=>∃v0,vs=[Value.bool x.bF,v0]/\Rs (aD .u32) H v0 x.aP/\True,
 fun H H' vs x hle h=>by obtain⟨v0,h0,k0,-⟩:=h;exact⟨v0,h0,k0.mono hle,trivial⟩,
 fun H vs x h=>by obtain⟨v0,h0,k0,-⟩:=h;rw[h0];rfl,
 fun H vs x h=>by obtain⟨v0,h0,k0,-⟩:=h;rw[h0];exact(dD rfl (dD k0.one kq))⟩
theorem Qt{H:Hp}{vs:List Value}{x:aB}(h:aA.R H vs x):∃v0,vs=[Value.bool x.bF,v0]/\Rs (aD .u32) H v0 x.aP/\True:=h
theorem PV{H:Hp}{vs:List Value}{x:aB}(h:∃v0,vs=[Value.bool x.bF,v0]/\Rs (aD .u32) H v0 x.aP/\True):aA.R H vs x:=h
structure jN where
 Var:Int
 N:Int
 deriving DecidableEq
def iC:bP jN:=⟨2,fun H vs x=>vs=[Value.int .i64 x.Var,Value.int .i64 x.N]/\True,
 fun H H' vs x hle h=>by obtain⟨h0,-⟩:=h;exact⟨h0,trivial⟩,
 fun H vs x h=>by obtain⟨h0,-⟩:=h;rw[h0];rfl,
 fun H vs x h=>by obtain⟨h0,-⟩:=h;rw[h0];exact(dD rfl (dD rfl kq))⟩
theorem Of{H:Hp}{vs:List Value}{x:jN}(h:iC.R H vs x):vs=[Value.int .i64 x.Var,Value.int .i64 x.N]/\True:=h
theorem Tn{H:Hp}{vs:List Value}{x:jN}(h:vs=[Value.int .i64 x.Var,Value.int .i64 x.N]/\True):iC.R H vs x:=h
structure Linear where
 Const:Int
 aZ:(List jN)
 deriving DecidableEq
def nU:bP Linear:=⟨2,fun H vs x=>∃v0,vs=[Value.int .i64 x.Const,v0]/\Rs iC H v0 x.aZ/\True,
 fun H H' vs x hle h=>by obtain⟨v0,h0,k0,-⟩:=h;exact⟨v0,h0,k0.mono hle,trivial⟩,
 fun H vs x h=>by obtain⟨v0,h0,k0,-⟩:=h;rw[h0];rfl,
 fun H vs x h=>by obtain⟨v0,h0,k0,-⟩:=h;rw[h0];exact(dD rfl (dD k0.one kq))⟩
theorem NB{H:Hp}{vs:List Value}{x:Linear}(h:nU.R H vs x):∃v0,vs=[Value.int .i64 x.Const,v0]/\Rs iC H v0 x.aZ/\True:=h
theorem Pf{H:Hp}{vs:List Value}{x:Linear}(h:∃v0,vs=[Value.int .i64 x.Const,v0]/\Rs iC H v0 x.aZ/\True):nU.R H vs x:=h
structure Constraint where
 Linear:Linear
 iA:Bool
 deriving DecidableEq
def dH:bP Constraint:=⟨3,fun H vs x=>∃v0,vs=[Value.int .i64 x.Linear.Const,v0,Value.bool x.iA]/\Rs iC H v0 x.Linear.aZ/\True,
 fun H H' vs x hle h=>by obtain⟨v0,h0,k0,-⟩:=h;exact⟨v0,h0,k0.mono hle,trivial⟩,
 fun H vs x h=>by obtain⟨v0,h0,k0,-⟩:=h;rw[h0];rfl,
 fun H vs x h=>by obtain⟨v0,h0,k0,-⟩:=h;rw[h0];exact(dD rfl (dD k0.one (dD rfl kq)))⟩
theorem Pq{H:Hp}{vs:List Value}{x:Constraint}(h:dH.R H vs x):∃v0,vs=[Value.int .i64 x.Linear.Const,v0,Value.bool x.iA]/\Rs iC H v0 x.Linear.aZ/\True:=h
theorem Pw{H:Hp}{vs:List Value}{x:Constraint}(h:∃v0,vs=[Value.int .i64 x.Linear.Const,v0,Value.bool x.iA]/\Rs iC H v0 x.Linear.aZ/\True):dH.R H vs x:=h
structure bB where
 aZ:(List aB)
 dw:aB
 deriving DecidableEq
def aE:bP bB:=⟨3,fun H vs x=>∃v0 v1,vs=[v0,Value.bool x.dw.bF,v1]/\Rs aA H v0 x.aZ/\Rs (aD .u32) H v1 x.dw.aP/\True,
 fun H H' vs x hle h=>by obtain⟨v0,v1,h0,k0,k1,-⟩:=h;exact⟨v0,v1,h0,k0.mono hle,k1.mono hle,trivial⟩,
 fun H vs x h=>by obtain⟨v0,v1,h0,k0,k1,-⟩:=h;rw[h0];rfl,
 fun H vs x h=>by obtain⟨v0,v1,h0,k0,k1,-⟩:=h;rw[h0];exact(dD k0.one (dD rfl (dD k1.one kq)))⟩
theorem Pk{H:Hp}{vs:List Value}{x:bB}(h:aE.R H vs x):∃v0 v1,vs=[v0,Value.bool x.dw.bF,v1]/\Rs aA H v0 x.aZ/\Rs (aD .u32) H v1 x.dw.aP/\True:=h
theorem NF{H:Hp}{vs:List Value}{x:bB}(h:∃v0 v1,vs=[v0,Value.bool x.dw.bF,v1]/\Rs aA H v0 x.aZ/\Rs (aD .u32) H v1 x.dw.aP/\True):aE.R H vs x:=h
structure dO where
 Index:Int
 N:aB
 deriving DecidableEq
def eD:bP dO:=⟨3,fun H vs x=>∃v0,vs=[Value.int .i64 x.Index,Value.bool x.N.bF,v0]/\Rs (aD .u32) H v0 x.N.aP/\True,
 fun H H' vs x hle h=>by obtain⟨v0,h0,k0,-⟩:=h;exact⟨v0,h0,k0.mono hle,trivial⟩,
 fun H vs x h=>by obtain⟨v0,h0,k0,-⟩:=h;rw[h0];rfl,
 fun H vs x h=>by obtain⟨v0,h0,k0,-⟩:=h;rw[h0];exact(dD rfl (dD rfl (dD k0.one kq)))⟩
theorem NC{H:Hp}{vs:List Value}{x:dO}(h:eD.R H vs x):∃v0,vs=[Value.int .i64 x.Index,Value.bool x.N.bF,v0]/\Rs (aD .u32) H v0 x.N.aP/\True:=h
theorem Qo{H:Hp}{vs:List Value}{x:dO}(h:∃v0,vs=[Value.int .i64 x.Index,Value.bool x.N.bF,v0]/\Rs (aD .u32) H v0 x.N.aP/\True):eD.R H vs x:=h
structure Step where
 Uses:(List dO)
 fX:aB
 deriving DecidableEq
def aJ:bP Step:=⟨3,fun H vs x=>∃v0 v1,vs=[v0,Value.bool x.fX.bF,v1]/\Rs eD H v0 x.Uses/\Rs (aD .u32) H v1 x.fX.aP/\True,
 fun H H' vs x hle h=>by obtain⟨v0,v1,h0,k0,k1,-⟩:=h;exact⟨v0,v1,h0,k0.mono hle,k1.mono hle,trivial⟩,
 fun H vs x h=>by obtain⟨v0,v1,h0,k0,k1,-⟩:=h;rw[h0];rfl,
 fun H vs x h=>by obtain⟨v0,v1,h0,k0,k1,-⟩:=h;rw[h0];exact(dD k0.one (dD rfl (dD k1.one kq)))⟩
theorem Rf{H:Hp}{vs:List Value}{x:Step}(h:aJ.R H vs x):∃v0 v1,vs=[v0,Value.bool x.fX.bF,v1]/\Rs eD H v0 x.Uses/\Rs (aD .u32) H v1 x.fX.aP/\True:=h
theorem OJ{H:Hp}{vs:List Value}{x:Step}(h:∃v0 v1,vs=[v0,Value.bool x.fX.bF,v1]/\Rs eD H v0 x.Uses/\Rs (aD .u32) H v1 x.fX.aP/\True):aJ.R H vs x:=h
structure Proof where
 Steps:(List Step)
 Form:(List aB)
 dw:aB
 lS:(List Proof)
def qf:Nat->Hp->List Value->Proof->Prop
 |0,_,_,_=>False
 |n+1,H,vs,x=>∃v0 v1 v2 v3,vs=[v0,v1,Value.bool x.dw.bF,v2,v3]/\Rs aJ H v0 x.Steps/\Rs aA H v1 x.Form/\Rs (aD .u32) H v2 x.dw.aP/\Sl 5 (qf n) H v3 x.lS/\True
theorem HN:∀(n:Nat) {H H':Hp} {vs:List Value} {x:Proof},Le H H'->qf n H vs x->qf n H' vs x
 |0,_,_,_,_,_,h=>h.elim
 |n+1,_,_,_,_,hle,h=>by obtain⟨v0,v1,v2,v3,h0,k0,k1,k2,k3,-⟩:=h;exact⟨v0,v1,v2,v3,h0,k0.mono hle,k1.mono hle,k2.mono hle,Sl.mono (R:=qf n) (fun _ _ _ _ a b=>HN n a b) hle k3,trivial⟩
theorem Iu:∀{n m:Nat} {H:Hp} {vs:List Value} {x:Proof},n<=m->qf n H vs x->qf m H vs x
 |0,_,_,_,_,_,h=>h.elim
 |n+1,0,_,_,_,hm,_=>by omega
 |n+1,m+1,_,_,_,hm,h=>by have hm:n<=m:=(by omega);obtain⟨v0,v1,v2,v3,h0,k0,k1,k2,k3,-⟩:=h;exact⟨v0,v1,v2,v3,h0,k0,k1,k2,KW (fun _ _=>Iu hm) k3,trivial⟩
def iU:bP Proof:=⟨5,fun H vs x=>∃n,qf n H vs x,fun _ _ _ _ hle ⟨n,h⟩=>⟨n,HN n hle h⟩,
 fun H vs x h=>by obtain⟨n,h⟩:=h;cases n with|zero=>exact h.elim|succ n=>obtain⟨v0,v1,v2,v3,h0,k0,k1,k2,k3,-⟩:=h;rw[h0];rfl,
 fun H vs x h=>by obtain⟨n,h⟩:=h;cases n with|zero=>exact h.elim|succ n=>obtain⟨v0,v1,v2,v3,h0,k0,k1,k2,k3,-⟩:=h;rw[h0];exact(dD k0.one (dD k1.one (dD rfl (dD k2.one (dD (Sl.one k3) kq)))))⟩
theorem Tw{H:Hp}{vs:List Value}{x:Proof}(h:iU.R H vs x):∃v0 v1 v2 v3,vs=[v0,v1,Value.bool x.dw.bF,v2,v3]/\Rs aJ H v0 x.Steps/\Rs aA H v1 x.Form/\Rs (aD .u32) H v2 x.dw.aP/\Rs iU H v3 x.lS/\True:=by
 obtain⟨n,h⟩:=h;cases n with|zero=>exact h.elim|succ n=>obtain⟨v0,v1,v2,v3,h0,k0,k1,k2,k3,-⟩:=h;exact⟨v0,v1,v2,v3,h0,k0,k1,k2,KW (fun _ _ h=>⟨n,h⟩) k3,trivial⟩
theorem Sr{H:Hp}{vs:List Value}{x:Proof}(h:∃v0 v1 v2 v3,vs=[v0,v1,Value.bool x.dw.bF,v2,v3]/\Rs aJ H v0 x.Steps/\Rs aA H v1 x.Form/\Rs (aD .u32) H v2 x.dw.aP/\Rs iU H v3 x.lS/\True):iU.R H vs x:=by
 obtain⟨v0,v1,v2,v3,h0,k0,k1,k2,k3,-⟩:=h;obtain⟨n,hn⟩:=TW (Rn:=qf) (fun _ _ _ _ hm h=>Iu hm h) k3;exact⟨n+1,v0,v1,v2,v3,h0,k0,k1,k2,hn,trivial⟩
structure aX where
 pos:Int
 g:(List aB)
 deriving DecidableEq
def aH:bP aX:=⟨2,fun H vs x=>∃v0,vs=[Value.int .i64 x.pos,v0]/\Rs aA H v0 x.g/\True,
 fun H H' vs x hle h=>by obtain⟨v0,h0,k0,-⟩:=h;exact⟨v0,h0,k0.mono hle,trivial⟩,
 fun H vs x h=>by obtain⟨v0,h0,k0,-⟩:=h;rw[h0];rfl,
 fun H vs x h=>by obtain⟨v0,h0,k0,-⟩:=h;rw[h0];exact(dD rfl (dD k0.one kq))⟩
theorem OY{H:Hp}{vs:List Value}{x:aX}(h:aH.R H vs x):∃v0,vs=[Value.int .i64 x.pos,v0]/\Rs aA H v0 x.g/\True:=h
theorem Tf{H:Hp}{vs:List Value}{x:aX}(h:∃v0,vs=[Value.int .i64 x.pos,v0]/\Rs aA H v0 x.g/\True):aH.R H vs x:=h
structure dI where
 v:Int
 items:(List Int)
 dz:Bool
 deriving DecidableEq
def aL:bP dI:=⟨3,fun H vs x=>∃v0,vs=[Value.int .i64 x.v,v0,Value.bool x.dz]/\Rs (aD .i64) H v0 x.items/\True,
 fun H H' vs x hle h=>by obtain⟨v0,h0,k0,-⟩:=h;exact⟨v0,h0,k0.mono hle,trivial⟩,
 fun H vs x h=>by obtain⟨v0,h0,k0,-⟩:=h;rw[h0];rfl,
 fun H vs x h=>by obtain⟨v0,h0,k0,-⟩:=h;rw[h0];exact(dD rfl (dD k0.one (dD rfl kq)))⟩
theorem OE{H:Hp}{vs:List Value}{x:dI}(h:aL.R H vs x):∃v0,vs=[Value.int .i64 x.v,v0,Value.bool x.dz]/\Rs (aD .i64) H v0 x.items/\True:=h
theorem PW{H:Hp}{vs:List Value}{x:dI}(h:∃v0,vs=[Value.int .i64 x.v,v0,Value.bool x.dz]/\Rs (aD .i64) H v0 x.items/\True):aL.R H vs x:=h
structure aR where
 n:Int
 known:(List bB)
 steps:(List Step)
 u:(List (List aB))
 status:(List Int)
 value:(List aB)
 items:(List aX)
 stack:(List dI)
 deriving DecidableEq
def D4:bP aR:=⟨8,fun H vs x=>∃v0 v1 v2 v3 v4 v5 v6,vs=[Value.int .i64 x.n,v0,v1,v2,v3,v4,v5,v6]/\Rs aE H v0 x.known/\Rs aJ H v1 x.steps/\Rs (aT aA) H v2 x.u/\Rs (aD .i64) H v3 x.status/\Rs aA H v4 x.value/\Rs aH H v5 x.items/\Rs aL H v6 x.stack/\True,
 fun H H' vs x hle h=>by obtain⟨v0,v1,v2,v3,v4,v5,v6,h0,k0,k1,k2,k3,k4,k5,k6,-⟩:=h;exact⟨v0,v1,v2,v3,v4,v5,v6,h0,k0.mono hle,k1.mono hle,k2.mono hle,k3.mono hle,k4.mono hle,k5.mono hle,k6.mono hle,trivial⟩,
 fun H vs x h=>by obtain⟨v0,v1,v2,v3,v4,v5,v6,h0,k0,k1,k2,k3,k4,k5,k6,-⟩:=h;rw[h0];rfl,
 fun H vs x h=>by obtain⟨v0,v1,v2,v3,v4,v5,v6,h0,k0,k1,k2,k3,k4,k5,k6,-⟩:=h;rw[h0];exact(dD rfl (dD k0.one (dD k1.one (dD k2.one (dD k3.one (dD k4.one (dD k5.one (dD k6.one kq))))))))⟩
theorem RZ{H:Hp}{vs:List Value}{x:aR}(h:D4.R H vs x):∃v0 v1 v2 v3 v4 v5 v6,vs=[Value.int .i64 x.n,v0,v1,v2,v3,v4,v5,v6]/\Rs aE H v0 x.known/\Rs aJ H v1 x.steps/\Rs (aT aA) H v2 x.u/\Rs (aD .i64) H v3 x.status/\Rs aA H v4 x.value/\Rs aH H v5 x.items/\Rs aL H v6 x.stack/\True:=h
theorem Qy{H:Hp}{vs:List Value}{x:aR}(h:∃v0 v1 v2 v3 v4 v5 v6,vs=[Value.int .i64 x.n,v0,v1,v2,v3,v4,v5,v6]/\Rs aE H v0 x.known/\Rs aJ H v1 x.steps/\Rs (aT aA) H v2 x.u/\Rs (aD .i64) H v3 x.status/\Rs aA H v4 x.value/\Rs aH H v5 x.items/\Rs aL H v6 x.stack/\True):D4.R H vs x:=h
structure bX where
 kind:Int
 x:(List aB)
 proof:Proof
 v:Int
def fu:bP bX:=⟨8,fun H vs x=>∃v0 v1 v2 v3 v4,vs=[Value.int .i64 x.kind,v0,v1,v2,Value.bool x.proof.dw.bF,v3,v4,Value.int .i64 x.v]/\Rs aA H v0 x.x/\Rs aJ H v1 x.proof.Steps/\Rs aA H v2 x.proof.Form/\Rs (aD .u32) H v3 x.proof.dw.aP/\Rs iU H v4 x.proof.lS/\True,
 fun H H' vs x hle h=>by obtain⟨v0,v1,v2,v3,v4,h0,k0,k1,k2,k3,k4,-⟩:=h;exact⟨v0,v1,v2,v3,v4,h0,k0.mono hle,k1.mono hle,k2.mono hle,k3.mono hle,k4.mono hle,trivial⟩,
 fun H vs x h=>by obtain⟨v0,v1,v2,v3,v4,h0,k0,k1,k2,k3,k4,-⟩:=h;rw[h0];rfl,
 fun H vs x h=>by obtain⟨v0,v1,v2,v3,v4,h0,k0,k1,k2,k3,k4,-⟩:=h;rw[h0];exact(dD rfl (dD k0.one (dD k1.one (dD k2.one (dD rfl (dD k3.one (dD k4.one (dD rfl kq))))))))⟩
theorem Sj{H:Hp}{vs:List Value}{x:bX}(h:fu.R H vs x):∃v0 v1 v2 v3 v4,vs=[Value.int .i64 x.kind,v0,v1,v2,Value.bool x.proof.dw.bF,v3,v4,Value.int .i64 x.v]/\Rs aA H v0 x.x/\Rs aJ H v1 x.proof.Steps/\Rs aA H v2 x.proof.Form/\Rs (aD .u32) H v3 x.proof.dw.aP/\Rs iU H v4 x.proof.lS/\True:=h
theorem Uc{H:Hp}{vs:List Value}{x:bX}(h:∃v0 v1 v2 v3 v4,vs=[Value.int .i64 x.kind,v0,v1,v2,Value.bool x.proof.dw.bF,v3,v4,Value.int .i64 x.v]/\Rs aA H v0 x.x/\Rs aJ H v1 x.proof.Steps/\Rs aA H v2 x.proof.Form/\Rs (aD .u32) H v3 x.proof.dw.aP/\Rs iU H v4 x.proof.lS/\True):fu.R H vs x:=h
structure gJ where
 up:aX
 low:aB
 high:aB
 deriving DecidableEq
def jx:bP gJ:=⟨6,fun H vs x=>∃v0 v1 v2,vs=[Value.int .i64 x.up.pos,v0,Value.bool x.low.bF,v1,Value.bool x.high.bF,v2]/\Rs aA H v0 x.up.g/\Rs (aD .u32) H v1 x.low.aP/\Rs (aD .u32) H v2 x.high.aP/\True,
 fun H H' vs x hle h=>by obtain⟨v0,v1,v2,h0,k0,k1,k2,-⟩:=h;exact⟨v0,v1,v2,h0,k0.mono hle,k1.mono hle,k2.mono hle,trivial⟩,
 fun H vs x h=>by obtain⟨v0,v1,v2,h0,k0,k1,k2,-⟩:=h;rw[h0];rfl,
 fun H vs x h=>by obtain⟨v0,v1,v2,h0,k0,k1,k2,-⟩:=h;rw[h0];exact(dD rfl (dD k0.one (dD rfl (dD k1.one (dD rfl (dD k2.one kq))))))⟩
theorem PN{H:Hp}{vs:List Value}{x:gJ}(h:jx.R H vs x):∃v0 v1 v2,vs=[Value.int .i64 x.up.pos,v0,Value.bool x.low.bF,v1,Value.bool x.high.bF,v2]/\Rs aA H v0 x.up.g/\Rs (aD .u32) H v1 x.low.aP/\Rs (aD .u32) H v2 x.high.aP/\True:=h
theorem S0{H:Hp}{vs:List Value}{x:gJ}(h:∃v0 v1 v2,vs=[Value.int .i64 x.up.pos,v0,Value.bool x.low.bF,v1,Value.bool x.high.bF,v2]/\Rs aA H v0 x.up.g/\Rs (aD .u32) H v1 x.low.aP/\Rs (aD .u32) H v2 x.high.aP/\True):jx.R H vs x:=h
def xH(N:Nat)(i b:Int):Option (List UInt8):=if 0<=i/\i<18446744073709551616/\b=10 then some (Go.Lib.decDigits i.toNat)else none
def wI(N:Nat)(s:List UInt8)(c:Int):Option (List UInt8):=if 0<=c/\c<=9223372036854775807/\(s.length:Int)*c<=140737488355328 then some (Go.Lib.repeatL s c.toNat)else none
def pY(N:Nat)(xs:List (List UInt8))(s:List UInt8):Option (List UInt8):=if xs.length<=140737488355328/\(Go.Lib.join xs s).length<=140737488355328 then some (Go.Lib.join xs s)else none
def xZ(N:Nat)(xs:List (List UInt8)):Option (List (List UInt8)):=if xs.length<=9223372036854775807 then some xs.reverse else none
theorem Q4{xs Y:List (List UInt8)}{N:Nat}(h:xZ N xs=some Y):xs.length<=9223372036854775807/\Y=xs.reverse:=by
 unfold xZ at h;split at h
 . exact⟨by assumption,(iM h).symm⟩
 . cases h
open Go Go.X
def xt(N:Nat)(s:(List Int)):Option (List Int):=(cS 4 ([]:(List Int)) s).bind fun a=>some a
def digit(N:Nat)(d:(List Int))(i:Int):Option Int:=(if(i:Int)<(List.length d:Int)then (idx d i).bind fun x2=>some (uw x2) else some 0)
def yO(N:Nat)(n:Int):Option Int:= some (xk (imax n (-1)) 1)
def Cj(N:Nat)(d:(List Int)):Int->Option (aK Int Int)
 |a=>(((if(a:Int)>0 then (idx d (iw (a-1))).bind fun b=>some (decide ((b:Int)=0)) else some false):Option Bool)).bind fun ss=>match ss with
   |c=>(if c=true then some (aK.next (iw (a-1))) else some (aK.done a))
def lq(N:Nat)(d:(List Int)):Option (List Int):=(bJ (Cj N d) N (List.length d:Int)).bind fun ss=>match ss with
  |a=>(cut d 0 a).bind fun b=>(xt N b).bind fun c=>some c
def jM(N:Nat)(negative:Bool)(d:(List Int)):Option aB:=(lq N d).bind fun r6=>(if((List.length r6:Int):Int)=0 then some (aB.mk false []) else some (aB.mk negative r6))
def Fq(N:Nat)(a:(List Int))(b:(List Int)):Int->Option (aK Int (Sum Unit Int))
 |c=>(if(c:Int)≥0 then (idx a c).bind fun d=>(idx b c).bind fun e=>(if(d:Int)<e then some (aK.done (Sum.inr (-1))) else (idx a c).bind fun f=>(idx b c).bind fun g=>(if(f:Int)>g then some (aK.done (Sum.inr 1)) else some (aK.next (iw (c-1))))) else some (aK.done (Sum.inl ())))
def p9(N:Nat)(a:(List Int))(b:(List Int)):Option Int:=(if((List.length a:Int):Int)≠(List.length b:Int)then (yO N (iw ((List.length a:Int)-(List.length b:Int)))).bind fun r2=>some r2 else (bJ (Fq N a b) N (iw ((List.length a:Int)-1))).bind fun ss=>match ss with
   |(Sum.inl _)=>some 0
   |(Sum.inr c)=>some c)
def Fe(N:Nat)(a:(List Int))(b:(List Int))(x2:(List Int)):((List Int)×Int×Int)->Option (aK ((List Int)×Int×Int) (List Int))
 |(d,e,c)=>(if(c:Int)<(List.length x2:Int)then (digit N a c).bind fun f=>(digit N b c).bind fun g=>(idx d c).bind fun j=>(di d c (dT (uw (e+(uw (f+g)))))).bind fun i=>some (aK.next (i,(fl .u64 (uw (e+(uw (f+g)))) 32),(iw (c+1)))) else some (aK.done d))
def uV(N:Nat)(a:(List Int))(b:(List Int)):Option (List Int):=(fW (α:=Int) 4 0 (iw ((imax (List.length a:Int) (List.length b:Int))+1))).bind fun x2=>(bJ (Fe N a b x2) N (x2,0,0)).bind fun ss=>match ss with
  |c=>some c
def Fl(N:Nat)(a:(List Int))(b:(List Int)):((List Int)×Int×Int)->Option (aK ((List Int)×Int×Int) (List Int))
 |(d,e,c)=>(if(c:Int)<(List.length a:Int)then (idx a c).bind fun f=>(digit N b c).bind fun g=>(idx d c).bind fun j=>(di d c (dT (uw ((uw ((uw f)-g))-e)))).bind fun i=>some (aK.next (i,(fl .u64 (uw ((uw ((uw f)-g))-e)) 63),(iw (c+1)))) else some (aK.done d))
def rC(N:Nat)(a:(List Int))(b:(List Int)):Option (List Int):=(fW (α:=Int) 4 0 (List.length a:Int)).bind fun x2=>(bJ (Fl N a b) N (x2,0,0)).bind fun ss=>match ss with
  |c=>some c
def Eh(N:Nat)(b:(List Int))(d:Int)(f:Int):((List Int)×Int×Int)->Option (aK ((List Int)×Int×Int) ((List Int)×Int))
 |(c,e,a)=>(if(a:Int)<(List.length b:Int)then (idx b a).bind fun g=>(idx c (iw (d+a))).bind fun i=>(idx c (iw (d+a))).bind fun k=>(di c (iw (d+a)) (dT (uw (e+(uw ((uw ((uw f)*(uw g)))+(uw i))))))).bind fun j=>some (aK.next (j,(fl .u64 (uw (e+(uw ((uw ((uw f)*(uw g)))+(uw i))))) 32),(iw (a+1)))) else some (aK.done (c,e)))
def De(N:Nat)(a:(List Int))(b:(List Int)):((List Int)×Int)->Option (aK ((List Int)×Int) (List Int))
 |(d,c)=>(if(c:Int)<(List.length a:Int)then (idx a c).bind fun f=>(bJ (Eh N b c f) N (d,0,0)).bind fun ss=>match ss with
    |(e,g)=>(idx e (iw (c+(List.length b:Int)))).bind fun j=>(di e (iw (c+(List.length b:Int))) (dT g)).bind fun i=>some (aK.next (i,(iw (c+1)))) else some (aK.done d))
def vX(N:Nat)(a:(List Int))(b:(List Int)):Option (List Int):=(fW (α:=Int) 4 0 (iw ((List.length a:Int)+(List.length b:Int)))).bind fun x2=>(bJ (De N a b) N (x2,0)).bind fun ss=>match ss with
  |c=>some c
def EH(N:Nat)(a:(List Int))(pb:Int):((List Int)×Int×Int)->Option (aK ((List Int)×Int×Int) ((List Int)×Int))
 |(d,c,b)=>(if(b:Int)≥0 then (idx a b).bind fun e=>(sdiv .u64 (jv .u64 (iP .u64 c 32) (uw e)) (uw pb)).bind fun f=>(idx d b).bind fun i=>(di d b (dT f)).bind fun g=>(srem (jv .u64 (iP .u64 c 32) (uw e)) (uw pb)).bind fun j=>some (aK.next (g,(Int.tmod (jv .u64 (iP .u64 c 32) (uw e)) (uw pb)),(iw (b-1)))) else some (aK.done (d,c)))
def vg(N:Nat)(a:(List Int))(pb:Int):Option ((List Int)×Int):=(fW (α:=Int) 4 0 (List.length a:Int)).bind fun x2=>(bJ (EH N a pb) N (x2,0,(iw ((List.length a:Int)-1)))).bind fun ss=>match ss with
  |(b,c)=>some (b,(dT c))
def C0(N:Nat)(a:(List Int))(n:Int):((List Int)×Int)->Option (aK ((List Int)×Int) (List Int))
 |(c,b)=>(if(b:Int)<(List.length a:Int)then (idx a b).bind fun d=>(kP (¬(n:Int)<0)).bind fun _=>(idx c b).bind fun f=>(idx c b).bind fun i=>(di c b (jv .u32 f (dT (iP .u64 (uw d) n)))).bind fun e=>(idx e (iw (b+1))).bind fun j=>(di e (iw (b+1)) (dT (fl .u64 (iP .u64 (uw d) n) 32))).bind fun g=>some (aK.next (g,(iw (b+1)))) else some (aK.done c))
def uA(N:Nat)(a:(List Int))(n:Int):Option (List Int):=(fW (α:=Int) 4 0 (iw ((List.length a:Int)+1))).bind fun x2=>(bJ (C0 N a n) N (x2,0)).bind fun ss=>match ss with
  |b=>some b
open Go Go.X
def Ew(N:Nat):(List Int)->Option (aK (List Int) (List Int))
 |a=>(((if((List.length a:Int):Int)>0 then (idx a (iw ((List.length a:Int)-1))).bind fun b=>some (decide ((b:Int)=0)) else some false):Option Bool)).bind fun ss=>match ss with
   |c=>(if c=true then (cut a 0 (iw ((List.length a:Int)-1))).bind fun d=>some (aK.next d) else some (aK.done a))
def nG(N:Nat)(l:(List Int)):Option (List Int):=(bJ (Ew N) N l).bind fun ss=>match ss with
  |a=>some a
def Ea(N:Nat)(x:aB):((List Int)×Int)->Option (aK ((List Int)×Int) (List Int))
 |(b,a)=>(if(a:Int)<(List.length x.aP:Int)then (idx x.aP a).bind fun c=>(idx x.aP a).bind fun d=>(cS 8 b [(iw (Int.tmod c 65536)),(iw (dT (Int.tdiv d 65536)))]).bind fun e=>some (aK.next (e,(iw (a+1)))) else some (aK.done b))
def kQ(N:Nat)(x:aB):Option (List Int):=(bJ (Ea N x) N (([]:(List Int)),0)).bind fun ss=>match ss with
  |a=>(nG N a).bind fun b=>some b
def CO(N:Nat)(r6:(List Int)):((List Int)×Int)->Option (aK ((List Int)×Int) (List Int))
 |(b,a)=>(if(a:Int)<(List.length r6:Int)then (idx r6 a).bind fun c=>(((if((iw (a+1)):Int)<(List.length r6:Int)then (idx r6 (iw (a+1))).bind fun d=>some (dT ((dT c)+(dT (65536*(dT d))))) else some (dT c)):Option Int)).bind fun ss=>match ss with
    |e=>(cS 4 b [e]).bind fun f=>some (aK.next (f,(iw (a+2)))) else some (aK.done b))
def k9(N:Nat)(negative:Bool)(l:(List Int)):Option aB:=(nG N l).bind fun r6=>(((if negative=true then some (decide (((List.length r6:Int):Int)>0)) else some false):Option Bool)).bind fun ss=>match ss with
  |a=>(bJ (CO N r6) N (([]:(List Int)),0)).bind fun ss=>match ss with
    |b=>some (aB.mk a b)
def xB(N:Nat)(x:aB):Option aB:=(kQ N x).bind fun a=>(k9 N x.bF a).bind fun b=>some b
def ER(N:Nat)(a:(List Int))(b:(List Int)):Int->Option (aK Int (Sum Unit Int))
 |c=>(if(c:Int)≥0 then (idx a c).bind fun d=>(idx b c).bind fun e=>(if(d:Int)<e then some (aK.done (Sum.inr (-1))) else (idx a c).bind fun f=>(idx b c).bind fun g=>(if(f:Int)>g then some (aK.done (Sum.inr 1)) else some (aK.next (iw (c-1))))) else some (aK.done (Sum.inl ())))
def tF(N:Nat)(a:(List Int))(b:(List Int)):Option Int:=(if((List.length a:Int):Int)≠(List.length b:Int)then (if((List.length a:Int):Int)<(List.length b:Int)then some (-1) else some 1) else (bJ (ER N a b) N (iw ((List.length a:Int)-1))).bind fun ss=>match ss with
   |(Sum.inl _)=>some 0
   |(Sum.inr c)=>some c)
def Ec(N:Nat)(a:(List Int))(b:(List Int)):((List Int)×Int×Int)->Option (aK ((List Int)×Int×Int) (List Int))
 |(e,d,c)=>(((if(c:Int)<(List.length a:Int)then some true else (if(c:Int)<(List.length b:Int)then some true else some (decide ((d:Int)>0)))):Option Bool)).bind fun ss=>match ss with
   |i=>(if i=true then (((if(c:Int)<(List.length a:Int)then (idx a c).bind fun j=>some (iw (d+j)) else some d):Option Int)).bind fun ss=>match ss with
      |f=>(((if(c:Int)<(List.length b:Int)then (idx b c).bind fun k=>some (iw (f+k)) else some f):Option Int)).bind fun ss=>match ss with
        |g=>(cS 8 e [(Int.tmod g 65536)]).bind fun l=>some (aK.next (l,(iw (Int.tdiv g 65536)),(iw (c+1)))) else some (aK.done e))
def o5(N:Nat)(a:(List Int))(b:(List Int)):Option (List Int):=(bJ (Ec N a b) N (([]:(List Int)),0,0)).bind fun ss=>match ss with
  |c=>(nG N c).bind fun d=>some d
def DR(N:Nat)(a:(List Int))(b:(List Int)):((List Int)×Int×Int)->Option (aK ((List Int)×Int×Int) (List Int))
 |(e,f,c)=>(if(c:Int)<(List.length a:Int)then (idx a c).bind fun g=>(((if(c:Int)<(List.length b:Int)then (idx b c).bind fun i=>some (iw ((iw (g-f))-i)) else some (iw (g-f))):Option Int)).bind fun ss=>match ss with
    |d=>(((if(d:Int)<0 then some (1,(iw (d+65536))) else some (0,d)):Option (Int×Int))).bind fun ss=>match ss with
      |(j,k)=>(cS 8 e [k]).bind fun l=>some (aK.next (l,j,(iw (c+1)))) else some (aK.done e))
def rz(N:Nat)(a:(List Int))(b:(List Int)):Option (List Int):=(bJ (DR N a b) N (([]:(List Int)),0,0)).bind fun ss=>match ss with
  |c=>(nG N c).bind fun d=>some d
def kE(N:Nat)(x:aB):Option Int:=(kQ N x).bind fun r6=>(if((List.length r6:Int):Int)=0 then some 0 else (if x.bF=true then some (-1) else some 1))
def p7(N:Nat)(x:aB):Option aB:=(kQ N x).bind fun a=>(k9 N (!x.bF) a).bind fun b=>some b
def oS(N:Nat)(a:aB)(b:aB):Option aB:=(kQ N a).bind fun c=>(kQ N b).bind fun d=>(if(a.bF==b.bF)=true then (o5 N c d).bind fun e=>(k9 N a.bF e).bind fun f=>some f else (tF N c d).bind fun g=>(if(g:Int)≥0 then (rz N c d).bind fun i=>(k9 N a.bF i).bind fun j=>some j else (rz N d c).bind fun k=>(k9 N b.bF k).bind fun l=>some l))
def tx(N:Nat)(a:aB)(b:aB):Option aB:=(p7 N b).bind fun c=>(oS N a c).bind fun d=>some d
def EW(N:Nat)(a:(List Int))(d:Int):((List Int)×Int×Int)->Option (aK ((List Int)×Int×Int) (List Int))
 |(e,c,b)=>(((if(b:Int)<(List.length a:Int)then some true else some (decide ((c:Int)>0))):Option Bool)).bind fun ss=>match ss with
   |g=>(if g=true then (((if(b:Int)<(List.length a:Int)then (idx a b).bind fun i=>some (iw (c+(iw (i*d)))) else some c):Option Int)).bind fun ss=>match ss with
      |f=>(cS 8 e [(Int.tmod f 65536)]).bind fun j=>some (aK.next (j,(iw (Int.tdiv f 65536)),(iw (b+1)))) else some (aK.done e))
def xM(N:Nat)(a:(List Int))(d:Int):Option (List Int):=(bJ (EW N a d) N (([]:(List Int)),0,0)).bind fun ss=>match ss with
  |b=>(nG N b).bind fun c=>some c
def DX(N:Nat)(c:(List Int))(d:(List Int)):((List Int)×Int)->Option (aK ((List Int)×Int) (List Int))
 |(b,a)=>(if(a:Int)≥0 then (cS 8 [0] b).bind fun e=>(idx d a).bind fun f=>(xM N c f).bind fun g=>(o5 N e g).bind fun i=>some (aK.next (i,(iw (a-1)))) else some (aK.done b))
def rW(N:Nat)(a:aB)(b:aB):Option aB:=(kQ N a).bind fun d=>(kQ N b).bind fun c=>(bJ (DX N d c) N (([]:(List Int)),(iw ((List.length c:Int)-1)))).bind fun ss=>match ss with
  |e=>(k9 N (!(a.bF==b.bF)) e).bind fun f=>some f
def zG(N:Nat)(a:(List Int))(b:(List Int))(e:Int):((List Int)×(List Int)×Int)->Option (aK ((List Int)×(List Int)×Int) ((List Int)×(List Int)))
 |(c,f,d)=>(if(d:Int)>0 then (o5 N f f).bind fun i=>(idx a e).bind fun j=>(sdiv .i64 j d).bind fun k=>(((if((Int.tmod k 2):Int)=1 then (o5 N i [1]).bind fun l=>some l else some i):Option (List Int))).bind fun ss=>match ss with
    |g=>(tF N g b).bind fun m=>(if(m:Int)≥0 then (rz N g b).bind fun n=>(idx c e).bind fun o=>(idx c e).bind fun s=>(di c e (iw (o+d))).bind fun p=>some (aK.next (p,n,(iw (Int.tdiv d 2)))) else some (aK.next (c,g,(iw (Int.tdiv d 2))))) else some (aK.done (c,f)))
def DY(N:Nat)(a:(List Int))(b:(List Int)):((List Int)×(List Int)×Int)->Option (aK ((List Int)×(List Int)×Int) ((List Int)×(List Int)))
 |(d,e,c)=>(if(c:Int)≥0 then (bJ (zG N a b c) N (d,e,32768)).bind fun ss=>match ss with
    |(f,g)=>some (aK.next (f,g,(iw (c-1)))) else some (aK.done (d,e)))
def wH(N:Nat)(a:(List Int))(b:(List Int)):Option ((List Int)×(List Int)):=(fW (α:=Int) 8 0 (List.length a:Int)).bind fun x2=>(bJ (DY N a b) N (x2,([]:(List Int)),(iw ((List.length a:Int)-1)))).bind fun ss=>match ss with
  |(c,d)=>(nG N c).bind fun e=>some (e,d)
def Eb(N:Nat):(Int×(List Int))->Option (aK (Int×(List Int)) (List Int))
 |(a,b)=>(if(a:Int)>0 then (cS 8 b [(iw (Int.tmod a 65536))]).bind fun c=>some (aK.next ((uw (Int.tdiv a 65536)),c)) else some (aK.done b))
def lr(N:Nat)(n:Int):Option aB:=(((if(n:Int)<0 then some (uw ((uw (iw (0-(iw (n+1)))))+1)) else some (uw n)):Option Int)).bind fun ss=>match ss with
  |u8=>(bJ (Eb N) N (u8,([]:(List Int)))).bind fun ss=>match ss with
    |a=>(k9 N (decide ((n:Int)<0)) a).bind fun b=>some b
def um(N:Nat)(a:aB)(b:aB):Option (aB×aB×Bool):=(kE N b).bind fun f=>(if(f:Int)=0 then some ((aB.mk false []),(aB.mk false []),false) else (kQ N a).bind fun g=>(kQ N b).bind fun i=>(wH N g i).bind fun d=>(k9 N (!(a.bF==b.bF)) d.1).bind fun e=>(k9 N a.bF d.2).bind fun c=>(((kE N c).bind fun j=>(if(j:Int)≠0 then (kE N c).bind fun k=>(kE N b).bind fun l=>some (decide ((k:Int)≠l)) else some false):Option Bool)).bind fun ss=>match ss with
   |m=>(((if m=true then (lr N 1).bind fun n=>(tx N e n).bind fun o=>(oS N c b).bind fun p=>some (o,p) else some (e,c)):Option (aB×aB))).bind fun ss=>match ss with
     |(s,u)=>some (s,u,true))
def KM(N:Nat)(a:aB)(b:aB):Int->Option (aK Int (Sum Unit Bool))
 |c=>(if(c:Int)<(List.length a.aP:Int)then (idx a.aP c).bind fun d=>(idx b.aP c).bind fun e=>(if(d:Int)≠e then some (aK.done (Sum.inr false)) else some (aK.next (iw (c+1)))) else some (aK.done (Sum.inl ())))
def xC(N:Nat)(a:aB)(b:aB):Option Bool:=(((if(!(a.bF==b.bF))=true then some true else some (decide (((List.length a.aP:Int):Int)≠(List.length b.aP:Int)))):Option Bool)).bind fun ss=>match ss with
  |c=>(if c=true then some false else (bJ (KM N a b) N 0).bind fun ss=>match ss with
     |(Sum.inl _)=>some true
     |(Sum.inr d)=>some d)
open Go Go.X
def q9:List UInt8:=[0,1,2,2,3,3,3,3,4,4,4,4,4,4,4,4,5,5,5,5,5,5,5,5,5,5,5,5,5,5,5,5,6,6,6,6,6,6,6,6,6,6,6,6,6,6,6,6,6,6,6,6,6,6,6,6,6,6,6,6,6,6,6,6,7,7,7,7,7,7,7,7,7,7,7,7,7,7,7,7,7,7,7,7,7,7,7,7,7,7,7,7,7,7,7,7,7,7,7,7,7,7,7,7,7,7,7,7,7,7,7,7,7,7,7,7,7,7,7,7,7,7,7,7,7,7,7,7,8,8,8,8,8,8,8,8,8,8,8,8,8,8,8,8,8,8,8,8,8,8,8,8,8,8,8,8,8,8,8,8,8,8,8,8,8,8,8,8,8,8,8,8,8,8,8,8,8,8,8,8,8,8,8,8,8,8,8,8,8,8,8,8,8,8,8,8,8,8,8,8,8,8,8,8,8,8,8,8,8,8,8,8,8,8,8,8,8,8,8,8,8,8,8,8,8,8,8,8,8,8,8,8,8,8,8,8,8,8,8,8,8,8,8,8,8,8,8,8,8,8,8,8,8,8,8,8]
def wv(N:Nat)(x:Int):Option Int:=(((if(x:Int)≥65536 then some ((fl .u32 x 16),16) else some (x,0)):Option (Int×Int))).bind fun ss=>match ss with
  |(x2,n3)=>(((if(x2:Int)≥256 then some ((fl .u32 x2 8),(iw (n3+8))) else some (x2,n3)):Option (Int×Int))).bind fun ss=>match ss with
    |(a,b)=>(idx q9 (uw8 a)).bind fun c=>some (iw (b+(iw (UInt8.toNat c:Int))))
def xO(N:Nat)(x:Int):Option Int:=(wv N x).bind fun r1=>some (iw (32-r1))
def Ai(N:Nat)(n:Int)(pa_hi:Int)(pa_lo:Int)(pb:(List Int)):((List Int)×Int×Int×Int)->Option (aK ((List Int)×Int×Int×Int) ((List Int)×Int))
 |(b,c,d,a)=>(if(a:Int)<(pa_hi-pa_lo)then (digit N pb a).bind fun e=>(kP (0<=a/\a<pa_hi-pa_lo)).bind fun _=>(idx b (pa_lo+a)).bind fun f=>(kP (0<=a/\a<pa_hi-pa_lo)).bind fun _=>(idx b (pa_lo+a)).bind fun i=>(di b (pa_lo+a) (dT (uw ((uw ((uw f)-(pO .u64 (uw (c+(uw (n*e)))) 4294967295)))-d)))).bind fun g=>some (aK.next (g,(fl .u64 (uw (c+(uw (n*e)))) 32),(fl .u64 (uw ((uw ((uw f)-(pO .u64 (uw (c+(uw (n*e)))) 4294967295)))-d)) 63),(iw (a+1)))) else some (aK.done (b,d)))
def AN(N:Nat)(pa:(List Int))(pa_lo:Int)(pa_hi:Int)(pb:(List Int))(n:Int):Option (Bool×(List Int)):=(bJ (Ai N n pa_hi pa_lo pb) N (pa,0,0,0)).bind fun ss=>match ss with
  |(a,b)=>some ((decide ((b:Int)≠0)),a)
def y7(N:Nat)(b:(List Int))(d:(List Int))(f:(List Int))(g:Int):(Int×Int)->Option (aK (Int×Int) Int)
 |(a,c)=>(((if(a:Int)>4294967295 then some true else (idx d (iw ((List.length b:Int)-2))).bind fun i=>(idx f (iw ((iw (g+(List.length b:Int)))-2))).bind fun j=>some (decide (((uw (a*(uw i))):Int)>(jv .u64 (iP .u64 c 32) (uw j))))):Option Bool)).bind fun ss=>match ss with
   |k=>(if k=true then (idx d (iw ((List.length b:Int)-1))).bind fun e=>(if((uw (c+(uw e))):Int)>4294967295 then some (aK.done (uw (a-1))) else some (aK.next ((uw (a-1)),(uw (c+(uw e)))))) else some (aK.done a))
def yG(N:Nat)(e:(List Int))(c:Int):((List Int)×Int×Int)->Option (aK ((List Int)×Int×Int) ((List Int)×Int))
 |(b,d,a)=>(if(a:Int)<(List.length e:Int)then (idx b (iw (c+a))).bind fun f=>(idx e a).bind fun g=>(idx b (iw (c+a))).bind fun j=>(di b (iw (c+a)) (dT (uw (d+(uw ((uw f)+(uw g))))))).bind fun i=>some (aK.next (i,(fl .u64 (uw (d+(uw ((uw f)+(uw g))))) 32),(iw (a+1)))) else some (aK.done (b,d)))
def za(N:Nat)(b:(List Int))(d:(List Int)):((List Int)×(List Int)×Int)->Option (aK ((List Int)×(List Int)×Int) ((List Int)×(List Int)))
 |(c,e,a)=>(if(a:Int)≥0 then (idx c (iw (a+(List.length b:Int)))).bind fun f=>(idx c (iw ((iw (a+(List.length b:Int)))-1))).bind fun g=>(idx d (iw ((List.length b:Int)-1))).bind fun m=>(sdiv .u64 (jv .u64 (iP .u64 (uw f) 32) (uw g)) (uw m)).bind fun n=>(idx d (iw ((List.length b:Int)-1))).bind fun l=>(srem (jv .u64 (iP .u64 (uw f) 32) (uw g)) (uw l)).bind fun a0=>(bJ (y7 N b d c a) N (n,(Int.tmod (jv .u64 (iP .u64 (uw f) 32) (uw g)) (uw l)))).bind fun ss=>match ss with
    |i=>(ns c a (iw ((iw (a+(List.length b:Int)))+1))).bind fun _=>(AN N c a (iw ((iw (a+(List.length b:Int)))+1)) d i).bind fun j=>(((if j.1=true then (bJ (yG N d a) N (j.2,0,0)).bind fun ss=>match ss with
       |(k,o)=>(idx k (iw (a+(List.length b:Int)))).bind fun p=>(idx k (iw (a+(List.length b:Int)))).bind fun a1=>(di k (iw (a+(List.length b:Int))) (dT (p+(dT o)))).bind fun s=>some (s,(uw (i-1))) else some (j.2,i)):Option ((List Int)×Int))).bind fun ss=>match ss with
      |(u,v)=>(idx e a).bind fun a2=>(di e a (dT v)).bind fun y=>some (aK.next (u,y,(iw (a-1)))) else some (aK.done (c,e)))
def AW(N:Nat)(c:Int)(d:(List Int))(e:(List Int)):((List Int)×Int)->Option (aK ((List Int)×Int) (List Int))
 |(b,a)=>(if(a:Int)<(List.length e:Int)then (idx d (iw (a+1))).bind fun f=>(idx d a).bind fun g=>(kP (¬((uw c):Int)<0)).bind fun _=>(idx b a).bind fun j=>(di b a (dT (fl .u64 (jv .u64 (iP .u64 (uw f) 32) (uw g)) (uw c)))).bind fun i=>some (aK.next (i,(iw (a+1)))) else some (aK.done b))
def uq(N:Nat)(a:(List Int))(b:(List Int)):Option ((List Int)×(List Int)):=(p9 N a b).bind fun r1=>(if(r1:Int)<0 then (lq N a).bind fun r9=>some (([]:(List Int)),r9) else (if((List.length b:Int):Int)=1 then (idx b 0).bind fun i=>(vg N a i).bind fun d=>(lq N d.1).bind fun j=>(lq N [d.2]).bind fun k=>some (j,k) else (idx b (iw ((List.length b:Int)-1))).bind fun l=>(xO N l).bind fun c=>(uA N a (uw c)).bind fun e=>(uA N b (uw c)).bind fun m=>(cut m 0 (List.length b:Int)).bind fun n=>(fW (α:=Int) 4 0 (iw ((List.length e:Int)-(List.length b:Int)))).bind fun f=>(bJ (za N b n) N (e,f,(iw ((List.length f:Int)-1)))).bind fun ss=>match ss with
    |(o,p)=>(fW (α:=Int) 4 0 (List.length b:Int)).bind fun g=>(bJ (AW N c o g) N (g,0)).bind fun ss=>match ss with
      |s=>(lq N p).bind fun u=>(lq N s).bind fun v=>some (u,v)))
def fK(N:Nat)(n:Int):Option aB:=(((if(n:Int)<0 then some (uw (0-(uw n))) else some (uw n)):Option Int)).bind fun ss=>match ss with
  |u8=>(jM N (decide ((n:Int)<0)) [(dT u8),(dT (fl .u64 u8 32))]).bind fun a=>some a
def ld(N:Nat)(x:aB):Option aB:=(jM N x.bF x.aP).bind fun a=>some a
def gC(N:Nat)(x:aB):Option Int:=(ld N x).bind fun r6=>(if((List.length r6.aP:Int):Int)=0 then some 0 else (if r6.bF=true then some (-1) else some 1))
def iz(N:Nat)(a:aB)(b:aB):Option Int:=(ld N a).bind fun c=>(ld N b).bind fun d=>(((if(!(c.bF==d.bF))=true then some c.bF else some false):Option Bool)).bind fun ss=>match ss with
  |e=>(if e=true then some (-1) else (if(!(c.bF==d.bF))=true then some 1 else (if c.bF=true then (p9 N d.aP c.aP).bind fun f=>some f else (p9 N c.aP d.aP).bind fun g=>some g)))
def jd(N:Nat)(x:aB):Option aB:=(jM N (!x.bF) x.aP).bind fun a=>some a
def iV(N:Nat)(a:aB)(b:aB):Option aB:=(ld N a).bind fun c=>(ld N b).bind fun d=>(if(c.bF==d.bF)=true then (uV N c.aP d.aP).bind fun e=>(jM N c.bF e).bind fun f=>some f else (p9 N c.aP d.aP).bind fun g=>(if(g:Int)<0 then (rC N d.aP c.aP).bind fun i=>(jM N d.bF i).bind fun j=>some j else (rC N c.aP d.aP).bind fun k=>(jM N c.bF k).bind fun l=>some l))
def iS(N:Nat)(a:aB)(b:aB):Option aB:=(jd N b).bind fun c=>(iV N a c).bind fun d=>some d
def j7(N:Nat)(a:aB)(b:aB):Option aB:=(vX N a.aP b.aP).bind fun c=>(jM N (!(a.bF==b.bF)) c).bind fun d=>some d
def kx(N:Nat)(a:aB)(b:aB):Option (aB×aB×Bool):=(ld N a).bind fun e=>(ld N b).bind fun d=>(if((List.length d.aP:Int):Int)=0 then some ((aB.mk false []),(aB.mk false []),false) else (uq N e.aP d.aP).bind fun c=>(if(!(e.bF==d.bF))=true then (((if((List.length c.2:Int):Int)>0 then (uV N c.1 [1]).bind fun f=>(rC N d.aP c.2).bind fun g=>some (f,g) else some (c.1,c.2)):Option ((List Int)×(List Int)))).bind fun ss=>match ss with
    |(i,j)=>(jM N true i).bind fun k=>(jM N d.bF j).bind fun l=>some (k,l,true) else (jM N false c.1).bind fun m=>(jM N d.bF c.2).bind fun n=>some (m,n,true)))
def ES(N:Nat):((List Int)×(List Int))->Option (aK ((List Int)×(List Int)) (List Int))
 |(b,a)=>(if((List.length a:Int):Int)>0 then (uq N b a).bind fun c=>some (aK.next (a,c.2)) else some (aK.done b))
def vA(N:Nat)(a:aB)(b:aB):Option aB:=(lq N a.aP).bind fun c=>(lq N b.aP).bind fun d=>(bJ (ES N) N (c,d)).bind fun ss=>match ss with
  |e=>(jM N false e).bind fun f=>some f
def EY(N:Nat):((List (List UInt8))×(List Int))->Option (aK ((List (List UInt8))×(List Int)) (List (List UInt8)))
 |(b,c)=>(if((List.length c:Int):Int)>0 then (vg N c 1000000000).bind fun d=>(lq N d.1).bind fun e=>(xH N (uw d.2) 10).bind fun a=>(((if((List.length e:Int):Int)>0 then (wI N ([48]:List UInt8) (iw (9-(List.length a:Int)))).bind fun f=>(kP ((List.length f:Int)+List.length a<=9223372036854775807)).bind fun _=>some (f++a) else some a):Option (List UInt8))).bind fun ss=>match ss with
    |g=>(cS 16 b [g]).bind fun i=>some (aK.next (i,e)) else some (aK.done b))
def uj(N:Nat)(x:aB):Option (List UInt8):=(ld N x).bind fun r6=>(if((List.length r6.aP:Int):Int)=0 then some ([48]:List UInt8) else (bJ (EY N) N (([]:(List (List UInt8))),r6.aP)).bind fun ss=>match ss with
   |a=>(((if r6.bF=true then (cS 16 a [([45]:List UInt8)]).bind fun b=>some b else some a):Option (List (List UInt8)))).bind fun ss=>match ss with
     |c=>(xZ N c).bind fun d=>(pY N d ([]:List UInt8)).bind fun e=>some e)
open Go Go.X
abbrev aC:Int:=4294967296
theorem mn:(1:Int)<aC:=by decide
theorem T4{s:List Int}(hl:s.length<=35184372088832):Tm (fun N=>xt N s) (fun r=>r=s):=by
 unfold xt;exact aN (dQ (by simp only[dP];omega) (by decide)) (aS rfl)
theorem oz{d:List Int}(hd:bA aC d)(hl:d.length<=35184372088832):Tm (fun N=>lq N d) (fun r=>Dg aC r (val aC d)/\r.length<=d.length):=by
 unfold lq;refine Tm.bind (Q:=fun n:Int=>∃k:Nat,n=k/\k<=d.length/\(∀j,(hj:j<d.length)->k<=j->d[j]=0)/\(k=0\/∃hk:k-1<d.length,d[k-1]≠0))
  (Tm.loop (fun n:Int=>∃k:Nat,n=k/\k<=d.length/\∀j,(hj:j<d.length)->k<=j->d[j]=0) (fun n=>n.toNat) ⟨d.length,rfl,bI _,fun j h1 h2=>absurd h1 (by omega)⟩ ?_) ?_
 . rintro _ ⟨k,rfl,hk,h0⟩;dsimp only[Cj];rcases gv k with rfl|hk0
   . refine Tm.bind (Q:=(·=false)) (cz (by omega) (aS rfl)) ?_;rintro _ rfl;exact cz (by simp) (aS ⟨0,rfl,hk,h0,.inl rfl⟩)
   . refine Tm.bind (Q:=(·=decide (d[k-1]=0))) (cY (by omega) (aN (gw (n:=k-1) (by rw[bK]<;>omega) (by omega)) (aS rfl))) ?_;rintro _ rfl;by_cases h:d[k-1]=0
     . refine cY (by simpa using h) (aS ⟨⟨k-1,by rw[bK]<;>omega,by omega,fun j h1 h2=>?_⟩,?_⟩)
       . rcases Nat.eq_or_lt_of_le h2 with rfl|h3
         . exact h
         . exact h0 j h1 (by omega)
       . show(iw ((k:Int)-1)).toNat<((k:Int)).toNat;rw[bK]<;>omega
     . exact cz (by simpa using h) (aS ⟨k,rfl,hk,h0,.inr ⟨by omega,h⟩⟩)
 . rintro _ ⟨k,rfl,hk,h0,h1⟩;refine aN (rO (m:=0) (n:=k) rfl rfl (by omega) hk) ?_;refine Tm.bind (T4 (by simp;omega)) ?_;rintro _ rfl;refine aS ⟨by simpa using E1 hk hd h0 h1,by simp;omega⟩
def bv(x:aB):Int:=if x.bF=true then-val aC x.aP else val aC x.aP
structure Is (x:aB)(v:Int):Prop where
 dg:Dg aC x.aP v.natAbs
 neg:x.bF=decide (v<0)
theorem Is.bv{x:aB}{v:Int}(h:Is x v):bv x=v:=by
 unfold D.bv;rw[h.neg,h.dg.val];by_cases hv:v<0
 . simp[hv];omega
 . simp[hv];omega
theorem Is.uniq{x y:aB}{v:Int}(h:Is x v)(h':Is y v):x=y:=by
 have h1:=h.dg.uniq mn h'.dg;have h2:=h.neg.trans h'.neg.symm;cases x;cases y;simp_all
theorem lP{neg:Bool}{d:List Int}(hd:bA aC d)(hl:d.length<=35184372088832):Tm (fun N=>jM N neg d) (fun r=>Is r (if neg=true then-val aC d else val aC d)/\r.aP.length<=d.length):=by
 unfold jM;refine Tm.bind (oz hd hl) ?_;rintro r ⟨hr,hl'⟩;have h0:=hr.xw (by decide);refine aY (fun h=>aS ?_) (fun h=>aS ?_)
 . have he:r=[]:=me.1 (by omega);have hv:=(hr.zero (by decide)).1 he;refine⟨⟨?_,?_⟩,by simp⟩
   . simp only[hv];simp;exact Dg.nil
   . simp[hv]
 . have he:r≠[]:=fun e=>h (by simp[e]);have hv:val aC d≠0:=fun e=>he ((hr.zero (by decide)).2 e);refine⟨⟨?_,?_⟩,hl'⟩
   . cases neg<;>simp<;>rw[show((val aC d).natAbs:Int)=val aC d by omega]<;>exact hr
   . cases neg<;>simp<;>omega
theorem ox{x:aB}(hd:bA aC x.aP)(hl:x.aP.length<=35184372088832):Tm (fun N=>ld N x) (fun r=>Is r (bv x)/\r.aP.length<=x.aP.length):=by
 unfold ld;exact Tm.bind (lP hd hl) (fun r h=>aS h)
theorem zy{x:aB}(hd:bA aC x.aP)(hl:x.aP.length<=35184372088832):Tm (fun N=>jd N x) (fun r=>Is r (-bv x)/\r.aP.length<=x.aP.length):=by
 unfold jd;refine Tm.bind (lP hd hl) (fun r h=>aS ?_);refine⟨?_,h.2⟩;have:=h.1;unfold bv;cases hx:x.bF<;>rw[hx]at this<;>simpa using this
theorem QK{x:aB}(hd:bA aC x.aP)(hl:x.aP.length<=35184372088832):Tm (fun N=>gC N x) (fun r=>r=bM (bv x) 0):=by
 unfold gC;refine Tm.bind (ox hd hl) ?_;rintro r ⟨hr,-⟩;have hz:=hr.dg.zero (by decide);refine aY (fun h=>aS ?_) (fun h=>?_)
 . have:=hz.1 (me.1 (by omega));unfold bM;rw[if_neg (by omega),if_neg (by omega)]
 . have:bv x≠0:=fun e=>h (by rw[hz.2 (by omega)];rfl);refine aY (fun h'=>aS ?_) (fun h'=>aS ?_)
   . have:=hr.neg.symm.trans h';simp at this;unfold bM;rw[if_pos (by omega)]
   . have:¬bv x<0:=fun e=>h' (by rw[hr.neg];simpa using e);unfold bM;rw[if_neg (by omega),if_pos (by omega)]
theorem Ao{n:Int}(h1:-9223372036854775808<=n)(h2:n<=9223372036854775807):Tm (fun N=>fK N n) (fun r=>Is r n/\r.aP.length<=2):=by
 unfold fK;refine Tm.bind (Q:=(·=(n.natAbs:Int))) (aY (fun h=>aS ?_) (fun h=>aS ?_)) ?_
 . rw[fG,fG];omega
 . rw[fG];omega
 rintro _ rfl;have hs:fl .u64 (n.natAbs:Int) 32=(n.natAbs:Int)/4294967296:=by
  unfold fl;rw[show((2:Int)^(min (32:Int).toNat IntKind.u64.bits))=4294967296 from rfl,jo _ (by decide)]
 refine Tm.bind (lP (d:=[dT (n.natAbs:Int),dT (fl .u64 (n.natAbs:Int) 32)]) ?_ (by simp)) (fun r h=>aS ?_)
 . rw[hs,gj,gj];exact bA.cons (B:=4294967296) (by omega) (bA.cons (by omega) bA.nil)
 . refine⟨?_,h.2⟩;have hv:val aC [dT (n.natAbs:Int),dT (fl .u64 (n.natAbs:Int) 32)]=n.natAbs:=by
    rw[hs,gj,gj];simp only[val,aC];omega
   have h:=h.1;rw[hv]at h;by_cases hn:n<0
   . simp only[hn,decide_true,if_true]at h;rwa[show-(n.natAbs:Int)=n by omega]at h
   . simp only[hn,decide_false,mb,if_false]at h;rwa[show(n.natAbs:Int)=n by omega]at h
theorem Rv{n:Int}:xk (imax n (-1)) 1=bM n 0:=by
 unfold xk imax bM;by_cases h:-1>n<;>simp only[h,if_true,if_false]<;>(repeat' split)<;>omega
theorem zV{a b:List Int}(ha:bA aC a)(hb:bA aC b)(na:fJ a)(nb:fJ b)(hl:a.length<=35184372088832)(hl':b.length<=35184372088832):Tm (fun N=>p9 N a b) (fun r=>r=bM (val aC a) (val aC b)):=by
 unfold p9;refine aY (fun h=>?_) (fun h=>?_)
 . unfold yO;refine aN rfl (aS ?_);rw[bK (by omega) (by omega),Rv];unfold bM;rcases cv a.length b.length with h'|h'
   . have:=mH mn ha hb nb h';rw[if_pos this];(repeat' split)<;>omega
   . have:=mH mn hb ha na (by omega);rw[if_neg (by omega),if_pos this];(repeat' split)<;>omega
 . have hle:a.length=b.length:=by omega
   refine Tm.bind (Q:=fun r:Sum Unit Int=>(match r with|.inl _=>0|.inr z=>z)=bM (val aC a) (val aC b))
    (Tm.loop (fun i:Int=>∃n:Nat,i=(n:Int)-1/\n<=a.length/\a.drop n=b.drop n) (fun i=>(i+1).toNat) ⟨a.length,by rw[bK]<;>omega,bI _,by rw[yg (bI _),yg (by omega)]⟩ ?_) ?_
   . rintro _ ⟨n,rfl,hn,hd⟩;dsimp only[Fq];refine aY (fun h1=>?_) (fun h1=>?_)
     . have hna:n-1<a.length:=by omega
       have hnb:n-1<b.length:=by omega
       refine aN (gw (n:=n-1) (by omega) hna) (aN (gw (n:=n-1) (by omega) hnb) (aY (fun h2=>?_) (fun h2=>?_)))
       . have:=AP mn ha hb hle hna (by rw[show n-1+1=n by omega];exact hd) h2;refine aS ?_;show(-1:Int)=_;unfold bM;rw[if_pos this]
       . refine aN (gw (n:=n-1) (by omega) hna) (aN (gw (n:=n-1) (by omega) hnb) (aY (fun h3=>?_) (fun h3=>?_)))
         . have:=AP mn hb ha hle.symm hnb (by rw[show n-1+1=n by omega];exact hd.symm) h3;refine aS ?_;show(1:Int)=_;unfold bM;rw[if_neg (by omega),if_pos this]
         . refine aS ⟨⟨n-1,by rw[bK]<;>omega,by omega,?_⟩,?_⟩
           . rw[fx hna,fx hnb,show n-1+1=n by omega,hd,show a[n-1]=b[n-1] by omega]
           . show(iw ((n:Int)-1-1)+1).toNat<((n:Int)-1+1).toNat;rw[bK]<;>omega
     . have:n=0:=by omega
       subst this;refine aS ?_;show(0:Int)=_;have:a=b:=by simpa using hd
       rw[this];unfold bM;rw[if_neg (by omega),if_neg (by omega)]
   . rintro(_|z) h<;>exact aS h
theorem Af{d:List Int}(hd:bA aC d){i:Nat}:Tm (fun N=>digit N d (i:Int)) (fun r=>r=d.getD i 0):=by
 unfold digit;have h0:=hd.getD (by decide) i;refine aY (fun h=>?_) (fun h=>aS ?_)
 . refine aN (de (by omega)) (aS ?_);rw[cy,bV (by omega)]at*;simp only[BL,aC]at*;rw[fG];omega
 . rw[cy,fM (by omega)];rfl
theorem wc{x:Int}:fl .u64 x 32=x/4294967296:=by
 unfold fl;rw[show((2:Int)^(min (32:Int).toNat IntKind.u64.bits))=4294967296 from rfl,jo _ (by decide)]
theorem Lt{x:Int}:fl .u64 x 63=x/9223372036854775808:=by
 unfold fl;rw[show((2:Int)^(min (63:Int).toNat IntKind.u64.bits))=9223372036854775808 from rfl,jo _ (by decide)]
theorem take_set{l:List Int}{n:Nat}{y:Int}(h:n<l.length):val aC ((l.set n y).take (n+1))=val aC (l.take n)+aC^n*y:=by
 rw[fp,yo (bI n),cy,yf h];rfl
theorem GF{a b:List Int}(ha:bA aC a)(hb:bA aC b)(hl:a.length<=17592186044416)(hl':b.length<=17592186044416):Tm (fun N=>uV N a b) (fun r=>bA aC r/\val aC r=val aC a+val aC b/\r.length=max a.length b.length+1):=by
 unfold uV;have hi:iw (imax (a.length:Int) (b.length:Int)+1)=((max a.length b.length+1:Nat):Int):=by
  unfold imax;split<;>rw[bK]<;>omega
 refine aN (gW hi (by omega) (by decide)) ?_;generalize hL:max a.length b.length+1=L;refine Tm.bind (Q:=fun r=>bA aC r/\val aC r=val aC a+val aC b/\r.length=L)
  (Tm.loop (fun s:List Int×Int×Int=>∃n:Nat,s.2.2=n/\n<=L/\s.1.length=L/\bA aC s.1/\0<=s.2.1/\s.2.1<=1/\val aC (s.1.take n)+aC^n*s.2.1=val aC (a.take n)+val aC (b.take n)) (fun s=>L-s.2.2.toNat)
   ⟨0,rfl,fy _,by simp,bA.dd (by decide),by simp,by simp,by simp[val]⟩ ?_) (fun r h=>aS h)
 rintro⟨out,carry,i⟩ ⟨n,rfl,hn,ho,hB,h0,h1,hv⟩;dsimp only[Fe]at*;simp only[kJ];refine aY (fun h=>?_) (fun h=>aS ?_)
 . refine Tm.bind (Af ha) ?_;rintro x rfl;refine Tm.bind (Af hb) ?_;rintro y rfl;refine aN (de (by omega)) ?_;refine aN (ed rfl (by omega)) (aS ?_);have hx:=ha.getD (by decide) n;have hy:=hb.getD (by decide) n;generalize ex:a.getD n 0=x at*;generalize ey:b.getD n 0=y at*;have e1:uw (carry+uw (x+y))=carry+x+y:=by
    simp only[aC]at*;rw[fG,fG];omega
   rw[e1,wc,gj];refine⟨⟨n+1,?_,by omega,by simp;omega,hB.set (by simp only[aC];omega),?_,?_,?_⟩,?_⟩
   . show iw ((n:Int)+1)=_;rw[bK]<;>omega
   . show 0<=(carry+x+y)/4294967296;omega
   . show(carry+x+y)/4294967296<=1;simp only[aC]at*;omega
   . show val aC ((out.set n ((carry+x+y)%4294967296)).take (n+1))+aC^(n+1)*((carry+x+y)/4294967296)=_;rw[take_set (by omega),fp,fp,ex,ey,fi];have:=jF (carry+x+y) 4294967296;have hw:aC=4294967296:=rfl;grind
   . show L-(iw ((n:Int)+1)).toNat<L-((n:Int)).toNat;rw[bK]<;>omega
 . have hnL:n=L:=by omega
   subst hnL;rw[fh (by omega),fh (by omega),fh (by omega)]at hv;refine⟨hB,?_,ho⟩;show val aC out=_;have l1:=gY (by decide) ha;have l2:=gY (by decide) hb;have l3:=gx (by decide) hB;have p1:=j9 (B:=aC) (by decide) (show a.length<=n-1 by omega);have p2:=j9 (B:=aC) (by decide) (show b.length<=n-1 by omega);have p3:aC^n=aC^(n-1)*aC:=by rw[<-fi];congr 1;omega
   have p4:=kC (B:=aC) (by decide) (n-1);have hc:carry=0\/carry=1:=by omega
   rcases hc with rfl|rfl
   . omega
   . simp only[aC]at*;omega
theorem Dr{a b:List Int}(ha:bA aC a)(hb:bA aC b)(hl:a.length<=17592186044416)(hl':b.length<=a.length)(hv:val aC b<=val aC a):Tm (fun N=>rC N a b) (fun r=>bA aC r/\val aC r=val aC a-val aC b/\r.length=a.length):=by
 unfold rC;refine aN (gW rfl (by omega) (by decide)) ?_;generalize hL:a.length=L;refine Tm.bind (Q:=fun r=>bA aC r/\val aC r=val aC a-val aC b/\r.length=L)
  (Tm.loop (fun s:List Int×Int×Int=>∃n:Nat,s.2.2=n/\n<=L/\s.1.length=L/\bA aC s.1/\0<=s.2.1/\s.2.1<=1/\val aC (s.1.take n)=val aC (a.take n)-val aC (b.take n)+aC^n*s.2.1) (fun s=>L-s.2.2.toNat)
   ⟨0,rfl,fy _,by simp[hL],bA.dd (by decide),by simp,by simp,by simp[val]⟩ ?_) (fun r h=>aS h)
 rintro⟨out,borrow,i⟩ ⟨n,rfl,hn,ho,hB,h0,h1,hv'⟩;dsimp only[Fl]at*;refine aY (fun h=>?_) (fun h=>aS ?_)
 . refine aN (de (by omega)) ?_;refine Tm.bind (Af hb) ?_;rintro y rfl;refine aN (de (by omega)) ?_;refine aN (ed rfl (by omega)) (aS ?_);have hx:=ha.get (n:=n) (by omega);have hy:=hb.getD (by decide) n;have ex:a.getD n 0=a[n]'(by omega):=by rw[cy,bV (by omega)];rfl
   generalize a[n]'(by omega)=x at*;generalize ey:b.getD n 0=y at*;have e1:uw (uw (uw x-y)-borrow)=(x-y-borrow)%18446744073709551616:=by
    simp only[aC]at*;rw[fG,fG,fG];omega
   rw[e1,Lt,gj];simp only[aC]at hx hy;refine⟨⟨n+1,?_,by omega,by simp;omega,hB.set (by simp only[aC];omega),?_,?_,?_⟩,?_⟩
   . show iw ((n:Int)+1)=_;rw[bK]<;>omega
   . show 0<=(x-y-borrow)%18446744073709551616/9223372036854775808;omega
   . show(x-y-borrow)%18446744073709551616/9223372036854775808<=1;omega
   . show val aC ((out.set n ((x-y-borrow)%18446744073709551616%4294967296)).take (n+1))=_+aC^(n+1)*((x-y-borrow)%18446744073709551616/9223372036854775808);rw[take_set (by omega),fp,fp,ex,ey,fi];have hd:(x-y-borrow)%18446744073709551616%4294967296=x-y-borrow+aC*((x-y-borrow)%18446744073709551616/9223372036854775808):=by
      simp only[aC];omega
     rw[hd];grind
   . show L-(iw ((n:Int)+1)).toNat<L-((n:Int)).toNat;rw[bK]<;>omega
 . have hnL:n=L:=by omega
   subst hnL;rw[fh (by omega),fh (by omega),fh (by omega)]at hv';refine⟨hB,?_,ho⟩;show val aC out=_;have l1:=gY (by decide) hB;rw[ho]at l1;have hc:borrow=0\/borrow=1:=by omega
   rcases hc with rfl|rfl
   . omega
   . simp only[aC]at*;omega
theorem Is.zd{x:aB}{v:Int}(h:Is x v):val aC x.aP=if v<0 then-v else v:=by rw[h.dg.val];split<;>omega
theorem LM{a b:aB}(ha:bA aC a.aP)(hb:bA aC b.aP)(hl:a.aP.length<=17592186044416)(hl':b.aP.length<=17592186044416):
 Tm (fun N=>iV N a b) (fun r=>Is r (bv a+bv b)/\r.aP.length<=max a.aP.length b.aP.length+1):=by
 unfold iV;refine Tm.bind (ox ha (by omega)) ?_;rintro x ⟨hx,hxl⟩;refine Tm.bind (ox hb (by omega)) ?_;rintro y ⟨hy,hyl⟩;have vx:=hx.zd;have vy:=hy.zd;have n1:=hx.neg;have n2:=hy.neg;refine aY (fun h=>?_) (fun h=>?_)
 . have hn:x.bF=y.bF:=by simpa using h
   refine Tm.bind (GF hx.dg.bL hy.dg.bL (by omega) (by omega)) ?_;rintro s ⟨hs,sv,sl⟩;refine Tm.bind (lP hs (by omega)) (fun r hr=>aS ⟨?_,by omega⟩);have hr:=hr.1;rw[sv,vx,vy]at hr;by_cases p:bv a<0<;>by_cases q:bv b<0<;>simp only[p,q,decide_true,decide_false]at n1 n2 hn
   . simp only[n1,p,q,if_true]at hr;rwa[show-(-bv a+-bv b)=bv a+bv b by omega]at hr
   . rw[n1,n2]at hn;cases hn
   . rw[n1,n2]at hn;cases hn
   . simpa only[n1,p,q,if_false,mb]using hr
 . have hn:¬x.bF=y.bF:=by simpa using h
   refine Tm.bind (zV hx.dg.bL hy.dg.bL hx.dg.e9 hy.dg.e9 (by omega) (by omega)) ?_;rintro c rfl;refine aY (fun hc=>?_) (fun hc=>?_)
   . have hlt:val aC x.aP<val aC y.aP:=by revert hc;unfold bM;split<;>(try split)<;>omega
     have hle:x.aP.length<=y.aP.length:=by
      rcases cv y.aP.length x.aP.length with h'|h'
      . have:=mH mn hy.dg.bL hx.dg.bL hx.dg.e9 h';omega
      . exact h'
     refine Tm.bind (Dr hy.dg.bL hx.dg.bL (by omega) hle (by omega)) ?_;rintro s ⟨hs,sv,sl⟩;refine Tm.bind (lP hs (by omega)) (fun r hr=>aS ⟨?_,by omega⟩);have hr:=hr.1;rw[sv,vx,vy]at hr;by_cases p:bv a<0<;>by_cases q:bv b<0<;>simp only[p,q,decide_true,decide_false]at n1 n2 hn
     . rw[n1,n2]at hn;exact absurd rfl hn
     . simp only[n2,p,q,if_true,if_false,mb]at hr;rwa[show bv b- -bv a=bv a+bv b by omega]at hr
     . simp only[n2,p,q,if_true,if_false]at hr;rwa[show-(-bv b-bv a)=bv a+bv b by omega]at hr
     . rw[n1,n2]at hn;exact absurd rfl hn
   . have hge:val aC y.aP<=val aC x.aP:=by revert hc;unfold bM;split<;>(try split)<;>omega
     have hle:y.aP.length<=x.aP.length:=by
      rcases cv x.aP.length y.aP.length with h'|h'
      . have:=mH mn hx.dg.bL hy.dg.bL hy.dg.e9 h';omega
      . exact h'
     refine Tm.bind (Dr hx.dg.bL hy.dg.bL (by omega) hle hge) ?_;rintro s ⟨hs,sv,sl⟩;refine Tm.bind (lP hs (by omega)) (fun r hr=>aS ⟨?_,by omega⟩);have hr:=hr.1;rw[sv,vx,vy]at hr;by_cases p:bv a<0<;>by_cases q:bv b<0<;>simp only[p,q,decide_true,decide_false]at n1 n2 hn
     . rw[n1,n2]at hn;exact absurd rfl hn
     . simp only[n1,p,q,if_true,if_false]at hr;rwa[show-(-bv a-bv b)=bv a+bv b by omega]at hr
     . simp only[n1,p,q,if_true,if_false,mb]at hr;rwa[show bv a- -bv b=bv a+bv b by omega]at hr
     . rw[n1,n2]at hn;exact absurd rfl hn
theorem TX{a b:aB}(ha:bA aC a.aP)(hb:bA aC b.aP)(hl:a.aP.length<=17592186044416)(hl':b.aP.length<=17592186044416):
 Tm (fun N=>iS N a b) (fun r=>Is r (bv a-bv b)/\r.aP.length<=max a.aP.length b.aP.length+1):=by
 unfold iS;refine Tm.bind (zy hb (by omega)) ?_;rintro y ⟨hy,hyl⟩;refine Tm.bind (LM ha hy.dg.bL (by omega) (by omega)) (fun r h=>aS ⟨?_,by omega⟩);have:=h.1;rwa[hy.bv,<-F5]at this
theorem TF{a b:List Int}(ha:bA aC a)(hb:bA aC b)(hl:a.length<=17592186044416)(hl':b.length<=17592186044416):
 Tm (fun N=>vX N a b) (fun r=>bA aC r/\val aC r=val aC a*val aC b/\r.length=a.length+b.length):=by
 unfold vX;refine aN (gW (n:=a.length+b.length) (by rw[bK]<;>omega) (by omega) (by decide)) ?_;refine Tm.bind (Q:=fun r=>bA aC r/\val aC r=val aC a*val aC b/\r.length=a.length+b.length)
  (Tm.loop (fun s:List Int×Int=>∃n:Nat,s.2=n/\n<=a.length/\s.1.length=a.length+b.length/\bA aC s.1/\val aC s.1=val aC (a.take n)*val aC b/\∀k,n+b.length<=k->(hk:k<s.1.length)->s.1[k]=0) (fun s=>a.length-s.2.toNat)
   ⟨0,rfl,fy _,by simp,bA.dd (by decide),by simp[val,Ar],by simp⟩ ?_) (fun r h=>aS h)
 rintro⟨out,i⟩ ⟨n,rfl,hn,ho,hB,hv,hz⟩;dsimp only[De]at*;refine aY (fun h=>?_) (fun h=>aS ?_)
 . refine aN (de (by omega)) ?_;have hx:=ha.get (n:=n) (by omega);have ex:a.getD n 0=a[n]'(by omega):=by rw[cy,bV (by omega)];rfl
   generalize a[n]'(by omega)=x at*;refine Tm.bind (Q:=fun r:List Int×Int=>bA aC r.1/\r.1.length=a.length+b.length/\0<=r.2/\r.2<aC/\val aC r.1+aC^(n+b.length)*r.2=val aC (a.take n)*val aC b+aC^n*x*val aC b/\∀k,n+b.length<=k->(hk:k<r.1.length)->r.1[k]=0)
    (Tm.loop (fun s:List Int×Int×Int=>∃m:Nat,s.2.2=m/\m<=b.length/\s.1.length=a.length+b.length/\bA aC s.1/\0<=s.2.1/\s.2.1<aC/\val aC s.1+aC^(n+m)*s.2.1=val aC (a.take n)*val aC b+aC^n*x*val aC (b.take m)/\∀k,n+b.length<=k->(hk:k<s.1.length)->s.1[k]=0) (fun s=>b.length-s.2.2.toNat)
     ⟨0,rfl,fy _,ho,hB,by simp,(by decide:(0:Int)<aC),by simpa[val]using hv,hz⟩ ?_) ?_
   . rintro⟨out1,carry,j⟩ ⟨m,rfl,hm,ho1,hB1,c0,c1,hv1,hz1⟩;dsimp only[Eh]at*;refine aY (fun h1=>?_) (fun h1=>aS ?_)
     . refine aN (de (by omega)) ?_;have hi:iw ((n:Int)+(m:Int))=((n+m:Nat):Int):=by rw[bK]<;>omega
       have hy:=hb.get (n:=m) (by omega);have ey:b.getD m 0=b[m]'(by omega):=by rw[cy,bV (by omega)];rfl
       generalize b[m]'(by omega)=y at*;refine aN (gw (n:=n+m) hi (by omega)) (aN (gw (n:=n+m) hi (by omega)) (aN (ed (n:=n+m) hi (by omega)) (aS ?_)));have hz':=hB1.get (n:=n+m) (by omega);have hvs:=fun y'=>uM (B:=aC) (l:=out1) (n:=n+m) (y:=y') (by omega);generalize out1[n+m]'(by omega)=z at*;have hxy:0<=x*y/\x*y<=4294967295*4294967295:=by
        refine⟨eH hx.1 hy.1,?_⟩;exact ni (by simp only[aC]at hx;omega) (by simp only[aC]at hy;omega) hy.1 (by decide)
       generalize exy:x*y=xy at*;have e1:uw (carry+uw (uw (uw x*uw y)+uw z))=carry+xy+z:=by
        simp only[aC]at*;rw[show uw x=x by rw[fG];omega,show uw y=y by rw[fG];omega,exy,fG,fG,fG,fG];omega
       rw[e1,wc,gj];simp only[aC]at hz' c1;refine⟨⟨m+1,?_,by omega,by simp;omega,hB1.set (by simp only[aC];omega),?_,?_,?_,?_⟩,?_⟩
       . show iw ((m:Int)+1)=_;rw[bK]<;>omega
       . show 0<=(carry+xy+z)/4294967296;omega
       . show(carry+xy+z)/4294967296<aC;simp only[aC];omega
       . show val aC (out1.set (n+m) ((carry+xy+z)%4294967296))+aC^(n+(m+1))*((carry+xy+z)/4294967296)=_;rw[hvs,fp,ey,<-pE,fi];have:=jF (carry+xy+z) 4294967296;have hw:aC=4294967296:=rfl;have hp:aC^(n+m)=aC^n*aC^m:=jE ..;grind
       . intro k hk hk';rw[F6 (by omega)];exact hz1 k hk (by simpa using hk')
       . show b.length-(iw ((m:Int)+1)).toNat<b.length-((m:Int)).toNat;rw[bK]<;>omega
     . have hmL:m=b.length:=by omega
       subst hmL;rw[fh (bI _)]at hv1;exact⟨hB1,ho1,c0,c1,hv1,hz1⟩
   . rintro⟨out2,carry⟩ ⟨hB2,ho2,c0,c1,hv2,hz2⟩;dsimp only at*;have hi:iw ((n:Int)+(b.length:Int))=((n+b.length:Nat):Int):=by rw[bK]<;>omega
     refine aN (gw hi (by omega)) (aN (ed hi (by omega)) (aS ?_));have e1:dT carry=carry:=by rw[gj];simp only[aC]at c1;omega
     rw[e1];refine⟨⟨n+1,?_,by omega,by simp;omega,hB2.set ⟨c0,c1⟩,?_,?_⟩,?_⟩
     . show iw ((n:Int)+1)=_;rw[bK]<;>omega
     . show val aC (out2.set (n+b.length) carry)=_;rw[uM (by omega),hz2 _ (bI _) (by omega),fp,ex];grind
     . intro k hk hk';rw[F6 (by omega)];exact hz2 k (by omega) (by simpa using hk')
     . show a.length-(iw ((n:Int)+1)).toNat<a.length-((n:Int)).toNat;rw[bK]<;>omega
 . have hnL:n=a.length:=by omega
   subst hnL;rw[fh (bI _)]at hv;exact⟨hB,hv,ho⟩
theorem Ko{a b:aB}:bv a*bv b=if(!(a.bF==b.bF))=true then-(val aC a.aP*val aC b.aP)else val aC a.aP*val aC b.aP:=by
 unfold bv;cases a.bF<;>cases b.bF<;>simp[lE,nj]
theorem PA{a b:aB}(ha:bA aC a.aP)(hb:bA aC b.aP)(hl:a.aP.length<=8796093022208)(hl':b.aP.length<=8796093022208):
 Tm (fun N=>j7 N a b) (fun r=>Is r (bv a*bv b)/\r.aP.length<=a.aP.length+b.aP.length):=by
 unfold j7;refine Tm.bind (TF ha hb (by omega) (by omega)) ?_;rintro s ⟨hs,sv,sl⟩;refine Tm.bind (lP hs (by omega)) (fun r h=>aS ⟨?_,by omega⟩);rw[Ko,<-sv];exact h.1
theorem NQ{a b:aB}(ha:bA aC a.aP)(hb:bA aC b.aP)(hl:a.aP.length<=35184372088832)(hl':b.aP.length<=35184372088832):Tm (fun N=>iz N a b) (fun r=>r=bM (bv a) (bv b)):=by
 unfold iz;refine Tm.bind (ox ha hl) ?_;rintro x ⟨hx,hxl⟩;refine Tm.bind (ox hb hl') ?_;rintro y ⟨hy,hyl⟩;have hxv:=hx.dg.val;have hyv:=hy.dg.val;refine Tm.bind (Q:=(·=(x.bF&&!y.bF))) (aY (fun h=>aS ?_) (fun h=>aS ?_)) ?_
 . revert h;cases x.bF<;>cases y.bF<;>simp
 . revert h;cases x.bF<;>cases y.bF<;>simp
 rintro _ rfl;have c1:=zV (a:=y.aP) (b:=x.aP) hy.dg.bL hx.dg.bL hy.dg.e9 hx.dg.e9 (by omega) (by omega);have c2:=zV (a:=x.aP) (b:=y.aP) hx.dg.bL hy.dg.bL hx.dg.e9 hy.dg.e9 (by omega) (by omega);rw[hxv,hyv]at c1 c2;have n1:=hx.neg;have n2:=hy.neg;by_cases p:bv a<0<;>by_cases q:bv b<0
 . simp only[p,q,decide_true]at n1 n2;simp only[n1,n2];refine cz (by simp) (cz (by simp) (cY (by simp) (Tm.bind c1 (fun r h=>aS ?_))));rw[h];unfold bM;split<;>split<;>(try split)<;>omega
 . simp only[p,q,decide_true,decide_false]at n1 n2;simp only[n1,n2];refine cY (by simp) (aS ?_);unfold bM;rw[if_pos (by omega)]
 . simp only[p,q,decide_true,decide_false]at n1 n2;simp only[n1,n2];refine cz (by simp) (cY (by simp) (aS ?_));unfold bM;rw[if_neg (by omega),if_pos (by omega)]
 . simp only[p,q,decide_false]at n1 n2;simp only[n1,n2];refine cz (by simp) (cz (by simp) (cz (by simp) (Tm.bind c2 (fun r h=>aS ?_))));rw[h];unfold bM;split<;>split<;>(try split)<;>omega
open Go Go.X
abbrev aW:Int:=65536
theorem nP:(1:Int)<aW:=by decide
theorem AZ{x:Int}(h:0<=x):Int.tmod x 65536=x%65536:=Uw h
theorem Ak{x:Int}(h:0<=x):Int.tdiv x 65536=x/65536:=Ux h
theorem vj{l:List Int}(hd:bA aW l)(hl:l.length<=35184372088832):Tm (fun N=>nG N l) (fun r=>Dg aW r (val aW l)/\r.length<=l.length):=by
 unfold nG;refine Tm.bind (Tm.loop (fun s:List Int=>∃n:Nat,n<=l.length/\s=l.take n/\(∀j,(hj:j<l.length)->n<=j->l[j]=0)) (fun s=>s.length) (Q:=fun r=>Dg aW r (val aW l)/\r.length<=l.length) ⟨l.length,bI _,by simp,fun j h1 h2=>absurd h1 (by omega)⟩ ?_) (fun r h=>aS h);rintro _ ⟨n,hn,rfl,h0⟩;have hlen:(l.take n).length=n:=by simp;omega
 dsimp only[Ew];rcases gv n with rfl|hk0
 . refine Tm.bind (Q:=(·=false)) (cz (by simp) (aS rfl)) ?_;rintro _ rfl;exact cz (by simp) (aS ⟨E1 hn hd h0 (.inl rfl),by simp⟩)
 . refine Tm.bind (Q:=(·=decide (l[n-1]=0))) (cY (by omega) (aN (gw (n:=n-1) (by rw[bK]<;>omega) (by omega)) (aS ?_))) ?_
   . rw[List.getElem_take]
   rintro _ rfl;by_cases h:l[n-1]=0
   . refine cY (by simpa using h) (aN (rO (m:=0) (n:=n-1) rfl (by rw[bK]<;>omega) (by omega) (by omega)) (aS ⟨⟨n-1,by omega,?_,fun j h1 h2=>?_⟩,?_⟩))
     . simp[Mp]
     . rcases Nat.eq_or_lt_of_le h2 with rfl|h3
       . exact h
       . exact h0 j h1 (by omega)
     . simp;omega
   . exact cz (by simpa using h) (aS ⟨E1 hn hd h0 (.inr ⟨by omega,h⟩),by omega⟩)
theorem pC{x:aB}(hd:bA aC x.aP)(hl:x.aP.length<=8796093022208):Tm (fun N=>kQ N x) (fun r=>Dg aW r (val aC x.aP)/\r.length<=2*x.aP.length):=by
 unfold kQ;refine Tm.bind (Tm.loop (fun s:List Int×Int=>∃n:Nat,s.2=n/\n<=x.aP.length/\s.1.length=2*n/\bA aW s.1/\val aW s.1=val aC (x.aP.take n)) (fun s=>x.aP.length-s.2.toNat) (Q:=fun r=>bA aW r/\val aW r=val aC x.aP/\r.length=2*x.aP.length) ⟨0,rfl,fy _,rfl,.nil,by simp[val]⟩ ?_) ?_
 . rintro⟨l,i⟩ ⟨n,rfl,hn,ho,hB,hv⟩;dsimp only[Ea]at*;refine aY (fun h=>?_) (fun h=>aS ?_)
   . refine aN (de (by omega)) (aN (de (by omega)) ?_);have hx:=hd.get (n:=n) (by omega);have ex:x.aP.getD n 0=x.aP[n]'(by omega):=by rw[cy,bV (by omega)];rfl
     generalize x.aP[n]'(by omega)=y at*;simp only[aC]at hx;rw[AZ hx.1,Ak hx.1,gj];have e1:iw (y%65536)=y%65536:=by rw[bK]<;>omega
     have e2:iw (y/65536%4294967296)=y/65536:=by rw[bK]<;>omega
     rw[e1,e2];refine aN (dQ (by simp only[cA,dP];omega) (by decide)) (aS ⟨⟨n+1,by dsimp only;rw[bK]<;>omega,by omega,by simp;omega,hB.append (.cons (B:=65536) (by omega) (.cons (by omega) .nil)),?_⟩,?_⟩)
     . show val aW (l++[y%65536,y/65536])=_;rw[pB,fp,ho,hv,ex,Int.pow_mul];have:val aW [y%65536,y/65536]=y:=by simp only[val,aW];omega
       rw[this];rfl
     . dsimp only;rw[bK]<;>omega
   . have hnL:n=x.aP.length:=by omega
     subst hnL;rw[fh (bI _)]at hv;exact⟨hB,hv,ho⟩
 . rintro r ⟨h1,h2,h3⟩;exact Tm.bind (vj h1 (by omega)) (fun r' h=>aS ⟨h2▸h.1,by omega⟩)
theorem SX{l:List Int}{d:Int}(h:d≠0):fJ (l++[d]):=by simp[fJ,h]
theorem oO{neg:Bool}{l:List Int}(hd:bA aW l)(hl:l.length<=17592186044416):Tm (fun N=>k9 N neg l) (fun r=>Is r (if neg=true then-val aW l else val aW l)/\r.aP.length<=(l.length+1)/2):=by
 unfold k9;refine Tm.bind (vj hd (by omega)) ?_;rintro t ⟨ht,htl⟩;have h0:=ht.xw (by decide);have hz:=ht.zero (by decide);refine Tm.bind (Q:=(·=(neg&&decide (val aW l≠0)))) (aY (fun h=>aS ?_) (fun h=>aS ?_)) ?_
 . rw[h];by_cases e:t=[]
   . have:=hz.1 e;simp[e,this]
   . have:val aW l≠0:=fun e'=>e (hz.2 e');have:=qN.2 e;simp_all
 . simp at h;simp[h]
 rintro _ rfl;refine Tm.bind (Tm.loop (fun s:List Int×Int=>∃n:Nat,s.2=((2*n:Nat):Int)/\2*n<=t.length+1/\s.1.length=n/\bA aC s.1/\val aC s.1=val aW (t.take (2*n))/\(t.length<=2*n->fJ s.1)) (fun s=>t.length+2-s.2.toNat) (Q:=fun r=>Dg aC r (val aW t)/\r.length<=(t.length+1)/2)
  ⟨0,rfl,by omega,rfl,.nil,by simp[val],fun _=>K5⟩ ?_) ?_
 . rintro⟨ds,i⟩ ⟨n,rfl,hn,ho,hB,hv,hN⟩;dsimp only[CO]at*;refine aY (fun h=>?_) (fun h=>aS ?_)
   . refine aN (de (by omega)) ?_;have hx:=ht.bL.get (n:=2*n) (by omega);have ex:t.getD (2*n) 0=t[2*n]'(by omega):=by rw[cy,bV (by omega)];rfl
     have hlast:t.length=2*n+1->t[2*n]'(by omega)≠0:=fun e h'=>ht.e9 (by rw[F2,e,Ms,bV (by omega),h']);generalize t[2*n]'(by omega)=x at*;have hi:iw (((2*n:Nat):Int)+1)=((2*n+1:Nat):Int):=by rw[bK]<;>omega
     refine Tm.bind (Q:=fun d=>d=x+65536*t.getD (2*n+1) 0/\(t.length<=2*n+2->d≠0)) ?_ ?_
     . refine aY (fun h1=>?_) (fun h1=>aS ?_)
       . refine aN (gw hi (by omega)) (aS ?_);have hy:=ht.bL.get (n:=2*n+1) (by omega);have ey:t.getD (2*n+1) 0=t[2*n+1]'(by omega):=by rw[cy,bV (by omega)];rfl
         have hlast':t.length=2*n+2->t[2*n+1]'(by omega)≠0:=fun e h'=>ht.e9 (by rw[F2,e,show 2*n+2-1=2*n+1 by omega,bV (by omega),h']);rw[ey];generalize t[2*n+1]'(by omega)=y at*;simp only[aW]at hx hy;have e1:dT (dT x+dT (65536*dT y))=x+65536*y:=by
          rw[gj,gj,gj,gj];omega
         rw[e1];exact⟨rfl,fun h'=>by have:=hlast' (by omega);omega⟩
       . have ey:t.getD (2*n+1) 0=0:=by rw[cy,fM (by omega)];rfl
         rw[ey];simp only[aW]at hx;have:=hlast (by omega);rw[gj];exact⟨by omega,fun _=>by omega⟩
     . rintro _ ⟨rfl,hd0⟩;have hy:=ht.bL.getD (by decide) (2*n+1);have et:val aW (t.take (2*(n+1)))=val aW (t.take (2*n))+aW^(2*n)*(x+65536*t.getD (2*n+1) 0):=by
        rw[show 2*(n+1)=2*n+1+1 by omega,fp,fp,ex,fi];have hw:aW=65536:=rfl;grind
       generalize t.getD (2*n+1) 0=y at*;simp only[aW]at hx hy;refine aN (dQ (by simp only[cA,dP];omega) (by decide)) (aS ⟨⟨n+1,by dsimp only;rw[bK]<;>omega,by omega,by simp;omega,hB.append (.cons (B:=4294967296) (by omega) .nil),?_,fun h'=>SX (hd0 (by omega))⟩,?_⟩)
       . show val aC (ds++[x+65536*y])=_;rw[pB,et,ho,hv,Int.pow_mul];have hw:aW^2=aC:=by decide
         rw[hw];simp only[val];simp
       . dsimp only;rw[bK]<;>omega
   . rw[fh (by omega)]at hv;exact⟨⟨hB,hN (by omega),hv⟩,by omega⟩
 . rintro r ⟨hr,hrl⟩;refine aS ⟨⟨?_,?_⟩,bO (show r.length<=_ from hrl) (Nat.div_le_div_right (by omega))⟩
   . have e:(((if neg=true then-val aW l else val aW l):Int).natAbs:Int)=val aW t:=by rw[ht.val];cases neg<;>simp<;>omega
     rw[e];exact hr
   . show(neg&&decide (val aW l≠0))=_;by_cases e:val aW l=0
     . cases neg<;>simp[e]
     . cases neg
       . simp;omega
       . have:-val aW l<0:=by omega
         simp[e,this];omega
theorem I7{x:aB}(hd:bA aC x.aP)(hl:x.aP.length<=8796093022208):Tm (fun N=>xB N x) (fun r=>Is r (bv x)/\r.aP.length<=x.aP.length):=by
 unfold xB;refine Tm.bind (pC hd hl) ?_;rintro h ⟨hh,hhl⟩;refine Tm.bind (oO hh.bL (by omega)) (fun r hr=>aS ⟨?_,by omega⟩);have:=hr.1;rw[hh.val]at this;exact this
theorem wL{x:aB}(hd:bA aC x.aP)(hl:x.aP.length<=8796093022208):Tm (fun N=>p7 N x) (fun r=>Is r (-bv x)/\r.aP.length<=x.aP.length):=by
 unfold p7;refine Tm.bind (pC hd hl) ?_;rintro h ⟨hh,hhl⟩;refine Tm.bind (oO hh.bL (by omega)) (fun r hr=>aS ⟨?_,by omega⟩);have:=hr.1;rw[hh.val]at this;unfold bv;cases hx:x.bF<;>rw[hx]at this<;>simpa using this
theorem nZ{x:aB}(hd:bA aC x.aP)(hl:x.aP.length<=8796093022208):Tm (fun N=>kE N x) (fun r=>r=bM (bv x) 0):=by
 unfold kE;refine Tm.bind (pC hd hl) ?_;rintro h ⟨hh,-⟩;have hz:=hh.zero (by decide);have h0:=hh.xw (by decide);unfold bv;refine aY (fun h1=>aS ?_) (fun h1=>?_)
 . have:=hz.1 (me.1 (by omega));unfold bM;rw[this];simp
 . have:val aC x.aP≠0:=fun e=>h1 (by rw[hz.2 e];rfl);refine aY (fun h'=>aS ?_) (fun h'=>aS ?_)
   . rw[if_pos h'];unfold bM;rw[if_pos (by omega)]
   . rw[if_neg h'];unfold bM;rw[if_neg (by omega),if_pos (by omega)]
theorem Kg{a b:List Int}(ha:bA aW a)(hb:bA aW b)(na:fJ a)(nb:fJ b)(hl:a.length<=35184372088832)(hl':b.length<=35184372088832):Tm (fun N=>tF N a b) (fun r=>r=bM (val aW a) (val aW b)):=by
 unfold tF;refine aY (fun h=>?_) (fun h=>?_)
 . refine aY (fun h'=>aS ?_) (fun h'=>aS ?_)
   . have:=mH nP ha hb nb (by omega);unfold bM;rw[if_pos this]
   . have:=mH nP hb ha na (by omega);unfold bM;rw[if_neg (by omega),if_pos this]
 . have hle:a.length=b.length:=by omega
   refine Tm.bind (Q:=fun r:Sum Unit Int=>(match r with|.inl _=>0|.inr z=>z)=bM (val aW a) (val aW b))
    (Tm.loop (fun i:Int=>∃n:Nat,i=(n:Int)-1/\n<=a.length/\a.drop n=b.drop n) (fun i=>(i+1).toNat) ⟨a.length,by rw[bK]<;>omega,bI _,by rw[yg (bI _),yg (by omega)]⟩ ?_) ?_
   . rintro _ ⟨n,rfl,hn,hd⟩;dsimp only[ER];refine aY (fun h1=>?_) (fun h1=>?_)
     . have hna:n-1<a.length:=by omega
       have hnb:n-1<b.length:=by omega
       refine aN (gw (n:=n-1) (by omega) hna) (aN (gw (n:=n-1) (by omega) hnb) (aY (fun h2=>?_) (fun h2=>?_)))
       . have:=AP nP ha hb hle hna (by rw[show n-1+1=n by omega];exact hd) h2;refine aS ?_;show(-1:Int)=_;unfold bM;rw[if_pos this]
       . refine aN (gw (n:=n-1) (by omega) hna) (aN (gw (n:=n-1) (by omega) hnb) (aY (fun h3=>?_) (fun h3=>?_)))
         . have:=AP nP hb ha hle.symm hnb (by rw[show n-1+1=n by omega];exact hd.symm) h3;refine aS ?_;show(1:Int)=_;unfold bM;rw[if_neg (by omega),if_pos this]
         . refine aS ⟨⟨n-1,by rw[bK]<;>omega,by omega,?_⟩,?_⟩
           . rw[fx hna,fx hnb,show n-1+1=n by omega,hd,show a[n-1]=b[n-1] by omega]
           . show(iw ((n:Int)-1-1)+1).toNat<((n:Int)-1+1).toNat;rw[bK]<;>omega
     . have:n=0:=by omega
       subst this;refine aS ?_;show(0:Int)=_;have:a=b:=by simpa using hd
       rw[this];unfold bM;rw[if_neg (by omega),if_neg (by omega)]
   . rintro(_|z) h<;>exact aS h
theorem fQ{l:List Int}{n:Nat}(h:n<l.length):l.getD n 0=l[n]:=by rw[cy,bV h];rfl
theorem mj{l:List Int}{n:Nat}(h:l.length<=n):l.getD n 0=0:=by rw[cy,fM h];rfl
theorem kz{l:List Int}{n:Nat}(h:l.length<=n):l.take n=l:=fh h
theorem Bq{a b:List Int}(ha:bA aW a)(hb:bA aW b)(hl:a.length<=8796093022208)(hl':b.length<=8796093022208):Tm (fun N=>o5 N a b) (fun r=>Dg aW r (val aW a+val aW b)/\r.length<=max a.length b.length+1):=by
 unfold o5;generalize hL:max a.length b.length=L;refine Tm.bind (Q:=fun r=>bA aW r/\val aW r=val aW a+val aW b/\r.length<=L+1)
  (Tm.loop (fun s:List Int×Int×Int=>∃n:Nat,s.2.2=n/\n<=L+1/\s.1.length=n/\bA aW s.1/\0<=s.2.1/\s.2.1<=1/\(L<n->s.2.1=0)/\val aW s.1+aW^n*s.2.1=val aW (a.take n)+val aW (b.take n)) (fun s=>L+1-s.2.2.toNat)
   ⟨0,rfl,fy _,rfl,.nil,by simp,by simp,fun _=>rfl,by simp[val]⟩ ?_) ?_
 . rintro⟨out,carry,i⟩ ⟨n,rfl,hn,ho,hB,h0,h1,hc,hv⟩;dsimp only[Ec]at*;refine Tm.bind (Q:=(·=decide (n<L\/0<carry))) (aY (fun h=>aS ?_) (fun h=>aY (fun h'=>aS ?_) (fun h'=>aS ?_))) ?_
   . have:n<L:=by omega
     simp[this]
   . have:n<L:=by omega
     simp[this]
   . have:¬n<L:=by omega
     simp[this]
   rintro _ rfl;refine aY (fun h=>?_) (fun h=>aS ?_)
   . have h:=of_decide_eq_true h;have hx:=ha.getD (by decide) n;have hy:=hb.getD (by decide) n;simp only[aW]at hx hy;refine Tm.bind (Q:=(·=carry+a.getD n 0)) (aY (fun h2=>?_) (fun h2=>aS ?_)) ?_
     . rw[fQ (l:=a) (by omega)]at*;refine aN (de (by omega)) (aS ?_);rw[bK]<;>omega
     . rw[mj (by omega)];omega
     rintro _ rfl;refine Tm.bind (Q:=(·=carry+a.getD n 0+b.getD n 0)) (aY (fun h2=>?_) (fun h2=>aS ?_)) ?_
     . rw[fQ (l:=b) (by omega)]at*;refine aN (de (by omega)) (aS ?_);rw[bK]<;>omega
     . rw[mj (l:=b) (by omega)];omega
     rintro _ rfl;have hz:L<=n->a.getD n 0=0/\b.getD n 0=0:=fun h=>⟨mj (by omega),mj (by omega)⟩;generalize ex:a.getD n 0=x at*;generalize ey:b.getD n 0=y at*;rw[AZ (by omega),Ak (by omega)];refine aN (dQ (by simp only[cA,dP];omega) (by decide)) (aS ⟨⟨n+1,?_,by omega,by simp;omega,hB.append (.cons (B:=65536) (by omega) .nil),?_,?_,?_,?_⟩,?_⟩)
     . show iw ((n:Int)+1)=_;rw[bK]<;>omega
     . show 0<=iw ((carry+x+y)/65536);rw[bK]<;>omega
     . show iw ((carry+x+y)/65536)<=1;rw[bK]<;>omega
     . intro h';show iw ((carry+x+y)/65536)=0;have:=hz (by omega);rw[bK]<;>omega
     . show val aW (out++[(carry+x+y)%65536])+aW^(n+1)*iw ((carry+x+y)/65536)=_;rw[bK (by omega) (by omega),pB,fp,fp,ex,ey,ho,fi];have:=jF (carry+x+y) 65536;have hw:aW=65536:=rfl;simp only[val];grind
     . show L+1-(iw ((n:Int)+1)).toNat<L+1-((n:Int)).toNat;rw[bK]<;>omega
   . have h:¬(n<L\/0<carry):=fun e=>h (decide_eq_true e);rw[kz (by omega),kz (by omega),show carry=0 by omega]at hv;exact⟨hB,by show val aW out=_;omega,by show out.length<=_;omega⟩
 . rintro r ⟨h1,h2,h3⟩;exact Tm.bind (vj h1 (by omega)) (fun r' h=>aS ⟨h2▸h.1,by omega⟩)
theorem Dz{a b:List Int}(ha:bA aW a)(hb:bA aW b)(hl:a.length<=8796093022208)(hl':b.length<=a.length)(hv:val aW b<=val aW a):Tm (fun N=>rz N a b) (fun r=>Dg aW r (val aW a-val aW b)/\r.length<=a.length):=by
 unfold rz;generalize hL:a.length=L at*;refine Tm.bind (Q:=fun r=>bA aW r/\val aW r=val aW a-val aW b/\r.length=L)
  (Tm.loop (fun s:List Int×Int×Int=>∃n:Nat,s.2.2=n/\n<=L/\s.1.length=n/\bA aW s.1/\0<=s.2.1/\s.2.1<=1/\val aW s.1=val aW (a.take n)-val aW (b.take n)+aW^n*s.2.1) (fun s=>L-s.2.2.toNat)
   ⟨0,rfl,fy _,rfl,.nil,by simp,by simp,by simp[val]⟩ ?_) ?_
 . rintro⟨out,borrow,i⟩ ⟨n,rfl,hn,ho,hB,h0,h1,hv'⟩;dsimp only[DR]at*;refine aY (fun h=>?_) (fun h=>aS ?_)
   . have hx:=ha.getD (by decide) n;have hy:=hb.getD (by decide) n;simp only[aW]at hx hy;refine aN (de (by omega)) ?_;rw[<-fQ (by omega)];refine Tm.bind (Q:=(·=a.getD n 0-borrow-b.getD n 0)) (aY (fun h2=>?_) (fun h2=>aS ?_)) ?_
     . rw[fQ (l:=b) (by omega)]at*;refine aN (de (by omega)) (aS ?_);rw[bK,bK]<;>(try rw[bK])<;>omega
     . rw[mj (l:=b) (by omega),bK]<;>omega
     rintro _ rfl;generalize ex:a.getD n 0=x at*;generalize ey:b.getD n 0=y at*;refine Tm.bind (Q:=fun p:Int×Int=>0<=p.1/\p.1<=1/\0<=p.2/\p.2<65536/\p.2=x-borrow-y+65536*p.1) (aY (fun h2=>aS ?_) (fun h2=>aS ?_)) ?_
     . dsimp only;rw[bK]<;>omega
     . dsimp only;omega
     rintro⟨bo,d⟩ ⟨g1,g2,g3,g4,g5⟩;dsimp only at*;refine aN (dQ (by simp only[cA,dP];omega) (by decide)) (aS ⟨⟨n+1,?_,by omega,by simp;omega,hB.append (.cons (B:=65536) (by omega) .nil),g1,g2,?_⟩,?_⟩)
     . show iw ((n:Int)+1)=_;rw[bK]<;>omega
     . show val aW (out++[d])=_;rw[pB,fp,fp,ex,ey,ho,fi];have hw:aW=65536:=rfl;simp only[val];grind
     . show L-(iw ((n:Int)+1)).toNat<L-((n:Int)).toNat;rw[bK]<;>omega
   . have hnL:n=L:=by omega
     subst hnL;rw[kz (by omega),kz (by omega)]at hv';refine⟨hB,?_,ho⟩;show val aW out=_;have l1:=gY (by decide) hB;rw[ho]at l1;have hc:borrow=0\/borrow=1:=by omega
     rcases hc with rfl|rfl
     . omega
     . simp only[aW]at*;omega
 . rintro r ⟨h1,h2,h3⟩;exact Tm.bind (vj h1 (by omega)) (fun r' h=>aS ⟨h2▸h.1,by omega⟩)
theorem L4{a b:Int}:bM a b≥0↔b<=a:=by unfold bM;(repeat' split)<;>omega
theorem wy{a b:aB}(ha:bA aC a.aP)(hb:bA aC b.aP)(hl:a.aP.length<=2199023255552)(hl':b.aP.length<=2199023255552):
 Tm (fun N=>oS N a b) (fun r=>Is r (bv a+bv b)/\r.aP.length<=max a.aP.length b.aP.length+1):=by
 unfold oS;refine Tm.bind (pC ha (by omega)) ?_;rintro x ⟨hx,hxl⟩;refine Tm.bind (pC hb (by omega)) ?_;rintro y ⟨hy,hyl⟩;refine aY (fun h=>?_) (fun h=>?_)
 . have hn:a.bF=b.bF:=by simpa using h
   refine Tm.bind (Bq hx.bL hy.bL (by omega) (by omega)) ?_;rintro s ⟨hs,sl⟩;refine Tm.bind (oO hs.bL (by omega)) (fun r hr=>aS ⟨?_,by omega⟩);have hr:=hr.1;rw[hs.val,hx.val,hy.val]at hr;unfold bv;rw[<-hn];cases e:a.bF<;>rw[e]at hr
   . simpa using hr
   . simp only[if_true]at hr⊢;rwa[show-(val aC a.aP+val aC b.aP)=-val aC a.aP+-val aC b.aP by omega]at hr
 . have hn:¬a.bF=b.bF:=by simpa using h
   refine Tm.bind (Kg hx.bL hy.bL hx.e9 hy.e9 (by omega) (by omega)) ?_;rintro c rfl;refine aY (fun hc=>?_) (fun hc=>?_)
   . have hge:=L4.1 hc;have hle:y.length<=x.length:=by
      rcases cv x.length y.length with h'|h'
      . have:=mH nP hx.bL hy.bL hy.e9 h';omega
      . exact h'
     refine Tm.bind (Dz hx.bL hy.bL (by omega) hle hge) ?_;rintro s ⟨hs,sl⟩;refine Tm.bind (oO hs.bL (by omega)) (fun r hr=>aS ⟨?_,by omega⟩);have hr:=hr.1;rw[hs.val,hx.val,hy.val]at hr;unfold bv;cases e:a.bF<;>cases e':b.bF<;>rw[e]at hr hn<;>rw[e']at hn
     . exact absurd rfl hn
     . simpa[F5]using hr
     . simp only[if_true,mb,if_false]at hr⊢;rwa[show-(val aC a.aP-val aC b.aP)=-val aC a.aP+val aC b.aP by omega]at hr
     . exact absurd rfl hn
   . have hlt:¬val aW y<=val aW x:=fun e=>hc (L4.2 e);have hle:x.length<=y.length:=by
      rcases cv y.length x.length with h'|h'
      . have:=mH nP hy.bL hx.bL hx.e9 h';omega
      . exact h'
     refine Tm.bind (Dz hy.bL hx.bL (by omega) hle (by omega)) ?_;rintro s ⟨hs,sl⟩;refine Tm.bind (oO hs.bL (by omega)) (fun r hr=>aS ⟨?_,by omega⟩);have hr:=hr.1;rw[hs.val,hx.val,hy.val]at hr;unfold bv;cases e:a.bF<;>cases e':b.bF<;>rw[e']at hr hn<;>rw[e]at hn
     . exact absurd rfl hn
     . simp only[if_true,mb,if_false]at hr⊢;rwa[show-(val aC b.aP-val aC a.aP)=val aC a.aP+-val aC b.aP by omega]at hr
     . simp only[if_true,mb,if_false]at hr⊢;rwa[show val aC b.aP-val aC a.aP=-val aC a.aP+val aC b.aP by omega]at hr
     . exact absurd rfl hn
theorem J4{a b:aB}(ha:bA aC a.aP)(hb:bA aC b.aP)(hl:a.aP.length<=2199023255552)(hl':b.aP.length<=2199023255552):
 Tm (fun N=>tx N a b) (fun r=>Is r (bv a-bv b)/\r.aP.length<=max a.aP.length b.aP.length+1):=by
 unfold tx;refine Tm.bind (wL hb (by omega)) ?_;rintro y ⟨hy,hyl⟩;refine Tm.bind (wy ha hy.dg.bL (by omega) (by omega)) (fun r h=>aS ⟨?_,by omega⟩);have:=h.1;rwa[hy.bv,<-F5]at this
theorem Rg{a:List Int}{d:Int}(ha:bA aW a)(h0:0<=d)(h1:d<aW)(hl:a.length<=8796093022208):Tm (fun N=>xM N a d) (fun r=>Dg aW r (val aW a*d)/\r.length<=a.length+1):=by
 unfold xM;refine Tm.bind (Q:=fun r=>bA aW r/\val aW r=val aW a*d/\r.length<=a.length+1)
  (Tm.loop (fun s:List Int×Int×Int=>∃n:Nat,s.2.2=n/\n<=a.length+1/\s.1.length=n/\bA aW s.1/\0<=s.2.1/\s.2.1<aW/\(a.length<n->s.2.1=0)/\val aW s.1+aW^n*s.2.1=val aW (a.take n)*d) (fun s=>a.length+1-s.2.2.toNat)
   ⟨0,rfl,fy _,rfl,.nil,by simp,(by decide:(0:Int)<aW),fun _=>rfl,by simp[val]⟩ ?_) ?_
 . rintro⟨out,carry,i⟩ ⟨n,rfl,hn,ho,hB,c0,c1,hc,hv⟩;dsimp only[EW]at*;refine Tm.bind (Q:=(·=decide (n<a.length\/0<carry))) (aY (fun h=>aS ?_) (fun h=>aS ?_)) ?_
   . have:n<a.length:=by omega
     simp[this]
   . have:¬n<a.length:=by omega
     simp[this]
   rintro _ rfl;refine aY (fun h=>?_) (fun h=>aS ?_)
   . have h:=of_decide_eq_true h;have hx:=ha.getD (by decide) n;simp only[aW]at hx h1 c1;have hm:0<=a.getD n 0*d/\a.getD n 0*d<=65535*65535:=⟨eH hx.1 h0,ni (by omega) (by omega) h0 (by decide)⟩;refine Tm.bind (Q:=(·=carry+a.getD n 0*d)) (aY (fun h2=>?_) (fun h2=>aS ?_)) ?_
     . rw[fQ (l:=a) (by omega)]at*;refine aN (de (by omega)) (aS ?_);rw[bK (z:=_*_) (by omega) (by omega),bK (by omega) (by omega)]
     . rw[mj (by omega)];simp
     rintro _ rfl;have hz:a.length<=n->a.getD n 0=0:=fun h=>mj (by omega);have hz':a.length<=n->a.getD n 0*d=0:=fun h=>by rw[hz h];simp
     generalize exd:a.getD n 0*d=xd at*;rw[AZ (by omega),Ak (by omega)];refine aN (dQ (by simp only[cA,dP];omega) (by decide)) (aS ⟨⟨n+1,?_,by omega,by simp;omega,hB.append (.cons (B:=65536) (by omega) .nil),?_,?_,?_,?_⟩,?_⟩)
     . show iw ((n:Int)+1)=_;rw[bK]<;>omega
     . show 0<=iw ((carry+xd)/65536);rw[bK]<;>omega
     . show iw ((carry+xd)/65536)<65536;rw[bK]<;>omega
     . intro h';show iw ((carry+xd)/65536)=0;have:=hz' (by omega);rw[bK]<;>omega
     . show val aW (out++[(carry+xd)%65536])+aW^(n+1)*iw ((carry+xd)/65536)=_;rw[bK (by omega) (by omega),pB,fp,ho,fi];have:=jF (carry+xd) 65536;have hw:aW=65536:=rfl;simp only[val];grind
     . show a.length+1-(iw ((n:Int)+1)).toNat<a.length+1-((n:Int)).toNat;rw[bK]<;>omega
   . have h:¬(n<a.length\/0<carry):=fun e=>h (decide_eq_true e);rw[kz (by omega),show carry=0 by omega]at hv;exact⟨hB,by show val aW out=_;omega,by show out.length<=_;omega⟩
 . rintro r ⟨h1,h2,h3⟩;exact Tm.bind (vj h1 (by omega)) (fun r' h=>aS ⟨h2▸h.1,by omega⟩)
theorem DV{a b:aB}(ha:bA aC a.aP)(hb:bA aC b.aP)(hl:a.aP.length<=1099511627776)(hl':b.aP.length<=1099511627776):
 Tm (fun N=>rW N a b) (fun r=>Is r (bv a*bv b)/\r.aP.length<=a.aP.length+b.aP.length):=by
 unfold rW;refine Tm.bind (pC ha (by omega)) ?_;rintro x ⟨hx,hxl⟩;refine Tm.bind (pC hb (by omega)) ?_;rintro y ⟨hy,hyl⟩;refine Tm.bind (Tm.loop (fun s:List Int×Int=>∃n:Nat,s.2=(n:Int)-1/\n<=y.length/\Dg aW s.1 (val aW x*val aW (y.drop n))/\s.1.length<=x.length+(y.length-n)) (fun s=>(s.2+1).toNat) (Q:=fun r=>Dg aW r (val aW x*val aW y)/\r.length<=x.length+y.length)
  ⟨y.length,by dsimp only;rw[bK]<;>omega,bI _,by simpa[val]using Dg.nil,by simp⟩ ?_) ?_
 . rintro⟨sum,i⟩ ⟨n,rfl,hn,hs,hsl⟩;dsimp only[DX]at*;refine aY (fun h=>?_) (fun h=>aS ?_)
   . refine aN (dQ (by simp only[cA,dP];omega) (by decide)) ?_;have hny:n-1<y.length:=by omega
     refine aN (gw (n:=n-1) (by omega) hny) ?_;have hd:=hy.bL.get hny;refine Tm.bind (Rg hx.bL hd.1 hd.2 (by omega)) ?_;rintro t ⟨ht,htl⟩;refine Tm.bind (Bq (a:=[0]++sum) (.append (.cons (by decide) .nil) hs.bL) ht.bL (by simp;omega) (by omega)) ?_;rintro r ⟨hr,hrl⟩;refine aS ⟨⟨n-1,by dsimp only;rw[bK]<;>omega,by omega,?_,?_⟩,?_⟩
     . have e:val aW ([0]++sum)+val aW t=val aW x*val aW (y.drop (n-1)):=by
        rw[ht.val,fx hny,show n-1+1=n by omega];simp only[MC,val,hs.val];grind
       show Dg aW r _;rw[<-e];exact hr
     . show r.length<=_;have hb:val aW ([0]++sum)+val aW t<aW^(x.length+(y.length-(n-1))):=by
        have e:val aW ([0]++sum)+val aW t=val aW x*val aW (y.drop (n-1)):=by
         rw[ht.val,fx hny,show n-1+1=n by omega];simp only[MC,val,hs.val];grind
        rw[e,jE];have l1:=gY (by decide) hx.bL;have l2:=gY (by decide) (hy.bL.drop (n-1));have l3:=gx (by decide) hx.bL;have l4:=gx (by decide) (hy.bL.drop (n-1));rw[vH]at l2;exact Int.mul_lt_mul' (by omega) l2 l4 (kC (by decide) _)
       exact Fw nP hr.bL hr.e9 (by rw[hr.val];exact hb)
     . show(iw ((n:Int)-1-1)+1).toNat<((n:Int)-1+1).toNat;rw[bK]<;>omega
   . have:n=0:=by omega
     subst this;exact⟨by simpa using hs,by simpa using hsl⟩
 . rintro s ⟨hs,hsl⟩;refine Tm.bind (oO hs.bL (by omega)) (fun r hr=>aS ⟨?_,by omega⟩);have hr:=hr.1;rw[hs.val,hx.val,hy.val]at hr;rw[Ko];exact hr
theorem tC{n:Int}(h1:-9223372036854775808<=n)(h2:n<=9223372036854775807):Tm (fun N=>lr N n) (fun r=>Is r n/\r.aP.length<=2):=by
 unfold lr;refine Tm.bind (Q:=(·=(n.natAbs:Int))) (aY (fun h=>aS ?_) (fun h=>aS ?_)) ?_
 . rw[bK (z:=n+1) (by omega) (by omega),bK (by omega) (by omega),fG,fG];omega
 . rw[fG];omega
 rintro _ rfl;refine Tm.bind (Tm.loop (fun s:Int×List Int=>∃m:Nat,m<=4/\s.2.length=m/\bA aW s.2/\0<=s.1/\s.1<aW^(4-m)/\val aW s.2+aW^m*s.1=n.natAbs) (fun s=>s.1.toNat) (Q:=fun r=>bA aW r/\val aW r=n.natAbs/\r.length<=4)
  ⟨0,by omega,rfl,.nil,by simp,by simp only[aW];omega,by simp[val]⟩ ?_) ?_
 . rintro⟨u,l⟩ ⟨m,hm,hl,hB,u0,u1,hv⟩;dsimp only[Eb]at*;refine aY (fun h=>?_) (fun h=>aS ?_)
   . have hm':m≠4:=by rintro rfl;simp at u1;omega
     have hu:u<18446744073709551616:=by
      have:aW^(4-m)<=aW^4:=j9 (by decide) (by omega);have e:aW^4=18446744073709551616:=by decide
      omega
     rw[AZ u0,Ak u0];have e1:iw (u%65536)=u%65536:=by rw[bK]<;>omega
     have e2:uw (u/65536)=u/65536:=by rw[fG];omega
     rw[e1,e2];refine aN (dQ (by simp only[cA,dP];omega) (by decide)) (aS ⟨⟨m+1,by omega,by simp;omega,hB.append (.cons (B:=65536) (by omega) .nil),?_,?_,?_⟩,?_⟩)
     . show 0<=u/65536;omega
     . show u/65536<aW^(4-(m+1));have e:aW^(4-m)=aW^(4-(m+1))*65536:=by rw[show 4-m=4-(m+1)+1 by omega,fi]
       rw[e]at u1;exact F7 (by decide) u1
     . show val aW (l++[u%65536])+aW^(m+1)*(u/65536)=_;rw[pB,hl,fi];have:=jF u 65536;have hw:aW=65536:=rfl;simp only[val];grind
     . show(u/65536).toNat<u.toNat;omega
   . have:u=0:=by omega
     subst this;exact⟨hB,by show val aW l=_;simpa using hv,by show l.length<=4;omega⟩
 . rintro l ⟨hB,hv,hl⟩;refine Tm.bind (oO hB (by omega)) (fun r hr=>aS ⟨?_,by omega⟩);have hr:=hr.1;rw[hv]at hr;by_cases hn:n<0
   . simp only[hn,decide_true,if_true]at hr;rwa[show-(n.natAbs:Int)=n by omega]at hr
   . simp only[hn,decide_false,mb,if_false]at hr;rwa[show(n.natAbs:Int)=n by omega]at hr
open Go Go.X
def DA(N:Nat)(c:Constraint)(n:Int):(Int×Int)->Option (aK (Int×Int) (Sum Unit Bool))
 |(d,a)=>(if(a:Int)<(List.length c.Linear.aZ:Int)then (idx c.Linear.aZ a).bind fun b=>(((if(b.Var:Int)<=d then some true else some (decide ((b.Var:Int)≥n))):Option Bool)).bind fun ss=>match ss with
    |e=>(if e=true then some (aK.done (Sum.inr false)) else some (aK.next (b.Var,(iw (a+1))))) else some (aK.done (Sum.inl ())))
def tZ(N:Nat)(c:Constraint)(n:Int):Option Bool:=(bJ (DA N c n) N ((-1),0)).bind fun ss=>match ss with
  |(Sum.inl _)=>(if(n:Int)≥0 then some (decide ((n:Int)<=512)) else some false)
  |(Sum.inr a)=>some a
def Dy(N:Nat)(l:(List aB)):((List aB)×Int)->Option (aK ((List aB)×Int) (List aB))
 |(b,a)=>(if(a:Int)<(List.length l:Int)then (idx l a).bind fun c=>(jd N c).bind fun d=>(cS 32 b [d]).bind fun e=>some (aK.next (e,(iw (a+1)))) else some (aK.done b))
def wo(N:Nat)(l:(List aB))(bound:aB):Option bB:=(ld N bound).bind fun a=>(bJ (Dy N l) N (([]:(List aB)),0)).bind fun ss=>match ss with
  |b=>some (bB.mk b a)
def Ee(N:Nat)(c:Constraint):((List aB)×Int)->Option (aK ((List aB)×Int) (List aB))
 |(a,b)=>(if(b:Int)<(List.length c.Linear.aZ:Int)then (idx c.Linear.aZ b).bind fun d=>(fK N d.N).bind fun e=>(idx a d.Var).bind fun g=>(di a d.Var e).bind fun f=>some (aK.next (f,(iw (b+1)))) else some (aK.done a))
def cOf(N:Nat)(c:Constraint)(n:Int):Option (List bB):=(tZ N c n).bind fun r6=>(if(!r6)=true then some ([]:(List bB)) else (fW (α:=aB) 32 (aB.mk false []) n).bind fun d=>(fK N c.Linear.Const).bind fun e=>(jd N e).bind fun b=>(bJ (Ee N c) N (d,0)).bind fun ss=>match ss with
   |a=>(if(!c.iA)=true then some [(bB.mk a b)] else (fK N c.Linear.Const).bind fun f=>(wo N a f).bind fun g=>some [(bB.mk a b),g]))
def DM(N:Nat)(l:(List Constraint))(n:Int):((List bB)×Int)->Option (aK ((List bB)×Int) (Sum (List bB) (List bB)))
 |(b,a)=>(if(a:Int)<(List.length l:Int)then (idx l a).bind fun c=>(tZ N c n).bind fun d=>(if(!d)=true then some (aK.done (Sum.inr ([]:(List bB)))) else (cOf N c n).bind fun e=>(cS 56 b e).bind fun f=>some (aK.next (f,(iw (a+1))))) else some (aK.done (Sum.inl b)))
def uQ(N:Nat)(l:(List Constraint))(n:Int):Option (List bB):=(bJ (DM N l n) N (([]:(List bB)),0)).bind fun ss=>match ss with
  |(Sum.inl a)=>some a
  |(Sum.inr b)=>some b
def zp(N:Nat)(s:(List bB)):Option (List bB):=(cS 56 ([]:(List bB)) s).bind fun a=>some a
def zB(N:Nat)(s:(List bB)):Option (List bB):= some s
open Go Go.X
def uK(N:Nat)(n:Int):Option bB:=(fW (α:=aB) 32 (aB.mk false []) n).bind fun x7=>some (bB.mk x7 (aB.mk false ([]:(List Int))))
def EI(N:Nat)(c:Constraint)(n:Int):Int->Option (aK Int (Sum Unit Bool))
 |a=>(if(a:Int)<(List.length c.Linear.aZ:Int)then (idx c.Linear.aZ a).bind fun b=>(((if(b.Var:Int)<0 then some true else (if(b.Var:Int)≥n then some true else (if(a:Int)>0 then (idx c.Linear.aZ (iw (a-1))).bind fun d=>some (decide ((b.Var:Int)<=d.Var)) else some false))):Option Bool)).bind fun ss=>match ss with
    |e=>(if e=true then some (aK.done (Sum.inr false)) else some (aK.next (iw (a+1)))) else some (aK.done (Sum.inl ())))
def ri(N:Nat)(c:Constraint)(n:Int):Option Bool:=(bJ (EI N c n) N 0).bind fun ss=>match ss with
  |(Sum.inl _)=>(if(n:Int)≥0 then some (decide ((n:Int)<=512)) else some false)
  |(Sum.inr a)=>some a
def Bj(N:Nat)(q:bB):((List aB)×Int)->Option (aK ((List aB)×Int) (List aB))
 |(b,a)=>(if(a:Int)<(List.length q.aZ:Int)then (idx q.aZ a).bind fun c=>(p7 N c).bind fun d=>(cS 32 b [d]).bind fun e=>some (aK.next (e,(iw (a+1)))) else some (aK.done b))
def qb(N:Nat)(q:bB)(bound:aB):Option bB:=(xB N bound).bind fun a=>(bJ (Bj N q) N (([]:(List aB)),0)).bind fun ss=>match ss with
  |b=>some (bB.mk b a)
def Eu(N:Nat)(c:Constraint):((List aB)×Int)->Option (aK ((List aB)×Int) (List aB))
 |(b,a)=>(if(a:Int)<(List.length c.Linear.aZ:Int)then (idx c.Linear.aZ a).bind fun d=>(idx c.Linear.aZ a).bind fun e=>(lr N e.N).bind fun f=>(idx b d.Var).bind fun i=>(di b d.Var f).bind fun g=>some (aK.next (g,(iw (a+1)))) else some (aK.done b))
def xV(N:Nat)(c:Constraint)(n:Int):Option (List bB):=(ri N c n).bind fun r6=>(if(!r6)=true then some ([]:(List bB)) else (uK N n).bind fun e=>(bJ (Eu N c) N (e.aZ,0)).bind fun ss=>match ss with
   |a=>(lr N c.Linear.Const).bind fun d=>(p7 N d).bind fun b=>(if(!c.iA)=true then some [(bB.mk a b)] else (qb N (bB.mk a b) d).bind fun f=>some [(bB.mk a b),f]))
def Cd(N:Nat)(l:(List Constraint))(n:Int):((List bB)×Int)->Option (aK ((List bB)×Int) (Sum (List bB) (List bB)))
 |(b,a)=>(if(a:Int)<(List.length l:Int)then (idx l a).bind fun c=>(ri N c n).bind fun d=>(if(!d)=true then some (aK.done (Sum.inr ([]:(List bB)))) else (idx l a).bind fun e=>(xV N e n).bind fun f=>(cS 56 b f).bind fun g=>some (aK.next (g,(iw (a+1))))) else some (aK.done (Sum.inl b)))
def xA(N:Nat)(l:(List Constraint))(n:Int):Option (List bB):=(bJ (Cd N l n) N (([]:(List bB)),0)).bind fun ss=>match ss with
  |(Sum.inl a)=>some a
  |(Sum.inr b)=>some b
def xc(N:Nat)(l:(List bB)):Int->Option (aK Int (Sum Unit Bool))
 |a=>(if(a:Int)<(List.length l:Int)then (idx l a).bind fun b=>(idx l 0).bind fun c=>(if((List.length b.aZ:Int):Int)≠(List.length c.aZ:Int)then some (aK.done (Sum.inr false)) else some (aK.next (iw (a+1)))) else some (aK.done (Sum.inl ())))
def uN(N:Nat)(l:(List bB)):Option Bool:=(bJ (xc N l) N 0).bind fun ss=>match ss with
  |(Sum.inl _)=>some true
  |(Sum.inr a)=>some a
def wQ(N:Nat)(c:Int)(d:dO)(e:bB):((List aB)×Int)->Option (aK ((List aB)×Int) (List aB))
 |(b,a)=>(if(a:Int)<c then (idx b a).bind fun f=>(idx e.aZ a).bind fun g=>(rW N g d.N).bind fun i=>(oS N f i).bind fun j=>(idx b a).bind fun l=>(di b a j).bind fun k=>some (aK.next (k,(iw (a+1)))) else some (aK.done b))
def D9(N:Nat)(l:(List bB))(s:Step)(i:Int):((List aB)×Bool×(List Int)×Int)->Option (aK ((List aB)×Bool×(List Int)×Int) (Sum ((List aB)×Bool×(List Int)) (bB×Bool)))
 |(c,d,e,b)=>(if(b:Int)<(List.length s.Uses:Int)then (idx s.Uses b).bind fun a=>(((if(a.Index:Int)<0 then some true else (if(a.Index:Int)≥(List.length l:Int)then some true else (kE N a.N).bind fun j=>some (decide ((j:Int)<0)))):Option Bool)).bind fun ss=>match ss with
    |k=>(if k=true then some (aK.done (Sum.inr ((bB.mk [] (aB.mk false [])),false))) else (idx l a.Index).bind fun f=>(bJ (wQ N i a f) N (c,0)).bind fun ss=>match ss with
       |m=>(rW N f.dw a.N).bind fun n=>(oS N (aB.mk d e) n).bind fun g=>some (aK.next (m,g.bF,g.aP,(iw (b+1))))) else some (aK.done (Sum.inl (c,d,e))))
def w7(N:Nat)(s:Step)(d:Int):((List aB)×Int)->Option (aK ((List aB)×Int) (Sum (List aB) (bB×Bool)))
 |(b,a)=>(if(a:Int)<d then (idx b a).bind fun e=>(um N e s.fX).bind fun c=>(kE N c.2.1).bind fun f=>(if(f:Int)≠0 then some (aK.done (Sum.inr ((bB.mk [] (aB.mk false [])),false))) else (idx b a).bind fun i=>(di b a c.1).bind fun g=>some (aK.next (g,(iw (a+1))))) else some (aK.done (Sum.inl b)))
def xT(N:Nat)(l:(List bB))(s:Step):Option (bB×Bool):=(((uN N l).bind fun c=>(if(!c)=true then some true else (kE N s.fX).bind fun d=>some (decide ((d:Int)<=0))):Option Bool)).bind fun ss=>match ss with
  |e=>(if e=true then some ((bB.mk [] (aB.mk false [])),false) else (((if((List.length l:Int):Int)>0 then (idx l 0).bind fun f=>some (List.length f.aZ:Int) else some 0):Option Int)).bind fun ss=>match ss with
     |a=>(uK N a).bind fun b=>(bJ (D9 N l s a) N (b.aZ,b.dw.bF,b.dw.aP,0)).bind fun ss=>match ss with
       |(Sum.inl (g,i,j))=>(bJ (w7 N s a) N (g,0)).bind fun ss=>match ss with
         |(Sum.inl k)=>(um N (aB.mk i j) s.fX).bind fun m=>some ((bB.mk k m.1),true)
         |(Sum.inr n)=>some n
       |(Sum.inr o)=>some o)
def wK(N:Nat)(q:bB):Int->Option (aK Int (Sum Unit Bool))
 |a=>(if(a:Int)<(List.length q.aZ:Int)then (idx q.aZ a).bind fun b=>(kE N b).bind fun c=>(if(c:Int)≠0 then some (aK.done (Sum.inr false)) else some (aK.next (iw (a+1)))) else some (aK.done (Sum.inl ())))
def xK(N:Nat)(q:bB):Option Bool:=(bJ (wK N q) N 0).bind fun ss=>match ss with
  |(Sum.inl _)=>(kE N q.dw).bind fun a=>some (decide ((a:Int)<0))
  |(Sum.inr b)=>some b
def yT(N:Nat)(p:Proof):((List bB)×Int)->Option (aK ((List bB)×Int) (Sum (List bB) Bool))
 |(a,b)=>(if(b:Int)<(List.length p.Steps:Int)then (idx p.Steps b).bind fun d=>(xT N a d).bind fun c=>(if(!c.2)=true then some (aK.done (Sum.inr false)) else (cS 56 a [c.1]).bind fun e=>some (aK.next (e,(iw (b+1))))) else some (aK.done (Sum.inl a)))
def CY(N:Nat)(b:(List bB)):Int->Option (aK Int (Sum Unit Bool))
 |a=>(if(a:Int)<(List.length b:Int)then (idx b a).bind fun c=>(xK N c).bind fun d=>(if d=true then some (aK.done (Sum.inr true)) else some (aK.next (iw (a+1)))) else some (aK.done (Sum.inl ())))
def sa(N:Nat)(self:(List bB)->Proof->Option Bool)(l:(List bB))(p:Proof):Option Bool:=(uN N l).bind fun r6=>(if(!r6)=true then some false else (cS 56 ([]:(List bB)) l).bind fun b=>(bJ (yT N p) N (b,0)).bind fun ss=>match ss with
   |(Sum.inl a)=>(if((List.length p.lS:Int):Int)=0 then (bJ (CY N a) N 0).bind fun ss=>match ss with
      |(Sum.inl _)=>some false
      |(Sum.inr c)=>some c else (((if((List.length p.lS:Int):Int)≠2 then some true else (if((List.length a:Int):Int)>0 then (idx a 0).bind fun d=>some (decide (((List.length p.Form:Int):Int)≠(List.length d.aZ:Int))) else some false)):Option Bool)).bind fun ss=>match ss with
      |e=>(if e=true then some false else (p7 N p.dw).bind fun f=>(lr N 1).bind fun g=>(tx N f g).bind fun i=>(qb N (bB.mk p.Form p.dw) i).bind fun j=>(cS 56 ([]:(List bB)) a).bind fun k=>(cS 56 k [(bB.mk p.Form p.dw)]).bind fun m=>(cS 56 ([]:(List bB)) a).bind fun n=>(cS 56 n [j]).bind fun o=>(idx p.lS 0).bind fun s=>(self m s).bind fun u=>(if u=true then (idx p.lS 1).bind fun v=>(self o v).bind fun y=>some y else some false)))
   |(Sum.inr a0)=>some a0)
def rM:Nat->(List bB)->Proof->Option Bool
 |0=>fun _ _=>none
 |N+1=>sa N (rM N)
open Go Go.X
def jB(K:Nat)(x:aB):Prop:=bA aC x.aP/\x.aP.length<=K
def qE(K:Nat)(q:bB):Prop:=q.aZ.length<=K/\(∀b∈q.aZ,jB K b)/\jB K q.dw
theorem jB.mono{K K':Nat}{x:aB}(h:jB K x)(hK:K<=K'):jB K' x:=⟨h.1,by have:=h.2;omega⟩
theorem jB.nil{K:Nat}{b:Bool}:jB K ⟨b,[]⟩:=⟨.nil,fy _⟩
abbrev eN:aB:=⟨false,[]⟩
theorem Oc{b:Bool}:bv ⟨b,[]⟩=0:=by cases b<;>rfl
theorem Is.ok{x:aB}{v:Int}{K:Nat}(h:Is x v)(hl:x.aP.length<=K):jB K x:=⟨h.dg.bL,hl⟩
theorem Tm.each{α β:Type}{body:Nat->Int->Option (aK Int (Sum Unit β))}(xs:List α)(P:α->Prop){Q:Sum Unit β->Prop}(hl:xs.length<=9223372036854775807)
 (step:∀(n:Nat) (hn:n<xs.length),(∀j,(hj:j<xs.length)->j<n->P xs[j])->Tm (fun N=>body N (n:Int)) (fun t=>(t=.next (iw ((n:Int)+1))/\P xs[n])\/(∃b,t=.done (.inr b)/\Q (.inr b))))
 (fin:(∀x∈xs,P x)->Tm (fun N=>body N (xs.length:Int)) (fun t=>∃r,t=.done r/\Q r)):Tm (fun N=>bJ (body N) N 0) Q:=by
 refine Tm.loop (fun i:Int=>∃n:Nat,i=n/\n<=xs.length/\∀j,(hj:j<xs.length)->j<n->P xs[j]) (fun i:Int=>xs.length-i.toNat) ⟨0,rfl,fy _,fun _ _ h=>absurd h (by omega)⟩ ?_;rintro _ ⟨n,rfl,hn,hP⟩;rcases cv n xs.length with h|h
 . refine(step n h hP).mono ?_;rintro t (⟨rfl,hp⟩|⟨b,rfl,hq⟩)
   . refine⟨⟨n+1,by rw[bK]<;>omega,by omega,fun j hj hlt=>?_⟩,?_⟩
     . rcases cv j n with h'|h'
       . exact hP j hj h'
       . obtain rfl:j=n:=by omega
         exact hp
     . show xs.length-(iw ((n:Int)+1)).toNat<xs.length-((n:Int)).toNat;rw[bK]<;>omega
   . exact hq
 . obtain rfl:n=xs.length:=by omega
   refine(fin fun x hx=>?_).mono ?_
   . obtain⟨j,hj,rfl⟩:=FY.1 hx;exact hP j hj hj
   . rintro t ⟨r,rfl,hq⟩;exact hq
theorem rm{l:List aB}{n:Nat}(h:n<l.length):l.getD n eN=l[n]:=by rw[cy,bV h];rfl
theorem E3{a b:Int}:bM a b<=0↔a<=b:=by unfold bM;(repeat' split)<;>omega
def xN(q:bB):Bool:=decide ((∀b∈q.aZ,bv b=0)/\bv q.dw<0)
theorem Az{a:Int}:bM a 0=0↔a=0:=by unfold bM;(repeat' split)<;>omega
theorem AX{a:Int}:bM a 0<0↔a<0:=by unfold bM;(repeat' split)<;>omega
theorem M7{K:Nat}{q:bB}(hK:K<=1073741824)(hq:qE K q):Tm (fun N=>xK N q) (fun r=>r=xN q):=by
 unfold xK xN;have hlK:=hq.1;refine Tm.bind (Tm.each (body:=fun N=>wK N q) q.aZ (fun b=>bv b=0) (Q:=fun r=>(r=.inr false/\¬∀b∈q.aZ,bv b=0)\/(r=.inl ()/\∀b∈q.aZ,bv b=0)) (by omega) ?_ ?_) ?_
 . intro n hn _;unfold wK;have h1:=hq.2.1 _ (du hn);refine cY (by omega) (aN (de hn) (Tm.bind (nZ h1.1 (by have:=h1.2;omega)) ?_));rintro _ rfl;refine aY (fun h=>aS (.inr ⟨_,rfl,.inl ⟨rfl,fun h'=>h (Az.2 (h' _ (du hn)))⟩⟩)) (fun h=>aS (.inl ⟨rfl,Az.1 (by omega)⟩))
 . intro h;unfold wK;exact cz (by omega) (aS ⟨_,rfl,.inr ⟨rfl,h⟩⟩)
 . rintro _ (⟨rfl,h⟩|⟨rfl,h⟩)
   . refine aS ?_;simp only[h,false_and,decide_false]
   . refine Tm.bind (nZ hq.2.2.1 (by have:=hq.2.2.2;omega)) ?_;rintro _ rfl;refine aS ?_;simp only[AX];exact decide_eq_decide.2 ⟨fun h'=>⟨h,h'⟩,fun h'=>h'.2⟩
open Go Go.X
def fI(c:Constraint)(n:Int):Prop:=(∀i,(h:i<c.Linear.aZ.length)->0<=c.Linear.aZ[i].Var/\c.Linear.aZ[i].Var<n/\(∀(_:0<i),(c.Linear.aZ[i-1]'(by omega)).Var<c.Linear.aZ[i].Var))/\0<=n/\n<=512
theorem HV{c:Constraint}{n:Int}(hl:c.Linear.aZ.length<=9223372036854775807):Tm (fun N=>tZ N c n) (fun r=>r=true↔fI c n):=by
 unfold tZ;generalize hcs:c.Linear.aZ=cs at hl;have hR:fI c n↔((∀i,(h:i<cs.length)->0<=cs[i].Var/\cs[i].Var<n/\(∀(_:0<i),(cs[i-1]'(by omega)).Var<cs[i].Var))/\0<=n/\n<=512):=by subst hcs;rfl
 refine Tm.bind (Tm.loop (fun s:Int×Int=>∃k:Nat,s.2=k/\k<=cs.length/\(k=0->s.1=-1)/\(∀h:0<k/\k-1<cs.length,s.1=cs[k-1].Var)/\∀i,(h:i<cs.length)->i<k->0<=cs[i].Var/\cs[i].Var<n/\(∀(_:0<i),(cs[i-1]'(by omega)).Var<cs[i].Var)) (fun s=>cs.length-s.2.toNat)
  (Q:=fun r=>(r=.inl ()/\∀i,(h:i<cs.length)->0<=cs[i].Var/\cs[i].Var<n/\(∀(_:0<i),(cs[i-1]'(by omega)).Var<cs[i].Var))\/(r=.inr false/\¬fI c n)) ⟨0,rfl,fy _,fun _=>rfl,fun h=>absurd h.1 (by omega),fun i _ h=>absurd h (by omega)⟩ ?_) ?_
 . rintro⟨last,i⟩ ⟨k,rfl,hk,h0,h1,hP⟩;dsimp only[DA]at*;rw[hcs];refine aY (fun h=>?_) (fun h=>aS (.inl ⟨rfl,fun i hi=>hP i hi (by omega)⟩));have hkl:k<cs.length:=by omega
   refine aN (de hkl) (Tm.bind (Q:=(·=decide (cs[k].Var<=last\/cs[k].Var≥n))) (aY (fun h=>aS ?_) (fun h=>aS ?_)) ?_)
   . simp[h]
   . simp[h]
   rintro _ rfl;refine aY (fun h=>aS (.inr ⟨rfl,fun hr=>?_⟩)) (fun h=>aS ⟨⟨k+1,by dsimp only;rw[bK]<;>omega,by omega,fun h=>by omega,fun _=>rfl,fun i hi hik=>?_⟩,?_⟩)
   . have h:=of_decide_eq_true h;have:=(hR.1 hr).1 k hkl;rcases gv k with h'|h'
     . have:=h0 h';omega
     . have h2:=this.2.2 h';have h3:=h1 ⟨h',by omega⟩;omega
   . have h:¬(cs[k].Var<=last\/cs[k].Var≥n):=fun e=>h (decide_eq_true e);rcases cv i k with h'|h'
     . exact hP i hi h'
     . obtain rfl:i=k:=by omega
       rcases gv i with h'|h'
       . have:=h0 h';exact⟨by omega,by omega,fun e=>by omega⟩
       . have h3:=h1 ⟨h',by omega⟩;have h4:=hP (i-1) (by omega) (by omega);exact⟨by omega,by omega,fun _=>by omega⟩
   . show cs.length-(iw ((k:Int)+1)).toNat<cs.length-((k:Int)).toNat;rw[bK]<;>omega
 . rintro _ (⟨rfl,h⟩|⟨rfl,h⟩)
   . refine aY (fun h1=>aS ?_) (fun h1=>aS ?_)
     . rw[hR];simp only[decide_eq_true_eq];exact⟨fun h2=>⟨h,by omega,h2⟩,fun h2=>h2.2.2⟩
     . rw[hR];exact⟨fun h2=>(by cases h2),fun h2=>absurd h2.2.1 (by omega)⟩
   . exact aS ⟨fun h'=>(by cases h'),fun h'=>absurd h' h⟩
theorem DG{c:Constraint}{n:Int}(hl:c.Linear.aZ.length<=9223372036854775807):Tm (fun N=>ri N c n) (fun r=>r=true↔fI c n):=by
 unfold ri;generalize hcs:c.Linear.aZ=cs at hl;have hR:fI c n↔((∀i,(h:i<cs.length)->0<=cs[i].Var/\cs[i].Var<n/\(∀(_:0<i),(cs[i-1]'(by omega)).Var<cs[i].Var))/\0<=n/\n<=512):=by subst hcs;rfl
 refine Tm.bind (Tm.loop (fun s:Int=>∃k:Nat,s=k/\k<=cs.length/\∀i,(h:i<cs.length)->i<k->0<=cs[i].Var/\cs[i].Var<n/\(∀(_:0<i),(cs[i-1]'(by omega)).Var<cs[i].Var)) (fun s=>cs.length-s.toNat)
  (Q:=fun r=>(r=.inl ()/\∀i,(h:i<cs.length)->0<=cs[i].Var/\cs[i].Var<n/\(∀(_:0<i),(cs[i-1]'(by omega)).Var<cs[i].Var))\/(r=.inr false/\¬fI c n)) ⟨0,rfl,fy _,fun i _ h=>absurd h (by omega)⟩ ?_) ?_
 . rintro _ ⟨k,rfl,hk,hP⟩;dsimp only[EI]at*;rw[hcs];refine aY (fun h=>?_) (fun h=>aS (.inl ⟨rfl,fun i hi=>hP i hi (by omega)⟩));have hkl:k<cs.length:=by omega
   refine aN (de hkl) (Tm.bind (Q:=fun r=>r=true↔¬(0<=cs[k].Var/\cs[k].Var<n/\(∀(_:0<k),(cs[k-1]'(by omega)).Var<cs[k].Var))) (aY (fun h=>aS ?_) (fun h=>aY (fun h'=>aS ?_) (fun h'=>aY (fun h2=>?_) (fun h2=>aS ?_)))) ?_)
   . exact⟨fun _ e=>by omega,fun _=>rfl⟩
   . exact⟨fun _ e=>by omega,fun _=>rfl⟩
   . refine aN (gw (n:=k-1) (by rw[bK]<;>omega) (by omega)) (aS ?_);simp only[decide_eq_true_eq];exact⟨fun e e'=>by have:=e'.2.2 (by omega);omega,fun e=>by
      rcases qO (cs[k-1]'(by omega)).Var cs[k].Var with e'|e'
      . exact absurd ⟨by omega,by omega,fun _=>e'⟩ e
      . exact e'⟩
   . exact⟨fun e=>(by cases e),fun e=>absurd ⟨by omega,by omega,fun e'=>absurd e' (by omega)⟩ e⟩
   intro r hr;refine aY (fun h=>aS (.inr ⟨rfl,fun hr'=>hr.1 h ((hR.1 hr').1 k hkl)⟩)) (fun hf=>aS ⟨⟨k+1,by rw[bK]<;>omega,by omega,fun i hi hik=>?_⟩,?_⟩)
   . rcases cv i k with h'|h'
     . exact hP i hi h'
     . obtain rfl:i=k:=by omega
       exact jD fun e=>hf (hr.2 e)
   . show cs.length-(iw ((k:Int)+1)).toNat<cs.length-((k:Int)).toNat;rw[bK]<;>omega
 . rintro _ (⟨rfl,h⟩|⟨rfl,h⟩)
   . refine aY (fun h1=>aS ?_) (fun h1=>aS ?_)
     . rw[hR];simp only[decide_eq_true_eq];exact⟨fun h2=>⟨h,by omega,h2⟩,fun h2=>h2.2.2⟩
     . rw[hR];exact⟨fun h2=>(by cases h2),fun h2=>absurd h2.2.1 (by omega)⟩
   . exact aS ⟨fun h'=>(by cases h'),fun h'=>absurd h' h⟩
def eV(xs:List aB)(vs:List Int):Prop:=xs.length=vs.length/\∀j,(h:j<xs.length)->(h':j<vs.length)->Is xs[j] vs[j]
theorem eV.uniq{xs ys:List aB}{vs:List Int}(h:eV xs vs)(h':eV ys vs):xs=ys:=by
 apply pJ (h.1.trans h'.1.symm);intro i h1 h2;exact(h.2 i h1 (by rw[<-h.1];exact h1)).uniq (h'.2 i h2 (by rw[<-h.1];exact h1))
theorem eV.nil:eV [] []:=⟨rfl,fun j h=>absurd h (by simp)⟩
theorem is0:Is eN 0:=⟨Dg.nil,rfl⟩
theorem eV.dd{n:Nat}:eV (List.replicate n eN) (List.replicate n 0):=⟨by simp,fun j h h'=>by simpa using is0⟩
theorem eV.set{xs:List aB}{vs:List Int}(h:eV xs vs){k:Nat}{x:aB}{v:Int}(hx:Is x v):eV (xs.set k x) (vs.set k v):=by
 refine⟨by simpa using h.1,fun j h1 h2=>?_⟩;by_cases hj:k=j
 . subst hj;simpa using hx
 . rw[F6 hj,F6 hj];exact h.2 j (by simpa using h1) (by simpa using h2)
theorem eV.snoc{xs:List aB}{vs:List Int}(h:eV xs vs){x:aB}{v:Int}(hx:Is x v):eV (xs++[x]) (vs++[v]):=by
 refine⟨by simp[h.1],fun j h1 h2=>?_⟩;rcases cv j xs.length with hj|hj
 . rw[ME hj,ME (by rw[<-h.1];exact hj)];exact h.2 j hj _
 . simp only[db,km]at h1 h2;have hj':j=xs.length:=by omega
   have hj2:j=vs.length:=by rw[<-h.1];exact hj'
   have e1:(xs++[x])[j]?=some x:=by rw[hj'];simp
   have e2:(vs++[v])[j]?=some v:=by rw[hj2];simp
   rw[(dR.1 e1).2,(dR.1 e2).2];exact hx
theorem Is.len{x:aB}{v:Int}(h:Is x v){k:Nat}(hv:(v.natAbs:Int)<aC^k):x.aP.length<=k:=Fw mn h.dg.bL h.dg.e9 (by rw[h.dg.val];exact hv)
def pv(q:bB)(vs:List Int)(b:Int):Prop:=eV q.aZ vs/\Is q.dw b
theorem pv.uniq{p q:bB}{vs:List Int}{b:Int}(h:pv p vs b)(h':pv q vs b):p=q:=by
 have h1:=h.1.uniq h'.1;have h2:=h.2.uniq h'.2;cases p;cases q;simp_all
def gm(z:Int):Prop:=-9223372036854775808<=z/\z<=9223372036854775807
structure nR (c:Constraint):Prop where
 len:c.Linear.aZ.length<=9223372036854775807
 const:gm c.Linear.Const
 my:∀k∈c.Linear.aZ,gm k.N
def pT(l:List Int)(k:jN):List Int:=l.set k.Var.toNat k.N
def fP(c:Constraint)(n:Int)(k:Nat):List Int:=(c.Linear.aZ.take k).foldl pT (List.replicate n.toNat 0)
theorem xv{c:Constraint}{n:Int}{k:Nat}(h:k<c.Linear.aZ.length):fP c n (k+1)=pT (fP c n k) c.Linear.aZ[k]:=by
 unfold fP;rw[pI h,MF];rfl
theorem qS{c:Constraint}{n:Int}{k:Nat}:(fP c n k).length=n.toNat:=by
 unfold fP;generalize c.Linear.aZ.take k=l;have:∀(l:List jN) (v:List Int),(l.foldl pT v).length=v.length:=by
  intro l
  induction l with
  |nil=>intro v;rfl
  |cons x l ih=>intro v;rw[List.foldl_cons,ih];simp[pT]
 rw[this];simp
def nL(c:Constraint)(n:Int)(r:List bB):Prop:=(¬fI c n/\r=[])\/(fI c n/\∃q,pv q (fP c n c.Linear.aZ.length) (-c.Linear.Const)/\((c.iA=false/\r=[q])\/(c.iA=true/\∃q',pv q' ((fP c n c.Linear.aZ.length).map (fun v=>-v)) c.Linear.Const/\r=[q,q'])))
theorem nL.uniq{c:Constraint}{n:Int}{r s:List bB}(h:nL c n r)(h':nL c n s):r=s:=by
 rcases h with⟨h1,rfl⟩|⟨h1,q,hq,h2⟩<;>rcases h' with⟨g1,rfl⟩|⟨g1,q',gq,g2⟩
 . rfl
 . exact absurd g1 h1
 . exact absurd h1 g1
 . have e:=hq.uniq gq;subst e;rcases h2 with⟨h3,rfl⟩|⟨h3,p,hp,rfl⟩<;>rcases g2 with⟨g3,rfl⟩|⟨g3,p',gp,rfl⟩
   . rfl
   . rw[h3]at g3;cases g3
   . rw[h3]at g3;cases g3
   . rw[hp.uniq gp]
theorem AV{z:Int}{x:aB}(h:Is x z)(hz:gm z):bA aC x.aP/\x.aP.length<=2:=⟨h.dg.bL,h.len (by unfold gm at hz;have e:aC^2=18446744073709551616:=(by decide);omega)⟩
theorem M9{l:List aB}{vs:List Int}{bound:aB}{z:Int}(hl:eV l vs)(hv:∀v∈vs,gm v)(hb:Is bound z)(hz:gm z)(hn:l.length<=512):Tm (fun N=>wo N l bound) (fun r=>pv r (vs.map (fun v=>-v)) z):=by
 unfold wo;refine Tm.bind (ox hb.dg.bL (by have:=(AV hb hz).2;omega)) ?_;rintro b ⟨hb',-⟩;rw[hb.bv]at hb';refine Tm.bind (Tm.loop (fun s:List aB×Int=>∃k:Nat,s.2=k/\k<=l.length/\eV s.1 ((vs.take k).map (fun v=>-v))) (fun s=>l.length-s.2.toNat) (Q:=fun r=>eV r (vs.map (fun v=>-v))) ⟨0,rfl,fy _,by simpa using eV.nil⟩ ?_) (fun r h=>aS ⟨h,hb'⟩);rintro⟨cs,i⟩ ⟨k,rfl,hk,h⟩;have hlv:=hl.1;dsimp only[Dy]at*;refine aY (fun h1=>?_) (fun h1=>aS ?_)
 . have hkl:k<l.length:=by omega
   have hx:=hl.2 k hkl (by omega);have hxv:=hv _ (du (show k<vs.length by omega));refine aN (de hkl) (Tm.bind (zy hx.dg.bL (by have:=(AV hx hxv).2;omega)) ?_);rintro m ⟨hm,-⟩;rw[hx.bv]at hm;have hcl:=h.1;simp only[cN,fg]at hcl;refine aN (dQ (by simp only[cA,dP];omega) (by decide)) (aS ⟨⟨k+1,by dsimp only;rw[bK]<;>omega,by omega,?_⟩,?_⟩)
   . rw[pI (by omega),jU];exact h.snoc hm
   . show l.length-(iw ((k:Int)+1)).toNat<l.length-((k:Int)).toNat;rw[bK]<;>omega
 . show eV cs _;rwa[fh (by omega)]at h
theorem OC{q:bB}{vs:List Int}{bound:aB}{z:Int}(hl:eV q.aZ vs)(hv:∀v∈vs,gm v)(hb:Is bound z)(hz:gm z)(hn:q.aZ.length<=512):Tm (fun N=>qb N q bound) (fun r=>pv r (vs.map (fun v=>-v)) z):=by
 unfold qb;refine Tm.bind (I7 hb.dg.bL (by have:=(AV hb hz).2;omega)) ?_;rintro b ⟨hb',-⟩;rw[hb.bv]at hb';refine Tm.bind (Tm.loop (fun s:List aB×Int=>∃k:Nat,s.2=k/\k<=q.aZ.length/\eV s.1 ((vs.take k).map (fun v=>-v))) (fun s=>q.aZ.length-s.2.toNat) (Q:=fun r=>eV r (vs.map (fun v=>-v))) ⟨0,rfl,fy _,by simpa using eV.nil⟩ ?_) (fun r h=>aS ⟨h,hb'⟩);rintro⟨cs,i⟩ ⟨k,rfl,hk,h⟩;have hlv:=hl.1;dsimp only[Bj]at*;refine aY (fun h1=>?_) (fun h1=>aS ?_)
 . have hkl:k<q.aZ.length:=by omega
   have hx:=hl.2 k hkl (by omega);have hxv:=hv _ (du (show k<vs.length by omega));refine aN (de hkl) (Tm.bind (wL hx.dg.bL (by have:=(AV hx hxv).2;omega)) ?_);rintro m ⟨hm,-⟩;rw[hx.bv]at hm;have hcl:=h.1;simp only[cN,fg]at hcl;refine aN (dQ (by simp only[cA,dP];omega) (by decide)) (aS ⟨⟨k+1,by dsimp only;rw[bK]<;>omega,by omega,?_⟩,?_⟩)
   . rw[pI (by omega),jU];exact h.snoc hm
   . show q.aZ.length-(iw ((k:Int)+1)).toNat<q.aZ.length-((k:Int)).toNat;rw[bK]<;>omega
 . show eV cs _;rwa[fh (by omega)]at h
theorem yX{c:Constraint}{n:Int}{k:Nat}(hc:nR c):∀v∈fP c n k,gm v:=by
 induction k with
 |zero=>
  intro v hv;simp only[fP,MG,MH]at hv;rw[(yn.1 hv).2];unfold gm;omega
 |succ k ih=>
  rcases cv k c.Linear.aZ.length with h|h
  . rw[xv h];intro v hv;rcases pG hv with hv|rfl
    . exact ih v hv
    . exact hc.my _ (du h)
  . have e:fP c n (k+1)=fP c n k:=by
     unfold fP;rw[fh (by omega),fh h]
    rw[e];exact ih
theorem Sh{c:Constraint}{n:Int}(hc:nR c):Tm (fun N=>cOf N c n) (nL c n):=by
 unfold cOf;refine Tm.bind (HV hc.len) ?_;intro r hr;refine aY (fun h=>aS (.inl ⟨fun e=>(by rw[hr.2 e]at h;cases h),rfl⟩)) (fun h=>?_);have hR:fI c n:=hr.1 (by simpa using h);refine aN (gW (n:=n.toNat) (by have:=hR.2;omega) (by have:=hR.2;omega) (by decide)) ?_;have hn:n.toNat<=512:=by have:=hR.2;omega
 refine Tm.bind (Ao hc.const.1 hc.const.2) ?_;rintro k0 ⟨hk0,hk0l⟩;refine Tm.bind (zy hk0.dg.bL (by omega)) ?_;rintro b ⟨hb,-⟩;rw[hk0.bv]at hb;refine Tm.bind (Tm.loop (fun s:List aB×Int=>∃k:Nat,s.2=k/\k<=c.Linear.aZ.length/\eV s.1 (fP c n k)) (fun s=>c.Linear.aZ.length-s.2.toNat) (Q:=fun r=>eV r (fP c n c.Linear.aZ.length)) ⟨0,rfl,fy _,by simpa[fP]using eV.dd⟩ ?_) ?_
 . rintro⟨cs,i⟩ ⟨k,rfl,hk,h⟩;dsimp only[Ee]at*;refine aY (fun h1=>?_) (fun h1=>aS ?_)
   . have hkl:k<c.Linear.aZ.length:=by omega
     have hv:=hR.1 k hkl;have hx:=hc.my _ (du hkl);have hcl:=h.1;rw[qS]at hcl;refine aN (de hkl) (Tm.bind (Ao hx.1 hx.2) ?_);rintro m ⟨hm,-⟩;refine aN (gw (n:=c.Linear.aZ[k].Var.toNat) (by omega) (by omega)) (aN (ed (n:=c.Linear.aZ[k].Var.toNat) (by omega) (by omega)) (aS ⟨⟨k+1,by have:=hc.len;dsimp only;rw[bK]<;>omega,by omega,?_⟩,?_⟩))
     . rw[xv hkl];exact h.set hm
     . show c.Linear.aZ.length-(iw ((k:Int)+1)).toNat<c.Linear.aZ.length-((k:Int)).toNat;have:=hc.len;rw[bK]<;>omega
   . obtain rfl:k=c.Linear.aZ.length:=by omega
     exact h
 . rintro cs hcs;refine aY (fun h1=>aS (.inr ⟨hR,_,⟨hcs,hb⟩,.inl ⟨by simpa using h1,rfl⟩⟩)) (fun h1=>?_);refine Tm.bind (Ao hc.const.1 hc.const.2) ?_;rintro k1 ⟨hk1,-⟩;refine Tm.bind (M9 hcs (yX hc) hk1 hc.const (by rw[hcs.1,qS];exact hn)) ?_;rintro q' hq';exact aS (.inr ⟨hR,_,⟨hcs,hb⟩,.inr ⟨by simpa using h1,q',hq',rfl⟩⟩)
theorem Qq{c:Constraint}{n:Int}(hc:nR c):Tm (fun N=>xV N c n) (nL c n):=by
 unfold xV;refine Tm.bind (DG hc.len) ?_;intro r hr;refine aY (fun h=>aS (.inl ⟨fun e=>(by rw[hr.2 e]at h;cases h),rfl⟩)) (fun h=>?_);have hR:fI c n:=hr.1 (by simpa using h);have hn:n.toNat<=512:=by have:=hR.2;omega
 refine Tm.bind (Q:=(·=bB.mk (List.replicate n.toNat eN) eN)) ?_ ?_
 . unfold uK;exact aN (gW (n:=n.toNat) (by have:=hR.2;omega) (by omega) (by decide)) (aS rfl)
 rintro _ rfl;dsimp only;refine Tm.bind (Tm.loop (fun s:List aB×Int=>∃k:Nat,s.2=k/\k<=c.Linear.aZ.length/\eV s.1 (fP c n k)) (fun s=>c.Linear.aZ.length-s.2.toNat) (Q:=fun r=>eV r (fP c n c.Linear.aZ.length)) ⟨0,rfl,fy _,by simpa[fP]using eV.dd⟩ ?_) ?_
 . rintro⟨cs,i⟩ ⟨k,rfl,hk,h⟩;dsimp only[Eu]at*;refine aY (fun h1=>?_) (fun h1=>aS ?_)
   . have hkl:k<c.Linear.aZ.length:=by omega
     have hv:=hR.1 k hkl;have hx:=hc.my _ (du hkl);have hcl:=h.1;rw[qS]at hcl;refine aN (de hkl) (aN (de hkl) (Tm.bind (tC hx.1 hx.2) ?_));rintro m ⟨hm,-⟩;refine aN (gw (n:=c.Linear.aZ[k].Var.toNat) (by omega) (by omega)) (aN (ed (n:=c.Linear.aZ[k].Var.toNat) (by omega) (by omega)) (aS ⟨⟨k+1,by have:=hc.len;dsimp only;rw[bK]<;>omega,by omega,?_⟩,?_⟩))
     . rw[xv hkl];exact h.set hm
     . show c.Linear.aZ.length-(iw ((k:Int)+1)).toNat<c.Linear.aZ.length-((k:Int)).toNat;have:=hc.len;rw[bK]<;>omega
   . obtain rfl:k=c.Linear.aZ.length:=by omega
     exact h
 . rintro cs hcs;refine Tm.bind (tC hc.const.1 hc.const.2) ?_;rintro k0 ⟨hk0,hk0l⟩;refine Tm.bind (wL hk0.dg.bL (by omega)) ?_;rintro b ⟨hb,-⟩;rw[hk0.bv]at hb;refine aY (fun h1=>aS (.inr ⟨hR,_,⟨hcs,hb⟩,.inl ⟨by simpa using h1,rfl⟩⟩)) (fun h1=>?_);refine Tm.bind (OC (q:=⟨cs,b⟩) hcs (yX hc) hk0 hc.const (by show cs.length<=_;rw[hcs.1,qS];exact hn)) ?_;rintro q' hq';exact aS (.inr ⟨hR,_,⟨hcs,hb⟩,.inr ⟨by simpa using h1,q',hq',rfl⟩⟩)
end Go.D
namespace Go.Proofs.YtipdkfmhfakbnaaGreatDoor.TB
open Go Go.RowKit Go.X Go.Q
instance:eT:=⟨[0],fun _ o=>∃t fr,o=.cells (Lib.pow10Tab.map fun z=>Value.int .u64 z).toArray t fr⟩
theorem TP{w:World}(h:∀g∈eT.l,∃o,w.heap[g]?=some o/\eT.p g o):Lib.TabIs Tryz.prog w "internal/strconv.uint64pow10" .u64 Lib.pow10Tab:=by
 obtain⟨o,h1,t,fr,rfl⟩:=h 0 (cL.2 rfl);unfold Lib.TabIs World.var?;rw[show Program.globalNamed Tryz.prog "internal/strconv.uint64pow10"=some 0 by kernel_rfl];simp[h1]
theorem PO{w:World}(h:Lib.TabIs Tryz.prog w "internal/strconv.uint64pow10" .u64 Lib.pow10Tab):∀g∈eT.l,∃o,w.heap[g]?=some o/\eT.p g o:=by
 intro g hg;obtain rfl:=cL.1 hg;unfold Lib.TabIs World.var? at h;rw[show Program.globalNamed Tryz.prog "internal/strconv.uint64pow10"=some 0 by kernel_rfl]at h;simp only[FJ]at h;cases ho:w.heap[0]?with
 |none=>rw[ho]at h;cases h
 |some o=>
  rw[ho]at h;cases o with
  |cells cs t fr=>exact⟨_,rfl,t,fr,by rw[iM h]⟩
  |_=>cases h
end Go.Proofs.YtipdkfmhfakbnaaGreatDoor.TB
namespace Go.D
open Go Go.X
theorem SN:∀i,i<256->q9.getD i 0<=8/\(0<i->0<(q9.getD i 0).toNat/\2^((q9.getD i 0).toNat-1)<=i/\i<2^(q9.getD i 0).toNat):=by decide+kernel
theorem Fh:q9.length=256:=by decide+kernel
theorem Ky{x:Int}{n:Nat}(h:n<=32):fl .u32 x n=x/2^n:=by
 unfold fl;rw[show min ((n:Int)).toNat IntKind.u32.bits=n by show min _ 32=n;omega];exact jo _ (dZ (ko (by decide)))
theorem Ri{x:Int}(h0:0<x)(h1:x<4294967296):Tm (fun N=>wv N x) (fun r=>∃k:Nat,r=k/\0<k/\k<=32/\2^(k-1)<=x/\x<2^k):=by
 unfold wv;refine Tm.bind (Q:=fun p:Int×Int=>∃m:Nat,p.2=m/\m<=16/\0<p.1/\p.1<65536/\p.1*2^m<=x/\x<(p.1+1)*2^m) (aY (fun h=>aS ?_) (fun h=>aS ?_)) ?_
 . refine⟨16,rfl,by decide,?_⟩;rw[show fl .u32 x 16=x/2^16 from Ky (n:=16) (by decide)];have e:(2:Int)^16=65536:=by decide
   dsimp only;rw[e];omega
 . exact⟨0,rfl,by decide,h0,by dsimp only;omega,by simp,by dsimp only;omega⟩
 rintro⟨y,_⟩ ⟨m,rfl,hm,y0,y1,hy,hy'⟩;dsimp only at*;refine Tm.bind (Q:=fun p:Int×Int=>∃m:Nat,p.2=m/\m<=24/\0<p.1/\p.1<256/\p.1*2^m<=x/\x<(p.1+1)*2^m) (aY (fun h=>aS ?_) (fun h=>aS ?_)) ?_
 . refine⟨m+8,by dsimp only;rw[bK]<;>omega,by omega,?_⟩;rw[show fl .u32 y 8=y/2^8 from Ky (n:=8) (by decide)];have e:(2:Int)^8=256:=by decide
   have hp:(0:Int)<2^m:=ko (by decide);dsimp only;rw[jE,e];refine⟨by omega,by omega,?_,?_⟩
   . have:y/256*256*2^m<=y*2^m:=fj (by omega) (by omega);have e2:y/256*(2^m*256)=y/256*256*2^m:=by grind
     omega
   . have:(y+1)*2^m<=(y/256+1)*256*2^m:=fj (by omega) (by omega);have e2:(y/256+1)*(2^m*256)=(y/256+1)*256*2^m:=by grind
     omega
 . exact⟨m,rfl,by omega,y0,by dsimp only;omega,hy,hy'⟩
 rintro⟨z,_⟩ ⟨m,rfl,hm,z0,z1,hz,hz'⟩;dsimp only at*;have hu:uw8 z=(z.toNat:Int):=by unfold uw8;rw[show IntKind.u8.wrap z=z%256 from wu8];omega
 refine aN (gw (n:=z.toNat) hu (by rw[Fh];omega)) (aS ?_);obtain⟨t1,t2⟩:=SN z.toNat (by omega);rw[cy,bV (by rw[Fh];omega)]at t1 t2;simp only[BL]at t1 t2;generalize q9[z.toNat]'(by rw[Fh];omega)=t at*;obtain⟨p0,p1,p2⟩:=t2 (by omega);have t1':t.toNat<=8:=by simpa[UInt8.le_iff_toNat_le]using t1
 have e1:iw (t.toNat:Int)=t.toNat:=by rw[bK]<;>omega
 rw[e1];have hp:(0:Int)<2^m:=ko (by decide);have p1':((2:Int)^(t.toNat-1))<=z:=by
  have h:((2^(t.toNat-1):Nat):Int)<=(z.toNat:Int):=Int.ofNat_le.2 p1;rw[Int.toNat_of_nonneg (by omega),F8]at h;exact h
 have p2':z+1<=(2:Int)^t.toNat:=by
  have h:(z.toNat:Int)<((2^t.toNat:Nat):Int):=Int.ofNat_lt.2 p2;rw[Int.toNat_of_nonneg (by omega),F8]at h;exact h
 refine⟨m+t.toNat,by rw[bK]<;>omega,by omega,by omega,?_,?_⟩
 . rw[show m+t.toNat-1=(t.toNat-1)+m by omega,jE];exact Int.le_trans (fj p1' (by omega)) hz
 . rw[Nat.add_comm,jE];exact Int.lt_of_lt_of_le hz' (fj p2' (by omega))
theorem Qc{x:Int}(h0:0<x)(h1:x<4294967296):Tm (fun N=>xO N x) (fun r=>∃s:Nat,r=s/\s<=31/\2147483648<=x*2^s/\x*2^s<4294967296):=by
 unfold xO;refine Tm.bind (Ri h0 h1) ?_;rintro _ ⟨k,rfl,k0,k1,hk,hk'⟩;refine aS ⟨32-k,by rw[bK]<;>omega,by omega,?_,?_⟩
 . have:=fj hk (show(0:Int)<=2^(32-k) from dZ (ko (by decide)));rw[<-jE,show k-1+(32-k)=31 by omega]at this;exact this
 . have:=MI hk' (show(0:Int)<2^(32-k) from ko (by decide));rw[<-jE,show k+(32-k)=32 by omega]at this;exact this
open Go Go.X
theorem Tk{k:IntKind}{x y n:Nat}(hx:k.wrap (x:Int)=x)(hy:k.wrap (y:Int)=y)(h:x<2^n)(hm:2^n∣y):jv k x y=((x+y:Nat):Int):=by
 rw[Lw hx hy];obtain⟨q,rfl⟩:=hm;rw[Nat.or_comm,<-Nat.two_pow_add_eq_or_of_lt h,Nat.add_comm]
theorem si{l:List Int}{n m:Nat}{y:Int}(h:n<l.length):(l.set n y).getD m 0=if n=m then y else l.getD m 0:=by
 rw[cy,cy,qK];by_cases e:n=m
 . subst e;simp[h]
 . simp[e]
theorem Ia{z:Nat}(h:z<4294967296):IntKind.u32.wrap (z:Int)=z:=by rw[show IntKind.u32.wrap (z:Int)=(z:Int)%4294967296 from wu32];omega
theorem yU{s:Nat}(h:s<=31):(2:Int)^s*2^(32-s)=4294967296:=by rw[<-jE,show s+(32-s)=32 by omega];decide
theorem Hm{a:List Int}{n:Int}{s:Nat}(hn:n=s)(hs:s<=31)(ha:bA aC a)(hl:a.length<=17592186044416):Tm (fun N=>uA N a n) (fun r=>bA aC r/\val aC r=val aC a*2^s/\r.length=a.length+1):=by
 unfold uA;subst hn;have hP:(0:Int)<2^s:=ko (by decide);have hQ:(0:Int)<2^(32-s):=ko (by decide);have hPQ:=yU hs;refine aN (gW (n:=a.length+1) (by rw[bK]<;>omega) (by omega) (by decide)) ?_;refine Tm.bind (Q:=fun r=>bA aC r/\val aC r=val aC a*2^s/\r.length=a.length+1)
  (Tm.loop (fun t:List Int×Int=>∃k:Nat,t.2=k/\k<=a.length/\t.1.length=a.length+1/\bA aC t.1/\t.1.getD k 0<2^s/\val aC (t.1.take (k+1))=val aC (a.take k)*2^s) (fun t=>a.length-t.2.toNat)
   ⟨0,rfl,fy _,by simp,bA.dd (by decide),?_,?_⟩ ?_) (fun r h=>aS h)
 . show(List.replicate (a.length+1) (0:Int)).getD 0 0<_;simpa using hP
 . show val aC ((List.replicate (a.length+1) (0:Int)).take 1)=_;rw[List.take_replicate,Ar];simp[val]
 rintro⟨out,i⟩ ⟨k,rfl,hk,ho,hB,hc,hv⟩;dsimp only[C0]at*;refine aY (fun h=>?_) (fun h=>aS ?_)
 . have hx:=ha.get (n:=k) (by omega);have ex:a.getD k 0=a[k]'(by omega):=fQ (by omega);refine aN (de (by omega)) (aN (wx (by omega)) (aN (de (by omega)) (aN (de (by omega)) ?_)));generalize a[k]'(by omega)=x at*;have hco:=hB.get (n:=k) (by omega);have eo:out.getD k 0=out[k]'(by omega):=fQ (by omega);have hvs:=fun y=>take_set (l:=out) (n:=k) (y:=y) (by omega);rw[eo]at hc;rw[fp,eo]at hv;generalize out[k]'(by omega)=c at*;simp only[aC]at hx;have hw0:0<=x*2^s:=eH hx.1 (by omega);have hP31:(2:Int)^s<=2147483648:=by
    have:=j9 (B:=2) (by decide) hs;exact this
   have hw1:x*2^s<=4294967295*2147483648:=ni (by omega) hP31 (by omega) (by decide);have ew:iP .u64 (uw x) s=x*2^s:=by
    unfold iP;rw[show uw x=x by rw[fG];omega,show min ((s:Int)).toNat IntKind.u64.bits=s by show min _ 64=s;omega];rw[show IntKind.u64.wrap (x*2^s)=(x*2^s)%18446744073709551616 from wu];omega
   rw[ew,wc,gj];have hlo:(x*2^s)%4294967296=(x%2^(32-s))*2^s:=by
    rw[<-hPQ,fE x,Int.mul_emod_mul_of_pos _ _ hP,fE]
   have hhi:x*2^s/4294967296=x/2^(32-s):=by
    rw[<-hPQ,fE ((2:Int)^s) (2^(32-s)),Int.mul_ediv_mul_of_pos_left _ _ hP]
   have hhi1:x/2^(32-s)<2^s:=F7 hQ (by rw[hPQ];omega);have hhi0:0<=x/2^(32-s):=yp hx.1 (by omega);have hlo0:0<=x%2^(32-s):=mg _ (by omega);have hlo1:x%2^(32-s)+1<=2^(32-s):=mh _ hQ;have hlo2:(x%2^(32-s))*2^s+2^s<=4294967296:=by
    have:=fj hlo1 (show(0:Int)<=2^s by omega);rw[fE (2^(32-s)) (2^s),hPQ]at this;grind
   have hor:jv .u32 c ((x*2^s)%4294967296)=c+(x%2^(32-s))*2^s:=by
    rw[hlo];obtain⟨cn,rfl⟩:=qP hco.1;obtain⟨ln,hln⟩:=qP hlo0;rw[hln];have e1:(ln:Int)*2^s=((ln*2^s:Nat):Int):=by simp
    have hl0:0<=(ln:Int)*2^s:=eH (by omega) (by omega);rw[hln]at hlo2;rw[e1]at hlo2⊢;simp only[aC]at hco;rw[Tk (n:=s) (Ia (by omega)) (Ia (by omega)) (by have:((cn:Nat):Int)<((2^s:Nat):Int):=(by simpa using hc);omega) (Nat.dvd_mul_left _ _)];omega
   rw[hor];refine aN (ed rfl (by omega)) ?_;have hB1:bA aC (out.set k (c+(x%2^(32-s))*2^s)):=hB.set (by
    have:0<=(x%2^(32-s))*2^s:=eH hlo0 (by omega);simp only[aC]at*;omega)
   have hi1:iw ((k:Int)+1)=((k+1:Nat):Int):=by rw[bK]<;>omega
   refine aN (gw hi1 (by simp;omega)) (aN (ed hi1 (by simp;omega)) ?_);have ehi:dT (x*2^s/4294967296)=x/2^(32-s):=by rw[hhi,gj];omega
   rw[ehi];refine aS ⟨⟨k+1,hi1,by omega,by simp;omega,hB1.set (by simp only[aC];omega),?_,?_⟩,?_⟩
   . show(((out.set k _).set (k+1) _).getD (k+1) 0)<2^s;rw[si (by simp;omega),if_pos rfl];exact hhi1
   . show val aC (((out.set k _).set (k+1) _).take (k+1+1))=_;rw[take_set (by simp;omega),hvs,fp,ex,fi];have:=jF x (2^(32-s));have hw:aC=2^s*2^(32-s):=hPQ.symm;have e3:aC^k*aC*(x/2^(32-s))=aC^k*(2^s*(2^(32-s)*(x/2^(32-s)))):=by
      conv=>lhs;rw[MJ,show aC*(x/2^(32-s))=2^s*2^(32-s)*(x/2^(32-s)) by rw[<-hw]]
      rw[MJ]
     rw[e3];grind
   . show a.length-(iw ((k:Int)+1)).toNat<a.length-((k:Int)).toNat;rw[hi1];omega
 . obtain rfl:k=a.length:=by omega
   rw[kz (by omega),kz (bI _)]at hv;exact⟨hB,hv,ho⟩
open Go Go.X
theorem gh{xs:List Int}{i:Int}{n:Nat}(e:i=(n:Int))(h:n<xs.length):idx xs i=some (xs.getD n 0):=by
 rw[fQ h];exact gw e h
theorem Dp{k:IntKind}{x y:Int}(h:y≠0):sdiv k x y=some (k.wrap (x.tdiv y)):=by unfold sdiv;rw[if_neg h]
theorem GJ{x y:Int}(h:y≠0):srem x y=some (x.tmod y):=by unfold srem;rw[if_neg h]
theorem AJ{z:Nat}(h:z<18446744073709551616):IntKind.u64.wrap (z:Int)=z:=by rw[show IntKind.u64.wrap (z:Int)=(z:Int)%18446744073709551616 from wu];omega
theorem QS{x:Int}(h0:0<=x)(h1:x<4294967296):iP .u64 x 32=x*4294967296:=by
 unfold iP;rw[show((2:Int)^(min (32:Int).toNat IntKind.u64.bits))=4294967296 from rfl];rw[show IntKind.u64.wrap (x*4294967296)=(x*4294967296)%18446744073709551616 from wu];omega
theorem zh{x y:Int}(h0:0<=x)(h1:x<4294967296)(h2:0<=y)(h3:y<4294967296):jv .u64 (iP .u64 x 32) y=x*4294967296+y:=by
 rw[QS h0 h1];obtain⟨a,rfl⟩:=qP h0;obtain⟨b,rfl⟩:=qP h2;rw[show(a:Int)*4294967296=((a*2^32:Nat):Int) by simp];rw[Lw (AJ (by omega)) (AJ (by omega)),<-Nat.shiftLeft_eq,<-Nat.shiftLeft_add_eq_or_of_lt (by omega),Nat.shiftLeft_eq];omega
theorem Ny{z:Int}(h0:0<=z)(h1:z<18446744073709551616):pO .u64 z 4294967295=z%4294967296:=by
 obtain⟨a,rfl⟩:=qP h0;rw[show(4294967295:Int)=((2^32-1:Nat):Int) by decide,P7 (AJ (by omega)) (AJ (by decide)),Nat.and_two_pow_sub_one_eq_mod];omega
theorem gH{z:Int}(h0:0<=z)(h1:z<18446744073709551616):uw z=z:=by rw[fG];omega
theorem AM{x y:Int}(h:0<=x):x.tdiv y=x/y:=Ux h
theorem DN{x y:Int}(h:0<=x):x.tmod y=x%y:=Uw h
theorem Lk{a:List Int}{y:Int}(ha:bA aC a)(h0:0<y)(h1:y<aC)(hl:a.length<=17592186044416):
 Tm (fun N=>vg N a y) (fun r=>bA aC r.1/\val aC r.1=val aC a/y/\r.2=val aC a%y/\r.1.length=a.length):=by
 unfold vg;refine aN (gW rfl (by omega) (by decide)) ?_;refine Tm.bind (Q:=fun r:List Int×Int=>bA aC r.1/\r.1.length=a.length/\0<=r.2/\r.2<y/\val aC r.1*y+r.2=val aC a)
  (Tm.loop (fun t:List Int×Int×Int=>∃k:Nat,t.2.2=(k:Int)-1/\k<=a.length/\t.1.length=a.length/\bA aC t.1/\0<=t.2.1/\t.2.1<y/\(∀j,j<k->t.1.getD j 0=0)/\val aC t.1*y+aC^k*t.2.1+val aC (a.take k)=val aC a) (fun t=>(t.2.2+1).toNat)
   ⟨a.length,by rw[bK]<;>omega,bI _,by simp,bA.dd (by decide),by simp,h0,fun j hj=>by rw[fQ (by simpa using hj)];simp,by rw[kz (bI _),Ar];simp⟩ ?_) ?_
 . rintro⟨out,rest,i⟩ ⟨k,rfl,hk,ho,hB,r0,r1,hz,hv⟩;dsimp only[EH]at*;refine aY (fun h=>?_) (fun h=>aS ?_)
   . obtain⟨n,rfl⟩:∃n,k=n+1:=⟨k-1,by omega⟩;have hi:((n+1:Nat):Int)-1=(n:Int):=by omega
     rw[hi];have hx:=ha.getD (by decide) n;have hvt:=fp (B:=aC) (l:=a) (n:=n);refine aN (gh rfl (by omega)) ?_;generalize a.getD n 0=x at*;simp only[aC]at hx h1;have ex:uw x=x:=gH hx.1 (by omega);have ey:uw y=y:=gH (by omega) (by omega);rw[ex,ey,zh r0 (by omega) hx.1 hx.2];have hT0:0<=rest*4294967296+x:=by omega
     have hq1:(rest*4294967296+x)/y<4294967296:=F7 h0 (by
      have:=fj (show rest+1<=y by omega) (show(0:Int)<=4294967296 by decide);rw[fE 4294967296 y];omega)
     have hq0:0<=(rest*4294967296+x)/y:=yp hT0 (by omega);refine aN (Dp (by omega)) (aN (gh rfl (by omega)) (aN (ed rfl (by omega)) (aN (GJ (by omega)) (aS ?_))));rw[AM hT0,DN hT0,show IntKind.u64.wrap ((rest*4294967296+x)/y)=(rest*4294967296+x)/y from gH hq0 (by omega),show dT ((rest*4294967296+x)/y)=(rest*4294967296+x)/y by rw[gj];omega];have hm0:=mg (rest*4294967296+x) (show y≠0 by omega);have hm1:=mh (rest*4294967296+x) h0;have hd:=jF (rest*4294967296+x) y;refine⟨⟨n,by show iw ((n:Int)-1)=_;rw[bK]<;>omega,by omega,by simp;omega,hB.set (by simp only[aC];omega),hm0,hm1,fun j hj=>?_,?_⟩,?_⟩
     . show(out.set n _).getD j 0=0;rw[si (by omega),if_neg (by omega)];exact hz j (by omega)
     . show val aC (out.set n _)*y+aC^n*((rest*4294967296+x)%y)+val aC (a.take n)=_;have hon:out[n]'(by omega)=0:=by have:=hz n (by omega);rwa[fQ (by omega)]at this
       rw[uM (by omega),hon];rw[fi]at hv;have hw:aC=4294967296:=rfl;generalize(rest*4294967296+x)/y=q at*;generalize(rest*4294967296+x)%y=t at*;rw[<-hv,hvt];have e1:aC^n*aC*rest=aC^n*(rest*4294967296):=by rw[hw];grind
       have e2:aC^n*(t+y*q)=aC^n*(rest*4294967296+x):=by rw[hd]
       rw[e1];grind
     . show(iw ((n:Int)-1)+1).toNat<((n:Int)+1).toNat;rw[bK]<;>omega
   . obtain rfl:k=0:=by omega
     refine⟨hB,ho,r0,r1,?_⟩;simpa[val]using hv
 . rintro⟨out,rest⟩ ⟨hB,ho,r0,r1,hv⟩;dsimp only at*;simp only[aC]at h1;refine aS ⟨hB,?_,?_,ho⟩
   . show val aC out=_;rw[<-hv,Int.add_comm,Int.add_mul_ediv_right _ _ (by omega),MK r0 r1];omega
   . show dT rest=_;rw[gj,<-hv,Int.add_comm,Int.add_mul_emod_self_right,BX r0 r1];omega
section
variable {W V R v1 v2 u2 top p vl rl g rest:Int}
theorem g_dec(hp:0<p)(hV:V=(v1*W+v2)*p+vl)(hvl:0<=vl)(hR:R=(top*W+u2)*p+rl)(hrl:rl<p)(ht:top=g*v1+rest)(hg:0<=g)(h:rest*W+u2<g*v2):R<g*V:=by
 have h1:top*W+u2+1<=g*(v1*W+v2):=by
  have e:g*(v1*W+v2)=(g*v1)*W+g*v2:=by grind
  have e2:top*W=(g*v1)*W+rest*W:=by rw[ht];grind
  omega
 have h2:=fj h1 (dZ hp);have h3:0<=g*vl:=eH hg hvl;have e1:g*V=g*(v1*W+v2)*p+g*vl:=by rw[hV];grind
 have e2:(top*W+u2+1)*p=(top*W+u2)*p+p:=by grind
 omega
theorem g_top(hp:0<p)(hW:0<W)(hv2:v2<W)(hV:V=(v1*W+v2)*p+vl)(hvl:vl<p)(hR:R=(top*W+u2)*p+rl)(hu2:0<=u2)(hrl:0<=rl)(h:R<W*V):top<(v1+1)*W:=by
 have h1:top*W<W*(v1*W+v2+1):=by
  rcases qO (top*W) (W*(v1*W+v2+1))with h1|h1
  . exact h1
  . exfalso;have h2:=fj (show W*(v1*W+v2+1)<=top*W+u2 by omega) (dZ hp);have h3:W*vl<W*p:=Int.mul_lt_mul_of_pos_left hvl hW;have e1:W*V=W*(v1*W+v2)*p+W*vl:=by rw[hV];grind
    have e2:W*(v1*W+v2+1)*p=W*(v1*W+v2)*p+W*p:=by grind
    omega
 have h2:W*top<W*(v1*W+v2+1):=by rw[fE W top];exact h1
 have h3:=F9 h2 (dZ hW);have e:(v1+1)*W=v1*W+W:=by grind
 omega
theorem R7(hv1:0<v1)(ht:top=g*v1+rest)(hr:W<=rest)(h:top<(v1+1)*W):g<W:=by
 have h1:g*v1<W*v1:=by
  have e:(v1+1)*W=W*v1+W:=by grind
  omega
 exact ML h1 (dZ hv1)
theorem g_brk(hp:0<p)(hW:0<W)(hv2:0<=v2)(hv2':v2<W)(hV:V=(v1*W+v2)*p+vl)(hvl:0<=vl)(hvl':vl<p)(hR:R=(top*W+u2)*p+rl)(hu2:0<=u2)(hrl:0<=rl)
 (ht:top=g*v1+rest)(hr:W<=rest)(hg:0<=g)(hgW:g<W):g*V<=R:=by
 have h1:g*(v2*p+vl)<=W*(W*p):=by
  have:v2*p+vl<=W*p:=by
   have:=fj (show v2+1<=W by omega) (dZ hp);have e:(v2+1)*p=v2*p+p:=by grind
   omega
  have h0:0<=v2*p+vl:=by have:=eH hv2 (dZ hp);omega
  exact ni (by omega) this h0 (by omega)
 have h2:W*(W*p)<=rest*(W*p):=fj hr (eH (by omega) (by omega));have h3:0<=u2*p:=eH hu2 (by omega);have e1:g*V=g*v1*(W*p)+g*(v2*p+vl):=by rw[hV];grind
 have e2:R=g*v1*(W*p)+rest*(W*p)+u2*p+rl:=by rw[hR,ht];grind
 omega
theorem g_end(hp:0<p)(hW:0<W)(hv1:0<v1)(hv2:0<=v2)(hV:V=(v1*W+v2)*p+vl)(hvl:0<=vl)(hvl':vl<p)(hR:R=(top*W+u2)*p+rl)(hrl:0<=rl)
 (ht:top=g*v1+rest)(hg:0<=g)(hgW:g<W)(h:g*v2<=rest*W+u2):g*V<=R+V:=by
 have h1:g*(v1*W+v2)<=top*W+u2:=by
  have e:g*(v1*W+v2)=(g*v1)*W+g*v2:=by grind
  have e2:top*W=(g*v1)*W+rest*W:=by rw[ht];grind
  omega
 have h2:=fj h1 (dZ hp);have h3:g*vl<=W*p:=ni (by omega) (by omega) hvl (by omega);have h4:W*p<=v1*(W*p):=by
  have:=fj (show 1<=v1 by omega) (show 0<=W*p from eH (by omega) (by omega));omega
 have h5:0<=v2*p:=eH hv2 (by omega);have e1:g*V=g*(v1*W+v2)*p+g*vl:=by rw[hV];grind
 have e2:V=v1*(W*p)+v2*p+vl:=by rw[hV];grind
 omega
theorem OP(hp:0<p)(hW:0<W)(hv1:0<v1)(hv2:0<=v2)(hV:V=(v1*W+v2)*p+vl)(hvl:0<=vl)(hR:R=(top*W+u2)*p+rl)(hu2:u2<W)(hrl:rl<p)
 (ht:top=g*v1+rest)(hr:rest<v1)(hg:0<=g):R<(g+1)*V:=by
 have h1:(top+1)*(W*p)<=(g+1)*v1*(W*p):=fj (by have e:(g+1)*v1=g*v1+v1:=(by grind);omega) (eH (by omega) (by omega));have h2:0<=(g+1)*(v2*p+vl):=eH (by omega) (by have:=eH hv2 (dZ hp);omega);have h3:=fj (show u2+1<=W by omega) (dZ hp);have e1:(g+1)*V=(g+1)*v1*(W*p)+(g+1)*(v2*p+vl):=by rw[hV];grind
 have e2:R=top*(W*p)+u2*p+rl:=by rw[hR];grind
 have e3:(top+1)*(W*p)=top*(W*p)+W*p:=by grind
 have e4:(u2+1)*p=u2*p+p:=by grind
 omega
end
theorem b2_tm{b v u:List Int}{n m:Nat}{V R v1 v2 u2 top p vl rl g0 r0:Int}(hb:b.length=m)(hv:v.length=m)(hm:2<=m)(hu:n+m<u.length)(hul:u.length<=35184372088832)
 (e1:v.getD (m-1) 0=v1)(e2:v.getD (m-2) 0=v2)(e3:u.getD (n+m-2) 0=u2)(hv1:0<v1/\v1<4294967296)(hv2:0<=v2/\v2<4294967296)(hu2:0<=u2/\u2<4294967296)
 (hp:0<p)(hV:V=(v1*4294967296+v2)*p+vl)(hvl:0<=vl/\vl<p)(hR:R=(top*4294967296+u2)*p+rl)(hrl:0<=rl/\rl<p)(hRV:R<4294967296*V)
 (ht:top=g0*v1+r0)(hr0:0<=r0/\r0<v1)(hg0:0<=g0/\g0<18446744073709551616):
 Tm (fun N=>bJ (y7 N b v u n) N (g0,r0)) (fun g=>0<=g/\g<4294967296/\R<(g+1)*V/\g*V<=R+V):=by
 have htop:=g_top hp (by decide) hv2.2 hV hvl.2 hR hu2.1 hrl.1 hRV;have hV0:0<=V:=by
  have h1:=eH (show 0<=v1*4294967296+v2 by omega) (dZ hp);omega
 refine Tm.loop (fun t:Int×Int=>0<=t.1/\t.1<18446744073709551616/\0<=t.2/\t.2<4294967296/\top=t.1*v1+t.2/\R<(t.1+1)*V) (fun t=>t.1.toNat)
  ⟨hg0.1,hg0.2,hr0.1,by omega,ht,OP hp (by decide) hv1.1 hv2.1 hV hvl.1 hR hu2.2 hrl.2 ht hr0.2 hg0.1⟩ ?_
 rintro⟨g,rest⟩ ⟨g1,g2,r1,r2,ht,hRg⟩;dsimp only[y7]at*;have ev2:uw v2=v2:=gH hv2.1 (by omega);have eu2:uw u2=u2:=gH hu2.1 (by omega);have ev1:uw v1=v1:=gH (by omega) (by omega);refine Tm.bind (Q:=(·=decide (4294967295<g\/rest*4294967296+u2<g*v2))) (aY (fun h=>aS ?_) (fun h=>?_)) ?_
 . simp[show 4294967295<g from h]
 . refine aN (gh (n:=m-2) (by rw[bK]<;>omega) (by omega)) (aN (gh (n:=n+m-2) (by rw[show iw ((n:Int)+(b.length:Int))=(n:Int)+m by rw[bK]<;>omega,bK]<;>omega) (by omega)) (aS ?_));rw[e2,e3,ev2,eu2,zh r1 r2 hu2.1 hu2.2];have hgv:0<=g*v2/\g*v2<=4294967295*4294967295:=⟨eH g1 hv2.1,ni (by omega) (by omega) hv2.1 (by decide)⟩;rw[gH hgv.1 (by omega)];have:¬4294967295<g:=h;simp[this]
 rintro _ rfl;refine aY (fun h=>?_) (fun h=>aS ?_)
 . have h:=of_decide_eq_true h;have hgp:0<g:=by
    rcases h with h|h
    . omega
    . rcases qO 0 g with h'|h'
      . exact h'
      . have:g=0:=by omega
        subst this;simp at h;omega
   have hRg':R<g*V:=by
    rcases h with h|h
    . have:=fj (show 4294967296<=g by omega) hV0;omega
    . exact g_dec hp hV hvl.1 hR hrl.2 ht g1 h
   have ht':top=(g-1)*v1+(rest+v1):=by rw[ht];grind
   refine aN (gh (n:=m-1) (by rw[bK]<;>omega) (by omega)) ?_;rw[e1,ev1,gH (show 0<=g-1 by omega) (by omega),gH (show 0<=rest+v1 by omega) (by omega)];refine aY (fun h1=>aS ?_) (fun h1=>aS ⟨⟨by dsimp only;omega,by dsimp only;omega,by dsimp only;omega,by dsimp only;omega,ht',?_⟩,?_⟩)
   . have hgW:=R7 hv1.1 ht' (show 4294967296<=rest+v1 by omega) htop;have:=g_brk hp (by decide) hv2.1 hv2.2 hV hvl.1 hvl.2 hR hu2.1 hrl.1 ht' (show 4294967296<=rest+v1 by omega) (by omega) hgW;refine⟨by omega,hgW,?_,by omega⟩;rw[show g-1+1=g by omega];exact hRg'
   . show R<(g-1+1)*V;rw[show g-1+1=g by omega];exact hRg'
   . show(g-1).toNat<g.toNat;omega
 . have h:¬(4294967295<g\/rest*4294967296+u2<g*v2):=fun e=>h (by simpa using e);refine⟨g1,by omega,hRg,?_⟩;exact g_end hp (by decide) hv1.1 hv2.1 hV hvl.1 hvl.2 hR hrl.1 ht g1 (by omega) (by omega)
open Go Go.X
theorem uE{l:List Int}{m:Nat}(h:bA aC l)(hv:val aC l<aC^m):∀j,m<=j->l.getD j 0=0:=by
 intro j hj;rcases cv j l.length with hl|hl
 . rw[fQ hl];have h1:=h.get hl;rcases qO 0 l[j]with h2|h2
   . exfalso;have e:=pz (B:=aC) (l:=l) j (by omega);rw[fx hl,ra]at e;have p0:=gx (B:=aC) (by decide) (h.take j);have p1:=gx (B:=aC) (by decide) (h.drop (j+1));have p2:=kC (B:=aC) (by decide) j;have p3:=j9 (B:=aC) (by decide) hj;have p4:aC^j*1<=aC^j*(l[j]+aC*val aC (l.drop (j+1))):=gg (by have:=eH (show(0:Int)<=aC by decide) p1;omega) (by omega);omega
   . omega
 . exact mj hl
theorem IM{l:List Int}{m:Nat}(h:bA aC l)(hz:∀j,m<=j->l.getD j 0=0):val aC l<aC^m:=by
 rcases cv m l.length with hm|hm
 . have:=xq (B:=aC) (l:=l) (n:=m) (by omega) (fun k hk hmk=>by have:=hz k hmk;rwa[fQ hk]at this);rw[<-this];have h2:=gY (B:=aC) (by decide) (h.take m);rwa[fg,jS (by omega)]at h2
 . have h2:=gY (B:=aC) (by decide) h;have h3:=j9 (B:=aC) (by decide) hm;omega
theorem ru{l:List Int}{n j:Nat}:(l.drop n).getD j 0=l.getD (n+j) 0:=by
 rw[cy,cy,sV]
theorem b3_tm{b v u:List Int}{n m:Nat}{g:Int}(hb:b.length=m)(hv:v.length=m)(hvB:bA aC v)(huB:bA aC u)(hu:n+m<u.length)(hul:u.length<=35184372088832)(g0:0<=g)(g1:g<4294967296):
 Tm (fun N=>bJ (Ai N g ((n+m+1:Nat):Int) (n:Int) v) N (u,0,0,0)) (fun r=>bA aC r.1/\r.1.length=u.length/\r.1.take n=u.take n/\(∀k,n+m<k->r.1.getD k 0=u.getD k 0)/\0<=r.2/\r.2<=1/\val aC r.1=val aC u-aC^n*(g*val aC v)+aC^(n+(m+1))*r.2):=by
 refine Tm.loop (fun t:List Int×Int×Int×Int=>∃j:Nat,t.2.2.2=j/\j<=m+1/\bA aC t.1/\t.1.length=u.length/\t.1.take n=u.take n/\(∀k,n+j<=k->t.1.getD k 0=u.getD k 0)/\0<=t.2.1/\t.2.1<4294967296/\(m<j->t.2.1=0)/\0<=t.2.2.1/\t.2.2.1<=1/\val aC t.1=val aC u-aC^n*(g*val aC (v.take j))+aC^(n+j)*(t.2.1+t.2.2.1)) (fun t=>m+1-t.2.2.2.toNat)
  ⟨0,rfl,by omega,huB,rfl,rfl,fun _ _=>rfl,by simp,by simp,fun _=>rfl,by simp,by simp,by simp[val]⟩ ?_
 rintro⟨x,carry,borrow,jj⟩ ⟨j,rfl,hj,hB,hx,htk,hup,c0,c1,hc,b0,b1,hval⟩;dsimp only[Ai]at*;refine aY (fun h=>?_) (fun h=>aS ?_)
 . have hjm:j<=m:=by omega
   refine Tm.bind (Af hvB) ?_;rintro d rfl;have hij:(n:Int)+(j:Int)=((n+j:Nat):Int):=by omega
   refine aN (wx (by omega)) (aN (gh hij (by omega)) (aN (wx (by omega)) (aN (gh hij (by omega)) (aN (ed hij (by omega)) (aS ?_)))));have hd:=hvB.getD (by decide) j;have hvt:=fp (B:=aC) (l:=v) (n:=j);have hd0:m<=j->v.getD j 0=0:=fun h=>mj (by omega);have huu:=hB.getD (by decide) (n+j);have hset:=fun y=>uM (B:=aC) (l:=x) (n:=n+j) (y:=y) (by omega);rw[<-fQ (l:=x) (n:=n+j) (by omega)]at hset;generalize v.getD j 0=d at*;generalize hUU:x.getD (n+j) 0=uu at*;simp only[aC]at hd huu;have hgd:0<=g*d/\g*d<=4294967295*4294967295:=⟨eH g0 hd.1,ni (by omega) (by omega) hd.1 (by decide)⟩;rw[gH hgd.1 (by omega)];have hgd0:m<=j->g*d=0:=fun h=>by rw[hd0 h];simp
   generalize hC:g*d=gd at*;rw[gH (show 0<=carry+gd by omega) (by omega),Ny (by omega) (by omega),wc];have e1:uw (uw (uw uu-(carry+gd)%4294967296)-borrow)=(uu-(carry+gd)%4294967296-borrow)%18446744073709551616:=by
    rw[fG,fG,fG];omega
   rw[e1,Lt,gj];have hy:(uu-(carry+gd)%4294967296-borrow)%18446744073709551616%4294967296=uu-(carry+gd)%4294967296-borrow+4294967296*((uu-(carry+gd)%4294967296-borrow)%18446744073709551616/9223372036854775808):=by omega
   have hb':0<=(uu-(carry+gd)%4294967296-borrow)%18446744073709551616/9223372036854775808/\(uu-(carry+gd)%4294967296-borrow)%18446744073709551616/9223372036854775808<=1:=by omega
   have hy2:0<=(uu-(carry+gd)%4294967296-borrow)%18446744073709551616%4294967296/\(uu-(carry+gd)%4294967296-borrow)%18446744073709551616%4294967296<4294967296:=by omega
   generalize(uu-(carry+gd)%4294967296-borrow)%18446744073709551616%4294967296=y at*;generalize(uu-(carry+gd)%4294967296-borrow)%18446744073709551616/9223372036854775808=bb at*;have hdm:=jF (carry+gd) 4294967296;refine⟨⟨j+1,by show iw ((j:Int)+1)=_;rw[bK]<;>omega,by omega,hB.set (by simp only[aC];omega),by simp;omega,?_,?_,?_,?_,?_,hb'.1,hb'.2,?_⟩,?_⟩
   . show(x.set (n+j) y).take n=_;rw[yo (by omega)];exact htk
   . intro k hk;show(x.set (n+j) y).getD k 0=_;rw[si (by omega),if_neg (by omega)];exact hup k (by omega)
   . show 0<=(carry+gd)/4294967296;omega
   . show(carry+gd)/4294967296<4294967296;omega
   . intro h1;show(carry+gd)/4294967296=0;have:=hgd0 (by omega);omega
   . show val aC (x.set (n+j) y)=_+aC^(n+(j+1))*((carry+gd)/4294967296+bb);rw[hset,hval,hvt,hy];have hw:aC=4294967296:=rfl;have hp:aC^(n+(j+1))=aC^n*aC^j*4294967296:=by rw[jE,fi,hw];grind
     rw[hp,jE];generalize aC^n=P at*;generalize aC^j=Q at*;have e3:g*(val aC (v.take j)+Q*d)=g*val aC (v.take j)+Q*gd:=by rw[<-hC];grind
     rw[e3];generalize(carry+gd)/4294967296=cc at*;generalize(carry+gd)%4294967296=c2 at*;have e4:gd=c2+4294967296*cc-carry:=by omega
     rw[e4];grind
   . show m+1-(iw ((j:Int)+1)).toNat<m+1-((j:Int)).toNat;rw[bK]<;>omega
 . have hjm:j=m+1:=by omega
   subst hjm;refine⟨hB,hx,htk,fun k hk=>hup k (by omega),b0,b1,?_⟩;show val aC x=_;rw[hval,hc (by omega),kz (by omega),B3]
theorem b4_tm{v u:List Int}{n m:Nat}(hv:v.length=m)(hvB:bA aC v)(huB:bA aC u)(hu:n+m<u.length)(hul:u.length<=35184372088832):
 Tm (fun N=>bJ (yG N v n) N (u,0,0)) (fun r=>bA aC r.1/\r.1.length=u.length/\r.1.take n=u.take n/\(∀k,n+m<=k->r.1.getD k 0=u.getD k 0)/\0<=r.2/\r.2<=1/\val aC r.1=val aC u+aC^n*val aC v-aC^(n+m)*r.2):=by
 refine Tm.loop (fun t:List Int×Int×Int=>∃j:Nat,t.2.2=j/\j<=m/\bA aC t.1/\t.1.length=u.length/\t.1.take n=u.take n/\(∀k,n+j<=k->t.1.getD k 0=u.getD k 0)/\0<=t.2.1/\t.2.1<=1/\val aC t.1=val aC u+aC^n*val aC (v.take j)-aC^(n+j)*t.2.1) (fun t=>m-t.2.2.toNat)
  ⟨0,rfl,by omega,huB,rfl,rfl,fun _ _=>rfl,by simp,by simp,by simp[val]⟩ ?_
 rintro⟨x,carry,jj⟩ ⟨j,rfl,hj,hB,hx,htk,hup,c0,c1,hval⟩;dsimp only[yG]at*;refine aY (fun h=>?_) (fun h=>aS ?_)
 . have hij:iw ((n:Int)+(j:Int))=((n+j:Nat):Int):=by rw[bK]<;>omega
   refine aN (gh hij (by omega)) (aN (gh rfl (by omega)) (aN (gh hij (by omega)) (aN (ed hij (by omega)) (aS ?_))));have hd:=hvB.getD (by decide) j;have hvt:=fp (B:=aC) (l:=v) (n:=j);have huu:=hB.getD (by decide) (n+j);have hset:=fun y=>uM (B:=aC) (l:=x) (n:=n+j) (y:=y) (by omega);rw[<-fQ (l:=x) (n:=n+j) (by omega)]at hset;generalize v.getD j 0=d at*;generalize hUU:x.getD (n+j) 0=uu at*;simp only[aC]at hd huu;have e1:uw (carry+uw (uw uu+uw d))=carry+uu+d:=by rw[fG,fG,fG,fG];omega
   rw[e1,wc,gj];have hdm:=jF (carry+uu+d) 4294967296;refine⟨⟨j+1,by show iw ((j:Int)+1)=_;rw[bK]<;>omega,by omega,hB.set (by simp only[aC];omega),by simp;omega,?_,?_,?_,?_,?_⟩,?_⟩
   . show(x.set (n+j) _).take n=_;rw[yo (by omega)];exact htk
   . intro k hk;show(x.set (n+j) _).getD k 0=_;rw[si (by omega),if_neg (by omega)];exact hup k (by omega)
   . show 0<=(carry+uu+d)/4294967296;omega
   . show(carry+uu+d)/4294967296<=1;omega
   . show val aC (x.set (n+j) ((carry+uu+d)%4294967296))=_-aC^(n+(j+1))*((carry+uu+d)/4294967296);rw[hset,hval,hvt];have hw:aC=4294967296:=rfl;have hp:aC^(n+(j+1))=aC^n*aC^j*4294967296:=by rw[jE,fi,hw];grind
     rw[hp,jE];generalize aC^n=P at*;generalize aC^j=Q at*;generalize(carry+uu+d)/4294967296=cc at*;generalize(carry+uu+d)%4294967296=c2 at*;have e4:c2=carry+uu+d-4294967296*cc:=by omega
     rw[e4];grind
   . show m-(iw ((j:Int)+1)).toNat<m-((j:Int)).toNat;rw[bK]<;>omega
 . have hjm:j=m:=by omega
   subst hjm;rw[kz (by omega)]at hval;exact⟨hB,hx,htk,hup,c0,c1,hval⟩
theorem Gz{u x:List Int}{n:Nat}{t:Int}(hu:n<=u.length)(hx:x.length=u.length)(htk:x.take n=u.take n)(h:val aC x=val aC u+aC^n*t):val aC (x.drop n)=val aC (u.drop n)+t:=by
 rw[pz (B:=aC) (l:=x) n (by omega),pz (B:=aC) (l:=u) n hu,htk]at h;have h1:aC^n*val aC (x.drop n)=aC^n*(val aC (u.drop n)+t):=by rw[vJ];omega
 exact Mu (by have:=kC (B:=aC) (by decide) n;omega) h1
theorem top3{l:List Int}{m:Nat}(h:bA aC l)(hm:2<=m)(hl:m<l.length)(hv:val aC l<aC^(m+1)):val aC l=((l.getD m 0*aC+l.getD (m-1) 0)*aC+l.getD (m-2) 0)*aC^(m-2)+val aC (l.take (m-2)):=by
 have h0:=xq (B:=aC) (l:=l) (n:=m+1) (by omega) (fun k hk hmk=>by have:=uE h hv k hmk;rwa[fQ hk]at this);obtain⟨k,rfl⟩:∃k,m=k+2:=⟨m-2,by omega⟩;rw[<-h0,fp,fp (n:=k+1),fp (n:=k),show k+2-1=k+1 by omega,show k+2-2=k by omega,fi,fi];grind
theorem top2{l:List Int}{m:Nat}(hm:2<=m)(hl:l.length=m):val aC l=(l.getD (m-1) 0*aC+l.getD (m-2) 0)*aC^(m-2)+val aC (l.take (m-2)):=by
 obtain⟨k,rfl⟩:∃k,m=k+2:=⟨m-2,by omega⟩;have h0:l.take (k+1+1)=l:=kz (by omega);rw[<-h0,fp,fp (n:=k),h0,show k+2-1=k+1 by omega,show k+2-2=k by omega,fi];grind
theorem b1_tm{b v u q:List Int}{m:Nat}(hb:b.length=m)(hm:2<=m)(hv:v.length=m)(hvB:bA aC v)(huB:bA aC u)(hqB:bA aC q)(hu:u.length=q.length+m)(hul:u.length<=17592186044416)(hv1:0<v.getD (m-1) 0)(h0:val aC (u.drop q.length)<val aC v):
 Tm (fun N=>bJ (za N b v) N (u,q,iw ((q.length:Int)-1))) (fun r=>bA aC r.1/\r.1.length=u.length/\bA aC r.2/\r.2.length=q.length/\val aC u=val aC r.1+val aC v*val aC r.2/\val aC r.1<val aC v):=by
 refine Tm.loop (fun t:List Int×List Int×Int=>∃k:Nat,t.2.2=(k:Int)-1/\k<=q.length/\bA aC t.1/\t.1.length=u.length/\bA aC t.2.1/\t.2.1.length=q.length/\val aC u=val aC t.1+aC^k*(val aC v*val aC (t.2.1.drop k))/\val aC (t.1.drop k)<val aC v) (fun t=>(t.2.2+1).toNat)
  ⟨q.length,by rw[bK]<;>omega,bI _,huB,rfl,hqB,rfl,by simp[val],h0⟩ ?_
 rintro⟨x,y,ii⟩ ⟨k,rfl,hk,hxB,hx,hyB,hy,hval,hlt⟩;dsimp only[za]at*;refine aY (fun h=>?_) (fun h=>aS ?_)
 . obtain⟨n,rfl⟩:∃n,k=n+1:=⟨k-1,by omega⟩;have hi:((n+1:Nat):Int)-1=(n:Int):=by omega
   rw[hi];have him:iw ((n:Int)+(b.length:Int))=((n+m:Nat):Int):=by rw[bK]<;>omega
   have him1:iw (((n+m:Nat):Int)-1)=((n+m-1:Nat):Int):=by rw[bK]<;>omega
   have hbm:iw ((b.length:Int)-1)=((m-1:Nat):Int):=by rw[bK]<;>omega
   rw[him,him1,hbm];refine aN (gh rfl (by omega)) (aN (gh rfl (by omega)) (aN (gh rfl (by omega)) ?_));have hV:=top2 hm hv;have hVl:=gx (B:=aC) (by decide) (hvB.take (m-2));have hVl':=gY (B:=aC) (by decide) (hvB.take (m-2));rw[fg,jS (by omega)]at hVl';have hVW:val aC v<aC^m:=by have:=gY (B:=aC) (by decide) hvB;rwa[hv]at this
   have hxn:=hxB.getD (B:=aC) (by decide) n;have hRe:val aC (x.drop n)=x.getD n 0+aC*val aC (x.drop (n+1)):=by rw[fx (by omega),ra,fQ (by omega)]
   have hR0:=gx (B:=aC) (by decide) (hxB.drop n);have hRV:val aC (x.drop n)<4294967296*val aC v:=by
    rw[hRe];simp only[aC]at*;omega
   have hR1:val aC (x.drop n)<aC^(m+1):=by
    rw[fi];simp only[aC]at*;omega
   have hR:=top3 (hxB.drop n) hm (by simp;omega) hR1;have hRl:=gx (B:=aC) (by decide) ((hxB.drop n).take (m-2));have hRl':=gY (B:=aC) (by decide) ((hxB.drop n).take (m-2));rw[fg,vH,jS (by omega)]at hRl';rw[ru,ru,ru,show n+(m-1)=n+m-1 by omega,show n+(m-2)=n+m-2 by omega]at hR;have d1:=hvB.getD (B:=aC) (by decide) (m-1);have d2:=hvB.getD (B:=aC) (by decide) (m-2);have d3:=hxB.getD (B:=aC) (by decide) (n+m);have d4:=hxB.getD (B:=aC) (by decide) (n+m-1);have d5:=hxB.getD (B:=aC) (by decide) (n+m-2);have hp:=kC (B:=aC) (by decide) (m-2);have hV0:=gx (B:=aC) (by decide) hvB;simp only[aC]at d1 d2 d3 d4 d5;rw[gH (z:=x.getD (n+m) 0) d3.1 (by omega),gH (z:=x.getD (n+m-1) 0) d4.1 (by omega),gH (z:=v.getD (m-1) 0) d1.1 (by omega),zh d3.1 d3.2 d4.1 d4.2];have t0:0<=x.getD (n+m) 0*4294967296+x.getD (n+m-1) 0:=by omega
   have t1:x.getD (n+m) 0*4294967296+x.getD (n+m-1) 0<18446744073709551616:=by omega
   refine aN (Dp (by omega)) (aN (gh rfl (by omega)) ?_);rw[gH (z:=v.getD (m-1) 0) d1.1 (by omega)];refine aN (GJ (by omega)) ?_;rw[AM t0,DN t0];have hq0:=yp t0 (show 0<=v.getD (m-1) 0 by omega);have hq1:(x.getD (n+m) 0*4294967296+x.getD (n+m-1) 0)/v.getD (m-1) 0<=x.getD (n+m) 0*4294967296+x.getD (n+m-1) 0:=Int.ediv_le_self _ t0;have hm0:=mg (x.getD (n+m) 0*4294967296+x.getD (n+m-1) 0) (show v.getD (m-1) 0≠0 by omega);have hm1:=mh (x.getD (n+m) 0*4294967296+x.getD (n+m-1) 0) hv1;have hdm:=jF (x.getD (n+m) 0*4294967296+x.getD (n+m-1) 0) (v.getD (m-1) 0);rw[show IntKind.u64.wrap ((x.getD (n+m) 0*4294967296+x.getD (n+m-1) 0)/v.getD (m-1) 0)=(x.getD (n+m) 0*4294967296+x.getD (n+m-1) 0)/v.getD (m-1) 0 from gH hq0 (by omega)];refine Tm.bind (b2_tm (b:=b) (v:=v) (u:=x) (n:=n) (m:=m) (V:=val aC v) (R:=val aC (x.drop n)) (top:=x.getD (n+m) 0*4294967296+x.getD (n+m-1) 0) hb hv hm (by omega) (by omega) rfl rfl rfl ⟨hv1,d1.2⟩ d2 d5 hp hV ⟨hVl,hVl'⟩ hR ⟨hRl,hRl'⟩ hRV
    (by have:=fE (v.getD (m-1) 0) ((x.getD (n+m) 0*4294967296+x.getD (n+m-1) 0)/v.getD (m-1) 0);omega) ⟨hm0,hm1⟩ ⟨hq0,by omega⟩) ?_
   rintro g ⟨g0,g1,hgR,hgV⟩;clear hdm hm0 hm1 hq0 hq1;generalize hRR:val aC (x.drop n)=R at*;generalize hVV:val aC v=V at*;have hsg:iw (((n+m:Nat):Int)+1)=((n+m+1:Nat):Int):=by rw[bK]<;>omega
   rw[hsg];refine aN (f:=ns _ _ _) (a:=()) (by unfold ns;rw[if_pos (by omega)]) ?_;refine Tm.bind (Q:=fun r:Bool×List Int=>bA aC r.2/\r.2.length=x.length/\r.2.take n=x.take n/\(∀k,n+m<k->r.2.getD k 0=x.getD k 0)/\((r.1=false/\val aC (r.2.drop n)=R-g*V)\/(r.1=true/\val aC (r.2.drop n)=R-g*V+aC^(m+1)))) ?_ ?_
   . unfold AN;refine Tm.bind (b3_tm (b:=b) (v:=v) (u:=x) (n:=n) (m:=m) (g:=g) hb hv hvB hxB (by omega) (by omega) g0 g1) ?_;rintro⟨z,bo⟩ ⟨z1,z2,z3,z4,z5,z6,z7⟩;dsimp only at*;refine aS ⟨z1,z2,z3,z4,?_⟩;have hva:=Gz (u:=x) (x:=z) (n:=n) (t:=-(g*V)+aC^(m+1)*bo) (by omega) z2 z3 (by rw[z7,hVV,jE aC n (m+1)];grind);rw[hRR]at hva;rcases(show bo=0\/bo=1 by omega)with rfl|rfl
     . exact .inl ⟨rfl,by rw[hva,Int.mul_zero];omega⟩
     . exact .inr ⟨rfl,by rw[hva,yq];omega⟩
   rintro⟨bz,z⟩ ⟨z1,z2,z3,z4,z5⟩;dsimp only at*;have hzn:=gx (B:=aC) (by decide) (z1.drop n);have hzW:val aC (z.drop n)<aC^(m+1):=IM (z1.drop n) (fun j hj=>by rw[ru,z4 _ (by omega)];have:=uE (hxB.drop n) (by rw[hRR];exact hR1) j hj;rwa[ru]at this);have e1:(g+1)*V=g*V+V:=by grind
   refine Tm.bind (Q:=fun r:List Int×Int=>bA aC r.1/\r.1.length=x.length/\r.1.take n=x.take n/\0<=r.2/\r.2<4294967296/\val aC (r.1.drop n)=R-r.2*V/\val aC (r.1.drop n)<V) ?_ ?_
   . refine aY (fun hz=>?_) (fun hz=>aS ?_)
     . have z6:val aC (z.drop n)=R-g*V+aC^(m+1):=by
        rcases z5 with z5|z5
        . rw[z5.1]at hz;cases hz
        . exact z5.2
       refine Tm.bind (b4_tm (v:=v) (u:=z) (n:=n) (m:=m) hv hvB z1 (by omega) (by omega)) ?_;rintro⟨s,carry⟩ ⟨s1,s2,s3,s4,s5,s6,s7⟩;dsimp only at*;have hset:=fun y=>uM (B:=aC) (l:=s) (n:=n+m) (y:=y) (by omega);rw[<-fQ (l:=s) (n:=n+m) (by omega)]at hset;have hsd:=s1.getD (B:=aC) (by decide) (n+m);refine aN (gh rfl (by omega)) (aN (gh rfl (by omega)) (aN (ed rfl (by omega)) (aS ?_)));have hsu:=fun k hk=>s4 k hk;generalize hD:s.getD (n+m) 0=D at*;simp only[aC]at hsd;have ec:dT (D+dT carry)=(D+carry)%4294967296:=by rw[gj,gj];omega
       rw[ec];have hdm:=jF (D+carry) 4294967296;have hdb:0<=(D+carry)%4294967296/\(D+carry)%4294967296<4294967296:=by omega
       generalize(D+carry)%4294967296=D' at*;generalize(D+carry)/4294967296=tt at*;have hB':bA aC (s.set (n+m) D'):=s1.set (by simp only[aC];omega);have hva:=Gz (u:=z) (x:=s.set (n+m) D') (n:=n) (t:=V-aC^(m+1)*tt) (by omega) (by simp;omega) (by rw[yo (by omega)];exact s3) (by
        rw[hset,s7,hVV,jE,fi];have hw:aC=4294967296:=rfl;have e4:D'=D+carry-4294967296*tt:=by omega
        rw[e4];generalize aC^n=P at*;generalize aC^m=Q at*;rw[hw];grind)
       have hlo:=gx (B:=aC) (by decide) (hB'.drop n);have hhi:val aC ((s.set (n+m) D').drop n)<aC^(m+1):=IM (hB'.drop n) (fun j hj=>by
        rw[ru,si (by omega),if_neg (by omega),s4 _ (by omega),z4 _ (by omega)];have:=uE (hxB.drop n) (by rw[hRR];exact hR1) j hj;rwa[ru]at this)
       have hpp:=kC (B:=aC) (by decide) (m+1);have hgp:0<g:=by
        rcases qO 0 g with h'|h'
        . exact h'
        . have:g=0:=by omega
          subst this;rw[Int.zero_mul]at z6;omega
       have htt:tt=1:=by
        have e3:tt=0\/tt=1:=by omega
        rcases e3 with e3|e3
        . subst e3;rw[hva,z6,Int.mul_zero]at hhi;omega
        . exact e3
       subst htt;have e5:(g-1)*V=g*V-V:=by grind
       refine⟨hB',by simp;omega,by dsimp only;rw[yo (by omega)];exact s3.trans z3,?_,?_,?_,?_⟩
       . show 0<=uw (g-1);rw[gH]<;>omega
       . show uw (g-1)<_;rw[gH]<;>omega
       . show val aC ((s.set (n+m) D').drop n)=R-uw (g-1)*V;rw[gH (show 0<=g-1 by omega) (by omega),hva,z6,e5,yq];omega
       . show val aC ((s.set (n+m) D').drop n)<V;rw[hva,z6,yq];omega
     . have z6:val aC (z.drop n)=R-g*V:=by
        rcases z5 with z5|z5
        . exact z5.2
        . exact absurd z5.1 hz
       exact⟨z1,z2,z3,g0,g1,z6,by dsimp only;omega⟩
   rintro⟨s,g'⟩ ⟨s1,s2,s3,s4,s5,s6,s7⟩;dsimp only at*;refine aN (gh rfl (by omega)) (aN (ed rfl (by omega)) (aS ?_));have eg:dT g'=g':=by rw[gj];omega
   rw[eg];refine⟨⟨n,by show iw ((n:Int)-1)=_;rw[bK]<;>omega,by omega,s1,s2.trans hx,hyB.set (by simp only[aC];omega),by simp;omega,?_,s7⟩,?_⟩
   . show val aC u=val aC s+aC^n*(V*val aC ((y.set n g').drop n));rw[fx (by simp;omega),ra,List.getElem_set_self,List.drop_set_of_lt (by omega),hval,pz (B:=aC) (l:=s) n (by omega),s6,s3,pz (B:=aC) (l:=x) n (by omega),hRR,fi];generalize aC^n=P at*;generalize aC=W at*;grind
   . show(iw ((n:Int)-1)+1).toNat<((n:Int)+1).toNat;rw[bK]<;>omega
 . obtain rfl:k=0:=by omega
   simp only[lC,Int.pow_zero,Int.one_mul]at hval hlt;exact⟨hxB,hx,hyB,hy,hval,hlt⟩
open Go Go.X
theorem ND{x:Int}{s:Nat}(hs:s<=31)(z:Int)(h:x=2^s*z):x%4294967296%2^s=0:=by
 have hPQ:=yU hs;rw[<-hPQ,Int.emod_emod_of_dvd _ (Int.dvd_mul_right _ _),h,Int.mul_emod_right]
theorem b5_tm{u z:List Int}{n:Int}{s m:Nat}{t:Int}(hn:uw n=s)(hs:s<=31)(hz:z=List.replicate m 0)(huB:bA aC u)(hu:m<u.length)(hul:u.length<=17592186044416)(hm:0<m)(hv:val aC u<aC^m)(ht:val aC u=t*2^s):
 Tm (fun N=>bJ (AW N n u z) N (z,0)) (fun r=>bA aC r/\r.length=m/\val aC r=t):=by
 subst hz;have hPQ:=yU hs;have hP:(0:Int)<2^s:=ko (by decide);have hQ:(0:Int)<2^(32-s):=ko (by decide);have hP31:(2:Int)^s<=2147483648:=j9 (B:=2) (by decide) hs;have c0:u.getD 0 0%2^s=0:=by
  have h1:val aC u%4294967296=u.getD 0 0:=by
   cases u with
   |nil=>simp at hu
   |cons x l=>
    have:=huB.head;simp only[val,List.getD_cons_zero];rw[show aC*val aC l=4294967296*val aC l from rfl,F0];simp only[aC]at this;omega
  rw[<-h1];exact ND hs t (by rw[ht,fE])
 refine Tm.loop (fun r:List Int×Int=>∃j:Nat,r.2=j/\j<=m/\bA aC r.1/\r.1.length=m/\val aC (r.1.take j)*2^s=val aC (u.take j)+aC^j*(u.getD j 0%2^s)) (fun r=>m-r.2.toNat)
  ⟨0,rfl,by omega,bA.dd (by decide),by simp,by rw[c0];simp[val]⟩ ?_
 rintro⟨r,jj⟩ ⟨j,rfl,hj,hB,hr,hval⟩;dsimp only[AW]at*;rw[kJ];refine aY (fun h=>?_) (fun h=>aS ?_)
 . have hj1:iw ((j:Int)+1)=((j+1:Nat):Int):=by rw[bK]<;>omega
   rw[hj1,hn];refine aN (gh rfl (by omega)) (aN (gh rfl (by omega)) (aN (wx (by omega)) (aN (gh rfl (by omega)) (aN (ed rfl (by omega)) (aS ?_)))));have hx:=huB.getD (B:=aC) (by decide) j;have hy:=huB.getD (B:=aC) (by decide) (j+1);have hut:=fp (B:=aC) (l:=u) (n:=j);have hts:=fun y=>take_set (l:=r) (n:=j) (y:=y) (by omega);generalize u.getD j 0=x at*;generalize hY:u.getD (j+1) 0=y at*;simp only[aC]at hx hy;rw[gH hx.1 (by omega),gH hy.1 (by omega),zh hy.1 hy.2 hx.1 hx.2];have esh:fl .u64 (y*4294967296+x) (s:Int)=(y*4294967296+x)/2^s:=by
    unfold fl;rw[show min ((s:Int)).toNat IntKind.u64.bits=s by show min _ 64=s;omega];exact jo _ (dZ hP)
   rw[esh];have hx1:=jF x (2^s);have hy1:=jF y (2^s);have hxm0:=mg x (show(2:Int)^s≠0 by omega);have hxm1:=mh x hP;have hym0:=mg y (show(2:Int)^s≠0 by omega);have hym1:=mh y hP;have hxd1:x/2^s<2^(32-s):=F7 hP (by rw[fE,hPQ];omega);have hxd0:0<=x/2^s:=yp hx.1 (by omega);have e1:(y*4294967296+x)/2^s=y*2^(32-s)+x/2^s:=by
    rw[<-hPQ,show y*(2^s*2^(32-s))+x=x+2^s*(y*2^(32-s)) by grind,Int.add_mul_ediv_left _ _ (by omega),Int.add_comm]
   have e2:dT (y*2^(32-s)+x/2^s)=(y%2^s)*2^(32-s)+x/2^s:=by
    have hle:(y%2^s)*2^(32-s)+2^(32-s)<=4294967296:=by
     have:=fj (show y%2^s+1<=2^s by omega) (show(0:Int)<=2^(32-s) by omega);rw[hPQ]at this;have e:(y%2^s+1)*2^(32-s)=(y%2^s)*2^(32-s)+2^(32-s):=by grind
     omega
    have hge:0<=(y%2^s)*2^(32-s):=eH hym0 (by omega);have e3:y*2^(32-s)+x/2^s=(y%2^s)*2^(32-s)+x/2^s+4294967296*(y/2^s):=by
     have e4:4294967296*(y/2^s)=2^s*2^(32-s)*(y/2^s):=by rw[hPQ]
     have e5:y*2^(32-s)=(y%2^s+2^s*(y/2^s))*2^(32-s):=by rw[hy1]
     rw[e4,e5];grind
    rw[gj,e3,F0,BX (by omega) (by omega)]
   rw[e1,e2];have hdig:0<=(y%2^s)*2^(32-s)+x/2^s/\(y%2^s)*2^(32-s)+x/2^s<4294967296:=by
    rw[<-e2,gj];omega
   refine⟨⟨j+1,rfl,by omega,hB.set (by simp only[aC];exact hdig),by simp;omega,?_⟩,?_⟩
   . show val aC ((r.set j _).take (j+1))*2^s=val aC (u.take (j+1))+aC^(j+1)*(u.getD (j+1) 0%2^s);rw[hY];rw[hts,hut,fi];have hw:aC=2^s*2^(32-s):=hPQ.symm;have e6:aC^j*aC*(y%2^s)=aC^j*(2^s*2^(32-s))*(y%2^s):=by rw[<-hw]
     rw[e6];have e7:aC^j*x=aC^j*(x%2^s+2^s*(x/2^s)):=by rw[hx1]
     rw[e7];generalize aC^j=P at*;generalize val aC (r.take j)=a1 at*;generalize val aC (u.take j)=a2 at*;have:(a1+P*((y%2^s)*2^(32-s)+x/2^s))*2^s=a1*2^s+P*((y%2^s)*2^(32-s)+x/2^s)*2^s:=by grind
     rw[this,hval];grind
   . show m-(((j+1:Nat):Int)).toNat<m-((j:Int)).toNat;omega
 . obtain rfl:j=m:=by omega
   rw[kz (by omega),uE huB hv j (bI _)]at hval;have h1:=xq (B:=aC) (l:=u) (n:=j) (by omega) (fun k hk hmk=>by have:=uE huB hv k hmk;rwa[fQ hk]at this);rw[h1,ht]at hval;simp only[Int.zero_emod,Int.mul_zero,Int.add_zero]at hval;exact⟨hB,hr,Int.eq_of_mul_eq_mul_right (by omega) hval⟩
theorem RY{l:List Int}(h:bA aC l)(hn:fJ l)(hl:0<l.length):0<l.getD (l.length-1) 0:=by
 have h1:=h.getD (B:=aC) (by decide) (l.length-1);have h2:l.getD (l.length-1) 0≠0:=by
  intro e;apply hn;rw[F2,bV (by omega)];rw[fQ (by omega)]at e;rw[e]
 omega
theorem HZ{a b:List Int}(ha:bA aC a)(hb:bA aC b)(na:fJ a)(nb:fJ b)(hb0:0<b.length)(hl:a.length<=8796093022208)(hl':b.length<=8796093022208):
 Tm (fun N=>uq N a b) (fun r=>Dg aC r.1 (val aC a/val aC b)/\Dg aC r.2 (val aC a%val aC b)/\r.1.length<=a.length/\r.2.length<=a.length+1):=by
 unfold uq;have hA0:=gx (B:=aC) (by decide) ha;have hB0:=xe (B:=aC) (by decide) hb nb (by intro e;rw[e]at hb0;simp at hb0);refine Tm.bind (zV ha hb na nb (by omega) (by omega)) ?_;rintro _ rfl;refine aY (fun h=>?_) (fun h=>?_)
 . have hlt:val aC a<val aC b:=by revert h;unfold bM;split<;>(try split)<;>omega
   refine Tm.bind (oz ha (by omega)) ?_;rintro r ⟨hr,hrl⟩;refine aS ⟨?_,?_,by simp,by dsimp only;omega⟩
   . rw[MK hA0 hlt];exact Dg.nil
   . rw[BX hA0 hlt];exact hr
 . have hge:val aC b<=val aC a:=by revert h;unfold bM;split<;>(try split)<;>omega
   have hle:b.length<=a.length:=by
    rcases cv a.length b.length with h'|h'
    . have:=mH mn ha hb nb h';omega
    . exact h'
   have hlast:=RY hb nb hb0;have hlast':=hb.getD (B:=aC) (by decide) (b.length-1);refine aY (fun h1=>?_) (fun h1=>?_)
   . have hb1:b.length=1:=by omega
     refine aN (gh (n:=0) rfl (by omega)) ?_;have hbv:val aC b=b.getD 0 0:=by
      match b,hb1 with
      |[x],_=>simp[val]
     rw[hb1]at hlast hlast';simp only[vE]at hlast hlast';refine Tm.bind (Lk ha hlast hlast'.2 (by omega)) ?_;rintro⟨q,r⟩ ⟨hq,hqv,hrv,hql⟩;dsimp only at*;refine Tm.bind (oz hq (by omega)) ?_;rintro q' ⟨hq',hql'⟩;have hr0:=mg (val aC a) (show b.getD 0 0≠0 by omega);have hr1:=mh (val aC a) hlast;refine Tm.bind (oz (d:=[r]) (bA.cons (by rw[hrv];omega) bA.nil) (by simp)) ?_;rintro r' ⟨hr',hrl'⟩;refine aS ⟨?_,?_,by dsimp only;omega,by simp at hrl';dsimp only;omega⟩
     . rw[hbv,<-hqv];exact hq'
     . rw[hbv,<-hrv];simpa[val]using hr'
   . have hm:2<=b.length:=by omega
     generalize hmm:b.length=m at*;have hbm:iw ((m:Int)-1)=((m-1:Nat):Int):=by rw[bK]<;>omega
     rw[hbm];refine aN (gh rfl (by omega)) ?_;generalize hx:b.getD (m-1) 0=x at*;refine Tm.bind (Qc hlast hlast'.2) ?_;rintro _ ⟨s,rfl,hs,s1,s2⟩;have eus:uw (s:Int)=s:=gH (by omega) (by omega);refine Tm.bind (Hm eus hs ha (by omega)) ?_;rintro u ⟨huB,huv,hul⟩;refine Tm.bind (Hm eus hs hb (by omega)) ?_;rintro v0 ⟨hvB0,hvv0,hvl0⟩;refine aN (rO (m:=0) (n:=m) rfl rfl (by omega) (by omega)) ?_;simp only[lC];have hPQ:=yU hs;have hP:(0:Int)<2^s:=ko (by decide);have hQ:(0:Int)<2^(32-s):=ko (by decide);have hP31:(2:Int)^s<=2147483648:=j9 (B:=2) (by decide) hs;have hbt:val aC b=val aC (b.take (m-1))+aC^(m-1)*x:=by
      have:=fp (B:=aC) (l:=b) (n:=m-1);rwa[kz (by omega),hx]at this
     have hbl:=gY (B:=aC) (by decide) (hb.take (m-1));rw[fg,jS (by omega)]at hbl;have hbl0:=gx (B:=aC) (by decide) (hb.take (m-1));have pm:=kC (B:=aC) (by decide) (m-1);have pm1:aC^m=aC^(m-1)*aC:=by rw[<-fi];congr 1;omega
     have hx32:(x+1)*2^s<=4294967296:=by
      have h1:x*2^s<2^(32-s)*2^s:=by rw[fE (2^(32-s)),hPQ];exact s2
      have h2:=ML h1 (by omega);have h3:=fj (show x+1<=2^(32-s) by omega) (show(0:Int)<=2^s by omega);rw[fE (2^(32-s)),hPQ]at h3;exact h3
     have hv0m:val aC v0<aC^m:=by
      have h1:val aC b<aC^(m-1)*(x+1):=by rw[vJ];omega
      have h2:=MI h1 hP;have h3:=gg hx32 (show 0<=aC^(m-1) by omega);have e:aC^(m-1)*(x+1)*2^s=aC^(m-1)*((x+1)*2^s):=by grind
      rw[hvv0,pm1];simp only[aC]at*;omega
     have hvv:val aC (v0.take m)=val aC b*2^s:=by
      rw[<-hvv0];exact xq (by omega) (fun k hk hmk=>by have:=uE hvB0 hv0m k hmk;rwa[fQ hk]at this)
     have hvl:(v0.take m).length=m:=by simp;omega
     have hvB:=hvB0.take m;generalize v0.take m=v at*;have hvge:2147483648*aC^(m-1)<=val aC v:=by
      rw[hvv];have h1:=fj (show aC^(m-1)*x<=val aC b by omega) (show(0:Int)<=2^s by omega);have h2:=gg s1 (show 0<=aC^(m-1) by omega);have e:aC^(m-1)*x*2^s=aC^(m-1)*(x*2^s):=by grind
      rw[fE 2147483648];omega
     have hv1:0<v.getD (m-1) 0:=by
      have h1:val aC v=val aC (v.take (m-1))+aC^(m-1)*v.getD (m-1) 0:=by
       have:=fp (B:=aC) (l:=v) (n:=m-1);rwa[kz (by omega)]at this
      have h2:=gY (B:=aC) (by decide) (hvB.take (m-1));rw[fg,jS (by omega)]at h2;have h3:=hvB.getD (B:=aC) (by decide) (m-1);rcases qO 0 (v.getD (m-1) 0)with h4|h4
      . exact h4
      . have h5:v.getD (m-1) 0=0:=by omega
        rw[h5]at h1;omega
     refine aN (gW (n:=a.length+1-m) (by rw[hul,bK]<;>omega) (by omega) (by decide)) ?_;have hul2:u.length=(List.replicate (a.length+1-m) (0:Int)).length+m:=by simp;omega
     refine Tm.bind (b1_tm (b:=b) (v:=v) (u:=u) (q:=List.replicate (a.length+1-m) 0) (m:=m) hmm hm hvl hvB huB (bA.dd (by decide)) hul2 (by omega) hv1 ?_) ?_
     . have h1:=pz (B:=aC) (l:=u) (List.replicate (a.length+1-m) (0:Int)).length (by omega);rw[kJ]at h1⊢;have h2:=gx (B:=aC) (by decide) (huB.take (a.length+1-m));have h3:=MI (gY (B:=aC) (by decide) ha) hP;have p1:aC^a.length=aC^(a.length+1-m)*aC^(m-1):=by rw[<-jE];congr 1;omega
       have h4:aC^(a.length+1-m)*val aC (u.drop (a.length+1-m))<aC^(a.length+1-m)*(aC^(m-1)*2^s):=by
        rw[<-MJ,<-p1];omega
       have h5:=F9 h4 (by have:=kC (B:=aC) (by decide) (a.length+1-m);omega);have h6:=gg hP31 (show 0<=aC^(m-1) by omega);rw[fE 2147483648]at hvge;omega
     rintro⟨u',q⟩ ⟨hu'B,hu'l,hqB,hql,hAv,hlt⟩;dsimp only at*;refine aN (gW (n:=m) rfl (by omega) (by decide)) ?_;have hu0:=gx (B:=aC) (by decide) hu'B;have ht:val aC u'=(val aC a-val aC b*val aC q)*2^s:=by
      rw[huv,hvv]at hAv;have e:(val aC a-val aC b*val aC q)*2^s=val aC a*2^s-val aC b*2^s*val aC q:=by grind
      omega
     have hr0:0<=val aC a-val aC b*val aC q:=by
      rcases qO (val aC a-val aC b*val aC q) 0 with h1|h1
      . have:=fj (show val aC a-val aC b*val aC q≤-1 by omega) (show(0:Int)<=2^s by omega);omega
      . exact h1
     have hr1:val aC a-val aC b*val aC q<val aC b:=by
      rw[ht,hvv]at hlt;exact ML hlt (by omega)
     refine Tm.bind (b5_tm (u:=u') (n:=(s:Int)) (s:=s) (m:=m) eus hs rfl hu'B (by omega) (by omega) (by omega) (by have:=gY (B:=aC) (by decide) hvB;rw[hvl]at this;omega) ht) ?_;rintro r ⟨hrB,hrl,hrv⟩;refine Tm.bind (oz hqB (by rw[hql];simp;omega)) ?_;rintro q' ⟨hq',hql'⟩;refine Tm.bind (oz hrB (by omega)) ?_;rintro r' ⟨hr',hrl'⟩;have hdm:=(Ga (a:=val aC a) (b:=val aC b) (r:=val aC a-val aC b*val aC q) (q:=val aC q) hB0).2 ⟨by omega,hr0,hr1⟩;rw[kJ]at hql;refine aS ⟨?_,?_,by dsimp only;omega,by dsimp only;omega⟩
     . rw[hdm.1];exact hq'
     . rw[hdm.2,<-hrv];exact hr'
structure DivP (a b:Int)(r:aB×aB×Bool):Prop where
 ok:r.2.2=decide (b≠0)
 quo:Is r.1 (a.fdiv b)
 rem:Is r.2.1 (if b=0 then 0 else a.fmod b)
theorem K9{x y:Int}(hx:0<=x)(hy:0<y):(-x).fdiv (-y)=x/y/\(-x).fmod (-y)=-(x%y):=by
 have h1:(-x).fdiv (-y)=x.fdiv y:=Gb _ _;rw[h1,jo _ (by omega)];refine⟨rfl,?_⟩;have h2:=Gc (-x) (-y);rw[h1,jo _ (by omega)]at h2;have h3:=jF x y;have e:-y*(x/y)=-(y*(x/y)):=by grind
 omega
theorem JB{x y:Int}(hy:0<y):(-x).fdiv y=(if x%y=0 then-(x/y)else-(x/y+1))/\(-x).fmod y=(if x%y=0 then 0 else y-x%y):=by
 rw[jo _ (by omega),Gd _ (by omega)];have h3:=jF x y;have h4:=mg x (show y≠0 by omega);have h5:=mh x hy;split
 . rename_i h;have:=(Ga (a:=-x) (b:=y) (r:=0) (q:=-(x/y)) hy).2 ⟨by have e:y*-(x/y)=-(y*(x/y)):=(by grind);omega,by omega,by omega⟩;exact this
 . have:=(Ga (a:=-x) (b:=y) (r:=y-x%y) (q:=-(x/y+1)) hy).2 ⟨by have e:y*-(x/y+1)=-(y*(x/y))-y:=(by grind);omega,by omega,by omega⟩;exact this
theorem JM{x y:Int}:x.fdiv (-y)=(-x).fdiv y/\x.fmod (-y)=-((-x).fmod y):=by
 have h1:x.fdiv (-y)=(-x).fdiv y:=by rw[<-Gb x,Int.neg_neg]
 refine⟨h1,?_⟩;have h2:=Gc x (-y);have h3:=Gc (-x) y;rw[h1]at h2;have e:-y*(-x).fdiv y=-(y*(-x).fdiv y):=by grind
 omega
theorem inB1:bA aC [1]:=bA.cons (by decide) bA.nil
theorem QO{a b:aB}(ha:bA aC a.aP)(hb:bA aC b.aP)(hl:a.aP.length<=4398046511104)(hl':b.aP.length<=4398046511104):
 Tm (fun N=>kx N a b) (fun r=>DivP (bv a) (bv b) r/\r.1.aP.length<=a.aP.length+2/\r.2.1.aP.length<=max (a.aP.length+1) b.aP.length):=by
 unfold kx;refine Tm.bind (ox ha (by omega)) ?_;rintro x ⟨hx,hxl⟩;refine Tm.bind (ox hb (by omega)) ?_;rintro y ⟨hy,hyl⟩;have hz:=hy.dg.zero (by decide);refine aY (fun h=>aS ?_) (fun h=>?_)
 . have h0:bv b=0:=by have:=hz.1 (me.1 (by omega));omega
   refine⟨⟨by simp[h0],?_,?_⟩,by simp,by simp⟩
   . rw[h0,MM];exact⟨Dg.nil,rfl⟩
   . rw[if_pos h0];exact⟨Dg.nil,rfl⟩
 . have h0:bv b≠0:=fun e=>h (by rw[hz.2 (by omega)];rfl);have hyl0:0<y.aP.length:=by omega
   have vx:=hx.zd;have vy:=hy.zd;have n1:=hx.neg;have n2:=hy.neg;have X0:=gx (B:=aC) (by decide) hx.dg.bL;refine Tm.bind (HZ hx.dg.bL hy.dg.bL hx.dg.e9 hy.dg.e9 hyl0 (by omega) (by omega)) ?_;rintro⟨q,r⟩ ⟨hq,hr,hql,hrl⟩;dsimp only at*;generalize hX:val aC x.aP=X at*;generalize hY:val aC y.aP=Y at*;have Y0:0<Y:=by rw[vy];split<;>omega
   have hr0:=mg X (show Y≠0 by omega);have hr1:=mh X Y0;have hq0:=yp X0 (show 0<=Y by omega);have hrz:=hr.zero (by decide);refine aY (fun hs=>?_) (fun hs=>?_)
   . 
     have hab:(bv a).fdiv (bv b)=(-X).fdiv Y/\(bv a).fmod (bv b)=if y.bF=true then-((-X).fmod Y)else(-X).fmod Y:=by
      have hs':¬x.bF=y.bF:=by simpa using hs
      by_cases p:bv a<0<;>by_cases p':bv b<0<;>simp only[p,p',decide_true,decide_false,if_true,if_false]at n1 n2 vx vy
      . rw[n1,n2]at hs';exact absurd rfl hs'
      . rw[n2,show bv a=-X by omega,show bv b=Y by omega];simp
      . rw[n2,show bv a=X by omega,show bv b=-Y by omega];simpa using JM
      . rw[n1,n2]at hs';exact absurd rfl hs'
     have hdd:=JB (x:=X) Y0;refine Tm.bind (Q:=fun t:List Int×List Int=>bA aC t.1/\bA aC t.2∧-(val aC t.1)=(-X).fdiv Y/\val aC t.2=(-X).fmod Y/\t.1.length<=x.aP.length+2/\t.2.length<=max (x.aP.length+1) y.aP.length) (aY (fun hrp=>?_) (fun hrp=>aS ?_)) ?_
     . have hrne:X%Y≠0:=fun e=>by have:=hrz.2 e;rw[this]at hrp;simp at hrp
       rw[if_neg hrne,if_neg hrne]at hdd;refine Tm.bind (GF hq.bL inB1 (by omega) (by simp)) ?_;rintro q1 ⟨hq1,hq1v,hq1l⟩;have hle:r.length<=y.aP.length:=by
        rcases cv y.aP.length r.length with h'|h'
        . have:=mH mn hy.dg.bL hr.bL hr.e9 h';rw[hY,hr.val]at this;omega
        . exact h'
       refine Tm.bind (Dr hy.dg.bL hr.bL (by omega) hle (by rw[hY,hr.val];omega)) ?_;rintro r1 ⟨hr1B,hr1v,hr1l⟩;refine aS ⟨hq1,hr1B,?_,?_,?_,by dsimp only;omega⟩
       . rw[hdd.1,hq1v,hq.val];simp[val]
       . rw[hdd.2,hr1v,hY,hr.val]
       . simp only[cA,dP]at hq1l;dsimp only;omega
     . have hre:r=[]:=me.1 (by omega);have hrz':=hrz.1 hre;rw[if_pos hrz',if_pos hrz']at hdd;refine⟨hq.bL,hr.bL,?_,?_,by dsimp only;omega,by dsimp only;omega⟩
       . rw[hdd.1,hq.val]
       . rw[hdd.2,hr.val,hrz']
     rintro⟨q1,r1⟩ ⟨hq1,hr1B,hq1v,hr1v,hq1l,hr1l⟩;dsimp only at*;refine Tm.bind (lP hq1 (by omega)) ?_;rintro q2 ⟨hq2,hq2l⟩;refine Tm.bind (lP hr1B (by omega)) ?_;rintro r2 ⟨hr2,hr2l⟩;refine aS ⟨⟨by simp[h0],?_,?_⟩,by dsimp only;omega,by dsimp only;omega⟩
     . rw[hab.1,<-hq1v];simpa using hq2
     . rw[if_neg h0,hab.2,<-hr1v];exact hr2
   . 
     have hs':x.bF=y.bF:=by simpa using hs
     have hab:(bv a).fdiv (bv b)=X/Y/\(bv a).fmod (bv b)=if y.bF=true then-(X%Y)else X%Y:=by
      by_cases p:bv a<0<;>by_cases p':bv b<0<;>simp only[p,p',decide_true,decide_false,if_true,if_false]at n1 n2 vx vy
      . rw[n2,show bv a=-X by omega,show bv b=-Y by omega];simpa using K9 X0 Y0
      . rw[n1,n2]at hs';cases hs'
      . rw[n1,n2]at hs';cases hs'
      . rw[n2,show bv a=X by omega,show bv b=Y by omega,jo _ (by omega),Gd _ (by omega)];simp
     refine Tm.bind (lP hq.bL (by omega)) ?_;rintro q2 ⟨hq2,hq2l⟩;refine Tm.bind (lP hr.bL (by omega)) ?_;rintro r2 ⟨hr2,hr2l⟩;refine aS ⟨⟨by simp[h0],?_,?_⟩,by dsimp only;omega,by dsimp only;omega⟩
     . rw[hab.1,<-hq.val];simpa using hq2
     . rw[if_neg h0,hab.2,<-hr.val];exact hr2
open Go Go.X
theorem EK{B:Int}(hB:1<B){a b:List Int}(ha:bA B a)(hb:bA B b)(nb:fJ b)(h:val B b<=val B a):b.length<=a.length:=by
 rcases cv a.length b.length with h'|h'
 . have:=mH hB ha hb nb h';omega
 . exact h'
def tY(j:Nat):Int:=if j=0 then 0 else 2^(j-1)
theorem zU(j:Nat):tY (j+1)=2^j:=by simp[tY]
theorem RQ(j:Nat)(hj:j<16):iw (Int.tdiv (tY (j+1)) 2)=tY j:=by
 rw[zU];cases j with
 |zero=>decide
 |succ j=>
  rw[zU,AM (dZ (ko (by decide))),fi,Int.mul_ediv_cancel _ (by decide)];have h1:=kC (B:=2) (by decide) j;have h2:=j9 (B:=2) (by decide) (show j<=15 by omega);have e:(2:Int)^15=32768:=by decide
  rw[bK]<;>omega
theorem TZ{x:Int}(hx:0<=x)(j:Nat):x/2^j=2*(x/2^(j+1))+x/2^j%2:=by
 have h:=jF (x/2^j) 2;have e:x/2^j/2=x/2^(j+1):=by rw[Int.ediv_ediv_of_nonneg (dZ (ko (by decide))),fi]
 rw[e]at h;omega
theorem OU{a b q r:List Int}{n:Nat}{H Qh:Int}(ha:bA aW a)(hb:bA aW b)(nb:fJ b)(hb0:0<val aW b)(hla:a.length<=4398046511104)(hlb:b.length<=4398046511104)(hn:n<a.length)(hq:q.length=a.length)(hqB:bA aW q)(hqn:q.getD n 0=0)
 (hr:Dg aW r (val aW r))(hrlt:val aW r<val aW b)(hI:H=val aW b*Qh+val aW r):
 Tm (fun N=>bJ (zG N a b n) N (q,r,32768)) (fun t=>t.1.length=a.length/\bA aW t.1/\Dg aW t.2 (val aW t.2)/\val aW t.2<val aW b/\(∀m,m≠n->t.1.getD m 0=q.getD m 0)/\H*65536+a.getD n 0=val aW b*(Qh*65536+t.1.getD n 0)+val aW t.2):=by
 have hx:=ha.getD (B:=aW) (by decide) n;generalize hxx:a.getD n 0=x at*;simp only[aW]at hx;have key:∀r:List Int,Dg aW r (val aW r)->val aW r<val aW b->r.length<=b.length:=fun r h1 h2=>EK nP hb h1.bL h1.e9 (by omega);refine Tm.loop (fun t:List Int×List Int×Int=>∃(j:Nat) (y:Int),t.2.2=tY j/\j<=16/\t.1.length=a.length/\bA aW t.1/\Dg aW t.2.1 (val aW t.2.1)/\val aW t.2.1<val aW b/\(∀m,m≠n->t.1.getD m 0=q.getD m 0)/\0<=y/\y<2^(16-j)/\t.1.getD n 0=y*2^j/\H*2^(16-j)+x/2^j=val aW b*(Qh*2^(16-j)+y)+val aW t.2.1) (fun t=>t.2.2.toNat)
  ⟨16,0,rfl,bI _,hq,hqB,hr,hrlt,fun _ _=>rfl,by simp,by simp,by rw[hqn];simp,?_⟩ ?_
 . show H*2^(16-16)+x/2^16=_;have e:(2:Int)^16=65536:=by decide
   rw[e,MK hx.1 hx.2];simp;omega
 rintro⟨qq,rr,bit⟩ ⟨j,y,rfl,hj,hql,hqqB,hrr,hrrlt,hoth,y0,y1,hy,hI2⟩;dsimp only[zG]at*;have hr0:=hrr.xw (by decide);cases j with
 |zero=>
  refine cz (by decide) (aS ⟨hql,hqqB,hrr,hrrlt,hoth,?_⟩);simp only[Nat.sub_zero,Int.pow_zero,yq,Int.ediv_one]at hy hI2;have e:(2:Int)^16=65536:=by decide
  rw[e]at hI2;show H*65536+x=val aW b*(Qh*65536+qq.getD n 0)+val aW rr;rw[hy];exact hI2
 |succ j=>
  have hhalf:=RQ j (by omega);rw[hhalf];rw[zU];have hP:=ko (n:=2) (m:=j) (by decide);have hP2:(2:Int)^j<=32768:=j9 (B:=2) (by decide) (show j<=15 by omega);refine cY (by omega) ?_;have hrl:=key rr hrr hrrlt;refine Tm.bind (Bq hrr.bL hrr.bL (by omega) (by omega)) ?_;rintro r2 ⟨hr2,hr2l⟩;refine aN (gh rfl (by omega)) ?_;rw[hxx];refine aN (Dp (by omega)) ?_;rw[AM hx.1];have hd0:=yp hx.1 (show(0:Int)<=2^j by omega);have hd1:x/2^j<=x:=Int.ediv_le_self _ hx.1;rw[show IntKind.i64.wrap (x/2^j)=x/2^j from wi64 (by omega) (by omega),DN hd0];have hhb:=TZ hx.1 j;have hv:val aW r2=val aW rr+val aW rr:=hr2.val;have r3:Tm (fun N=>if x/2^j%2=1 then(o5 N r2 [1]).bind fun r1352=>some r1352 else some r2) (fun t=>Dg aW t (2*val aW rr+x/2^j%2)/\t.length<=b.length+2):=by
   refine aY (fun h=>?_) (fun h=>aS ⟨?_,by omega⟩)
   . refine Tm.bind (Bq hr2.bL (bA.cons (by decide) bA.nil) (by omega) (by simp)) ?_;rintro t ⟨ht,htl⟩;refine aS ⟨?_,by simp only[cA,dP]at htl;omega⟩;rw[hv]at ht;simp only[val]at ht;rw[h,show 2*val aW rr+1=val aW rr+val aW rr+(1+aW*0) by omega];exact ht
   . rw[show 2*val aW rr+x/2^j%2=val aW rr+val aW rr by omega];exact hr2
  refine Tm.bind r3 ?_;rintro r3 ⟨h3,h3l⟩;refine Tm.bind (Kg h3.bL hb h3.e9 nb (by omega) (by omega)) ?_;rintro _ rfl;rw[h3.val];have hbit:0<=x/2^j%2/\x/2^j%2<=1:=by omega
  have hsub:16-j=(16-(j+1))+1:=by omega
  have hy2:(2:Int)^(16-j)=2*2^(16-(j+1)):=by rw[hsub,fi,fE]
  have hyj:y*2^(j+1)=2*y*2^j:=by rw[fi];grind
  have hmeas:(tY j).toNat<((2:Int)^j).toNat:=by
   cases j with
   |zero=>decide
   |succ j=>
    rw[zU,fi];have:=ko (n:=2) (m:=j) (by decide);omega
  refine aY (fun h=>?_) (fun h=>aS ⟨⟨j,2*y,rfl,by omega,hql,hqqB,by rw[h3.val];exact h3,?_,hoth,by omega,by omega,by rw[hy,hyj],?_⟩,hmeas⟩)
  . have hge:val aW b<=2*val aW rr+x/2^j%2:=by revert h;unfold bM;split<;>(try split)<;>omega
    have hle:b.length<=r3.length:=EK nP h3.bL hb nb (by rw[h3.val];exact hge);refine Tm.bind (Dz h3.bL hb (by omega) hle (by rw[h3.val];exact hge)) ?_;rintro r4 ⟨h4,h4l⟩;rw[h3.val]at h4;have hqn:=hqqB.getD (B:=aW) (by decide) n;refine aN (gh rfl (by omega)) (aN (gh rfl (by omega)) (aN (ed rfl (by omega)) (aS ?_)));simp only[aW]at hqn;rw[hy,hyj]at hqn⊢;have hq2:2*y*2^j+2^j=(2*y+1)*2^j:=by grind
    have hlt:(2*y+1)*2^j<65536:=by
     have h5:=fj (show 2*y+1+1<=2^(16-j) by omega) (show(0:Int)<=2^j by omega);rw[<-jE,show 16-j+j=16 by omega]at h5;have e:(2:Int)^16=65536:=by decide
     have e2:(2*y+1+1)*2^j=(2*y+1)*2^j+2^j:=by grind
     omega
    rw[show iw (2*y*2^j+2^j)=(2*y+1)*2^j by rw[bK]<;>omega];refine⟨⟨j,2*y+1,rfl,by omega,by simp;omega,hqqB.set (by simp only[aW];omega),by rw[h4.val];exact h4,by dsimp only;rw[h4.val];omega,fun m hm=>?_,by omega,by omega,?_,?_⟩,hmeas⟩
    . show(qq.set n _).getD m 0=_;rw[si (by omega),if_neg (fun e=>hm e.symm)];exact hoth m hm
    . show(qq.set n _).getD n 0=_;rw[si (by omega),if_pos rfl]
    . show H*2^(16-j)+x/2^j=val aW b*(Qh*2^(16-j)+(2*y+1))+val aW r4;rw[h4.val,hy2,hhb];generalize val aW b=B at*;generalize val aW rr=R at*;generalize(2:Int)^(16-(j+1))=T at*;generalize x/2^(j+1)=X at*;generalize x/2^j%2=z at*;grind
  . show val aW r3<val aW b;rw[h3.val];revert h;unfold bM;split<;>(try split)<;>omega
  . show H*2^(16-j)+x/2^j=val aW b*(Qh*2^(16-j)+2*y)+val aW r3;rw[h3.val,hy2,hhb];generalize val aW b=B at*;generalize val aW rr=R at*;generalize(2:Int)^(16-(j+1))=T at*;generalize x/2^(j+1)=X at*;generalize x/2^j%2=z at*;grind
theorem NK{a b:List Int}(ha:bA aW a)(hb:bA aW b)(nb:fJ b)(hb0:0<val aW b)(hla:a.length<=4398046511104)(hlb:b.length<=4398046511104):
 Tm (fun N=>wH N a b) (fun t=>Dg aW t.1 (val aW a/val aW b)/\Dg aW t.2 (val aW a%val aW b)/\t.1.length<=a.length/\t.2.length<=b.length):=by
 unfold wH;refine aN (gW rfl (by omega) (by decide)) ?_;refine Tm.bind (Q:=fun t:List Int×List Int=>t.1.length=a.length/\bA aW t.1/\Dg aW t.2 (val aW t.2)/\val aW t.2<val aW b/\val aW a=val aW b*val aW t.1+val aW t.2)
  (Tm.loop (fun t:List Int×List Int×Int=>∃k:Nat,t.2.2=(k:Int)-1/\k<=a.length/\t.1.length=a.length/\bA aW t.1/\Dg aW t.2.1 (val aW t.2.1)/\val aW t.2.1<val aW b/\(∀m,m<k->t.1.getD m 0=0)/\val aW (a.drop k)=val aW b*val aW (t.1.drop k)+val aW t.2.1) (fun t=>(t.2.2+1).toNat)
   ⟨a.length,by rw[bK]<;>omega,bI _,by simp,bA.dd (by decide),Dg.nil,by simpa[val]using hb0,fun m hm=>by rw[fQ (by simpa using hm)];simp,by simp[val]⟩ ?_) ?_
 . rintro⟨q,r,i⟩ ⟨k,rfl,hk,hq,hqB,hr,hrlt,hz,hv⟩;dsimp only[DY]at*;refine aY (fun h=>?_) (fun h=>aS ?_)
   . obtain⟨n,rfl⟩:∃n,k=n+1:=⟨k-1,by omega⟩;have hi:((n+1:Nat):Int)-1=(n:Int):=by omega
     rw[hi];refine Tm.bind (OU (n:=n) ha hb nb hb0 hla hlb (by omega) hq hqB (hz n (by omega)) hr hrlt hv) ?_;rintro⟨q',r'⟩ ⟨h1,h2,h3,h4,h5,h6⟩;dsimp only at*;refine aS ⟨⟨n,by show iw ((n:Int)-1)=_;rw[bK]<;>omega,by omega,h1,h2,h3,h4,fun m hm=>?_,?_⟩,?_⟩
     . show q'.getD m 0=0;rw[h5 m (by omega)];exact hz m (by omega)
     . show val aW (a.drop n)=val aW b*val aW (q'.drop n)+val aW r';have hqd:q'.drop (n+1)=q.drop (n+1):=by
        apply pJ (by simp;omega);intro i g1 g2;rw[F1,F1];have:=h5 (n+1+i) (by omega);simp only[vH]at g1 g2;rwa[fQ (by omega),fQ (by omega)]at this
       rw[fx (l:=a) (by omega),fx (l:=q') (by omega),ra,ra,hqd,<-fQ (l:=a),<-fQ (l:=q')];have hw:aW=65536:=rfl;rw[hw]at*;generalize val 65536 (a.drop (n+1))=H at*;generalize val 65536 (q.drop (n+1))=Qh at*;have e1:a.getD n 0+65536*H=H*65536+a.getD n 0:=by omega
       have e2:q'.getD n 0+65536*Qh=Qh*65536+q'.getD n 0:=by omega
       rw[e1,e2];exact h6
     . show(iw ((n:Int)-1)+1).toNat<((n:Int)+1).toNat;rw[bK]<;>omega
   . obtain rfl:k=0:=by omega
     simp only[lC]at hv;exact⟨hq,hqB,hr,hrlt,hv⟩
 . rintro⟨q,r⟩ ⟨hq,hqB,hr,hrlt,hv⟩;dsimp only at*;refine Tm.bind (vj hqB (by omega)) ?_;rintro q' ⟨hq',hql⟩;have hr0:=hr.xw (by decide);have hdm:=(Ga (a:=val aW a) (b:=val aW b) (r:=val aW r) (q:=val aW q) hb0).2 ⟨by omega,hr0,hrlt⟩;refine aS ⟨?_,?_,by dsimp only;omega,EK nP hb hr.bL hr.e9 (show val aW r<=val aW b by omega)⟩
   . rw[hdm.1];exact hq'
   . rw[hdm.2];exact hr
theorem J0{a b:aB}(ha:bA aC a.aP)(hb:bA aC b.aP)(hl:a.aP.length<=1099511627776)(hl':b.aP.length<=1099511627776):
 Tm (fun N=>um N a b) (fun r=>DivP (bv a) (bv b) r):=by
 unfold um;refine Tm.bind (nZ hb (by omega)) ?_;rintro _ rfl;refine aY (fun h=>aS ?_) (fun h=>?_)
 . have h0:bv b=0:=by revert h;unfold bM;split<;>(try split)<;>omega
   exact⟨by simp[h0],by rw[h0,MM];exact⟨Dg.nil,rfl⟩,by rw[if_pos h0];exact⟨Dg.nil,rfl⟩⟩
 . have h0:bv b≠0:=by revert h;unfold bM;split<;>(try split)<;>omega
   refine Tm.bind (pC ha (by omega)) ?_;rintro l ⟨hl1,hl2⟩;refine Tm.bind (pC hb (by omega)) ?_;rintro m ⟨hm1,hm2⟩;have A0:=gx (B:=aC) (by decide) ha;have B0:=gx (B:=aC) (by decide) hb;have hbv:bv b=if b.bF=true then-val aC b.aP else val aC b.aP:=rfl;have hav:bv a=if a.bF=true then-val aC a.aP else val aC a.aP:=rfl;have B1:0<val aC b.aP:=by revert h0;rw[hbv];split<;>omega
   refine Tm.bind (NK hl1.bL hm1.bL hm1.e9 (by rw[hm1.val];exact B1) (by omega) (by omega)) ?_;rintro⟨q,r⟩ ⟨hq,hr,hql,hrl⟩;rw[hl1.val,hm1.val]at hq hr;dsimp only at*;refine Tm.bind (oO (neg:=!(a.bF==b.bF)) hq.bL (by omega)) ?_;rintro q1 ⟨hq1,hq1l⟩;refine Tm.bind (oO (neg:=a.bF) hr.bL (by omega)) ?_;rintro r1 ⟨hr1,hr1l⟩;rw[hq.val]at hq1;rw[hr.val]at hr1;generalize hA:val aC a.aP=A at*;generalize hB:val aC b.aP=B at*;have m0:=mg A (show B≠0 by omega);have m1:=mh A B1;have hdd:=JB (x:=A) B1;have hds:=K9 A0 B1;have hdn:=JM (x:=A) (y:=B);generalize hQ:(if(!(a.bF==b.bF))=true then-(A/B)else A/B)=Q at*;generalize hR:(if a.bF=true then-(A%B)else A%B)=R at*;have hfd:(bv a).fdiv (bv b)=(if bM R 0≠0/\bM R 0≠bM (bv b) 0 then Q-1 else Q)/\(bv a).fmod (bv b)=(if bM R 0≠0/\bM R 0≠bM (bv b) 0 then R+bv b else R):=by
    have sp:bM B 0=1:=by unfold bM;rw[if_neg (by omega),if_pos (by omega)]
    have sn:bM (-B) 0=-1:=by unfold bM;rw[if_pos (by omega)]
    rw[hav,hbv];cases hna:a.bF<;>cases hnb:b.bF<;>simp only[hna,hnb]at hQ hR<;>simp at hQ hR<;>subst hQ<;>subst hR
    . simp only[mb,if_false,sp];have e:¬(bM (A%B) 0≠0/\bM (A%B) 0≠1):=by unfold bM;rw[if_neg (by omega)];split<;>omega
      rw[if_neg e,if_neg e,jo _ (by omega),Gd _ (by omega)];exact⟨rfl,rfl⟩
    . simp only[mb,if_false,if_true,sn];rw[hdn.1,hdn.2,hdd.1,hdd.2];by_cases e0:A%B=0
      . have e:¬(bM (A%B) 0≠0/\bM (A%B) 0≠-1):=by rw[e0];decide
        rw[if_neg e,if_neg e,if_pos e0,if_pos e0];omega
      . have e:bM (A%B) 0≠0/\bM (A%B) 0≠-1:=by unfold bM;rw[if_neg (by omega),if_pos (by omega)];decide
        rw[if_pos e,if_pos e,if_neg e0,if_neg e0];omega
    . simp only[mb,if_false,if_true,sp];rw[hdd.1,hdd.2];by_cases e0:A%B=0
      . have e:¬(bM (-(A%B)) 0≠0/\bM (-(A%B)) 0≠1):=by rw[e0];decide
        rw[if_neg e,if_neg e,if_pos e0,if_pos e0];omega
      . have e:bM (-(A%B)) 0≠0/\bM (-(A%B)) 0≠1:=by unfold bM;rw[if_pos (by omega)];decide
        rw[if_pos e,if_pos e,if_neg e0,if_neg e0];omega
    . simp only[if_true,sn];have e:¬(bM (-(A%B)) 0≠0/\bM (-(A%B)) 0≠-1):=by unfold bM;split<;>(try split)<;>omega
      rw[if_neg e,if_neg e];exact hds
   have hr1v:=hr1.bv;refine Tm.bind (Q:=(·=decide (bM R 0≠0/\bM R 0≠bM (bv b) 0))) (Tm.bind (nZ hr1.dg.bL (by omega)) ?_) ?_
   . rintro _ rfl;rw[hr1v];refine aY (fun h1=>?_) (fun h1=>aS ?_)
     . refine Tm.bind (nZ hr1.dg.bL (by omega)) ?_;rintro _ rfl;refine Tm.bind (nZ hb (by omega)) ?_;rintro _ rfl;rw[hr1v];refine aS ?_;simp[h1]
     . simp at h1;simp[h1]
   rintro _ rfl;refine Tm.bind (Q:=fun t:aB×aB=>Is t.1 ((bv a).fdiv (bv b))/\Is t.2 ((bv a).fmod (bv b))) ?_ ?_
   . rw[hfd.1,hfd.2];refine aY (fun h1=>?_) (fun h1=>aS ?_)
     . have h1:=of_decide_eq_true h1;refine Tm.bind (tC (n:=1) (by decide) (by decide)) ?_;rintro o ⟨ho,hol⟩;refine Tm.bind (J4 hq1.dg.bL ho.dg.bL (by omega) (by omega)) ?_;rintro q2 ⟨hq2,_⟩;refine Tm.bind (wy hr1.dg.bL hb (by omega) (by omega)) ?_;rintro r2 ⟨hr2,_⟩;rw[hq1.bv,ho.bv]at hq2;rw[hr1v]at hr2;refine aS ⟨?_,?_⟩
       . rw[if_pos h1];exact hq2
       . rw[if_pos h1];exact hr2
     . have h1:¬(bM R 0≠0/\bM R 0≠bM (bv b) 0):=by simpa using h1
       rw[if_neg h1,if_neg h1];exact⟨hq1,hr1⟩
   . rintro⟨q2,r2⟩ ⟨hq2,hr2⟩;exact aS ⟨by simp[h0],hq2,by rw[if_neg h0];exact hr2⟩
open Go Go.X
abbrev k7:bB:=⟨[],⟨false,[]⟩⟩
theorem vd{xs:List aB}{i:Int}{n:Nat}(e:i=(n:Int))(h:n<xs.length):idx xs i=some (xs.getD n eN):=by
 rw[rm h];exact gw e h
theorem DT{xs:List bB}{i:Int}{n:Nat}(e:i=(n:Int))(h:n<xs.length):idx xs i=some (xs.getD n k7):=by
 rw[cy,bV h];exact gw e h
theorem H4{l:List aB}{n m:Nat}{y:aB}(h:n<l.length):(l.set n y).getD m eN=if n=m then y else l.getD m eN:=by
 rw[cy,cy,qK];by_cases e:n=m
 . subst e;simp[h]
 . simp[e]
theorem Fc{l:List bB}{n:Nat}(h:n<l.length):l.getD n k7∈l:=by
 rw[cy,bV h];exact du h
theorem II{l:List aB}{n:Nat}(h:n<l.length):l.getD n eN∈l:=by
 rw[cy,bV h];exact du h
def iG(n:Nat)(c:List aB)(f:Nat->Int):Prop:=c.length=n/\∀j,j<n->Is (c.getD j eN) (f j)
theorem iG.uniq{n:Nat}{c c':List aB}{f:Nat->Int}(h:iG n c f)(h':iG n c' f):c=c':=by
 apply pJ (h.1.trans h'.1.symm);intro i h1 h2;have g1:=h.2 i (by rw[<-h.1];exact h1);have g2:=h'.2 i (by rw[<-h.1];exact h1);rw[rm h1]at g1;rw[rm h2]at g2;exact g1.uniq g2
theorem Js{ρ:Type}{body:Nat->List aB×Int->Option (aK (List aB×Int) ρ)}{fin:List aB->ρ}{bad:ρ}{n K K':Nat}{f g:Nat->Int}{F:Nat->Prop}{c0:List aB}(hn:n<=1073741824)(h0:iG n c0 f)(hk0:∀j,j<n->(c0.getD j eN).aP.length<=K)
 (step:∀k,k<n->∀c:List aB,c.length=n->Is (c.getD k eN) (f k)->(c.getD k eN).aP.length<=K->
  Tm (fun N=>body N (c,(k:Int))) (fun s=>(∃y,s=.next (c.set k y,iw ((k:Int)+1))/\Is y (g k)/\y.aP.length<=K'/\¬F k)\/(s=.done bad/\F k)))
 (stop:∀c:List aB,c.length=n->Tm (fun N=>body N (c,(n:Int))) (fun s=>s=.done (fin c))):
 Tm (fun N=>bJ (body N) N (c0,0)) (fun r=>(∃c,r=fin c/\iG n c g/\(∀j,j<n->(c.getD j eN).aP.length<=K')/\∀k,k<n->¬F k)\/(r=bad/\∃k,k<n/\F k)):=by
 refine Tm.loop (fun t:List aB×Int=>∃k:Nat,t.2=k/\k<=n/\t.1.length=n/\(∀j,j<k->Is (t.1.getD j eN) (g j)/\(t.1.getD j eN).aP.length<=K'/\¬F j)/\∀j,k<=j->j<n->Is (t.1.getD j eN) (f j)/\(t.1.getD j eN).aP.length<=K) (fun t=>n-t.2.toNat)
  ⟨0,rfl,fy _,h0.1,fun j hj=>absurd hj (by omega),fun j _ hj=>⟨h0.2 j hj,hk0 j hj⟩⟩ ?_
 rintro⟨c,kk⟩ ⟨k,rfl,hk,hc,h1,h2⟩;dsimp only at*;rcases cv k n with hkn|hkn
 . refine(step k hkn c hc (h2 k (bI _) hkn).1 (h2 k (bI _) hkn).2).mono ?_;rintro s (⟨y,rfl,hy,hyl,hF⟩|⟨rfl,hF⟩)
   . refine⟨⟨k+1,by show iw ((k:Int)+1)=_;rw[bK]<;>omega,by omega,by simp;omega,fun j hj=>?_,fun j hj hjn=>?_⟩,?_⟩
     . show Is ((c.set k y).getD j eN) (g j)/\((c.set k y).getD j eN).aP.length<=K'/\¬F j;rw[H4 (by omega)];by_cases e:k=j
       . subst e;rw[if_pos rfl];exact⟨hy,hyl,hF⟩
       . rw[if_neg e];exact h1 j (by omega)
     . show Is ((c.set k y).getD j eN) (f j)/\((c.set k y).getD j eN).aP.length<=K;rw[H4 (by omega),if_neg (by omega)];exact h2 j (by omega) hjn
     . show n-(iw ((k:Int)+1)).toNat<n-((k:Int)).toNat;rw[bK]<;>omega
   . exact .inr ⟨rfl,k,hkn,hF⟩
 . obtain rfl:k=n:=by omega
   refine(stop c hc).mono ?_;rintro s rfl;exact .inl ⟨c,rfl,⟨hc,fun j hj=>(h1 j hj).1⟩,fun j hj=>(h1 j hj).2.1,fun j hj=>(h1 j hj).2.2⟩
def nV(l:List bB):Nat:=(l.getD 0 k7).aZ.length
def lL(l:List bB):Prop:=∀q∈l,q.aZ.length=nV l
instance (l:List bB):Decidable (lL l):=inferInstanceAs (Decidable (∀q∈l,q.aZ.length=nV l))
def mw(l:List bB)(u:dO):Prop:=u.Index<0\/(l.length:Int)<=u.Index\/bv u.N<0
instance (l:List bB)(u:dO):Decidable (mw l u):=inferInstanceAs (Decidable (_\/_\/_))
def wC(l:List bB)(u:dO)(a:(Nat->Int)×Int):(Nat->Int)×Int:=(fun j=>a.1 j+bv u.N*bv ((l.getD u.Index.toNat k7).aZ.getD j eN),a.2+bv u.N*bv (l.getD u.Index.toNat k7).dw)
def lT(l:List bB):List dO->(Nat->Int)×Int->Option ((Nat->Int)×Int)
 |[],a=>some a
 |u::us,a=>if mw l u then none else lT l us (wC l u a)
def mL(l:List bB)(s:Step)(r:bB×Bool):Prop:= if lL l/\0<bv s.fX then match lT l s.Uses (fun _=>0,0)with
  |none=>r=(k7,false)
  |some (f,b)=>if∀j,j<nV l->f j%bv s.fX=0 then r.2=true/\iG (nV l) r.1.aZ (fun j=>f j/bv s.fX)/\Is r.1.dw (b/bv s.fX)else r=(k7,false) else r=(k7,false)
theorem mL.uniq{l:List bB}{s:Step}{r r':bB×Bool}(h:mL l s r)(h':mL l s r'):r=r':=by
 unfold mL at h h';split at h
 . rename_i hc;rw[if_pos hc]at h';cases hs:lT l s.Uses (fun _=>0,0)with
   |none=>rw[hs]at h h';exact h.trans h'.symm
   |some a=>
    rw[hs]at h h';obtain⟨f,b⟩:=a;dsimp only at h h';split at h
    . rename_i hd;rw[if_pos hd]at h';obtain⟨⟨c,d⟩,t⟩:=r;obtain⟨⟨c',d'⟩,t'⟩:=r';have h1:c=c':=h.2.1.uniq h'.2.1;have h2:d=d':=h.2.2.uniq h'.2.2;have h3:t=t':=h.1.trans h'.1.symm;subst h1;subst h2;subst h3;rfl
    . rename_i hd;rw[if_neg hd]at h';exact h.trans h'.symm
 . rename_i hc;rw[if_neg hc]at h';exact h.trans h'.symm
theorem Qe{a:Int}:0<bM a 0↔0<a:=by unfold bM;(repeat' split)<;>omega
structure OkS (s:Step):Prop where
 len:s.Uses.length<=12
 use:∀u∈s.Uses,jB 4 u.N
 div:jB 4 s.fX
theorem Fu{l:List bB}(hl:l.length<=9223372036854775807):Tm (fun N=>uN N l) (fun r=>r=decide (lL l)):=by
 unfold uN;refine Tm.bind (Tm.each (body:=fun N=>xc N l) l (fun q=>q.aZ.length=nV l) (Q:=fun r=>(r=.inl ()/\lL l)\/(r=.inr false/\¬lL l)) hl ?_ ?_) ?_
 . intro n hn hP;dsimp only[xc];refine cY (by omega) (aN (de hn) (aN (DT (n:=0) rfl (by omega)) ?_));refine aY (fun h=>aS (.inr ⟨_,rfl,.inr ⟨rfl,fun he=>?_⟩⟩)) (fun h=>aS (.inl ⟨rfl,?_⟩))
   . have:=he _ (du hn);unfold nV at this;omega
   . unfold nV;omega
 . intro hP;dsimp only[xc];exact cz (by omega) (aS ⟨_,rfl,.inl ⟨rfl,hP⟩⟩)
 . rintro _ (⟨rfl,h⟩|⟨rfl,h⟩)
   . exact aS (by simp[h])
   . exact aS (by simp[h])
theorem lL.get{l:List bB}(h:lL l){n:Nat}(hn:n<l.length):(l.getD n k7).aZ.length=nV l:=h _ (Fc hn)
theorem iG.dd{n:Nat}:iG n (List.replicate n eN) (fun _=>0):=⟨by simp,fun j hj=>by rw[rm (by simpa using hj)];simpa using is0⟩
theorem drop_cons{l:List dO}{k:Nat}(h:k<l.length):l.drop k=l[k]::l.drop (k+1):=fx h
open Go Go.X
theorem pv.same{q:bB}{vs:List Int}{b:Int}(h:pv q vs b)(hv:∀v∈vs,(v.natAbs:Int)<aC^2)(hb:(b.natAbs:Int)<aC^2)(hl:vs.length<=512):qE 512 q:=by
 refine⟨by rw[h.1.1];exact hl,fun x hx=>?_,h.2.dg.bL,by have:=h.2.len hb;omega⟩;obtain⟨j,hj,rfl⟩:=FY.1 hx;have:=h.1.2 j hj (by rw[<-h.1.1];exact hj);exact⟨this.dg.bL,by have:=this.len (hv _ (du _));omega⟩
theorem KD{z:Int}(h:gm z):(z.natAbs:Int)<aC^2:=by unfold gm at h;have e:aC^2=18446744073709551616:=(by decide);omega
theorem K7{z:Int}(h:gm z):((-z).natAbs:Int)<aC^2:=by unfold gm at h;have e:aC^2=18446744073709551616:=(by decide);omega
theorem nL.ok{c:Constraint}{n:Int}{r:List bB}(hc:nR c)(h:nL c n r):r.length<=2/\∀q∈r,qE 512 q:=by
 rcases h with⟨_,rfl⟩|⟨hR,q,hq,h⟩
 . exact⟨by simp,fun q hq=>by cases hq⟩
 . have hn:(fP c n c.Linear.aZ.length).length<=512:=by rw[qS];have:=hR.2;omega
   have h1:qE 512 q:=hq.same (fun v hv=>KD (yX hc v hv)) (K7 hc.const) hn;rcases h with⟨_,rfl⟩|⟨_,q',hq',rfl⟩
   . exact⟨by simp,fun p hp=>by simp at hp;exact hp▸h1⟩
   . have h2:qE 512 q':=hq'.same (fun v hv=>by obtain⟨u,hu,rfl⟩:=dL.1 hv;exact K7 (yX hc u hu)) (KD hc.const) (by simpa using hn);refine⟨by simp,fun p hp=>?_⟩;simp only[dY,My,or_false]at hp;rcases hp with rfl|rfl
     . exact h1
     . exact h2
def kr(n:Int):List Constraint->List bB->Prop
 |[],r=>r=[]
 |c::l,r=>∃a b,nL c n a/\kr n l b/\r=a++b
theorem kr.uniq{n:Int}:∀{l:List Constraint} {r s:List bB},kr n l r->kr n l s->r=s
 |[],_,_,h,h'=>h.trans h'.symm
 |_::_,_,_,⟨a,b,h1,h2,h3⟩,⟨a',b',g1,g2,g3⟩=>by rw[h3,g3,h1.uniq g1,kr.uniq h2 g2]
theorem kr.snoc{n:Int}:∀{l:List Constraint} {c:Constraint} {r a:List bB},kr n l r->nL c n a->kr n (l++[c]) (r++a)
 |[],_,_,a,h,h'=>⟨a,[],h',rfl,by rw[show _=[] from h];simp⟩
 |_::_,_,_,_,⟨x,y,h1,h2,h3⟩,h'=>⟨x,_,h1,h2.snoc h',by rw[h3];simp⟩
theorem kr.ok{n:Int}:∀{l:List Constraint} {r:List bB},(∀c∈l,nR c)->kr n l r->r.length<=2*l.length/\∀q∈r,qE 512 q
 |[],_,_,h=>by rw[show _=[] from h];exact⟨by simp,fun q hq=>by cases hq⟩
 |c::l,_,hc,⟨a,b,h1,h2,h3⟩=>by
  have e1:=h1.ok (hc c cK);have e2:=h2.ok (fun c h=>hc c (cH _ h));subst h3;refine⟨by simp;omega,fun q hq=>?_⟩;rcases fN.1 hq with h|h
  . exact e1.2 q h
  . exact e2.2 q h
def pM(l:List Constraint)(n:Int)(r:List bB):Prop:=((∀c∈l,fI c n)/\kr n l r)\/(¬(∀c∈l,fI c n)/\r=[])
theorem pM.uniq{l:List Constraint}{n:Int}{r s:List bB}(h:pM l n r)(h':pM l n s):r=s:=by
 rcases h with⟨h1,h2⟩|⟨h1,rfl⟩<;>rcases h' with⟨g1,g2⟩|⟨g1,rfl⟩
 . exact h2.uniq g2
 . exact absurd h1 g1
 . exact absurd g1 h1
 . rfl
theorem Ns{l:List Constraint}{n:Int}(hc:∀c∈l,nR c)(hl:l.length<=1000):Tm (fun N=>uQ N l n) (pM l n):=by
 unfold uQ;refine Tm.bind (Tm.loop (fun s:List bB×Int=>∃k:Nat,s.2=k/\k<=l.length/\(∀c∈l.take k,fI c n)/\kr n (l.take k) s.1) (fun s=>l.length-s.2.toNat)
  (Q:=fun r=>pM l n (match r with|.inl a=>a|.inr a=>a)) ⟨0,rfl,fy _,by simp,rfl⟩ ?_) (fun r h=>by cases r<;>exact aS h)
 rintro⟨out,i⟩ ⟨k,rfl,hk,hR,hS⟩;dsimp only[DM]at*;refine aY (fun h1=>?_) (fun h1=>aS ?_)
 . have hkl:k<l.length:=by omega
   have hck:=hc _ (du hkl);refine aN (de hkl) (Tm.bind (HV hck.len) ?_);intro r hr;refine aY (fun h=>aS (.inr ⟨fun e=>?_,rfl⟩)) (fun h=>Tm.bind (Sh hck) ?_)
   . rw[hr.2 (e _ (du hkl))]at h;cases h
   . intro a ha;have h2:=hS.ok (fun c h=>hc c (ta h));have h3:=ha.ok hck;have h4:(l.take k).length<=1000:=by simp;omega
     refine aN (dQ (by omega) (by decide)) (aS ⟨⟨k+1,by dsimp only;rw[bK]<;>omega,by omega,?_,?_⟩,?_⟩)
     . rw[pI hkl];intro c hc';rcases fN.1 hc' with h'|h'
       . exact hR c h'
       . rw[cL.1 h'];exact hr.1 (by simpa using h)
     . rw[pI hkl];exact hS.snoc ha
     . show l.length-(iw ((k:Int)+1)).toNat<l.length-((k:Int)).toNat;rw[bK]<;>omega
 . rw[fh (by omega)]at hR hS;exact .inl ⟨hR,hS⟩
theorem TA{l:List Constraint}{n:Int}(hc:∀c∈l,nR c)(hl:l.length<=1000):Tm (fun N=>xA N l n) (pM l n):=by
 unfold xA;refine Tm.bind (Tm.loop (fun s:List bB×Int=>∃k:Nat,s.2=k/\k<=l.length/\(∀c∈l.take k,fI c n)/\kr n (l.take k) s.1) (fun s=>l.length-s.2.toNat)
  (Q:=fun r=>pM l n (match r with|.inl a=>a|.inr a=>a)) ⟨0,rfl,fy _,by simp,rfl⟩ ?_) (fun r h=>by cases r<;>exact aS h)
 rintro⟨out,i⟩ ⟨k,rfl,hk,hR,hS⟩;dsimp only[Cd]at*;refine aY (fun h1=>?_) (fun h1=>aS ?_)
 . have hkl:k<l.length:=by omega
   have hck:=hc _ (du hkl);refine aN (de hkl) (Tm.bind (DG hck.len) ?_);intro r hr;refine aY (fun h=>aS (.inr ⟨fun e=>?_,rfl⟩)) (fun h=>aN (de hkl) (Tm.bind (Qq hck) ?_))
   . rw[hr.2 (e _ (du hkl))]at h;cases h
   . intro a ha;have h2:=hS.ok (fun c h=>hc c (ta h));have h3:=ha.ok hck;have h4:(l.take k).length<=1000:=by simp;omega
     refine aN (dQ (by omega) (by decide)) (aS ⟨⟨k+1,by dsimp only;rw[bK]<;>omega,by omega,?_,?_⟩,?_⟩)
     . rw[pI hkl];intro c hc';rcases fN.1 hc' with h'|h'
       . exact hR c h'
       . rw[cL.1 h'];exact hr.1 (by simpa using h)
     . rw[pI hkl];exact hS.snoc ha
     . show l.length-(iw ((k:Int)+1)).toNat<l.length-((k:Int)).toNat;rw[bK]<;>omega
 . rw[fh (by omega)]at hR hS;exact .inl ⟨hR,hS⟩
open Go Go.X
def nz(vs xs:List Int):Nat->Int
 |0=>0
 |n+1=>nz vs xs n+vs.getD n 0*xs.getD n 0
theorem IE{l xs:List Int}{v:Nat}{y:Int}(hv:v<l.length):∀n,nz (l.set v y) xs n=nz l xs n+(if v<n then(y-l.getD v 0)*xs.getD v 0 else 0)
 |0=>by simp[nz]
 |n+1=>by
  rw[nz,nz,IE hv n];rcases MN v n with h|h|h
  . have:(l.set v y).getD n 0=l.getD n 0:=by rw[cy,cy,vF (by omega)]
    rw[this,if_pos h,if_pos (by omega)];grind
  . subst h;have:(l.set v y).getD v 0=y:=by rw[cy,yf hv];rfl
    rw[this,if_neg (by omega),if_pos (by omega)];grind
  . have:(l.set v y).getD n 0=l.getD n 0:=by rw[cy,cy,vF (by omega)]
    rw[this,if_neg (by omega),if_neg (by omega)];grind
theorem KI{xs:List Int}{m:Nat}:∀n,nz (List.replicate m 0) xs n=0
 |0=>rfl
 |n+1=>by
  rw[nz,KI n];have:(List.replicate m (0:Int)).getD n 0=0:=by
   rcases cv n m with hn|hn
   . rw[fQ (by simpa using hn)];simp
   . rw[mj (by simpa using hn)]
  rw[this];simp
theorem Mg{c:Constraint}{n:Int}(h:fI c n):∀{i k:Nat},(hik:i<k)->(hk:k<c.Linear.aZ.length)->(c.Linear.aZ[i]'(by omega)).Var<c.Linear.aZ[k].Var:=by
 intro i k
 induction k with
 |zero=>intro h;omega
 |succ k ih=>
  intro hik hk;have h1:=(h.1 (k+1) hk).2.2 (by omega);simp only[Ms]at h1;rcases cv i k with h2|h2
  . have:=ih h2 (by omega);omega
  . obtain rfl:i=k:=by omega
    exact h1
theorem Ss{c:Constraint}{n:Int}(h:fI c n):(c.Linear.aZ.length:Int)<=n:=by
 have key:∀k,(hk:k<c.Linear.aZ.length)->(k:Int)<=c.Linear.aZ[k].Var:=by
  intro k
  induction k with
  |zero=>intro hk;have:=(h.1 0 hk).1;omega
  |succ k ih=>intro hk;have:=ih (by omega);have:=Mg h (show k<k+1 by omega) hk;omega
 rcases gv c.Linear.aZ.length with h0|h0
 . have:=h.2;omega
 . have h1:=key (c.Linear.aZ.length-1) (by omega);have h2:=(h.1 (c.Linear.aZ.length-1) (by omega)).2.1;omega
theorem To{c:Constraint}{n:Int}(h:fI c n){k:Nat}(hk:k<=c.Linear.aZ.length){j:Nat}(hj:∀i,(hi:i<k)->(c.Linear.aZ[i]'(by omega)).Var≠j):(fP c n k).getD j 0=0:=by
 induction k with
 |zero=>
  simp only[fP,MG,MH];rcases cv j n.toNat with hn|hn
  . rw[fQ (by simpa using hn)];simp
  . rw[mj (by simpa using hn)]
 |succ k ih=>
  rw[xv (by omega),pT,cy,vF]
  . rw[<-cy];exact ih (by omega) (fun i hi=>hj i (by omega))
  . have h1:=hj k (by omega);have h2:=(h.1 k (by omega)).1;omega
def pU(c:Constraint)(x:List Int):Nat->Int
 |0=>0
 |k+1=>pU c x k+(c.Linear.aZ.getD k ⟨0,0⟩).N*x.getD (c.Linear.aZ.getD k ⟨0,0⟩).Var.toNat 0
theorem getDc{l:List jN}{n:Nat}(h:n<l.length):l.getD n ⟨0,0⟩=l[n]:=by rw[cy,bV h];rfl
theorem PC{c:Constraint}{x:List Int}(h:fI c x.length):∀{k:Nat},k<=c.Linear.aZ.length->nz (fP c x.length k) x x.length=pU c x k:=by
 intro k
 induction k with
 |zero=>intro _;simp only[fP,MG,MH];rw[KI];rfl
 |succ k ih=>
  intro hk;have hv:=h.1 k (by omega);have hz:(fP c x.length k).getD c.Linear.aZ[k].Var.toNat 0=0:=To h (by omega) (fun i hi=>by have:=Mg h hi (by omega);omega);rw[xv (by omega),pT,IE (by rw[qS];omega),ih (by omega),if_pos (by omega),hz,pU,getDc (by omega)];grind
open Go Go.X
theorem jB.abs{K:Nat}{x:aB}(h:jB K x):((bv x).natAbs:Int)<aC^K:=by
 have h0:=gx (B:=aC) (by decide) h.1;have h1:=gY (B:=aC) (by decide) h.1;have h2:=j9 (B:=aC) (by decide) h.2;unfold bv;split<;>omega
theorem Pm{K:Nat}{l:List bB}{s:Step}(hK:K<=536870912)(hl:l.length<=1073741824)(hq:∀q∈l,qE K q)(hs:OkS s):Tm (fun N=>xT N l s) (fun r=>mL l s r):=by
 unfold xT;refine Tm.bind (Q:=(·=decide (¬(lL l/\0<bv s.fX)))) (Tm.bind (Fu (by omega)) ?_) ?_
 . rintro _ rfl;refine aY (fun h=>aS ?_) (fun h=>?_)
   . have:¬lL l:=by simpa using h
     simp[this]
   . have he:lL l:=by simpa using h
     refine Tm.bind (nZ hs.div.1 (by have:=hs.div.2;omega)) ?_;rintro _ rfl;refine aS ?_;have:=Qe (a:=bv s.fX);by_cases h1:0<bv s.fX
     . have h2:=this.2 h1;simp[he,h1];omega
     . have h2:¬0<bM (bv s.fX) 0:=fun e=>h1 (this.1 e);simp[h1];omega
 rintro _ rfl;refine aY (fun h=>aS ?_) (fun h=>?_)
 . unfold mL;rw[if_neg (of_decide_eq_true h)]
 . have hc:lL l/\0<bv s.fX:=by simpa using h
   obtain⟨he,hd⟩:=hc;have hn:nV l<=K:=by
    rcases gv l.length with h0|h0
    . have:l=[]:=me.1 h0;subst this;simp[nV]
    . exact(hq _ (Fc h0)).1
   refine Tm.bind (Q:=(·=(nV l:Int))) (aY (fun h1=>aN (DT (n:=0) rfl (by omega)) (aS rfl)) (fun h1=>aS ?_)) ?_
   . have:l=[]:=me.1 (by omega);subst this;simp[nV]
   rintro _ rfl;refine Tm.bind (Q:=(·=⟨List.replicate (nV l) eN,eN⟩)) (by unfold uK;exact aN (gW rfl (by omega) (by decide)) (aS rfl)) ?_;rintro _ rfl;dsimp only;refine Tm.bind (Q:=fun r:Sum (List aB×Bool×List Int) (bB×Bool)=>(∃f c neg ds,r=.inl (c,neg,ds)/\lT l s.Uses (fun _=>0,0)=some (f,bv ⟨neg,ds⟩)/\iG (nV l) c f/\(∀j,j<nV l->(c.getD j eN).aP.length<=K+16)/\jB (K+16) ⟨neg,ds⟩)\/(r=.inr (k7,false)/\lT l s.Uses (fun _=>0,0)=none))
    (Tm.loop (fun t:List aB×Bool×List Int×Int=>∃(k:Nat) (f:Nat->Int),t.2.2.2=k/\k<=s.Uses.length/\lT l s.Uses (fun _=>0,0)=lT l (s.Uses.drop k) (f,bv ⟨t.2.1,t.2.2.1⟩)/\iG (nV l) t.1 f/\(∀j,j<nV l->(t.1.getD j eN).aP.length<=K+4+k)/\jB (K+4+k) ⟨t.2.1,t.2.2.1⟩) (fun t=>s.Uses.length-t.2.2.2.toNat)
     ⟨0,fun _=>0,rfl,fy _,by rw[lC,Oc],iG.dd,fun j hj=>by rw[rm (by simpa using hj)];simp,.nil⟩ ?_) ?_
   . rintro⟨c,neg,ds,kk⟩ ⟨k,f,rfl,hk,hsum,hcf,hcl,hb⟩;have hlen:=hs.len;dsimp only[D9]at*;refine aY (fun h1=>?_) (fun h1=>aS ?_)
     . have hku:k<s.Uses.length:=by omega
       refine aN (de hku) ?_;have hu:=hs.use _ (du hku);rw[drop_cons hku]at hsum;generalize s.Uses[k]=u at*;simp only[lT]at hsum;refine Tm.bind (Q:=(·=decide (mw l u))) (aY (fun h2=>aS ?_) (fun h2=>aY (fun h3=>aS ?_) (fun h3=>?_))) ?_
       . have:mw l u:=.inl h2;simp[this]
       . have:mw l u:=.inr (.inl (by omega));simp[this]
       . refine Tm.bind (nZ hu.1 (by have:=hu.2;omega)) ?_;rintro _ rfl;refine aS ?_;have:=AX (a:=bv u.N);unfold mw;by_cases h4:bv u.N<0
         . simp[h4,this.2 h4]
         . have:¬bM (bv u.N) 0<0:=fun e=>h4 (this.1 e);simp[h4,this];omega
       rintro _ rfl;refine aY (fun h2=>aS ?_) (fun h2=>?_)
       . rw[if_pos (of_decide_eq_true h2)]at hsum;exact .inr ⟨rfl,hsum⟩
       . have hbu:¬mw l u:=by simpa using h2
         rw[if_neg hbu]at hsum;have hi:0<=u.Index/\u.Index<l.length/\0<=bv u.N:=by unfold mw at hbu;omega
         have hii:u.Index=(u.Index.toNat:Int):=by omega
         have hil:u.Index.toNat<l.length:=by omega
         refine aN (DT hii hil) ?_;have hqq:=hq _ (Fc hil);have hqn:=he.get hil;generalize hQ:l.getD u.Index.toNat k7=q at*;have hu4:=hu.2;have hqb:=hqq.2.2.2;have inner:=Js (ρ:=List aB) (body:=fun N=>wQ N (nV l:Int) u q) (fin:=fun c=>c) (bad:=[]) (n:=nV l) (K:=K+4+k) (K':=K+4+(k+1)) (f:=f) (g:=fun j=>f j+bv u.N*bv (q.aZ.getD j eN)) (F:=fun _=>False) (c0:=c) (by omega) hcf hcl
          (fun j hj c' hc' h3 h4=>by
           dsimp only[wQ];have hqj:=hqq.2.1 _ (II (l:=q.aZ) (n:=j) (by omega));have:=hqj.2;refine cY (by omega) (aN (vd rfl (by omega)) (aN (vd rfl (by omega)) (Tm.bind (DV hqj.1 hu.1 (by omega) (by omega)) ?_)));rintro m ⟨hm,hml⟩;refine Tm.bind (wy h3.dg.bL hm.dg.bL (by omega) (by omega)) ?_;rintro a ⟨ha,hal⟩;refine aN (vd rfl (by omega)) (aN (ed rfl (by omega)) (aS (.inl ⟨a,rfl,?_,by omega,fun e=>e⟩)));rw[h3.bv,hm.bv,fE]at ha;exact ha)
          (fun c' hc'=>by dsimp only[wQ];exact cz (by omega) (aS rfl))
         refine Tm.bind inner ?_;rintro c2 (⟨_,rfl,hc2,hc2l,-⟩|⟨-,j,hj,hF⟩)
         . refine Tm.bind (DV hqq.2.2.1 hu.1 (by omega) (by omega)) ?_;rintro m ⟨hm,hml⟩;have hb2:ds.length<=K+4+k:=hb.2;refine Tm.bind (wy hb.1 hm.dg.bL (show ds.length<=_ by omega) (by omega)) ?_;rintro a ⟨ha,hal⟩;dsimp only at hal;refine aS ⟨⟨k+1,_,by show iw ((k:Int)+1)=_;rw[bK]<;>omega,by omega,?_,hc2,hc2l,ha.ok ?_⟩,?_⟩
           . show lT l s.Uses (fun _=>0,0)=lT l (s.Uses.drop (k+1)) (_,bv a);rw[ha.bv,hm.bv,hsum,fE (bv q.dw)];unfold wC;rw[hQ]
           . omega
           . show s.Uses.length-(iw ((k:Int)+1)).toNat<s.Uses.length-((k:Int)).toNat;rw[bK]<;>omega
         . exact hF.elim
     . have hkL:k=s.Uses.length:=by omega
       subst hkL;rw[B4]at hsum;exact .inl ⟨f,c,neg,ds,rfl,hsum,hcf,fun j hj=>by have:=hcl j hj;omega,hb.mono (by omega)⟩
   . rintro _ (⟨f,c,neg,ds,rfl,hsum,hcf,hcl,hb⟩|⟨rfl,hsum⟩)
     . dsimp only;have hb2:ds.length<=K+16:=hb.2;have hdv:=hs.div.2;have inner:=Js (ρ:=Sum (List aB) (bB×Bool)) (body:=fun N=>w7 N s (nV l:Int)) (fin:=fun c=>.inl c) (bad:=.inr (k7,false)) (n:=nV l) (K:=K+16) (K':=K+20) (f:=f) (g:=fun j=>f j/bv s.fX) (F:=fun j=>¬f j%bv s.fX=0) (c0:=c) (by omega) hcf hcl
        (fun j hj c' hc' h3 h4=>by
         dsimp only[w7];refine cY (by have:=hcf.1;omega) (aN (vd rfl (by omega)) (Tm.bind (J0 h3.dg.bL hs.div.1 (by omega) (by omega)) ?_));rintro⟨qq,rr,oo⟩ hD;have hquo:=hD.quo;have hrem:=hD.rem;dsimp only at hquo hrem;rw[h3.bv,jo _ (by omega)]at hquo;rw[h3.bv,if_neg (by omega),Gd _ (by omega)]at hrem;have hrl:=hrem.len (k:=4) (by have:=hs.div.abs;have m0:=mg (f j) (show bv s.fX≠0 by omega);have m1:=mh (f j) hd;omega);have hql:=hquo.len (k:=K+16) (by have:=(h3.ok h4).abs;rw[h3.bv]at this;have:=Int.natAbs_ediv_le_natAbs (f j) (bv s.fX);omega);refine Tm.bind (nZ hrem.dg.bL (show rr.aP.length<=_ by omega)) ?_;rintro _ rfl;rw[hrem.bv];refine aY (fun h5=>aS (.inr ⟨rfl,fun e=>h5 (Az.2 e)⟩)) (fun h5=>?_);refine aN (vd rfl (by omega)) (aN (ed rfl (by omega)) (aS (.inl ⟨qq,rfl,hquo,by omega,fun e=>e (Az.1 (by omega))⟩))))
        (fun c' hc'=>by dsimp only[w7];exact cz (by have:=hcf.1;omega) (aS rfl))
       refine Tm.bind inner ?_;rintro _ (⟨c2,rfl,hc2,hc2l,hall⟩|⟨rfl,j,hj,hF⟩)
       . refine Tm.bind (J0 hb.1 hs.div.1 (show ds.length<=_ by omega) (by omega)) ?_;rintro⟨qq,rr,oo⟩ hD;have hquo:=hD.quo;dsimp only at hquo;rw[jo _ (by omega)]at hquo;refine aS ?_;unfold mL;rw[if_pos ⟨he,hd⟩,hsum];dsimp only;rw[if_pos (fun j hj=>th.1 (hall j hj))];exact⟨rfl,hc2,hquo⟩
       . refine aS ?_;unfold mL;rw[if_pos ⟨he,hd⟩,hsum];dsimp only;rw[if_neg (fun h=>hF (h j hj))]
     . refine aS ?_;unfold mL;rw[if_pos ⟨he,hd⟩,hsum]
open Go Go.X
def pW(n:Nat):List Int:=if h:n=0 then[]else((n%4294967296:Nat):Int)::pW (n/4294967296)
termination_by n
decreasing_by omega
theorem QI(n:Nat):Dg aC (pW n) n:=by
 induction n using Nat.strongRecOn with
 |ind n ih=>
  rw[pW];split
  . rename_i h;subst h;exact Dg.nil
  . rename_i h;have h1:=ih (n/4294967296) (by omega);refine⟨h1.bL.cons ⟨by omega,by show((n%4294967296:Nat):Int)<4294967296;omega⟩,?_,?_⟩
    . unfold fJ;cases hd:pW (n/4294967296)with
      |nil=>
       have:n/4294967296=0:=by have:=(h1.zero (by decide)).1 hd;omega
       simp;omega
      |cons x r=>rw[Uu,<-hd];exact h1.e9
    . rw[ra,h1.val];show((n%4294967296:Nat):Int)+4294967296*((n/4294967296:Nat):Int)=n;omega
def B(v:Int):aB:=⟨decide (v<0),pW v.natAbs⟩
theorem mz(v:Int):Is (B v) v:=⟨QI _,rfl⟩
theorem pS{x:aB}{v:Int}(h:Is x v):x=B v:=h.uniq (mz v)
theorem gB(v:Int):bv (B v)=v:=(mz v).bv
theorem bL(v:Int):bA aC (B v).aP:=(mz v).dg.bL
theorem B0:B 0=⟨false,[]⟩:=by unfold B;rw[show(0:Int).natAbs=0 from rfl,pW];rfl
def dl(v:Int):Nat:=(B v).aP.length
theorem okB{v:Int}{K:Nat}(h:dl v<=K):jB K (B v):=⟨bL v,h⟩
theorem sx{v:Int}{k:Nat}(h:(v.natAbs:Int)<aC^k):dl v<=k:=(mz v).len h
theorem u5(v:Int):(v.natAbs:Int)<aC^dl v:=by have:=(okB (v:=v) (bI _)).abs;rwa[gB]at this
theorem sb{a b:Int}(h:a.natAbs<=b.natAbs):dl a<=dl b:=sx (by have:=u5 b;omega)
theorem Du{m n:Nat}(h:m<=n):aC^m<=aC^n:=j9 (by decide) h
theorem oK{a b:Int}{K:Nat}(ha:dl a<=K)(hb:dl b<=K):dl (a+b)<=K+1:=by
 apply sx;have h1:=u5 a;have h2:=u5 b;have h3:=Du ha;have h4:=Du hb;rw[fi];have h5:=kC (B:=aC) (by decide) K;have h6:aC^K*2<=aC^K*aC:=gg (by decide) (dZ h5);omega
theorem fR(a:Int):dl (-a)=dl a:=Nat.le_antisymm (sb (by omega)) (sb (by omega))
theorem jG{a b:Int}{K:Nat}(ha:dl a<=K)(hb:dl b<=K):dl (a-b)<=K+1:=by
 rw[F5];exact oK ha (by rw[fR];exact hb)
theorem j5(a b:Int):dl (a*b)<=dl a+dl b:=by
 apply sx;have h1:=u5 a;have h2:=u5 b;rw[yr,FU,jE];exact Int.mul_lt_mul' (dZ h1) h2 (by omega) (by omega)
theorem ie:dl 0=0:=by unfold dl;rw[B0];rfl
theorem j2{a:Int}(h:a.natAbs<4294967296):dl a<=1:=sx (by show(a.natAbs:Int)<4294967296^1;omega)
theorem Dl{a:Int}(h:a.natAbs<18446744073709551616):dl a<=2:=sx (by show(a.natAbs:Int)<4294967296^2;omega)
theorem jt:dl 1<=1:=j2 (by decide)
theorem Gv{a b:Int}:(a.fdiv b).natAbs<=a.natAbs:=by
 rcases tj b 0 with h|h|h
 . have e:a.fdiv b=(-a).fdiv (-b):=(Gb a b).symm;rw[e,jo _ (by omega)];have h1:0< -b:=by omega
   generalize-b=c at h1;have h2:=jF (-a) c;have h3:=mg (-a) (show c≠0 by omega);have h4:=mh (-a) h1;generalize(-a)/c=q at*;generalize(-a)%c=r at*;rcases qO q 0 with hq|hq
   . have:=fj (show(1:Int)<=c by omega) (show 0≤-q by omega);have e2:c*-q=-(c*q):=by grind
     have:c+c*q<=0:=by
      have:=gg (show q≤-1 by omega) (show 0<=c by omega);omega
     have h7:(c-1)*(-q-1)≥0:=eH (by omega) (by omega);have e3:(c-1)*(-q-1)=-(c*q)-c+q+1:=by grind
     omega
   . have:=fj (show(1:Int)<=c by omega) hq;omega
 . subst h;rw[MM];omega
 . rw[jo _ (by omega)];have h2:=jF a b;have h3:=mg a (show b≠0 by omega);have h4:=mh a h;generalize a/b=q at*;generalize a%b=r at*;rcases qO q 0 with hq|hq
   . have:b+b*q<=0:=by
      have:=gg (show q≤-1 by omega) (show 0<=b by omega);omega
     have h7:(b-1)*(-q-1)≥0:=eH (by omega) (by omega);have e3:(b-1)*(-q-1)=-(b*q)-b+q+1:=by grind
     omega
   . have:=fj (show(1:Int)<=b by omega) hq;omega
theorem rE(a b:Int):dl (a.fdiv b)<=dl a:=sb Gv
theorem EE{a b:Int}(h:0<=b):dl (a/b)<=dl a:=by rw[<-jo a h];exact rE a b
abbrev cX:Nat:=1099511627776
section
variable {a b:Int}
theorem mC(ha:dl a<=cX)(hb:dl b<=cX):Tm (fun N=>iV N (B a) (B b)) (·=B (a+b)):=
 (LM (bL a) (bL b) (bO ha (by decide)) (bO hb (by decide))).mono fun r h=>by rw[gB,gB]at h;exact pS h.1
theorem l6(ha:dl a<=cX)(hb:dl b<=cX):Tm (fun N=>iS N (B a) (B b)) (·=B (a-b)):=
 (TX (bL a) (bL b) (bO ha (by decide)) (bO hb (by decide))).mono fun r h=>by rw[gB,gB]at h;exact pS h.1
theorem nB(ha:dl a<=cX)(hb:dl b<=cX):Tm (fun N=>j7 N (B a) (B b)) (·=B (a*b)):=
 (PA (bL a) (bL b) (bO ha (by decide)) (bO hb (by decide))).mono fun r h=>by rw[gB,gB]at h;exact pS h.1
theorem nu(ha:dl a<=cX):Tm (fun N=>jd N (B a)) (·=B (-a)):=
 (zy (bL a) (bO ha (by decide))).mono fun r h=>by rw[gB]at h;exact pS h.1
theorem jg(ha:dl a<=cX):Tm (fun N=>gC N (B a)) (·=bM a 0):=
 (QK (bL a) (bO ha (by decide))).mono fun r h=>by rw[gB]at h;exact h
theorem kg(ha:dl a<=cX)(hb:dl b<=cX):Tm (fun N=>iz N (B a) (B b)) (·=bM a b):=
 (NQ (bL a) (bL b) (bO ha (by decide)) (bO hb (by decide))).mono fun r h=>by rw[gB,gB]at h;exact h
theorem qx(ha:dl a<=cX)(hb:dl b<=cX):Tm (fun N=>kx N (B a) (B b)) (fun r=>r.1=B (a.fdiv b)):=
 (QO (bL a) (bL b) (bO ha (by decide)) (bO hb (by decide))).mono fun r h=>by have:=h.1.quo;rw[gB,gB]at this;exact pS this
theorem jH{n:Int}(h1:-9223372036854775808<=n)(h2:n<=9223372036854775807):Tm (fun N=>fK N n) (·=B n):=(Ao h1 h2).mono fun r h=>pS h.1
end
theorem SM{x y:Int}(hx:0<=x)(hy:0<=y):Nat.gcd y.toNat (x%y).toNat=Nat.gcd x.toNat y.toNat:=by
 obtain⟨m,rfl⟩:=qP hx;obtain⟨n,rfl⟩:=qP hy;rw[<-Int.natCast_emod,mc,mc,mc,Nat.gcd_comm n,<-Nat.gcd_rec,Nat.gcd_comm]
def gOf(a b:aB):Nat:=Nat.gcd (val aC a.aP).toNat (val aC b.aP).toNat
theorem NV{a b:aB}{K:Nat}(hK:K<=cX)(ha:bA aC a.aP)(hb:bA aC b.aP)(la:a.aP.length<=K)(lb:b.aP.length<=K):
 Tm (fun N=>vA N a b) (fun r=>Is r (gOf a b:Int)):=by
 have hL:cX=1099511627776:=rfl;unfold vA;refine Tm.bind (oz ha (by omega)) (fun x ⟨hx,lx⟩=>Tm.bind (oz hb (by omega)) (fun y ⟨hy,ly⟩=>?_));refine Tm.bind (Tm.loop (fun s:List Int×List Int=>bA aC s.1/\fJ s.1/\s.1.length<=K/\bA aC s.2/\fJ s.2/\s.2.length<=K/\Nat.gcd (val aC s.1).toNat (val aC s.2).toNat=gOf a b) (fun s=>(val aC s.2).toNat)
  (Q:=fun r=>bA aC r/\r.length<=K/\val aC r=gOf a b) ⟨hx.bL,hx.e9,by show x.length<=K;omega,hy.bL,hy.e9,by show y.length<=K;omega,by rw[hx.val,hy.val];rfl⟩ ?_) ?_
 . rintro⟨u,v⟩ ⟨u1,u2,u3,v1,v2,v3,hg⟩;dsimp only[ES]at*;refine aY (fun h=>?_) (fun h=>aS ?_)
   . have hv0:v≠[]:=fun e=>by rw[e]at h;simp at h
     have hvp:=xe (B:=aC) (by decide) v1 v2 hv0;have hup:=gx (B:=aC) (by decide) u1;refine Tm.bind (HZ u1 v1 u2 v2 (by omega) (by omega) (by omega)) (fun r ⟨_,hr,_,_⟩=>aS ?_);have hm:=hr.val;have h1:=mh (val aC u) hvp;have h2:=mg (val aC u) (show val aC v≠0 by omega);have h3:=gY (B:=aC) (by decide) v1;have hlen:r.2.length<=v.length:=Fw mn hr.bL hr.e9 (by rw[hm];omega);exact⟨⟨v1,v2,v3,hr.bL,hr.e9,by show r.2.length<=K;omega,by rw[hm,SM hup (dZ hvp)];exact hg⟩,by show(val aC r.2).toNat<(val aC v).toNat;rw[hm];omega⟩
   . have hv0:v=[]:=me.1 (by omega);have hup:=gx (B:=aC) (by decide) u1;rw[hv0]at hg;refine⟨u1,u3,?_⟩;rw[<-hg];simp[val];omega
 . rintro r ⟨r1,r2,r3⟩;refine Tm.bind (lP (neg:=false) r1 (by omega)) (fun z ⟨hz,lz⟩=>aS ?_);rw[<-r3];exact hz
theorem gOf_B(a b:Int):gOf (B a) (B b)=Int.gcd a b:=by
 unfold gOf Int.gcd;rw[(mz a).dg.val,(mz b).dg.val,mc,mc]
theorem tmGcd{a b:Int}(ha:dl a<=cX)(hb:dl b<=cX):Tm (fun N=>vA N (B a) (B b)) (·=B (Int.gcd a b)):=
 (NV (bI _) (bL a) (bL b) ha hb).mono fun r h=>by rw[gOf_B]at h;exact pS h
open Go Go.X
def Ek(N:Nat)(f:Linear)(x:(List aB)):(aB×Int)->Option (aK (aB×Int) aB)
 |(b,a)=>(if(a:Int)<(List.length f.aZ:Int)then (idx f.aZ a).bind fun c=>(lr N c.N).bind fun d=>(idx f.aZ a).bind fun e=>(idx x e.Var).bind fun g=>(rW N d g).bind fun i=>(oS N b i).bind fun j=>some (aK.next (j,(iw (a+1)))) else some (aK.done b))
def xE(N:Nat)(f:Linear)(x:(List aB)):Option aB:=(lr N f.Const).bind fun a=>(bJ (Ek N f x) N (a,0)).bind fun ss=>match ss with
  |b=>some b
def wA(N:Nat)(l:(List Constraint))(x:(List aB)):Int->Option (aK Int (Sum Unit Bool))
 |a=>(if(a:Int)<(List.length l:Int)then (idx l a).bind fun c=>(xE N c.Linear x).bind fun d=>(kE N d).bind fun b=>(((if(b:Int)>0 then some true else (if(b:Int)<0 then (idx l a).bind fun e=>some e.iA else some false)):Option Bool)).bind fun ss=>match ss with
    |f=>(if f=true then some (aK.done (Sum.inr false)) else some (aK.next (iw (a+1)))) else some (aK.done (Sum.inl ())))
def ve(N:Nat)(l:(List Constraint))(x:(List aB)):Option Bool:=(bJ (wA N l x) N 0).bind fun ss=>match ss with
  |(Sum.inl _)=>some true
  |(Sum.inr a)=>some a
def we(N:Nat)(l:(List Constraint))(n:Int):Int->Option (aK Int (Sum Unit Bool))
 |a=>(if(a:Int)<(List.length l:Int)then (idx l a).bind fun b=>(ri N b n).bind fun c=>(if(!c)=true then some (aK.done (Sum.inr false)) else some (aK.next (iw (a+1)))) else some (aK.done (Sum.inl ())))
def xL(N:Nat)(n:Int)(l:(List Constraint)):Option Bool:=(bJ (we N l n) N 0).bind fun ss=>match ss with
  |(Sum.inl _)=>(if(n:Int)≥0 then some (decide ((n:Int)<=512)) else some false)
  |(Sum.inr a)=>some a
def wq(N:Nat)(most:Int)(b:Constraint):Int->Option (aK Int (Sum Unit Bool))
 |a=>(if(a:Int)<(List.length b.Linear.aZ:Int)then (((idx b.Linear.aZ a).bind fun c=>(if(c.N:Int)>most then some true else (idx b.Linear.aZ a).bind fun d=>some (decide ((d.N:Int)<(iw (0-most))))):Option Bool)).bind fun ss=>match ss with
    |e=>(if e=true then some (aK.done (Sum.inr false)) else some (aK.next (iw (a+1)))) else some (aK.done (Sum.inl ())))
def vN(N:Nat)(l:(List Constraint))(most:Int):Int->Option (aK Int (Sum Unit Bool))
 |a=>(if(a:Int)<(List.length l:Int)then (idx l a).bind fun b=>(((if(b.Linear.Const:Int)>1000000 then some true else some (decide ((b.Linear.Const:Int)<(-1000000)))):Option Bool)).bind fun ss=>match ss with
    |c=>(if c=true then some (aK.done (Sum.inr false)) else (bJ (wq N most b) N 0).bind fun ss=>match ss with
       |(Sum.inl _)=>some (aK.next (iw (a+1)))
       |(Sum.inr d)=>some (aK.done (Sum.inr d))) else some (aK.done (Sum.inl ())))
def xb(N:Nat)(n:Int)(l:(List Constraint))(most:Int):Option Bool:=(bJ (vN N l most) N 0).bind fun ss=>match ss with
  |(Sum.inl _)=>(if(n:Int)<=4 then (if((List.length l:Int):Int)<=6 then (xL N n l).bind fun a=>some a else some false) else some false)
  |(Sum.inr b)=>some b
def qV(N:Nat)(n:Int)(l:(List Constraint))(p:Proof):Option Bool:=(xA N l n).bind fun r6=>(rM N r6 p).bind fun a=>some a
open Go Go.X
def nI(N:Nat)(s:(List aB)):Option (List aB):=(cS 32 ([]:(List aB)) s).bind fun a=>some a
def qI(N:Nat)(s:(List aX)):Option (List aX):=(cS 32 ([]:(List aX)) s).bind fun a=>some a
def BF(N:Nat)(s:(List (List aB))):Option (List (List aB)):=(cS 24 ([]:(List (List aB))) s).bind fun a=>some a
def yH(N:Nat)(s:(List Int)):Option (List Int):=(cS 8 ([]:(List Int)) s).bind fun a=>some a
def Cr(N:Nat)(s:(List Step)):Option (List Step):= some s
def Da(N:Nat)(s:(List dI)):Option (List dI):= some s
def xJ(N:Nat)(f:(aX->Option Bool))(s:(List aX)):Int->Option (aK Int (Sum Unit Int))
 |a=>(if(a:Int)<(List.length s:Int)then (idx s a).bind fun b=>(f b).bind fun c=>(if c=true then some (aK.done (Sum.inr a)) else some (aK.next (iw (a+1)))) else some (aK.done (Sum.inl ())))
def tw(N:Nat)(s:(List aX))(f:(aX->Option Bool)):Option Int:=(bJ (xJ N f s) N 0).bind fun ss=>match ss with
  |(Sum.inl _)=>some (-1)
  |(Sum.inr a)=>some a
def Ad(N:Nat)(s:(List aX))(f:(aX->Option Bool)):Option Bool:=(tw N s f).bind fun r1=>some (decide ((r1:Int)≥0))
def wj(N:Nat)(eq:(aB->aB->Option Bool))(pb:(List aB))(s:(List aB)):Int->Option (aK Int (Sum Unit Bool))
 |a=>(if(a:Int)<(List.length s:Int)then (idx s a).bind fun b=>(idx pb a).bind fun c=>(eq b c).bind fun d=>(if(!d)=true then some (aK.done (Sum.inr false)) else some (aK.next (iw (a+1)))) else some (aK.done (Sum.inl ())))
def vO(N:Nat)(s:(List aB))(pb:(List aB))(eq:(aB->aB->Option Bool)):Option Bool:=(if((List.length s:Int):Int)≠(List.length pb:Int)then some false else (bJ (wj N eq pb s) N 0).bind fun ss=>match ss with
   |(Sum.inl _)=>some true
   |(Sum.inr a)=>some a)
def CA(N:Nat)(del:(aX->Option Bool)):((List aX)×Int×Int)->Option (aK ((List aX)×Int×Int) ((List aX)×Int))
 |(a,b,c)=>(if(c:Int)<(List.length a:Int)then ((((idx a c).bind fun d=>(del d).bind fun e=>(if(!e)=true then (idx a b).bind fun j=>(di a b d).bind fun f=>some (f,(iw (b+1))) else some (a,b))):Option ((List aX)×Int))).bind fun ss=>match ss with
    |(g,i)=>some (aK.next (g,i,(iw (c+1)))) else some (aK.done (a,b)))
def ye(N:Nat)(s:(List aX))(del:(aX->Option Bool)):Option (List aX):=(tw N s del).bind fun r1=>(if(r1:Int)=(-1)then some s else (bJ (CA N del) N (s,r1,(iw (r1+1)))).bind fun ss=>match ss with
   |(a,b)=>(ns a b (List.length a:Int)).bind fun _=>(cut (qj a b (List.length a:Int) (aX.mk 0 ([]:(List aB)))) 0 b).bind fun c=>some c)
def yQ(N:Nat)(n:Int):Option (List aX):=(if(n:Int)<0 then none else ((((if((iw (n-(iw (0-0)))):Int)>0 then (cS 32 [] (List.replicate (Int.toNat (iw (n-(iw (0-0))))) ((aX.mk 0 ([]:(List aB))):aX))).bind fun a=>(cut a 0 0).bind fun b=>some b else some ([]:(List aX)))):Option (List aX))).bind fun ss=>match ss with
   |s8=>some s8)
def xh(N:Nat)(slices:(List (List aX))):(Int×Int)->Option (aK (Int×Int) Int)
 |(a,b)=>(if(b:Int)<(List.length slices:Int)then (idx slices b).bind fun c=>(if((iw (a+(List.length c:Int))):Int)<0 then none else some (aK.next ((iw (a+(List.length c:Int))),(iw (b+1))))) else some (aK.done a))
def wT(N:Nat)(slices:(List (List aX))):((List aX)×Int)->Option (aK ((List aX)×Int) (List aX))
 |(b,a)=>(if(a:Int)<(List.length slices:Int)then (idx slices a).bind fun c=>(cS 32 b c).bind fun d=>some (aK.next (d,(iw (a+1)))) else some (aK.done b))
def tA(N:Nat)(slices:(List (List aX))):Option (List aX):=(bJ (xh N slices) N (0,0)).bind fun ss=>match ss with
  |a=>(yQ N a).bind fun b=>(bJ (wT N slices) N (b,0)).bind fun ss=>match ss with
    |c=>some c
end Go.D

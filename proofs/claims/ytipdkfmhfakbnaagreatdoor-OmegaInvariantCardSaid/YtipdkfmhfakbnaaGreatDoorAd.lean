/- Plain theorems and definitions of this seat, several texts in one. -/
import Derived.Test.YtipdkfmhfakbnaaGreatDoorAa
import Derived.Lib.Repeat
import Derived.Lib.Join
import Derived.Lib.Strings
import Derived.Lib.ItoaNum
import Derived.Test.YtipdkfmhfakbnaaGreatDoorProg
import Derived.Test.YtipdkfmhfakbnaaGreatDoorAc
import Derived.Lib.AppendIntMem
set_option linter.unusedVariables false
set_option linter.unusedSimpArgs false
set_option linter.unusedSectionVars false
namespace Go.D
open Go Go.X
structure aB where
 bG:Bool
 aP:(List Int)
 deriving DecidableEq
def aA:bQ aB:=⟨2,fun H vs x=>∃v0,vs=[Value.bool x.bG,v0]/\Rs (aD .u32) H v0 x.aP/\True,
 fun H H' vs x hle h=>by obtain⟨v0,h0,k0,-⟩:=h;exact⟨v0,h0,k0.mono hle,trivial⟩,
 fun H vs x h=>by obtain⟨v0,h0,k0,-⟩:=h;rw[h0];rfl,
 fun H vs x h=>by obtain⟨v0,h0,k0,-⟩:=h;rw[h0];exact(dG rfl (dG k0.one kC))⟩
theorem Sq{H:Hp}{vs:List Value}{x:aB}(h:aA.R H vs x):∃v0,vs=[Value.bool x.bG,v0]/\Rs (aD .u32) H v0 x.aP/\True:=h
theorem Oz{H:Hp}{vs:List Value}{x:aB}(h:∃v0,vs=[Value.bool x.bG,v0]/\Rs (aD .u32) H v0 x.aP/\True):aA.R H vs x:=h
structure gK where
 Var:Int
 N:Int
 deriving DecidableEq
def gA:bQ gK:=⟨2,fun H vs x=>vs=[Value.int .i64 x.Var,Value.int .i64 x.N]/\True,
 fun H H' vs x hle h=>by obtain⟨h0,-⟩:=h;exact⟨h0,trivial⟩,
 fun H vs x h=>by obtain⟨h0,-⟩:=h;rw[h0];rfl,
 fun H vs x h=>by obtain⟨h0,-⟩:=h;rw[h0];exact(dG rfl (dG rfl kC))⟩
theorem Qf{H:Hp}{vs:List Value}{x:gK}(h:gA.R H vs x):vs=[Value.int .i64 x.Var,Value.int .i64 x.N]/\True:=h
theorem Uh{H:Hp}{vs:List Value}{x:gK}(h:vs=[Value.int .i64 x.Var,Value.int .i64 x.N]/\True):gA.R H vs x:=h
structure Linear where
 Const:Int
 aT:(List gK)
 deriving DecidableEq
def nZ:bQ Linear:=⟨2,fun H vs x=>∃v0,vs=[Value.int .i64 x.Const,v0]/\Rs gA H v0 x.aT/\True,
 fun H H' vs x hle h=>by obtain⟨v0,h0,k0,-⟩:=h;exact⟨v0,h0,k0.mono hle,trivial⟩,
 fun H vs x h=>by obtain⟨v0,h0,k0,-⟩:=h;rw[h0];rfl,
 fun H vs x h=>by obtain⟨v0,h0,k0,-⟩:=h;rw[h0];exact(dG rfl (dG k0.one kC))⟩
theorem Tz{H:Hp}{vs:List Value}{x:Linear}(h:nZ.R H vs x):∃v0,vs=[Value.int .i64 x.Const,v0]/\Rs gA H v0 x.aT/\True:=h
theorem Qt{H:Hp}{vs:List Value}{x:Linear}(h:∃v0,vs=[Value.int .i64 x.Const,v0]/\Rs gA H v0 x.aT/\True):nZ.R H vs x:=h
structure Constraint where
 Linear:Linear
 e9:Bool
 deriving DecidableEq
def ct:bQ Constraint:=⟨3,fun H vs x=>∃v0,vs=[Value.int .i64 x.Linear.Const,v0,Value.bool x.e9]/\Rs gA H v0 x.Linear.aT/\True,
 fun H H' vs x hle h=>by obtain⟨v0,h0,k0,-⟩:=h;exact⟨v0,h0,k0.mono hle,trivial⟩,
 fun H vs x h=>by obtain⟨v0,h0,k0,-⟩:=h;rw[h0];rfl,
 fun H vs x h=>by obtain⟨v0,h0,k0,-⟩:=h;rw[h0];exact(dG rfl (dG k0.one (dG rfl kC)))⟩
theorem Ti{H:Hp}{vs:List Value}{x:Constraint}(h:ct.R H vs x):∃v0,vs=[Value.int .i64 x.Linear.Const,v0,Value.bool x.e9]/\Rs gA H v0 x.Linear.aT/\True:=h
theorem N9{H:Hp}{vs:List Value}{x:Constraint}(h:∃v0,vs=[Value.int .i64 x.Linear.Const,v0,Value.bool x.e9]/\Rs gA H v0 x.Linear.aT/\True):ct.R H vs x:=h
structure bB where
 aT:(List aB)
 dA:aB
 deriving DecidableEq
def aE:bQ bB:=⟨3,fun H vs x=>∃v0 v1,vs=[v0,Value.bool x.dA.bG,v1]/\Rs aA H v0 x.aT/\Rs (aD .u32) H v1 x.dA.aP/\True,
 fun H H' vs x hle h=>by obtain⟨v0,v1,h0,k0,k1,-⟩:=h;exact⟨v0,v1,h0,k0.mono hle,k1.mono hle,trivial⟩,
 fun H vs x h=>by obtain⟨v0,v1,h0,k0,k1,-⟩:=h;rw[h0];rfl,
 fun H vs x h=>by obtain⟨v0,v1,h0,k0,k1,-⟩:=h;rw[h0];exact(dG k0.one (dG rfl (dG k1.one kC)))⟩
theorem Q8{H:Hp}{vs:List Value}{x:bB}(h:aE.R H vs x):∃v0 v1,vs=[v0,Value.bool x.dA.bG,v1]/\Rs aA H v0 x.aT/\Rs (aD .u32) H v1 x.dA.aP/\True:=h
theorem P6{H:Hp}{vs:List Value}{x:bB}(h:∃v0 v1,vs=[v0,Value.bool x.dA.bG,v1]/\Rs aA H v0 x.aT/\Rs (aD .u32) H v1 x.dA.aP/\True):aE.R H vs x:=h
structure dR where
 Index:Int
 N:aB
 deriving DecidableEq
def ej:bQ dR:=⟨3,fun H vs x=>∃v0,vs=[Value.int .i64 x.Index,Value.bool x.N.bG,v0]/\Rs (aD .u32) H v0 x.N.aP/\True,
 fun H H' vs x hle h=>by obtain⟨v0,h0,k0,-⟩:=h;exact⟨v0,h0,k0.mono hle,trivial⟩,
 fun H vs x h=>by obtain⟨v0,h0,k0,-⟩:=h;rw[h0];rfl,
 fun H vs x h=>by obtain⟨v0,h0,k0,-⟩:=h;rw[h0];exact(dG rfl (dG rfl (dG k0.one kC)))⟩
theorem QJ{H:Hp}{vs:List Value}{x:dR}(h:ej.R H vs x):∃v0,vs=[Value.int .i64 x.Index,Value.bool x.N.bG,v0]/\Rs (aD .u32) H v0 x.N.aP/\True:=h
theorem P2{H:Hp}{vs:List Value}{x:dR}(h:∃v0,vs=[Value.int .i64 x.Index,Value.bool x.N.bG,v0]/\Rs (aD .u32) H v0 x.N.aP/\True):ej.R H vs x:=h
structure Step where
 Uses:(List dR)
 gh:aB
 deriving DecidableEq
def aJ:bQ Step:=⟨3,fun H vs x=>∃v0 v1,vs=[v0,Value.bool x.gh.bG,v1]/\Rs ej H v0 x.Uses/\Rs (aD .u32) H v1 x.gh.aP/\True,
 fun H H' vs x hle h=>by obtain⟨v0,v1,h0,k0,k1,-⟩:=h;exact⟨v0,v1,h0,k0.mono hle,k1.mono hle,trivial⟩,
 fun H vs x h=>by obtain⟨v0,v1,h0,k0,k1,-⟩:=h;rw[h0];rfl,
 fun H vs x h=>by obtain⟨v0,v1,h0,k0,k1,-⟩:=h;rw[h0];exact(dG k0.one (dG rfl (dG k1.one kC)))⟩
theorem OQ{H:Hp}{vs:List Value}{x:Step}(h:aJ.R H vs x):∃v0 v1,vs=[v0,Value.bool x.gh.bG,v1]/\Rs ej H v0 x.Uses/\Rs (aD .u32) H v1 x.gh.aP/\True:=h
theorem Oc{H:Hp}{vs:List Value}{x:Step}(h:∃v0 v1,vs=[v0,Value.bool x.gh.bG,v1]/\Rs ej H v0 x.Uses/\Rs (aD .u32) H v1 x.gh.aP/\True):aJ.R H vs x:=h
structure Proof where
 Steps:(List Step)
 Form:(List aB)
 dA:aB
 mi:(List Proof)
def p7:Nat->Hp->List Value->Proof->Prop
 |0,_,_,_=>False
 |n+1,H,vs,x=>∃v0 v1 v2 v3,vs=[v0,v1,Value.bool x.dA.bG,v2,v3]/\Rs aJ H v0 x.Steps/\Rs aA H v1 x.Form/\Rs (aD .u32) H v2 x.dA.aP/\Sl 5 (p7 n) H v3 x.mi/\True
theorem J0:∀(n:Nat) {H H':Hp} {vs:List Value} {x:Proof},Le H H'->p7 n H vs x->p7 n H' vs x
 |0,_,_,_,_,_,h=>h.elim
 |n+1,_,_,_,_,hle,h=>by obtain⟨v0,v1,v2,v3,h0,k0,k1,k2,k3,-⟩:=h;exact⟨v0,v1,v2,v3,h0,k0.mono hle,k1.mono hle,k2.mono hle,Sl.mono (R:=p7 n) (fun _ _ _ _ a b=>J0 n a b) hle k3,trivial⟩
theorem Kn:∀{n m:Nat} {H:Hp} {vs:List Value} {x:Proof},n<=m->p7 n H vs x->p7 m H vs x
 |0,_,_,_,_,_,h=>h.elim
 |n+1,0,_,_,_,hm,_=>by omega
 |n+1,m+1,_,_,_,hm,h=>by have hm:n<=m:=(by omega);obtain⟨v0,v1,v2,v3,h0,k0,k1,k2,k3,-⟩:=h;exact⟨v0,v1,v2,v3,h0,k0,k1,k2,Ix (fun _ _=>Kn hm) k3,trivial⟩
def jb:bQ Proof:=⟨5,fun H vs x=>∃n,p7 n H vs x,fun _ _ _ _ hle ⟨n,h⟩=>⟨n,J0 n hle h⟩,
 fun H vs x h=>by obtain⟨n,h⟩:=h;cases n with|zero=>exact h.elim|succ n=>obtain⟨v0,v1,v2,v3,h0,k0,k1,k2,k3,-⟩:=h;rw[h0];rfl,
 fun H vs x h=>by obtain⟨n,h⟩:=h;cases n with|zero=>exact h.elim|succ n=>obtain⟨v0,v1,v2,v3,h0,k0,k1,k2,k3,-⟩:=h;rw[h0];exact(dG k0.one (dG k1.one (dG rfl (dG k2.one (dG (Sl.one k3) kC)))))⟩
theorem O6{H:Hp}{vs:List Value}{x:Proof}(h:jb.R H vs x):∃v0 v1 v2 v3,vs=[v0,v1,Value.bool x.dA.bG,v2,v3]/\Rs aJ H v0 x.Steps/\Rs aA H v1 x.Form/\Rs (aD .u32) H v2 x.dA.aP/\Rs jb H v3 x.mi/\True:=by
 obtain⟨n,h⟩:=h;cases n with|zero=>exact h.elim|succ n=>obtain⟨v0,v1,v2,v3,h0,k0,k1,k2,k3,-⟩:=h;exact⟨v0,v1,v2,v3,h0,k0,k1,k2,Ix (fun _ _ h=>⟨n,h⟩) k3,trivial⟩
theorem S0{H:Hp}{vs:List Value}{x:Proof}(h:∃v0 v1 v2 v3,vs=[v0,v1,Value.bool x.dA.bG,v2,v3]/\Rs aJ H v0 x.Steps/\Rs aA H v1 x.Form/\Rs (aD .u32) H v2 x.dA.aP/\Rs jb H v3 x.mi/\True):jb.R H vs x:=by
 obtain⟨v0,v1,v2,v3,h0,k0,k1,k2,k3,-⟩:=h;obtain⟨n,hn⟩:=QH (Rn:=p7) (fun _ _ _ _ hm h=>Kn hm h) k3;exact⟨n+1,v0,v1,v2,v3,h0,k0,k1,k2,hn,trivial⟩
structure aY where
 pos:Int
 g:(List aB)
 deriving DecidableEq
def aH:bQ aY:=⟨2,fun H vs x=>∃v0,vs=[Value.int .i64 x.pos,v0]/\Rs aA H v0 x.g/\True,
 fun H H' vs x hle h=>by obtain⟨v0,h0,k0,-⟩:=h;exact⟨v0,h0,k0.mono hle,trivial⟩,
 fun H vs x h=>by obtain⟨v0,h0,k0,-⟩:=h;rw[h0];rfl,
 fun H vs x h=>by obtain⟨v0,h0,k0,-⟩:=h;rw[h0];exact(dG rfl (dG k0.one kC))⟩
theorem Pb{H:Hp}{vs:List Value}{x:aY}(h:aH.R H vs x):∃v0,vs=[Value.int .i64 x.pos,v0]/\Rs aA H v0 x.g/\True:=h
theorem PE{H:Hp}{vs:List Value}{x:aY}(h:∃v0,vs=[Value.int .i64 x.pos,v0]/\Rs aA H v0 x.g/\True):aH.R H vs x:=h
structure dK where
 v:Int
 items:(List Int)
 dD:Bool
 deriving DecidableEq
def aM:bQ dK:=⟨3,fun H vs x=>∃v0,vs=[Value.int .i64 x.v,v0,Value.bool x.dD]/\Rs (aD .i64) H v0 x.items/\True,
 fun H H' vs x hle h=>by obtain⟨v0,h0,k0,-⟩:=h;exact⟨v0,h0,k0.mono hle,trivial⟩,
 fun H vs x h=>by obtain⟨v0,h0,k0,-⟩:=h;rw[h0];rfl,
 fun H vs x h=>by obtain⟨v0,h0,k0,-⟩:=h;rw[h0];exact(dG rfl (dG k0.one (dG rfl kC)))⟩
theorem TY{H:Hp}{vs:List Value}{x:dK}(h:aM.R H vs x):∃v0,vs=[Value.int .i64 x.v,v0,Value.bool x.dD]/\Rs (aD .i64) H v0 x.items/\True:=h
theorem Px{H:Hp}{vs:List Value}{x:dK}(h:∃v0,vs=[Value.int .i64 x.v,v0,Value.bool x.dD]/\Rs (aD .i64) H v0 x.items/\True):aM.R H vs x:=h
structure aR where
 n:Int
 known:(List bB)
 steps:(List Step)
 u:(List (List aB))
 status:(List Int)
 value:(List aB)
 items:(List aY)
 stack:(List dK)
 deriving DecidableEq
def Dj:bQ aR:=⟨8,fun H vs x=>∃v0 v1 v2 v3 v4 v5 v6,vs=[Value.int .i64 x.n,v0,v1,v2,v3,v4,v5,v6]/\Rs aE H v0 x.known/\Rs aJ H v1 x.steps/\Rs (aV aA) H v2 x.u/\Rs (aD .i64) H v3 x.status/\Rs aA H v4 x.value/\Rs aH H v5 x.items/\Rs aM H v6 x.stack/\True,
 fun H H' vs x hle h=>by obtain⟨v0,v1,v2,v3,v4,v5,v6,h0,k0,k1,k2,k3,k4,k5,k6,-⟩:=h;exact⟨v0,v1,v2,v3,v4,v5,v6,h0,k0.mono hle,k1.mono hle,k2.mono hle,k3.mono hle,k4.mono hle,k5.mono hle,k6.mono hle,trivial⟩,
 fun H vs x h=>by obtain⟨v0,v1,v2,v3,v4,v5,v6,h0,k0,k1,k2,k3,k4,k5,k6,-⟩:=h;rw[h0];rfl,
 fun H vs x h=>by obtain⟨v0,v1,v2,v3,v4,v5,v6,h0,k0,k1,k2,k3,k4,k5,k6,-⟩:=h;rw[h0];exact(dG rfl (dG k0.one (dG k1.one (dG k2.one (dG k3.one (dG k4.one (dG k5.one (dG k6.one kC))))))))⟩
theorem Ps{H:Hp}{vs:List Value}{x:aR}(h:Dj.R H vs x):∃v0 v1 v2 v3 v4 v5 v6,vs=[Value.int .i64 x.n,v0,v1,v2,v3,v4,v5,v6]/\Rs aE H v0 x.known/\Rs aJ H v1 x.steps/\Rs (aV aA) H v2 x.u/\Rs (aD .i64) H v3 x.status/\Rs aA H v4 x.value/\Rs aH H v5 x.items/\Rs aM H v6 x.stack/\True:=h
theorem QB{H:Hp}{vs:List Value}{x:aR}(h:∃v0 v1 v2 v3 v4 v5 v6,vs=[Value.int .i64 x.n,v0,v1,v2,v3,v4,v5,v6]/\Rs aE H v0 x.known/\Rs aJ H v1 x.steps/\Rs (aV aA) H v2 x.u/\Rs (aD .i64) H v3 x.status/\Rs aA H v4 x.value/\Rs aH H v5 x.items/\Rs aM H v6 x.stack/\True):Dj.R H vs x:=h
structure bX where
 kind:Int
 x:(List aB)
 proof:Proof
 v:Int
def fw:bQ bX:=⟨8,fun H vs x=>∃v0 v1 v2 v3 v4,vs=[Value.int .i64 x.kind,v0,v1,v2,Value.bool x.proof.dA.bG,v3,v4,Value.int .i64 x.v]/\Rs aA H v0 x.x/\Rs aJ H v1 x.proof.Steps/\Rs aA H v2 x.proof.Form/\Rs (aD .u32) H v3 x.proof.dA.aP/\Rs jb H v4 x.proof.mi/\True,
 fun H H' vs x hle h=>by obtain⟨v0,v1,v2,v3,v4,h0,k0,k1,k2,k3,k4,-⟩:=h;exact⟨v0,v1,v2,v3,v4,h0,k0.mono hle,k1.mono hle,k2.mono hle,k3.mono hle,k4.mono hle,trivial⟩,
 fun H vs x h=>by obtain⟨v0,v1,v2,v3,v4,h0,k0,k1,k2,k3,k4,-⟩:=h;rw[h0];rfl,
 fun H vs x h=>by obtain⟨v0,v1,v2,v3,v4,h0,k0,k1,k2,k3,k4,-⟩:=h;rw[h0];exact(dG rfl (dG k0.one (dG k1.one (dG k2.one (dG rfl (dG k3.one (dG k4.one (dG rfl kC))))))))⟩
theorem OX{H:Hp}{vs:List Value}{x:bX}(h:fw.R H vs x):∃v0 v1 v2 v3 v4,vs=[Value.int .i64 x.kind,v0,v1,v2,Value.bool x.proof.dA.bG,v3,v4,Value.int .i64 x.v]/\Rs aA H v0 x.x/\Rs aJ H v1 x.proof.Steps/\Rs aA H v2 x.proof.Form/\Rs (aD .u32) H v3 x.proof.dA.aP/\Rs jb H v4 x.proof.mi/\True:=h
theorem QN{H:Hp}{vs:List Value}{x:bX}(h:∃v0 v1 v2 v3 v4,vs=[Value.int .i64 x.kind,v0,v1,v2,Value.bool x.proof.dA.bG,v3,v4,Value.int .i64 x.v]/\Rs aA H v0 x.x/\Rs aJ H v1 x.proof.Steps/\Rs aA H v2 x.proof.Form/\Rs (aD .u32) H v3 x.proof.dA.aP/\Rs jb H v4 x.proof.mi/\True):fw.R H vs x:=h
structure gQ where
 up:aY
 low:aB
 high:aB
 deriving DecidableEq
def jB:bQ gQ:=⟨6,fun H vs x=>∃v0 v1 v2,vs=[Value.int .i64 x.up.pos,v0,Value.bool x.low.bG,v1,Value.bool x.high.bG,v2]/\Rs aA H v0 x.up.g/\Rs (aD .u32) H v1 x.low.aP/\Rs (aD .u32) H v2 x.high.aP/\True,
 fun H H' vs x hle h=>by obtain⟨v0,v1,v2,h0,k0,k1,k2,-⟩:=h;exact⟨v0,v1,v2,h0,k0.mono hle,k1.mono hle,k2.mono hle,trivial⟩,
 fun H vs x h=>by obtain⟨v0,v1,v2,h0,k0,k1,k2,-⟩:=h;rw[h0];rfl,
 fun H vs x h=>by obtain⟨v0,v1,v2,h0,k0,k1,k2,-⟩:=h;rw[h0];exact(dG rfl (dG k0.one (dG rfl (dG k1.one (dG rfl (dG k2.one kC))))))⟩
theorem QV{H:Hp}{vs:List Value}{x:gQ}(h:jB.R H vs x):∃v0 v1 v2,vs=[Value.int .i64 x.up.pos,v0,Value.bool x.low.bG,v1,Value.bool x.high.bG,v2]/\Rs aA H v0 x.up.g/\Rs (aD .u32) H v1 x.low.aP/\Rs (aD .u32) H v2 x.high.aP/\True:=h
theorem OP{H:Hp}{vs:List Value}{x:gQ}(h:∃v0 v1 v2,vs=[Value.int .i64 x.up.pos,v0,Value.bool x.low.bG,v1,Value.bool x.high.bG,v2]/\Rs aA H v0 x.up.g/\Rs (aD .u32) H v1 x.low.aP/\Rs (aD .u32) H v2 x.high.aP/\True):jB.R H vs x:=h
def w7(N:Nat)(i b:Int):Option (List UInt8):=if 0<=i/\i<18446744073709551616/\b=10 then some (Go.Lib.decDigits i.toNat)else none
def v7(N:Nat)(s:List UInt8)(c:Int):Option (List UInt8):=if 0<=c/\c<=9223372036854775807/\(s.length:Int)*c<=140737488355328 then some (Go.Lib.repeatL s c.toNat)else none
def qw(N:Nat)(xs:List (List UInt8))(s:List UInt8):Option (List UInt8):=if xs.length<=140737488355328/\(Go.Lib.join xs s).length<=140737488355328 then some (Go.Lib.join xs s)else none
def xW(N:Nat)(xs:List (List UInt8)):Option (List (List UInt8)):=if xs.length<=9223372036854775807 then some xs.reverse else none
theorem Uz{xs Y:List (List UInt8)}{N:Nat}(h:xW N xs=some Y):xs.length<=9223372036854775807/\Y=xs.reverse:=by
 unfold xW at h;split at h
 . exact⟨by assumption,(iR h).symm⟩
 . cases h
open Go Go.X
def wx(N:Nat)(s:(List Int)):Option (List Int):=(cM 4 ([]:(List Int)) s).bind fun a=>some a
def digit(N:Nat)(d:(List Int))(i:Int):Option Int:=(if(i:Int)<(List.length d:Int)then (idx d i).bind fun x2=>some (uw x2) else some 0)
def Ar(N:Nat)(n:Int):Option Int:= some (xP (imax n (-1)) 1)
def Fz(N:Nat)(d:(List Int)):Int->Option (aK Int Int)
 |a=>(((if(a:Int)>0 then (idx d (iw (a-1))).bind fun b=>some (decide ((b:Int)=0)) else some false):Option Bool)).bind fun ss=>match ss with
   |c=>(if c=true then some (aK.next (iw (a-1))) else some (aK.done a))
def k7(N:Nat)(d:(List Int)):Option (List Int):=(bI (Fz N d) N (List.length d:Int)).bind fun ss=>match ss with
  |a=>(cut d 0 a).bind fun b=>(wx N b).bind fun c=>some c
def jQ(N:Nat)(negative:Bool)(d:(List Int)):Option aB:=(k7 N d).bind fun r6=>(if((List.length r6:Int):Int)=0 then some (aB.mk false []) else some (aB.mk negative r6))
def CW(N:Nat)(a:(List Int))(b:(List Int)):Int->Option (aK Int (Sum Unit Int))
 |c=>(if(c:Int)≥0 then (idx a c).bind fun d=>(idx b c).bind fun e=>(if(d:Int)<e then some (aK.done (Sum.inr (-1))) else (idx a c).bind fun f=>(idx b c).bind fun g=>(if(f:Int)>g then some (aK.done (Sum.inr 1)) else some (aK.next (iw (c-1))))) else some (aK.done (Sum.inl ())))
def qF(N:Nat)(a:(List Int))(b:(List Int)):Option Int:=(if((List.length a:Int):Int)≠(List.length b:Int)then (Ar N (iw ((List.length a:Int)-(List.length b:Int)))).bind fun r2=>some r2 else (bI (CW N a b) N (iw ((List.length a:Int)-1))).bind fun ss=>match ss with
   |(Sum.inl _)=>some 0
   |(Sum.inr c)=>some c)
def E8(N:Nat)(a:(List Int))(b:(List Int))(x2:(List Int)):((List Int)×Int×Int)->Option (aK ((List Int)×Int×Int) (List Int))
 |(d,e,c)=>(if(c:Int)<(List.length x2:Int)then (digit N a c).bind fun f=>(digit N b c).bind fun g=>(idx d c).bind fun j=>(dw d c (dU (uw (e+(uw (f+g)))))).bind fun i=>some (aK.next (i,(fq .u64 (uw (e+(uw (f+g)))) 32),(iw (c+1)))) else some (aK.done d))
def vj(N:Nat)(a:(List Int))(b:(List Int)):Option (List Int):=(gg (α:=Int) 4 0 (iw ((imax (List.length a:Int) (List.length b:Int))+1))).bind fun x2=>(bI (E8 N a b x2) N (x2,0,0)).bind fun ss=>match ss with
  |c=>some c
def E6(N:Nat)(a:(List Int))(b:(List Int)):((List Int)×Int×Int)->Option (aK ((List Int)×Int×Int) (List Int))
 |(d,e,c)=>(if(c:Int)<(List.length a:Int)then (idx a c).bind fun f=>(digit N b c).bind fun g=>(idx d c).bind fun j=>(dw d c (dU (uw ((uw ((uw f)-g))-e)))).bind fun i=>some (aK.next (i,(fq .u64 (uw ((uw ((uw f)-g))-e)) 63),(iw (c+1)))) else some (aK.done d))
def rO(N:Nat)(a:(List Int))(b:(List Int)):Option (List Int):=(gg (α:=Int) 4 0 (List.length a:Int)).bind fun x2=>(bI (E6 N a b) N (x2,0,0)).bind fun ss=>match ss with
  |c=>some c
def Fw(N:Nat)(b:(List Int))(d:Int)(f:Int):((List Int)×Int×Int)->Option (aK ((List Int)×Int×Int) ((List Int)×Int))
 |(c,e,a)=>(if(a:Int)<(List.length b:Int)then (idx b a).bind fun g=>(idx c (iw (d+a))).bind fun i=>(idx c (iw (d+a))).bind fun k=>(dw c (iw (d+a)) (dU (uw (e+(uw ((uw ((uw f)*(uw g)))+(uw i))))))).bind fun j=>some (aK.next (j,(fq .u64 (uw (e+(uw ((uw ((uw f)*(uw g)))+(uw i))))) 32),(iw (a+1)))) else some (aK.done (c,e)))
def Cv(N:Nat)(a:(List Int))(b:(List Int)):((List Int)×Int)->Option (aK ((List Int)×Int) (List Int))
 |(d,c)=>(if(c:Int)<(List.length a:Int)then (idx a c).bind fun f=>(bI (Fw N b c f) N (d,0,0)).bind fun ss=>match ss with
    |(e,g)=>(idx e (iw (c+(List.length b:Int)))).bind fun j=>(dw e (iw (c+(List.length b:Int))) (dU g)).bind fun i=>some (aK.next (i,(iw (c+1)))) else some (aK.done d))
def xe(N:Nat)(a:(List Int))(b:(List Int)):Option (List Int):=(gg (α:=Int) 4 0 (iw ((List.length a:Int)+(List.length b:Int)))).bind fun x2=>(bI (Cv N a b) N (x2,0)).bind fun ss=>match ss with
  |c=>some c
def Eg(N:Nat)(a:(List Int))(pb:Int):((List Int)×Int×Int)->Option (aK ((List Int)×Int×Int) ((List Int)×Int))
 |(d,c,b)=>(if(b:Int)≥0 then (idx a b).bind fun e=>(sdiv .u64 (jA .u64 (iW .u64 c 32) (uw e)) (uw pb)).bind fun f=>(idx d b).bind fun i=>(dw d b (dU f)).bind fun g=>(srem (jA .u64 (iW .u64 c 32) (uw e)) (uw pb)).bind fun j=>some (aK.next (g,(Int.tmod (jA .u64 (iW .u64 c 32) (uw e)) (uw pb)),(iw (b-1)))) else some (aK.done (d,c)))
def uc(N:Nat)(a:(List Int))(pb:Int):Option ((List Int)×Int):=(gg (α:=Int) 4 0 (List.length a:Int)).bind fun x2=>(bI (Eg N a pb) N (x2,0,(iw ((List.length a:Int)-1)))).bind fun ss=>match ss with
  |(b,c)=>some (b,(dU c))
def CG(N:Nat)(a:(List Int))(n:Int):((List Int)×Int)->Option (aK ((List Int)×Int) (List Int))
 |(c,b)=>(if(b:Int)<(List.length a:Int)then (idx a b).bind fun d=>(lC (¬(n:Int)<0)).bind fun _=>(idx c b).bind fun f=>(idx c b).bind fun i=>(dw c b (jA .u32 f (dU (iW .u64 (uw d) n)))).bind fun e=>(idx e (iw (b+1))).bind fun j=>(dw e (iw (b+1)) (dU (fq .u64 (iW .u64 (uw d) n) 32))).bind fun g=>some (aK.next (g,(iw (b+1)))) else some (aK.done c))
def uJ(N:Nat)(a:(List Int))(n:Int):Option (List Int):=(gg (α:=Int) 4 0 (iw ((List.length a:Int)+1))).bind fun x2=>(bI (CG N a n) N (x2,0)).bind fun ss=>match ss with
  |b=>some b
open Go Go.X
def Fe(N:Nat):(List Int)->Option (aK (List Int) (List Int))
 |a=>(((if((List.length a:Int):Int)>0 then (idx a (iw ((List.length a:Int)-1))).bind fun b=>some (decide ((b:Int)=0)) else some false):Option Bool)).bind fun ss=>match ss with
   |c=>(if c=true then (cut a 0 (iw ((List.length a:Int)-1))).bind fun d=>some (aK.next d) else some (aK.done a))
def nL(N:Nat)(l:(List Int)):Option (List Int):=(bI (Fe N) N l).bind fun ss=>match ss with
  |a=>some a
def Dk(N:Nat)(x:aB):((List Int)×Int)->Option (aK ((List Int)×Int) (List Int))
 |(b,a)=>(if(a:Int)<(List.length x.aP:Int)then (idx x.aP a).bind fun c=>(idx x.aP a).bind fun d=>(cM 8 b [(iw (Int.tmod c 65536)),(iw (dU (Int.tdiv d 65536)))]).bind fun e=>some (aK.next (e,(iw (a+1)))) else some (aK.done b))
def kT(N:Nat)(x:aB):Option (List Int):=(bI (Dk N x) N (([]:(List Int)),0)).bind fun ss=>match ss with
  |a=>(nL N a).bind fun b=>some b
def Dv(N:Nat)(r6:(List Int)):((List Int)×Int)->Option (aK ((List Int)×Int) (List Int))
 |(b,a)=>(if(a:Int)<(List.length r6:Int)then (idx r6 a).bind fun c=>(((if((iw (a+1)):Int)<(List.length r6:Int)then (idx r6 (iw (a+1))).bind fun d=>some (dU ((dU c)+(dU (65536*(dU d))))) else some (dU c)):Option Int)).bind fun ss=>match ss with
    |e=>(cM 4 b [e]).bind fun f=>some (aK.next (f,(iw (a+2)))) else some (aK.done b))
def lj(N:Nat)(negative:Bool)(l:(List Int)):Option aB:=(nL N l).bind fun r6=>(((if negative=true then some (decide (((List.length r6:Int):Int)>0)) else some false):Option Bool)).bind fun ss=>match ss with
  |a=>(bI (Dv N r6) N (([]:(List Int)),0)).bind fun ss=>match ss with
    |b=>some (aB.mk a b)
def xh(N:Nat)(x:aB):Option aB:=(kT N x).bind fun a=>(lj N x.bG a).bind fun b=>some b
def CI(N:Nat)(a:(List Int))(b:(List Int)):Int->Option (aK Int (Sum Unit Int))
 |c=>(if(c:Int)≥0 then (idx a c).bind fun d=>(idx b c).bind fun e=>(if(d:Int)<e then some (aK.done (Sum.inr (-1))) else (idx a c).bind fun f=>(idx b c).bind fun g=>(if(f:Int)>g then some (aK.done (Sum.inr 1)) else some (aK.next (iw (c-1))))) else some (aK.done (Sum.inl ())))
def tC(N:Nat)(a:(List Int))(b:(List Int)):Option Int:=(if((List.length a:Int):Int)≠(List.length b:Int)then (if((List.length a:Int):Int)<(List.length b:Int)then some (-1) else some 1) else (bI (CI N a b) N (iw ((List.length a:Int)-1))).bind fun ss=>match ss with
   |(Sum.inl _)=>some 0
   |(Sum.inr c)=>some c)
def CT(N:Nat)(a:(List Int))(b:(List Int)):((List Int)×Int×Int)->Option (aK ((List Int)×Int×Int) (List Int))
 |(e,d,c)=>(((if(c:Int)<(List.length a:Int)then some true else (if(c:Int)<(List.length b:Int)then some true else some (decide ((d:Int)>0)))):Option Bool)).bind fun ss=>match ss with
   |i=>(if i=true then (((if(c:Int)<(List.length a:Int)then (idx a c).bind fun j=>some (iw (d+j)) else some d):Option Int)).bind fun ss=>match ss with
      |f=>(((if(c:Int)<(List.length b:Int)then (idx b c).bind fun k=>some (iw (f+k)) else some f):Option Int)).bind fun ss=>match ss with
        |g=>(cM 8 e [(Int.tmod g 65536)]).bind fun l=>some (aK.next (l,(iw (Int.tdiv g 65536)),(iw (c+1)))) else some (aK.done e))
def oP(N:Nat)(a:(List Int))(b:(List Int)):Option (List Int):=(bI (CT N a b) N (([]:(List Int)),0,0)).bind fun ss=>match ss with
  |c=>(nL N c).bind fun d=>some d
def FA(N:Nat)(a:(List Int))(b:(List Int)):((List Int)×Int×Int)->Option (aK ((List Int)×Int×Int) (List Int))
 |(e,f,c)=>(if(c:Int)<(List.length a:Int)then (idx a c).bind fun g=>(((if(c:Int)<(List.length b:Int)then (idx b c).bind fun i=>some (iw ((iw (g-f))-i)) else some (iw (g-f))):Option Int)).bind fun ss=>match ss with
    |d=>(((if(d:Int)<0 then some (1,(iw (d+65536))) else some (0,d)):Option (Int×Int))).bind fun ss=>match ss with
      |(j,k)=>(cM 8 e [k]).bind fun l=>some (aK.next (l,j,(iw (c+1)))) else some (aK.done e))
def qY(N:Nat)(a:(List Int))(b:(List Int)):Option (List Int):=(bI (FA N a b) N (([]:(List Int)),0,0)).bind fun ss=>match ss with
  |c=>(nL N c).bind fun d=>some d
def kL(N:Nat)(x:aB):Option Int:=(kT N x).bind fun r6=>(if((List.length r6:Int):Int)=0 then some 0 else (if x.bG=true then some (-1) else some 1))
def qa(N:Nat)(x:aB):Option aB:=(kT N x).bind fun a=>(lj N (!x.bG) a).bind fun b=>some b
def oK(N:Nat)(a:aB)(b:aB):Option aB:=(kT N a).bind fun c=>(kT N b).bind fun d=>(if(a.bG==b.bG)=true then (oP N c d).bind fun e=>(lj N a.bG e).bind fun f=>some f else (tC N c d).bind fun g=>(if(g:Int)≥0 then (qY N c d).bind fun i=>(lj N a.bG i).bind fun j=>some j else (qY N d c).bind fun k=>(lj N b.bG k).bind fun l=>some l))
def uM(N:Nat)(a:aB)(b:aB):Option aB:=(qa N b).bind fun c=>(oK N a c).bind fun d=>some d
def Fs(N:Nat)(a:(List Int))(d:Int):((List Int)×Int×Int)->Option (aK ((List Int)×Int×Int) (List Int))
 |(e,c,b)=>(((if(b:Int)<(List.length a:Int)then some true else some (decide ((c:Int)>0))):Option Bool)).bind fun ss=>match ss with
   |g=>(if g=true then (((if(b:Int)<(List.length a:Int)then (idx a b).bind fun i=>some (iw (c+(iw (i*d)))) else some c):Option Int)).bind fun ss=>match ss with
      |f=>(cM 8 e [(Int.tmod f 65536)]).bind fun j=>some (aK.next (j,(iw (Int.tdiv f 65536)),(iw (b+1)))) else some (aK.done e))
def xJ(N:Nat)(a:(List Int))(d:Int):Option (List Int):=(bI (Fs N a d) N (([]:(List Int)),0,0)).bind fun ss=>match ss with
  |b=>(nL N b).bind fun c=>some c
def Ee(N:Nat)(c:(List Int))(d:(List Int)):((List Int)×Int)->Option (aK ((List Int)×Int) (List Int))
 |(b,a)=>(if(a:Int)≥0 then (cM 8 [0] b).bind fun e=>(idx d a).bind fun f=>(xJ N c f).bind fun g=>(oP N e g).bind fun i=>some (aK.next (i,(iw (a-1)))) else some (aK.done b))
def sc(N:Nat)(a:aB)(b:aB):Option aB:=(kT N a).bind fun d=>(kT N b).bind fun c=>(bI (Ee N d c) N (([]:(List Int)),(iw ((List.length c:Int)-1)))).bind fun ss=>match ss with
  |e=>(lj N (!(a.bG==b.bG)) e).bind fun f=>some f
def Bb(N:Nat)(a:(List Int))(b:(List Int))(e:Int):((List Int)×(List Int)×Int)->Option (aK ((List Int)×(List Int)×Int) ((List Int)×(List Int)))
 |(c,f,d)=>(if(d:Int)>0 then (oP N f f).bind fun i=>(idx a e).bind fun j=>(sdiv .i64 j d).bind fun k=>(((if((Int.tmod k 2):Int)=1 then (oP N i [1]).bind fun l=>some l else some i):Option (List Int))).bind fun ss=>match ss with
    |g=>(tC N g b).bind fun m=>(if(m:Int)≥0 then (qY N g b).bind fun n=>(idx c e).bind fun o=>(idx c e).bind fun s=>(dw c e (iw (o+d))).bind fun p=>some (aK.next (p,n,(iw (Int.tdiv d 2)))) else some (aK.next (c,g,(iw (Int.tdiv d 2))))) else some (aK.done (c,f)))
def FO(N:Nat)(a:(List Int))(b:(List Int)):((List Int)×(List Int)×Int)->Option (aK ((List Int)×(List Int)×Int) ((List Int)×(List Int)))
 |(d,e,c)=>(if(c:Int)≥0 then (bI (Bb N a b c) N (d,e,32768)).bind fun ss=>match ss with
    |(f,g)=>some (aK.next (f,g,(iw (c-1)))) else some (aK.done (d,e)))
def xu(N:Nat)(a:(List Int))(b:(List Int)):Option ((List Int)×(List Int)):=(gg (α:=Int) 8 0 (List.length a:Int)).bind fun x2=>(bI (FO N a b) N (x2,([]:(List Int)),(iw ((List.length a:Int)-1)))).bind fun ss=>match ss with
  |(c,d)=>(nL N c).bind fun e=>some (e,d)
def Ec(N:Nat):(Int×(List Int))->Option (aK (Int×(List Int)) (List Int))
 |(a,b)=>(if(a:Int)>0 then (cM 8 b [(iw (Int.tmod a 65536))]).bind fun c=>some (aK.next ((uw (Int.tdiv a 65536)),c)) else some (aK.done b))
def kS(N:Nat)(n:Int):Option aB:=(((if(n:Int)<0 then some (uw ((uw (iw (0-(iw (n+1)))))+1)) else some (uw n)):Option Int)).bind fun ss=>match ss with
  |u8=>(bI (Ec N) N (u8,([]:(List Int)))).bind fun ss=>match ss with
    |a=>(lj N (decide ((n:Int)<0)) a).bind fun b=>some b
def tZ(N:Nat)(a:aB)(b:aB):Option (aB×aB×Bool):=(kL N b).bind fun f=>(if(f:Int)=0 then some ((aB.mk false []),(aB.mk false []),false) else (kT N a).bind fun g=>(kT N b).bind fun i=>(xu N g i).bind fun d=>(lj N (!(a.bG==b.bG)) d.1).bind fun e=>(lj N a.bG d.2).bind fun c=>(((kL N c).bind fun j=>(if(j:Int)≠0 then (kL N c).bind fun k=>(kL N b).bind fun l=>some (decide ((k:Int)≠l)) else some false):Option Bool)).bind fun ss=>match ss with
   |m=>(((if m=true then (kS N 1).bind fun n=>(uM N e n).bind fun o=>(oK N c b).bind fun p=>some (o,p) else some (e,c)):Option (aB×aB))).bind fun ss=>match ss with
     |(s,u)=>some (s,u,true))
def Ja(N:Nat)(a:aB)(b:aB):Int->Option (aK Int (Sum Unit Bool))
 |c=>(if(c:Int)<(List.length a.aP:Int)then (idx a.aP c).bind fun d=>(idx b.aP c).bind fun e=>(if(d:Int)≠e then some (aK.done (Sum.inr false)) else some (aK.next (iw (c+1)))) else some (aK.done (Sum.inl ())))
def wV(N:Nat)(a:aB)(b:aB):Option Bool:=(((if(!(a.bG==b.bG))=true then some true else some (decide (((List.length a.aP:Int):Int)≠(List.length b.aP:Int)))):Option Bool)).bind fun ss=>match ss with
  |c=>(if c=true then some false else (bI (Ja N a b) N 0).bind fun ss=>match ss with
     |(Sum.inl _)=>some true
     |(Sum.inr d)=>some d)
open Go Go.X
def rB:List UInt8:=[0,1,2,2,3,3,3,3,4,4,4,4,4,4,4,4,5,5,5,5,5,5,5,5,5,5,5,5,5,5,5,5,6,6,6,6,6,6,6,6,6,6,6,6,6,6,6,6,6,6,6,6,6,6,6,6,6,6,6,6,6,6,6,6,7,7,7,7,7,7,7,7,7,7,7,7,7,7,7,7,7,7,7,7,7,7,7,7,7,7,7,7,7,7,7,7,7,7,7,7,7,7,7,7,7,7,7,7,7,7,7,7,7,7,7,7,7,7,7,7,7,7,7,7,7,7,7,7,8,8,8,8,8,8,8,8,8,8,8,8,8,8,8,8,8,8,8,8,8,8,8,8,8,8,8,8,8,8,8,8,8,8,8,8,8,8,8,8,8,8,8,8,8,8,8,8,8,8,8,8,8,8,8,8,8,8,8,8,8,8,8,8,8,8,8,8,8,8,8,8,8,8,8,8,8,8,8,8,8,8,8,8,8,8,8,8,8,8,8,8,8,8,8,8,8,8,8,8,8,8,8,8,8,8,8,8,8,8,8,8,8,8,8,8,8,8,8,8,8,8,8,8,8,8,8,8]
def wY(N:Nat)(x:Int):Option Int:=(((if(x:Int)≥65536 then some ((fq .u32 x 16),16) else some (x,0)):Option (Int×Int))).bind fun ss=>match ss with
  |(x2,n3)=>(((if(x2:Int)≥256 then some ((fq .u32 x2 8),(iw (n3+8))) else some (x2,n3)):Option (Int×Int))).bind fun ss=>match ss with
    |(a,b)=>(idx rB (uw8 a)).bind fun c=>some (iw (b+(iw (UInt8.toNat c:Int))))
def yp(N:Nat)(x:Int):Option Int:=(wY N x).bind fun r1=>some (iw (32-r1))
def Bo(N:Nat)(n:Int)(pa_hi:Int)(pa_lo:Int)(pb:(List Int)):((List Int)×Int×Int×Int)->Option (aK ((List Int)×Int×Int×Int) ((List Int)×Int))
 |(b,c,d,a)=>(if(a:Int)<(pa_hi-pa_lo)then (digit N pb a).bind fun e=>(lC (0<=a/\a<pa_hi-pa_lo)).bind fun _=>(idx b (pa_lo+a)).bind fun f=>(lC (0<=a/\a<pa_hi-pa_lo)).bind fun _=>(idx b (pa_lo+a)).bind fun i=>(dw b (pa_lo+a) (dU (uw ((uw ((uw f)-(qN .u64 (uw (c+(uw (n*e)))) 4294967295)))-d)))).bind fun g=>some (aK.next (g,(fq .u64 (uw (c+(uw (n*e)))) 32),(fq .u64 (uw ((uw ((uw f)-(qN .u64 (uw (c+(uw (n*e)))) 4294967295)))-d)) 63),(iw (a+1)))) else some (aK.done (b,d)))
def zh(N:Nat)(pa:(List Int))(pa_lo:Int)(pa_hi:Int)(pb:(List Int))(n:Int):Option (Bool×(List Int)):=(bI (Bo N n pa_hi pa_lo pb) N (pa,0,0,0)).bind fun ss=>match ss with
  |(a,b)=>some ((decide ((b:Int)≠0)),a)
def zf(N:Nat)(b:(List Int))(d:(List Int))(f:(List Int))(g:Int):(Int×Int)->Option (aK (Int×Int) Int)
 |(a,c)=>(((if(a:Int)>4294967295 then some true else (idx d (iw ((List.length b:Int)-2))).bind fun i=>(idx f (iw ((iw (g+(List.length b:Int)))-2))).bind fun j=>some (decide (((uw (a*(uw i))):Int)>(jA .u64 (iW .u64 c 32) (uw j))))):Option Bool)).bind fun ss=>match ss with
   |k=>(if k=true then (idx d (iw ((List.length b:Int)-1))).bind fun e=>(if((uw (c+(uw e))):Int)>4294967295 then some (aK.done (uw (a-1))) else some (aK.next ((uw (a-1)),(uw (c+(uw e)))))) else some (aK.done a))
def yO(N:Nat)(e:(List Int))(c:Int):((List Int)×Int×Int)->Option (aK ((List Int)×Int×Int) ((List Int)×Int))
 |(b,d,a)=>(if(a:Int)<(List.length e:Int)then (idx b (iw (c+a))).bind fun f=>(idx e a).bind fun g=>(idx b (iw (c+a))).bind fun j=>(dw b (iw (c+a)) (dU (uw (d+(uw ((uw f)+(uw g))))))).bind fun i=>some (aK.next (i,(fq .u64 (uw (d+(uw ((uw f)+(uw g))))) 32),(iw (a+1)))) else some (aK.done (b,d)))
def yZ(N:Nat)(b:(List Int))(d:(List Int)):((List Int)×(List Int)×Int)->Option (aK ((List Int)×(List Int)×Int) ((List Int)×(List Int)))
 |(c,e,a)=>(if(a:Int)≥0 then (idx c (iw (a+(List.length b:Int)))).bind fun f=>(idx c (iw ((iw (a+(List.length b:Int)))-1))).bind fun g=>(idx d (iw ((List.length b:Int)-1))).bind fun m=>(sdiv .u64 (jA .u64 (iW .u64 (uw f) 32) (uw g)) (uw m)).bind fun n=>(idx d (iw ((List.length b:Int)-1))).bind fun l=>(srem (jA .u64 (iW .u64 (uw f) 32) (uw g)) (uw l)).bind fun a0=>(bI (zf N b d c a) N (n,(Int.tmod (jA .u64 (iW .u64 (uw f) 32) (uw g)) (uw l)))).bind fun ss=>match ss with
    |i=>(nt c a (iw ((iw (a+(List.length b:Int)))+1))).bind fun _=>(zh N c a (iw ((iw (a+(List.length b:Int)))+1)) d i).bind fun j=>(((if j.1=true then (bI (yO N d a) N (j.2,0,0)).bind fun ss=>match ss with
       |(k,o)=>(idx k (iw (a+(List.length b:Int)))).bind fun p=>(idx k (iw (a+(List.length b:Int)))).bind fun a1=>(dw k (iw (a+(List.length b:Int))) (dU (p+(dU o)))).bind fun s=>some (s,(uw (i-1))) else some (j.2,i)):Option ((List Int)×Int))).bind fun ss=>match ss with
      |(u,v)=>(idx e a).bind fun a2=>(dw e a (dU v)).bind fun y=>some (aK.next (u,y,(iw (a-1)))) else some (aK.done (c,e)))
def zm(N:Nat)(c:Int)(d:(List Int))(e:(List Int)):((List Int)×Int)->Option (aK ((List Int)×Int) (List Int))
 |(b,a)=>(if(a:Int)<(List.length e:Int)then (idx d (iw (a+1))).bind fun f=>(idx d a).bind fun g=>(lC (¬((uw c):Int)<0)).bind fun _=>(idx b a).bind fun j=>(dw b a (dU (fq .u64 (jA .u64 (iW .u64 (uw f) 32) (uw g)) (uw c)))).bind fun i=>some (aK.next (i,(iw (a+1)))) else some (aK.done b))
def tG(N:Nat)(a:(List Int))(b:(List Int)):Option ((List Int)×(List Int)):=(qF N a b).bind fun r1=>(if(r1:Int)<0 then (k7 N a).bind fun r9=>some (([]:(List Int)),r9) else (if((List.length b:Int):Int)=1 then (idx b 0).bind fun i=>(uc N a i).bind fun d=>(k7 N d.1).bind fun j=>(k7 N [d.2]).bind fun k=>some (j,k) else (idx b (iw ((List.length b:Int)-1))).bind fun l=>(yp N l).bind fun c=>(uJ N a (uw c)).bind fun e=>(uJ N b (uw c)).bind fun m=>(cut m 0 (List.length b:Int)).bind fun n=>(gg (α:=Int) 4 0 (iw ((List.length e:Int)-(List.length b:Int)))).bind fun f=>(bI (yZ N b n) N (e,f,(iw ((List.length f:Int)-1)))).bind fun ss=>match ss with
    |(o,p)=>(gg (α:=Int) 4 0 (List.length b:Int)).bind fun g=>(bI (zm N c o g) N (g,0)).bind fun ss=>match ss with
      |s=>(k7 N p).bind fun u=>(k7 N s).bind fun v=>some (u,v)))
def fN(N:Nat)(n:Int):Option aB:=(((if(n:Int)<0 then some (uw (0-(uw n))) else some (uw n)):Option Int)).bind fun ss=>match ss with
  |u8=>(jQ N (decide ((n:Int)<0)) [(dU u8),(dU (fq .u64 u8 32))]).bind fun a=>some a
def lq(N:Nat)(x:aB):Option aB:=(jQ N x.bG x.aP).bind fun a=>some a
def gJ(N:Nat)(x:aB):Option Int:=(lq N x).bind fun r6=>(if((List.length r6.aP:Int):Int)=0 then some 0 else (if r6.bG=true then some (-1) else some 1))
def iN(N:Nat)(a:aB)(b:aB):Option Int:=(lq N a).bind fun c=>(lq N b).bind fun d=>(((if(!(c.bG==d.bG))=true then some c.bG else some false):Option Bool)).bind fun ss=>match ss with
  |e=>(if e=true then some (-1) else (if(!(c.bG==d.bG))=true then some 1 else (if c.bG=true then (qF N d.aP c.aP).bind fun f=>some f else (qF N c.aP d.aP).bind fun g=>some g)))
def jq(N:Nat)(x:aB):Option aB:=(jQ N (!x.bG) x.aP).bind fun a=>some a
def iT(N:Nat)(a:aB)(b:aB):Option aB:=(lq N a).bind fun c=>(lq N b).bind fun d=>(if(c.bG==d.bG)=true then (vj N c.aP d.aP).bind fun e=>(jQ N c.bG e).bind fun f=>some f else (qF N c.aP d.aP).bind fun g=>(if(g:Int)<0 then (rO N d.aP c.aP).bind fun i=>(jQ N d.bG i).bind fun j=>some j else (rO N c.aP d.aP).bind fun k=>(jQ N c.bG k).bind fun l=>some l))
def jc(N:Nat)(a:aB)(b:aB):Option aB:=(jq N b).bind fun c=>(iT N a c).bind fun d=>some d
def km(N:Nat)(a:aB)(b:aB):Option aB:=(xe N a.aP b.aP).bind fun c=>(jQ N (!(a.bG==b.bG)) c).bind fun d=>some d
def kG(N:Nat)(a:aB)(b:aB):Option (aB×aB×Bool):=(lq N a).bind fun e=>(lq N b).bind fun d=>(if((List.length d.aP:Int):Int)=0 then some ((aB.mk false []),(aB.mk false []),false) else (tG N e.aP d.aP).bind fun c=>(if(!(e.bG==d.bG))=true then (((if((List.length c.2:Int):Int)>0 then (vj N c.1 [1]).bind fun f=>(rO N d.aP c.2).bind fun g=>some (f,g) else some (c.1,c.2)):Option ((List Int)×(List Int)))).bind fun ss=>match ss with
    |(i,j)=>(jQ N true i).bind fun k=>(jQ N d.bG j).bind fun l=>some (k,l,true) else (jQ N false c.1).bind fun m=>(jQ N d.bG c.2).bind fun n=>some (m,n,true)))
def Dy(N:Nat):((List Int)×(List Int))->Option (aK ((List Int)×(List Int)) (List Int))
 |(b,a)=>(if((List.length a:Int):Int)>0 then (tG N b a).bind fun c=>some (aK.next (a,c.2)) else some (aK.done b))
def tK(N:Nat)(a:aB)(b:aB):Option aB:=(k7 N a.aP).bind fun c=>(k7 N b.aP).bind fun d=>(bI (Dy N) N (c,d)).bind fun ss=>match ss with
  |e=>(jQ N false e).bind fun f=>some f
def E5(N:Nat):((List (List UInt8))×(List Int))->Option (aK ((List (List UInt8))×(List Int)) (List (List UInt8)))
 |(b,c)=>(if((List.length c:Int):Int)>0 then (uc N c 1000000000).bind fun d=>(k7 N d.1).bind fun e=>(w7 N (uw d.2) 10).bind fun a=>(((if((List.length e:Int):Int)>0 then (v7 N ([48]:List UInt8) (iw (9-(List.length a:Int)))).bind fun f=>(lC ((List.length f:Int)+List.length a<=9223372036854775807)).bind fun _=>some (f++a) else some a):Option (List UInt8))).bind fun ss=>match ss with
    |g=>(cM 16 b [g]).bind fun i=>some (aK.next (i,e)) else some (aK.done b))
def uL(N:Nat)(x:aB):Option (List UInt8):=(lq N x).bind fun r6=>(if((List.length r6.aP:Int):Int)=0 then some ([48]:List UInt8) else (bI (E5 N) N (([]:(List (List UInt8))),r6.aP)).bind fun ss=>match ss with
   |a=>(((if r6.bG=true then (cM 16 a [([45]:List UInt8)]).bind fun b=>some b else some a):Option (List (List UInt8)))).bind fun ss=>match ss with
     |c=>(xW N c).bind fun d=>(qw N d ([]:List UInt8)).bind fun e=>some e)
open Go Go.X
abbrev aC:Int:=4294967296
theorem mZ:(1:Int)<aC:=by decide
theorem Sd{s:List Int}(hl:s.length<=35184372088832):Tm (fun N=>wx N s) (fun r=>r=s):=by
 unfold wx;exact aN (dN (by simp only[dM];omega) (by decide)) (aS rfl)
theorem pq{d:List Int}(hd:bA aC d)(hl:d.length<=35184372088832):Tm (fun N=>k7 N d) (fun r=>Dg aC r (val aC d)/\r.length<=d.length):=by
 unfold k7;refine Tm.bind (Q:=fun n:Int=>∃k:Nat,n=k/\k<=d.length/\(∀j,(hj:j<d.length)->k<=j->d[j]=0)/\(k=0\/∃hk:k-1<d.length,d[k-1]≠0))
  (Tm.loop (fun n:Int=>∃k:Nat,n=k/\k<=d.length/\∀j,(hj:j<d.length)->k<=j->d[j]=0) (fun n=>n.toNat) ⟨d.length,rfl,bK _,fun j h1 h2=>absurd h1 (by omega)⟩ ?_) ?_
 . rintro _ ⟨k,rfl,hk,h0⟩;dsimp only[Fz];rcases gz k with rfl|hk0
   . refine Tm.bind (Q:=(·=false)) (cC (by omega) (aS rfl)) ?_;rintro _ rfl;exact cC (by simp) (aS ⟨0,rfl,hk,h0,.inl rfl⟩)
   . refine Tm.bind (Q:=(·=decide (d[k-1]=0))) (cL (by omega) (aN (gi (n:=k-1) (by rw[bH]<;>omega) (by omega)) (aS rfl))) ?_;rintro _ rfl;by_cases h:d[k-1]=0
     . refine cL (by simpa using h) (aS ⟨⟨k-1,by rw[bH]<;>omega,by omega,fun j h1 h2=>?_⟩,?_⟩)
       . rcases Nat.eq_or_lt_of_le h2 with rfl|h3
         . exact h
         . exact h0 j h1 (by omega)
       . show(iw ((k:Int)-1)).toNat<((k:Int)).toNat;rw[bH]<;>omega
     . exact cC (by simpa using h) (aS ⟨k,rfl,hk,h0,.inr ⟨by omega,h⟩⟩)
 . rintro _ ⟨k,rfl,hk,h0,h1⟩;refine aN (rU (m:=0) (n:=k) rfl rfl (by omega) hk) ?_;refine Tm.bind (Sd (by simp;omega)) ?_;rintro _ rfl;refine aS ⟨by simpa using C7 hk hd h0 h1,by simp;omega⟩
def bv(x:aB):Int:=if x.bG=true then-val aC x.aP else val aC x.aP
structure Is (x:aB)(v:Int):Prop where
 dg:Dg aC x.aP v.natAbs
 neg:x.bG=decide (v<0)
theorem Is.bv{x:aB}{v:Int}(h:Is x v):bv x=v:=by
 unfold D.bv;rw[h.neg,h.dg.val];by_cases hv:v<0
 . simp[hv];omega
 . simp[hv];omega
theorem Is.uniq{x y:aB}{v:Int}(h:Is x v)(h':Is y v):x=y:=by
 have h1:=h.dg.uniq mZ h'.dg;have h2:=h.neg.trans h'.neg.symm;cases x;cases y;simp_all
theorem lQ{neg:Bool}{d:List Int}(hd:bA aC d)(hl:d.length<=35184372088832):Tm (fun N=>jQ N neg d) (fun r=>Is r (if neg=true then-val aC d else val aC d)/\r.aP.length<=d.length):=by
 unfold jQ;refine Tm.bind (pq hd hl) ?_;rintro r ⟨hr,hl'⟩;have h0:=hr.wF (by decide);refine aZ (fun h=>aS ?_) (fun h=>aS ?_)
 . have he:r=[]:=mo.1 (by omega);have hv:=(hr.zero (by decide)).1 he;refine⟨⟨?_,?_⟩,by simp⟩
   . simp only[hv];simp;exact Dg.nil
   . simp[hv]
 . have he:r≠[]:=fun e=>h (by simp[e]);have hv:val aC d≠0:=fun e=>he ((hr.zero (by decide)).2 e);refine⟨⟨?_,?_⟩,hl'⟩
   . cases neg<;>simp<;>rw[show((val aC d).natAbs:Int)=val aC d by omega]<;>exact hr
   . cases neg<;>simp<;>omega
theorem o9{x:aB}(hd:bA aC x.aP)(hl:x.aP.length<=35184372088832):Tm (fun N=>lq N x) (fun r=>Is r (bv x)/\r.aP.length<=x.aP.length):=by
 unfold lq;exact Tm.bind (lQ hd hl) (fun r h=>aS h)
theorem yV{x:aB}(hd:bA aC x.aP)(hl:x.aP.length<=35184372088832):Tm (fun N=>jq N x) (fun r=>Is r (-bv x)/\r.aP.length<=x.aP.length):=by
 unfold jq;refine Tm.bind (lQ hd hl) (fun r h=>aS ?_);refine⟨?_,h.2⟩;have:=h.1;unfold bv;cases hx:x.bG<;>rw[hx]at this<;>simpa using this
theorem NL{x:aB}(hd:bA aC x.aP)(hl:x.aP.length<=35184372088832):Tm (fun N=>gJ N x) (fun r=>r=bM (bv x) 0):=by
 unfold gJ;refine Tm.bind (o9 hd hl) ?_;rintro r ⟨hr,-⟩;have hz:=hr.dg.zero (by decide);refine aZ (fun h=>aS ?_) (fun h=>?_)
 . have:=hz.1 (mo.1 (by omega));unfold bM;rw[if_neg (by omega),if_neg (by omega)]
 . have:bv x≠0:=fun e=>h (by rw[hz.2 (by omega)];rfl);refine aZ (fun h'=>aS ?_) (fun h'=>aS ?_)
   . have:=hr.neg.symm.trans h';simp at this;unfold bM;rw[if_pos (by omega)]
   . have:¬bv x<0:=fun e=>h' (by rw[hr.neg];simpa using e);unfold bM;rw[if_neg (by omega),if_pos (by omega)]
theorem yX{n:Int}(h1:-9223372036854775808<=n)(h2:n<=9223372036854775807):Tm (fun N=>fN N n) (fun r=>Is r n/\r.aP.length<=2):=by
 unfold fN;refine Tm.bind (Q:=(·=(n.natAbs:Int))) (aZ (fun h=>aS ?_) (fun h=>aS ?_)) ?_
 . rw[fM,fM];omega
 . rw[fM];omega
 rintro _ rfl;have hs:fq .u64 (n.natAbs:Int) 32=(n.natAbs:Int)/4294967296:=by
  unfold fq;rw[show((2:Int)^(min (32:Int).toNat IntKind.u64.bits))=4294967296 from rfl,jx _ (by decide)]
 refine Tm.bind (lQ (d:=[dU (n.natAbs:Int),dU (fq .u64 (n.natAbs:Int) 32)]) ?_ (by simp)) (fun r h=>aS ?_)
 . rw[hs,gn,gn];exact bA.cons (B:=4294967296) (by omega) (bA.cons (by omega) bA.nil)
 . refine⟨?_,h.2⟩;have hv:val aC [dU (n.natAbs:Int),dU (fq .u64 (n.natAbs:Int) 32)]=n.natAbs:=by
    rw[hs,gn,gn];simp only[val,aC];omega
   have h:=h.1;rw[hv]at h;by_cases hn:n<0
   . simp only[hn,decide_true,if_true]at h;rwa[show-(n.natAbs:Int)=n by omega]at h
   . simp only[hn,decide_false,ml,if_false]at h;rwa[show(n.natAbs:Int)=n by omega]at h
theorem Ui{n:Int}:xP (imax n (-1)) 1=bM n 0:=by
 unfold xP imax bM;by_cases h:-1>n<;>simp only[h,if_true,if_false]<;>(repeat' split)<;>omega
theorem AB{a b:List Int}(ha:bA aC a)(hb:bA aC b)(na:fJ a)(nb:fJ b)(hl:a.length<=35184372088832)(hl':b.length<=35184372088832):Tm (fun N=>qF N a b) (fun r=>r=bM (val aC a) (val aC b)):=by
 unfold qF;refine aZ (fun h=>?_) (fun h=>?_)
 . unfold Ar;refine aN rfl (aS ?_);rw[bH (by omega) (by omega),Ui];unfold bM;rcases cw a.length b.length with h'|h'
   . have:=mX mZ ha hb nb h';rw[if_pos this];(repeat' split)<;>omega
   . have:=mX mZ hb ha na (by omega);rw[if_neg (by omega),if_pos this];(repeat' split)<;>omega
 . have hle:a.length=b.length:=by omega
   refine Tm.bind (Q:=fun r:Sum Unit Int=>(match r with|.inl _=>0|.inr z=>z)=bM (val aC a) (val aC b))
    (Tm.loop (fun i:Int=>∃n:Nat,i=(n:Int)-1/\n<=a.length/\a.drop n=b.drop n) (fun i=>(i+1).toNat) ⟨a.length,by rw[bH]<;>omega,bK _,by rw[yw (bK _),yw (by omega)]⟩ ?_) ?_
   . rintro _ ⟨n,rfl,hn,hd⟩;dsimp only[CW];refine aZ (fun h1=>?_) (fun h1=>?_)
     . have hna:n-1<a.length:=by omega
       have hnb:n-1<b.length:=by omega
       refine aN (gi (n:=n-1) (by omega) hna) (aN (gi (n:=n-1) (by omega) hnb) (aZ (fun h2=>?_) (fun h2=>?_)))
       . have:=Ap mZ ha hb hle hna (by rw[show n-1+1=n by omega];exact hd) h2;refine aS ?_;show(-1:Int)=_;unfold bM;rw[if_pos this]
       . refine aN (gi (n:=n-1) (by omega) hna) (aN (gi (n:=n-1) (by omega) hnb) (aZ (fun h3=>?_) (fun h3=>?_)))
         . have:=Ap mZ hb ha hle.symm hnb (by rw[show n-1+1=n by omega];exact hd.symm) h3;refine aS ?_;show(1:Int)=_;unfold bM;rw[if_neg (by omega),if_pos this]
         . refine aS ⟨⟨n-1,by rw[bH]<;>omega,by omega,?_⟩,?_⟩
           . rw[fD hna,fD hnb,show n-1+1=n by omega,hd,show a[n-1]=b[n-1] by omega]
           . show(iw ((n:Int)-1-1)+1).toNat<((n:Int)-1+1).toNat;rw[bH]<;>omega
     . have:n=0:=by omega
       subst this;refine aS ?_;show(0:Int)=_;have:a=b:=by simpa using hd
       rw[this];unfold bM;rw[if_neg (by omega),if_neg (by omega)]
   . rintro(_|z) h<;>exact aS h
theorem AM{d:List Int}(hd:bA aC d){i:Nat}:Tm (fun N=>digit N d (i:Int)) (fun r=>r=d.getD i 0):=by
 unfold digit;have h0:=hd.getD (by decide) i;refine aZ (fun h=>?_) (fun h=>aS ?_)
 . refine aN (cU (by omega)) (aS ?_);rw[cA,bV (by omega)]at*;simp only[BY,aC]at*;rw[fM];omega
 . rw[cA,fQ (by omega)];rfl
theorem xp{x:Int}:fq .u64 x 32=x/4294967296:=by
 unfold fq;rw[show((2:Int)^(min (32:Int).toNat IntKind.u64.bits))=4294967296 from rfl,jx _ (by decide)]
theorem HT{x:Int}:fq .u64 x 63=x/9223372036854775808:=by
 unfold fq;rw[show((2:Int)^(min (63:Int).toNat IntKind.u64.bits))=9223372036854775808 from rfl,jx _ (by decide)]
theorem take_set{l:List Int}{n:Nat}{y:Int}(h:n<l.length):val aC ((l.set n y).take (n+1))=val aC (l.take n)+aC^n*y:=by
 rw[fu,yC (bK n),cA,yv h];rfl
theorem GU{a b:List Int}(ha:bA aC a)(hb:bA aC b)(hl:a.length<=17592186044416)(hl':b.length<=17592186044416):Tm (fun N=>vj N a b) (fun r=>bA aC r/\val aC r=val aC a+val aC b/\r.length=max a.length b.length+1):=by
 unfold vj;have hi:iw (imax (a.length:Int) (b.length:Int)+1)=((max a.length b.length+1:Nat):Int):=by
  unfold imax;split<;>rw[bH]<;>omega
 refine aN (ik hi (by omega) (by decide)) ?_;generalize hL:max a.length b.length+1=L;refine Tm.bind (Q:=fun r=>bA aC r/\val aC r=val aC a+val aC b/\r.length=L)
  (Tm.loop (fun s:List Int×Int×Int=>∃n:Nat,s.2.2=n/\n<=L/\s.1.length=L/\bA aC s.1/\0<=s.2.1/\s.2.1<=1/\val aC (s.1.take n)+aC^n*s.2.1=val aC (a.take n)+val aC (b.take n)) (fun s=>L-s.2.2.toNat)
   ⟨0,rfl,fE _,by simp,bA.dp (by decide),by simp,by simp,by simp[val]⟩ ?_) (fun r h=>aS h)
 rintro⟨out,carry,i⟩ ⟨n,rfl,hn,ho,hB,h0,h1,hv⟩;dsimp only[E8]at*;simp only[kQ];refine aZ (fun h=>?_) (fun h=>aS ?_)
 . refine Tm.bind (AM ha) ?_;rintro x rfl;refine Tm.bind (AM hb) ?_;rintro y rfl;refine aN (cU (by omega)) ?_;refine aN (ee rfl (by omega)) (aS ?_);have hx:=ha.getD (by decide) n;have hy:=hb.getD (by decide) n;generalize ex:a.getD n 0=x at*;generalize ey:b.getD n 0=y at*;have e1:uw (carry+uw (x+y))=carry+x+y:=by
    simp only[aC]at*;rw[fM,fM];omega
   rw[e1,xp,gn];refine⟨⟨n+1,?_,by omega,by simp;omega,hB.set (by simp only[aC];omega),?_,?_,?_⟩,?_⟩
   . show iw ((n:Int)+1)=_;rw[bH]<;>omega
   . show 0<=(carry+x+y)/4294967296;omega
   . show(carry+x+y)/4294967296<=1;simp only[aC]at*;omega
   . show val aC ((out.set n ((carry+x+y)%4294967296)).take (n+1))+aC^(n+1)*((carry+x+y)/4294967296)=_;rw[take_set (by omega),fu,fu,ex,ey,fl];have:=jO (carry+x+y) 4294967296;have hw:aC=4294967296:=rfl;grind
   . show L-(iw ((n:Int)+1)).toNat<L-((n:Int)).toNat;rw[bH]<;>omega
 . have hnL:n=L:=by omega
   subst hnL;rw[eU (by omega),eU (by omega),eU (by omega)]at hv;refine⟨hB,?_,ho⟩;show val aC out=_;have l1:=iq (by decide) ha;have l2:=iq (by decide) hb;have l3:=gH (by decide) hB;have p1:=j4 (B:=aC) (by decide) (show a.length<=n-1 by omega);have p2:=j4 (B:=aC) (by decide) (show b.length<=n-1 by omega);have p3:aC^n=aC^(n-1)*aC:=by rw[<-fl];congr 1;omega
   have p4:=kF (B:=aC) (by decide) (n-1);have hc:carry=0\/carry=1:=by omega
   rcases hc with rfl|rfl
   . omega
   . simp only[aC]at*;omega
theorem FJ{a b:List Int}(ha:bA aC a)(hb:bA aC b)(hl:a.length<=17592186044416)(hl':b.length<=a.length)(hv:val aC b<=val aC a):Tm (fun N=>rO N a b) (fun r=>bA aC r/\val aC r=val aC a-val aC b/\r.length=a.length):=by
 unfold rO;refine aN (ik rfl (by omega) (by decide)) ?_;generalize hL:a.length=L;refine Tm.bind (Q:=fun r=>bA aC r/\val aC r=val aC a-val aC b/\r.length=L)
  (Tm.loop (fun s:List Int×Int×Int=>∃n:Nat,s.2.2=n/\n<=L/\s.1.length=L/\bA aC s.1/\0<=s.2.1/\s.2.1<=1/\val aC (s.1.take n)=val aC (a.take n)-val aC (b.take n)+aC^n*s.2.1) (fun s=>L-s.2.2.toNat)
   ⟨0,rfl,fE _,by simp[hL],bA.dp (by decide),by simp,by simp,by simp[val]⟩ ?_) (fun r h=>aS h)
 rintro⟨out,borrow,i⟩ ⟨n,rfl,hn,ho,hB,h0,h1,hv'⟩;dsimp only[E6]at*;refine aZ (fun h=>?_) (fun h=>aS ?_)
 . refine aN (cU (by omega)) ?_;refine Tm.bind (AM hb) ?_;rintro y rfl;refine aN (cU (by omega)) ?_;refine aN (ee rfl (by omega)) (aS ?_);have hx:=ha.get (n:=n) (by omega);have hy:=hb.getD (by decide) n;have ex:a.getD n 0=a[n]'(by omega):=by rw[cA,bV (by omega)];rfl
   generalize a[n]'(by omega)=x at*;generalize ey:b.getD n 0=y at*;have e1:uw (uw (uw x-y)-borrow)=(x-y-borrow)%18446744073709551616:=by
    simp only[aC]at*;rw[fM,fM,fM];omega
   rw[e1,HT,gn];simp only[aC]at hx hy;refine⟨⟨n+1,?_,by omega,by simp;omega,hB.set (by simp only[aC];omega),?_,?_,?_⟩,?_⟩
   . show iw ((n:Int)+1)=_;rw[bH]<;>omega
   . show 0<=(x-y-borrow)%18446744073709551616/9223372036854775808;omega
   . show(x-y-borrow)%18446744073709551616/9223372036854775808<=1;omega
   . show val aC ((out.set n ((x-y-borrow)%18446744073709551616%4294967296)).take (n+1))=_+aC^(n+1)*((x-y-borrow)%18446744073709551616/9223372036854775808);rw[take_set (by omega),fu,fu,ex,ey,fl];have hd:(x-y-borrow)%18446744073709551616%4294967296=x-y-borrow+aC*((x-y-borrow)%18446744073709551616/9223372036854775808):=by
      simp only[aC];omega
     rw[hd];grind
   . show L-(iw ((n:Int)+1)).toNat<L-((n:Int)).toNat;rw[bH]<;>omega
 . have hnL:n=L:=by omega
   subst hnL;rw[eU (by omega),eU (by omega),eU (by omega)]at hv';refine⟨hB,?_,ho⟩;show val aC out=_;have l1:=iq (by decide) hB;rw[ho]at l1;have hc:borrow=0\/borrow=1:=by omega
   rcases hc with rfl|rfl
   . omega
   . simp only[aC]at*;omega
theorem Is.A6{x:aB}{v:Int}(h:Is x v):val aC x.aP=if v<0 then-v else v:=by rw[h.dg.val];split<;>omega
theorem HB{a b:aB}(ha:bA aC a.aP)(hb:bA aC b.aP)(hl:a.aP.length<=17592186044416)(hl':b.aP.length<=17592186044416):
 Tm (fun N=>iT N a b) (fun r=>Is r (bv a+bv b)/\r.aP.length<=max a.aP.length b.aP.length+1):=by
 unfold iT;refine Tm.bind (o9 ha (by omega)) ?_;rintro x ⟨hx,hxl⟩;refine Tm.bind (o9 hb (by omega)) ?_;rintro y ⟨hy,hyl⟩;have vx:=hx.A6;have vy:=hy.A6;have n1:=hx.neg;have n2:=hy.neg;refine aZ (fun h=>?_) (fun h=>?_)
 . have hn:x.bG=y.bG:=by simpa using h
   refine Tm.bind (GU hx.dg.bL hy.dg.bL (by omega) (by omega)) ?_;rintro s ⟨hs,sv,sl⟩;refine Tm.bind (lQ hs (by omega)) (fun r hr=>aS ⟨?_,by omega⟩);have hr:=hr.1;rw[sv,vx,vy]at hr;by_cases p:bv a<0<;>by_cases q:bv b<0<;>simp only[p,q,decide_true,decide_false]at n1 n2 hn
   . simp only[n1,p,q,if_true]at hr;rwa[show-(-bv a+-bv b)=bv a+bv b by omega]at hr
   . rw[n1,n2]at hn;cases hn
   . rw[n1,n2]at hn;cases hn
   . simpa only[n1,p,q,if_false,ml]using hr
 . have hn:¬x.bG=y.bG:=by simpa using h
   refine Tm.bind (AB hx.dg.bL hy.dg.bL hx.dg.ff hy.dg.ff (by omega) (by omega)) ?_;rintro c rfl;refine aZ (fun hc=>?_) (fun hc=>?_)
   . have hlt:val aC x.aP<val aC y.aP:=by revert hc;unfold bM;split<;>(try split)<;>omega
     have hle:x.aP.length<=y.aP.length:=by
      rcases cw y.aP.length x.aP.length with h'|h'
      . have:=mX mZ hy.dg.bL hx.dg.bL hx.dg.ff h';omega
      . exact h'
     refine Tm.bind (FJ hy.dg.bL hx.dg.bL (by omega) hle (by omega)) ?_;rintro s ⟨hs,sv,sl⟩;refine Tm.bind (lQ hs (by omega)) (fun r hr=>aS ⟨?_,by omega⟩);have hr:=hr.1;rw[sv,vx,vy]at hr;by_cases p:bv a<0<;>by_cases q:bv b<0<;>simp only[p,q,decide_true,decide_false]at n1 n2 hn
     . rw[n1,n2]at hn;exact absurd rfl hn
     . simp only[n2,p,q,if_true,if_false,ml]at hr;rwa[show bv b- -bv a=bv a+bv b by omega]at hr
     . simp only[n2,p,q,if_true,if_false]at hr;rwa[show-(-bv b-bv a)=bv a+bv b by omega]at hr
     . rw[n1,n2]at hn;exact absurd rfl hn
   . have hge:val aC y.aP<=val aC x.aP:=by revert hc;unfold bM;split<;>(try split)<;>omega
     have hle:y.aP.length<=x.aP.length:=by
      rcases cw x.aP.length y.aP.length with h'|h'
      . have:=mX mZ hx.dg.bL hy.dg.bL hy.dg.ff h';omega
      . exact h'
     refine Tm.bind (FJ hx.dg.bL hy.dg.bL (by omega) hle hge) ?_;rintro s ⟨hs,sv,sl⟩;refine Tm.bind (lQ hs (by omega)) (fun r hr=>aS ⟨?_,by omega⟩);have hr:=hr.1;rw[sv,vx,vy]at hr;by_cases p:bv a<0<;>by_cases q:bv b<0<;>simp only[p,q,decide_true,decide_false]at n1 n2 hn
     . rw[n1,n2]at hn;exact absurd rfl hn
     . simp only[n1,p,q,if_true,if_false]at hr;rwa[show-(-bv a-bv b)=bv a+bv b by omega]at hr
     . simp only[n1,p,q,if_true,if_false,ml]at hr;rwa[show bv a- -bv b=bv a+bv b by omega]at hr
     . rw[n1,n2]at hn;exact absurd rfl hn
theorem QC{a b:aB}(ha:bA aC a.aP)(hb:bA aC b.aP)(hl:a.aP.length<=17592186044416)(hl':b.aP.length<=17592186044416):
 Tm (fun N=>jc N a b) (fun r=>Is r (bv a-bv b)/\r.aP.length<=max a.aP.length b.aP.length+1):=by
 unfold jc;refine Tm.bind (yV hb (by omega)) ?_;rintro y ⟨hy,hyl⟩;refine Tm.bind (HB ha hy.dg.bL (by omega) (by omega)) (fun r h=>aS ⟨?_,by omega⟩);have:=h.1;rwa[hy.bv,<-Gp]at this
theorem Pe{a b:List Int}(ha:bA aC a)(hb:bA aC b)(hl:a.length<=17592186044416)(hl':b.length<=17592186044416):
 Tm (fun N=>xe N a b) (fun r=>bA aC r/\val aC r=val aC a*val aC b/\r.length=a.length+b.length):=by
 unfold xe;refine aN (ik (n:=a.length+b.length) (by rw[bH]<;>omega) (by omega) (by decide)) ?_;refine Tm.bind (Q:=fun r=>bA aC r/\val aC r=val aC a*val aC b/\r.length=a.length+b.length)
  (Tm.loop (fun s:List Int×Int=>∃n:Nat,s.2=n/\n<=a.length/\s.1.length=a.length+b.length/\bA aC s.1/\val aC s.1=val aC (a.take n)*val aC b/\∀k,n+b.length<=k->(hk:k<s.1.length)->s.1[k]=0) (fun s=>a.length-s.2.toNat)
   ⟨0,rfl,fE _,by simp,bA.dp (by decide),by simp[val,Bp],by simp⟩ ?_) (fun r h=>aS h)
 rintro⟨out,i⟩ ⟨n,rfl,hn,ho,hB,hv,hz⟩;dsimp only[Cv]at*;refine aZ (fun h=>?_) (fun h=>aS ?_)
 . refine aN (cU (by omega)) ?_;have hx:=ha.get (n:=n) (by omega);have ex:a.getD n 0=a[n]'(by omega):=by rw[cA,bV (by omega)];rfl
   generalize a[n]'(by omega)=x at*;refine Tm.bind (Q:=fun r:List Int×Int=>bA aC r.1/\r.1.length=a.length+b.length/\0<=r.2/\r.2<aC/\val aC r.1+aC^(n+b.length)*r.2=val aC (a.take n)*val aC b+aC^n*x*val aC b/\∀k,n+b.length<=k->(hk:k<r.1.length)->r.1[k]=0)
    (Tm.loop (fun s:List Int×Int×Int=>∃m:Nat,s.2.2=m/\m<=b.length/\s.1.length=a.length+b.length/\bA aC s.1/\0<=s.2.1/\s.2.1<aC/\val aC s.1+aC^(n+m)*s.2.1=val aC (a.take n)*val aC b+aC^n*x*val aC (b.take m)/\∀k,n+b.length<=k->(hk:k<s.1.length)->s.1[k]=0) (fun s=>b.length-s.2.2.toNat)
     ⟨0,rfl,fE _,ho,hB,by simp,(by decide:(0:Int)<aC),by simpa[val]using hv,hz⟩ ?_) ?_
   . rintro⟨out1,carry,j⟩ ⟨m,rfl,hm,ho1,hB1,c0,c1,hv1,hz1⟩;dsimp only[Fw]at*;refine aZ (fun h1=>?_) (fun h1=>aS ?_)
     . refine aN (cU (by omega)) ?_;have hi:iw ((n:Int)+(m:Int))=((n+m:Nat):Int):=by rw[bH]<;>omega
       have hy:=hb.get (n:=m) (by omega);have ey:b.getD m 0=b[m]'(by omega):=by rw[cA,bV (by omega)];rfl
       generalize b[m]'(by omega)=y at*;refine aN (gi (n:=n+m) hi (by omega)) (aN (gi (n:=n+m) hi (by omega)) (aN (ee (n:=n+m) hi (by omega)) (aS ?_)));have hz':=hB1.get (n:=n+m) (by omega);have hvs:=fun y'=>uZ (B:=aC) (l:=out1) (n:=n+m) (y:=y') (by omega);generalize out1[n+m]'(by omega)=z at*;have hxy:0<=x*y/\x*y<=4294967295*4294967295:=by
        refine⟨eI hx.1 hy.1,?_⟩;exact nr (by simp only[aC]at hx;omega) (by simp only[aC]at hy;omega) hy.1 (by decide)
       generalize exy:x*y=xy at*;have e1:uw (carry+uw (uw (uw x*uw y)+uw z))=carry+xy+z:=by
        simp only[aC]at*;rw[show uw x=x by rw[fM];omega,show uw y=y by rw[fM];omega,exy,fM,fM,fM,fM];omega
       rw[e1,xp,gn];simp only[aC]at hz' c1;refine⟨⟨m+1,?_,by omega,by simp;omega,hB1.set (by simp only[aC];omega),?_,?_,?_,?_⟩,?_⟩
       . show iw ((m:Int)+1)=_;rw[bH]<;>omega
       . show 0<=(carry+xy+z)/4294967296;omega
       . show(carry+xy+z)/4294967296<aC;simp only[aC];omega
       . show val aC (out1.set (n+m) ((carry+xy+z)%4294967296))+aC^(n+(m+1))*((carry+xy+z)/4294967296)=_;rw[hvs,fu,ey,<-pK,fl];have:=jO (carry+xy+z) 4294967296;have hw:aC=4294967296:=rfl;have hp:aC^(n+m)=aC^n*aC^m:=jM ..;grind
       . intro k hk hk';rw[Gq (by omega)];exact hz1 k hk (by simpa using hk')
       . show b.length-(iw ((m:Int)+1)).toNat<b.length-((m:Int)).toNat;rw[bH]<;>omega
     . have hmL:m=b.length:=by omega
       subst hmL;rw[eU (bK _)]at hv1;exact⟨hB1,ho1,c0,c1,hv1,hz1⟩
   . rintro⟨out2,carry⟩ ⟨hB2,ho2,c0,c1,hv2,hz2⟩;dsimp only at*;have hi:iw ((n:Int)+(b.length:Int))=((n+b.length:Nat):Int):=by rw[bH]<;>omega
     refine aN (gi hi (by omega)) (aN (ee hi (by omega)) (aS ?_));have e1:dU carry=carry:=by rw[gn];simp only[aC]at c1;omega
     rw[e1];refine⟨⟨n+1,?_,by omega,by simp;omega,hB2.set ⟨c0,c1⟩,?_,?_⟩,?_⟩
     . show iw ((n:Int)+1)=_;rw[bH]<;>omega
     . show val aC (out2.set (n+b.length) carry)=_;rw[uZ (by omega),hz2 _ (bK _) (by omega),fu,ex];grind
     . intro k hk hk';rw[Gq (by omega)];exact hz2 k (by omega) (by simpa using hk')
     . show a.length-(iw ((n:Int)+1)).toNat<a.length-((n:Int)).toNat;rw[bH]<;>omega
 . have hnL:n=a.length:=by omega
   subst hnL;rw[eU (bK _)]at hv;exact⟨hB,hv,ho⟩
theorem Mq{a b:aB}:bv a*bv b=if(!(a.bG==b.bG))=true then-(val aC a.aP*val aC b.aP)else val aC a.aP*val aC b.aP:=by
 unfold bv;cases a.bG<;>cases b.bG<;>simp[lM,ns]
theorem OU{a b:aB}(ha:bA aC a.aP)(hb:bA aC b.aP)(hl:a.aP.length<=8796093022208)(hl':b.aP.length<=8796093022208):
 Tm (fun N=>km N a b) (fun r=>Is r (bv a*bv b)/\r.aP.length<=a.aP.length+b.aP.length):=by
 unfold km;refine Tm.bind (Pe ha hb (by omega) (by omega)) ?_;rintro s ⟨hs,sv,sl⟩;refine Tm.bind (lQ hs (by omega)) (fun r h=>aS ⟨?_,by omega⟩);rw[Mq,<-sv];exact h.1
theorem PX{a b:aB}(ha:bA aC a.aP)(hb:bA aC b.aP)(hl:a.aP.length<=35184372088832)(hl':b.aP.length<=35184372088832):Tm (fun N=>iN N a b) (fun r=>r=bM (bv a) (bv b)):=by
 unfold iN;refine Tm.bind (o9 ha hl) ?_;rintro x ⟨hx,hxl⟩;refine Tm.bind (o9 hb hl') ?_;rintro y ⟨hy,hyl⟩;have hxv:=hx.dg.val;have hyv:=hy.dg.val;refine Tm.bind (Q:=(·=(x.bG&&!y.bG))) (aZ (fun h=>aS ?_) (fun h=>aS ?_)) ?_
 . revert h;cases x.bG<;>cases y.bG<;>simp
 . revert h;cases x.bG<;>cases y.bG<;>simp
 rintro _ rfl;have c1:=AB (a:=y.aP) (b:=x.aP) hy.dg.bL hx.dg.bL hy.dg.ff hx.dg.ff (by omega) (by omega);have c2:=AB (a:=x.aP) (b:=y.aP) hx.dg.bL hy.dg.bL hx.dg.ff hy.dg.ff (by omega) (by omega);rw[hxv,hyv]at c1 c2;have n1:=hx.neg;have n2:=hy.neg;by_cases p:bv a<0<;>by_cases q:bv b<0
 . simp only[p,q,decide_true]at n1 n2;simp only[n1,n2];refine cC (by simp) (cC (by simp) (cL (by simp) (Tm.bind c1 (fun r h=>aS ?_))));rw[h];unfold bM;split<;>split<;>(try split)<;>omega
 . simp only[p,q,decide_true,decide_false]at n1 n2;simp only[n1,n2];refine cL (by simp) (aS ?_);unfold bM;rw[if_pos (by omega)]
 . simp only[p,q,decide_true,decide_false]at n1 n2;simp only[n1,n2];refine cC (by simp) (cL (by simp) (aS ?_));unfold bM;rw[if_neg (by omega),if_pos (by omega)]
 . simp only[p,q,decide_false]at n1 n2;simp only[n1,n2];refine cC (by simp) (cC (by simp) (cC (by simp) (Tm.bind c2 (fun r h=>aS ?_))));rw[h];unfold bM;split<;>split<;>(try split)<;>omega
open Go Go.X
abbrev aX:Int:=65536
theorem nB:(1:Int)<aX:=by decide
theorem zz{x:Int}(h:0<=x):Int.tmod x 65536=x%65536:=MZ h
theorem zi{x:Int}(h:0<=x):Int.tdiv x 65536=x/65536:=U1 h
theorem ug{l:List Int}(hd:bA aX l)(hl:l.length<=35184372088832):Tm (fun N=>nL N l) (fun r=>Dg aX r (val aX l)/\r.length<=l.length):=by
 unfold nL;refine Tm.bind (Tm.loop (fun s:List Int=>∃n:Nat,n<=l.length/\s=l.take n/\(∀j,(hj:j<l.length)->n<=j->l[j]=0)) (fun s=>s.length) (Q:=fun r=>Dg aX r (val aX l)/\r.length<=l.length) ⟨l.length,bK _,by simp,fun j h1 h2=>absurd h1 (by omega)⟩ ?_) (fun r h=>aS h);rintro _ ⟨n,hn,rfl,h0⟩;have hlen:(l.take n).length=n:=by simp;omega
 dsimp only[Fe];rcases gz n with rfl|hk0
 . refine Tm.bind (Q:=(·=false)) (cC (by simp) (aS rfl)) ?_;rintro _ rfl;exact cC (by simp) (aS ⟨C7 hn hd h0 (.inl rfl),by simp⟩)
 . refine Tm.bind (Q:=(·=decide (l[n-1]=0))) (cL (by omega) (aN (gi (n:=n-1) (by rw[bH]<;>omega) (by omega)) (aS ?_))) ?_
   . rw[List.getElem_take]
   rintro _ rfl;by_cases h:l[n-1]=0
   . refine cL (by simpa using h) (aN (rU (m:=0) (n:=n-1) rfl (by rw[bH]<;>omega) (by omega) (by omega)) (aS ⟨⟨n-1,by omega,?_,fun j h1 h2=>?_⟩,?_⟩))
     . simp[ML]
     . rcases Nat.eq_or_lt_of_le h2 with rfl|h3
       . exact h
       . exact h0 j h1 (by omega)
     . simp;omega
   . exact cC (by simpa using h) (aS ⟨C7 hn hd h0 (.inr ⟨by omega,h⟩),by omega⟩)
theorem oJ{x:aB}(hd:bA aC x.aP)(hl:x.aP.length<=8796093022208):Tm (fun N=>kT N x) (fun r=>Dg aX r (val aC x.aP)/\r.length<=2*x.aP.length):=by
 unfold kT;refine Tm.bind (Tm.loop (fun s:List Int×Int=>∃n:Nat,s.2=n/\n<=x.aP.length/\s.1.length=2*n/\bA aX s.1/\val aX s.1=val aC (x.aP.take n)) (fun s=>x.aP.length-s.2.toNat) (Q:=fun r=>bA aX r/\val aX r=val aC x.aP/\r.length=2*x.aP.length) ⟨0,rfl,fE _,rfl,.nil,by simp[val]⟩ ?_) ?_
 . rintro⟨l,i⟩ ⟨n,rfl,hn,ho,hB,hv⟩;dsimp only[Dk]at*;refine aZ (fun h=>?_) (fun h=>aS ?_)
   . refine aN (cU (by omega)) (aN (cU (by omega)) ?_);have hx:=hd.get (n:=n) (by omega);have ex:x.aP.getD n 0=x.aP[n]'(by omega):=by rw[cA,bV (by omega)];rfl
     generalize x.aP[n]'(by omega)=y at*;simp only[aC]at hx;rw[zz hx.1,zi hx.1,gn];have e1:iw (y%65536)=y%65536:=by rw[bH]<;>omega
     have e2:iw (y/65536%4294967296)=y/65536:=by rw[bH]<;>omega
     rw[e1,e2];refine aN (dN (by simp only[cv,dM];omega) (by decide)) (aS ⟨⟨n+1,by dsimp only;rw[bH]<;>omega,by omega,by simp;omega,hB.append (.cons (B:=65536) (by omega) (.cons (by omega) .nil)),?_⟩,?_⟩)
     . show val aX (l++[y%65536,y/65536])=_;rw[o8,fu,ho,hv,ex,Int.pow_mul];have:val aX [y%65536,y/65536]=y:=by simp only[val,aX];omega
       rw[this];rfl
     . dsimp only;rw[bH]<;>omega
   . have hnL:n=x.aP.length:=by omega
     subst hnL;rw[eU (bK _)]at hv;exact⟨hB,hv,ho⟩
 . rintro r ⟨h1,h2,h3⟩;exact Tm.bind (ug h1 (by omega)) (fun r' h=>aS ⟨h2▸h.1,by omega⟩)
theorem Nq{l:List Int}{d:Int}(h:d≠0):fJ (l++[d]):=by simp[fJ,h]
theorem oO{neg:Bool}{l:List Int}(hd:bA aX l)(hl:l.length<=17592186044416):Tm (fun N=>lj N neg l) (fun r=>Is r (if neg=true then-val aX l else val aX l)/\r.aP.length<=(l.length+1)/2):=by
 unfold lj;refine Tm.bind (ug hd (by omega)) ?_;rintro t ⟨ht,htl⟩;have h0:=ht.wF (by decide);have hz:=ht.zero (by decide);refine Tm.bind (Q:=(·=(neg&&decide (val aX l≠0)))) (aZ (fun h=>aS ?_) (fun h=>aS ?_)) ?_
 . rw[h];by_cases e:t=[]
   . have:=hz.1 e;simp[e,this]
   . have:val aX l≠0:=fun e'=>e (hz.2 e');have:=qV.2 e;simp_all
 . simp at h;simp[h]
 rintro _ rfl;refine Tm.bind (Tm.loop (fun s:List Int×Int=>∃n:Nat,s.2=((2*n:Nat):Int)/\2*n<=t.length+1/\s.1.length=n/\bA aC s.1/\val aC s.1=val aX (t.take (2*n))/\(t.length<=2*n->fJ s.1)) (fun s=>t.length+2-s.2.toNat) (Q:=fun r=>Dg aC r (val aX t)/\r.length<=(t.length+1)/2)
  ⟨0,rfl,by omega,rfl,.nil,by simp[val],fun _=>KY⟩ ?_) ?_
 . rintro⟨ds,i⟩ ⟨n,rfl,hn,ho,hB,hv,hN⟩;dsimp only[Dv]at*;refine aZ (fun h=>?_) (fun h=>aS ?_)
   . refine aN (cU (by omega)) ?_;have hx:=ht.bL.get (n:=2*n) (by omega);have ex:t.getD (2*n) 0=t[2*n]'(by omega):=by rw[cA,bV (by omega)];rfl
     have hlast:t.length=2*n+1->t[2*n]'(by omega)≠0:=fun e h'=>ht.ff (by rw[Gl,e,MO,bV (by omega),h']);generalize t[2*n]'(by omega)=x at*;have hi:iw (((2*n:Nat):Int)+1)=((2*n+1:Nat):Int):=by rw[bH]<;>omega
     refine Tm.bind (Q:=fun d=>d=x+65536*t.getD (2*n+1) 0/\(t.length<=2*n+2->d≠0)) ?_ ?_
     . refine aZ (fun h1=>?_) (fun h1=>aS ?_)
       . refine aN (gi hi (by omega)) (aS ?_);have hy:=ht.bL.get (n:=2*n+1) (by omega);have ey:t.getD (2*n+1) 0=t[2*n+1]'(by omega):=by rw[cA,bV (by omega)];rfl
         have hlast':t.length=2*n+2->t[2*n+1]'(by omega)≠0:=fun e h'=>ht.ff (by rw[Gl,e,show 2*n+2-1=2*n+1 by omega,bV (by omega),h']);rw[ey];generalize t[2*n+1]'(by omega)=y at*;simp only[aX]at hx hy;have e1:dU (dU x+dU (65536*dU y))=x+65536*y:=by
          rw[gn,gn,gn,gn];omega
         rw[e1];exact⟨rfl,fun h'=>by have:=hlast' (by omega);omega⟩
       . have ey:t.getD (2*n+1) 0=0:=by rw[cA,fQ (by omega)];rfl
         rw[ey];simp only[aX]at hx;have:=hlast (by omega);rw[gn];exact⟨by omega,fun _=>by omega⟩
     . rintro _ ⟨rfl,hd0⟩;have hy:=ht.bL.getD (by decide) (2*n+1);have et:val aX (t.take (2*(n+1)))=val aX (t.take (2*n))+aX^(2*n)*(x+65536*t.getD (2*n+1) 0):=by
        rw[show 2*(n+1)=2*n+1+1 by omega,fu,fu,ex,fl];have hw:aX=65536:=rfl;grind
       generalize t.getD (2*n+1) 0=y at*;simp only[aX]at hx hy;refine aN (dN (by simp only[cv,dM];omega) (by decide)) (aS ⟨⟨n+1,by dsimp only;rw[bH]<;>omega,by omega,by simp;omega,hB.append (.cons (B:=4294967296) (by omega) .nil),?_,fun h'=>Nq (hd0 (by omega))⟩,?_⟩)
       . show val aC (ds++[x+65536*y])=_;rw[o8,et,ho,hv,Int.pow_mul];have hw:aX^2=aC:=by decide
         rw[hw];simp only[val];simp
       . dsimp only;rw[bH]<;>omega
   . rw[eU (by omega)]at hv;exact⟨⟨hB,hN (by omega),hv⟩,by omega⟩
 . rintro r ⟨hr,hrl⟩;refine aS ⟨⟨?_,?_⟩,bO (show r.length<=_ from hrl) (Nat.div_le_div_right (by omega))⟩
   . have e:(((if neg=true then-val aX l else val aX l):Int).natAbs:Int)=val aX t:=by rw[ht.val];cases neg<;>simp<;>omega
     rw[e];exact hr
   . show(neg&&decide (val aX l≠0))=_;by_cases e:val aX l=0
     . cases neg<;>simp[e]
     . cases neg
       . simp;omega
       . have:-val aX l<0:=by omega
         simp[e,this];omega
theorem HQ{x:aB}(hd:bA aC x.aP)(hl:x.aP.length<=8796093022208):Tm (fun N=>xh N x) (fun r=>Is r (bv x)/\r.aP.length<=x.aP.length):=by
 unfold xh;refine Tm.bind (oJ hd hl) ?_;rintro h ⟨hh,hhl⟩;refine Tm.bind (oO hh.bL (by omega)) (fun r hr=>aS ⟨?_,by omega⟩);have:=hr.1;rw[hh.val]at this;exact this
theorem yt{x:aB}(hd:bA aC x.aP)(hl:x.aP.length<=8796093022208):Tm (fun N=>qa N x) (fun r=>Is r (-bv x)/\r.aP.length<=x.aP.length):=by
 unfold qa;refine Tm.bind (oJ hd hl) ?_;rintro h ⟨hh,hhl⟩;refine Tm.bind (oO hh.bL (by omega)) (fun r hr=>aS ⟨?_,by omega⟩);have:=hr.1;rw[hh.val]at this;unfold bv;cases hx:x.bG<;>rw[hx]at this<;>simpa using this
theorem oh{x:aB}(hd:bA aC x.aP)(hl:x.aP.length<=8796093022208):Tm (fun N=>kL N x) (fun r=>r=bM (bv x) 0):=by
 unfold kL;refine Tm.bind (oJ hd hl) ?_;rintro h ⟨hh,-⟩;have hz:=hh.zero (by decide);have h0:=hh.wF (by decide);unfold bv;refine aZ (fun h1=>aS ?_) (fun h1=>?_)
 . have:=hz.1 (mo.1 (by omega));unfold bM;rw[this];simp
 . have:val aC x.aP≠0:=fun e=>h1 (by rw[hz.2 e];rfl);refine aZ (fun h'=>aS ?_) (fun h'=>aS ?_)
   . rw[if_pos h'];unfold bM;rw[if_pos (by omega)]
   . rw[if_neg h'];unfold bM;rw[if_neg (by omega),if_pos (by omega)]
theorem I2{a b:List Int}(ha:bA aX a)(hb:bA aX b)(na:fJ a)(nb:fJ b)(hl:a.length<=35184372088832)(hl':b.length<=35184372088832):Tm (fun N=>tC N a b) (fun r=>r=bM (val aX a) (val aX b)):=by
 unfold tC;refine aZ (fun h=>?_) (fun h=>?_)
 . refine aZ (fun h'=>aS ?_) (fun h'=>aS ?_)
   . have:=mX nB ha hb nb (by omega);unfold bM;rw[if_pos this]
   . have:=mX nB hb ha na (by omega);unfold bM;rw[if_neg (by omega),if_pos this]
 . have hle:a.length=b.length:=by omega
   refine Tm.bind (Q:=fun r:Sum Unit Int=>(match r with|.inl _=>0|.inr z=>z)=bM (val aX a) (val aX b))
    (Tm.loop (fun i:Int=>∃n:Nat,i=(n:Int)-1/\n<=a.length/\a.drop n=b.drop n) (fun i=>(i+1).toNat) ⟨a.length,by rw[bH]<;>omega,bK _,by rw[yw (bK _),yw (by omega)]⟩ ?_) ?_
   . rintro _ ⟨n,rfl,hn,hd⟩;dsimp only[CI];refine aZ (fun h1=>?_) (fun h1=>?_)
     . have hna:n-1<a.length:=by omega
       have hnb:n-1<b.length:=by omega
       refine aN (gi (n:=n-1) (by omega) hna) (aN (gi (n:=n-1) (by omega) hnb) (aZ (fun h2=>?_) (fun h2=>?_)))
       . have:=Ap nB ha hb hle hna (by rw[show n-1+1=n by omega];exact hd) h2;refine aS ?_;show(-1:Int)=_;unfold bM;rw[if_pos this]
       . refine aN (gi (n:=n-1) (by omega) hna) (aN (gi (n:=n-1) (by omega) hnb) (aZ (fun h3=>?_) (fun h3=>?_)))
         . have:=Ap nB hb ha hle.symm hnb (by rw[show n-1+1=n by omega];exact hd.symm) h3;refine aS ?_;show(1:Int)=_;unfold bM;rw[if_neg (by omega),if_pos this]
         . refine aS ⟨⟨n-1,by rw[bH]<;>omega,by omega,?_⟩,?_⟩
           . rw[fD hna,fD hnb,show n-1+1=n by omega,hd,show a[n-1]=b[n-1] by omega]
           . show(iw ((n:Int)-1-1)+1).toNat<((n:Int)-1+1).toNat;rw[bH]<;>omega
     . have:n=0:=by omega
       subst this;refine aS ?_;show(0:Int)=_;have:a=b:=by simpa using hd
       rw[this];unfold bM;rw[if_neg (by omega),if_neg (by omega)]
   . rintro(_|z) h<;>exact aS h
theorem fU{l:List Int}{n:Nat}(h:n<l.length):l.getD n 0=l[n]:=by rw[cA,bV h];rfl
theorem mE{l:List Int}{n:Nat}(h:l.length<=n):l.getD n 0=0:=by rw[cA,fQ h];rfl
theorem kO{l:List Int}{n:Nat}(h:l.length<=n):l.take n=l:=eU h
theorem zY{a b:List Int}(ha:bA aX a)(hb:bA aX b)(hl:a.length<=8796093022208)(hl':b.length<=8796093022208):Tm (fun N=>oP N a b) (fun r=>Dg aX r (val aX a+val aX b)/\r.length<=max a.length b.length+1):=by
 unfold oP;generalize hL:max a.length b.length=L;refine Tm.bind (Q:=fun r=>bA aX r/\val aX r=val aX a+val aX b/\r.length<=L+1)
  (Tm.loop (fun s:List Int×Int×Int=>∃n:Nat,s.2.2=n/\n<=L+1/\s.1.length=n/\bA aX s.1/\0<=s.2.1/\s.2.1<=1/\(L<n->s.2.1=0)/\val aX s.1+aX^n*s.2.1=val aX (a.take n)+val aX (b.take n)) (fun s=>L+1-s.2.2.toNat)
   ⟨0,rfl,fE _,rfl,.nil,by simp,by simp,fun _=>rfl,by simp[val]⟩ ?_) ?_
 . rintro⟨out,carry,i⟩ ⟨n,rfl,hn,ho,hB,h0,h1,hc,hv⟩;dsimp only[CT]at*;refine Tm.bind (Q:=(·=decide (n<L\/0<carry))) (aZ (fun h=>aS ?_) (fun h=>aZ (fun h'=>aS ?_) (fun h'=>aS ?_))) ?_
   . have:n<L:=by omega
     simp[this]
   . have:n<L:=by omega
     simp[this]
   . have:¬n<L:=by omega
     simp[this]
   rintro _ rfl;refine aZ (fun h=>?_) (fun h=>aS ?_)
   . have h:=of_decide_eq_true h;have hx:=ha.getD (by decide) n;have hy:=hb.getD (by decide) n;simp only[aX]at hx hy;refine Tm.bind (Q:=(·=carry+a.getD n 0)) (aZ (fun h2=>?_) (fun h2=>aS ?_)) ?_
     . rw[fU (l:=a) (by omega)]at*;refine aN (cU (by omega)) (aS ?_);rw[bH]<;>omega
     . rw[mE (by omega)];omega
     rintro _ rfl;refine Tm.bind (Q:=(·=carry+a.getD n 0+b.getD n 0)) (aZ (fun h2=>?_) (fun h2=>aS ?_)) ?_
     . rw[fU (l:=b) (by omega)]at*;refine aN (cU (by omega)) (aS ?_);rw[bH]<;>omega
     . rw[mE (l:=b) (by omega)];omega
     rintro _ rfl;have hz:L<=n->a.getD n 0=0/\b.getD n 0=0:=fun h=>⟨mE (by omega),mE (by omega)⟩;generalize ex:a.getD n 0=x at*;generalize ey:b.getD n 0=y at*;rw[zz (by omega),zi (by omega)];refine aN (dN (by simp only[cv,dM];omega) (by decide)) (aS ⟨⟨n+1,?_,by omega,by simp;omega,hB.append (.cons (B:=65536) (by omega) .nil),?_,?_,?_,?_⟩,?_⟩)
     . show iw ((n:Int)+1)=_;rw[bH]<;>omega
     . show 0<=iw ((carry+x+y)/65536);rw[bH]<;>omega
     . show iw ((carry+x+y)/65536)<=1;rw[bH]<;>omega
     . intro h';show iw ((carry+x+y)/65536)=0;have:=hz (by omega);rw[bH]<;>omega
     . show val aX (out++[(carry+x+y)%65536])+aX^(n+1)*iw ((carry+x+y)/65536)=_;rw[bH (by omega) (by omega),o8,fu,fu,ex,ey,ho,fl];have:=jO (carry+x+y) 65536;have hw:aX=65536:=rfl;simp only[val];grind
     . show L+1-(iw ((n:Int)+1)).toNat<L+1-((n:Int)).toNat;rw[bH]<;>omega
   . have h:¬(n<L\/0<carry):=fun e=>h (decide_eq_true e);rw[kO (by omega),kO (by omega),show carry=0 by omega]at hv;exact⟨hB,by show val aX out=_;omega,by show out.length<=_;omega⟩
 . rintro r ⟨h1,h2,h3⟩;exact Tm.bind (ug h1 (by omega)) (fun r' h=>aS ⟨h2▸h.1,by omega⟩)
theorem Fy{a b:List Int}(ha:bA aX a)(hb:bA aX b)(hl:a.length<=8796093022208)(hl':b.length<=a.length)(hv:val aX b<=val aX a):Tm (fun N=>qY N a b) (fun r=>Dg aX r (val aX a-val aX b)/\r.length<=a.length):=by
 unfold qY;generalize hL:a.length=L at*;refine Tm.bind (Q:=fun r=>bA aX r/\val aX r=val aX a-val aX b/\r.length=L)
  (Tm.loop (fun s:List Int×Int×Int=>∃n:Nat,s.2.2=n/\n<=L/\s.1.length=n/\bA aX s.1/\0<=s.2.1/\s.2.1<=1/\val aX s.1=val aX (a.take n)-val aX (b.take n)+aX^n*s.2.1) (fun s=>L-s.2.2.toNat)
   ⟨0,rfl,fE _,rfl,.nil,by simp,by simp,by simp[val]⟩ ?_) ?_
 . rintro⟨out,borrow,i⟩ ⟨n,rfl,hn,ho,hB,h0,h1,hv'⟩;dsimp only[FA]at*;refine aZ (fun h=>?_) (fun h=>aS ?_)
   . have hx:=ha.getD (by decide) n;have hy:=hb.getD (by decide) n;simp only[aX]at hx hy;refine aN (cU (by omega)) ?_;rw[<-fU (by omega)];refine Tm.bind (Q:=(·=a.getD n 0-borrow-b.getD n 0)) (aZ (fun h2=>?_) (fun h2=>aS ?_)) ?_
     . rw[fU (l:=b) (by omega)]at*;refine aN (cU (by omega)) (aS ?_);rw[bH,bH]<;>(try rw[bH])<;>omega
     . rw[mE (l:=b) (by omega),bH]<;>omega
     rintro _ rfl;generalize ex:a.getD n 0=x at*;generalize ey:b.getD n 0=y at*;refine Tm.bind (Q:=fun p:Int×Int=>0<=p.1/\p.1<=1/\0<=p.2/\p.2<65536/\p.2=x-borrow-y+65536*p.1) (aZ (fun h2=>aS ?_) (fun h2=>aS ?_)) ?_
     . dsimp only;rw[bH]<;>omega
     . dsimp only;omega
     rintro⟨bo,d⟩ ⟨g1,g2,g3,g4,g5⟩;dsimp only at*;refine aN (dN (by simp only[cv,dM];omega) (by decide)) (aS ⟨⟨n+1,?_,by omega,by simp;omega,hB.append (.cons (B:=65536) (by omega) .nil),g1,g2,?_⟩,?_⟩)
     . show iw ((n:Int)+1)=_;rw[bH]<;>omega
     . show val aX (out++[d])=_;rw[o8,fu,fu,ex,ey,ho,fl];have hw:aX=65536:=rfl;simp only[val];grind
     . show L-(iw ((n:Int)+1)).toNat<L-((n:Int)).toNat;rw[bH]<;>omega
   . have hnL:n=L:=by omega
     subst hnL;rw[kO (by omega),kO (by omega)]at hv';refine⟨hB,?_,ho⟩;show val aX out=_;have l1:=iq (by decide) hB;rw[ho]at l1;have hc:borrow=0\/borrow=1:=by omega
     rcases hc with rfl|rfl
     . omega
     . simp only[aX]at*;omega
 . rintro r ⟨h1,h2,h3⟩;exact Tm.bind (ug h1 (by omega)) (fun r' h=>aS ⟨h2▸h.1,by omega⟩)
theorem K7{a b:Int}:bM a b≥0↔b<=a:=by unfold bM;(repeat' split)<;>omega
theorem w8{a b:aB}(ha:bA aC a.aP)(hb:bA aC b.aP)(hl:a.aP.length<=2199023255552)(hl':b.aP.length<=2199023255552):
 Tm (fun N=>oK N a b) (fun r=>Is r (bv a+bv b)/\r.aP.length<=max a.aP.length b.aP.length+1):=by
 unfold oK;refine Tm.bind (oJ ha (by omega)) ?_;rintro x ⟨hx,hxl⟩;refine Tm.bind (oJ hb (by omega)) ?_;rintro y ⟨hy,hyl⟩;refine aZ (fun h=>?_) (fun h=>?_)
 . have hn:a.bG=b.bG:=by simpa using h
   refine Tm.bind (zY hx.bL hy.bL (by omega) (by omega)) ?_;rintro s ⟨hs,sl⟩;refine Tm.bind (oO hs.bL (by omega)) (fun r hr=>aS ⟨?_,by omega⟩);have hr:=hr.1;rw[hs.val,hx.val,hy.val]at hr;unfold bv;rw[<-hn];cases e:a.bG<;>rw[e]at hr
   . simpa using hr
   . simp only[if_true]at hr⊢;rwa[show-(val aC a.aP+val aC b.aP)=-val aC a.aP+-val aC b.aP by omega]at hr
 . have hn:¬a.bG=b.bG:=by simpa using h
   refine Tm.bind (I2 hx.bL hy.bL hx.ff hy.ff (by omega) (by omega)) ?_;rintro c rfl;refine aZ (fun hc=>?_) (fun hc=>?_)
   . have hge:=K7.1 hc;have hle:y.length<=x.length:=by
      rcases cw x.length y.length with h'|h'
      . have:=mX nB hx.bL hy.bL hy.ff h';omega
      . exact h'
     refine Tm.bind (Fy hx.bL hy.bL (by omega) hle hge) ?_;rintro s ⟨hs,sl⟩;refine Tm.bind (oO hs.bL (by omega)) (fun r hr=>aS ⟨?_,by omega⟩);have hr:=hr.1;rw[hs.val,hx.val,hy.val]at hr;unfold bv;cases e:a.bG<;>cases e':b.bG<;>rw[e]at hr hn<;>rw[e']at hn
     . exact absurd rfl hn
     . simpa[Gp]using hr
     . simp only[if_true,ml,if_false]at hr⊢;rwa[show-(val aC a.aP-val aC b.aP)=-val aC a.aP+val aC b.aP by omega]at hr
     . exact absurd rfl hn
   . have hlt:¬val aX y<=val aX x:=fun e=>hc (K7.2 e);have hle:x.length<=y.length:=by
      rcases cw y.length x.length with h'|h'
      . have:=mX nB hy.bL hx.bL hx.ff h';omega
      . exact h'
     refine Tm.bind (Fy hy.bL hx.bL (by omega) hle (by omega)) ?_;rintro s ⟨hs,sl⟩;refine Tm.bind (oO hs.bL (by omega)) (fun r hr=>aS ⟨?_,by omega⟩);have hr:=hr.1;rw[hs.val,hx.val,hy.val]at hr;unfold bv;cases e:a.bG<;>cases e':b.bG<;>rw[e']at hr hn<;>rw[e]at hn
     . exact absurd rfl hn
     . simp only[if_true,ml,if_false]at hr⊢;rwa[show-(val aC b.aP-val aC a.aP)=val aC a.aP+-val aC b.aP by omega]at hr
     . simp only[if_true,ml,if_false]at hr⊢;rwa[show val aC b.aP-val aC a.aP=-val aC a.aP+val aC b.aP by omega]at hr
     . exact absurd rfl hn
theorem KG{a b:aB}(ha:bA aC a.aP)(hb:bA aC b.aP)(hl:a.aP.length<=2199023255552)(hl':b.aP.length<=2199023255552):
 Tm (fun N=>uM N a b) (fun r=>Is r (bv a-bv b)/\r.aP.length<=max a.aP.length b.aP.length+1):=by
 unfold uM;refine Tm.bind (yt hb (by omega)) ?_;rintro y ⟨hy,hyl⟩;refine Tm.bind (w8 ha hy.dg.bL (by omega) (by omega)) (fun r h=>aS ⟨?_,by omega⟩);have:=h.1;rwa[hy.bv,<-Gp]at this
theorem RZ{a:List Int}{d:Int}(ha:bA aX a)(h0:0<=d)(h1:d<aX)(hl:a.length<=8796093022208):Tm (fun N=>xJ N a d) (fun r=>Dg aX r (val aX a*d)/\r.length<=a.length+1):=by
 unfold xJ;refine Tm.bind (Q:=fun r=>bA aX r/\val aX r=val aX a*d/\r.length<=a.length+1)
  (Tm.loop (fun s:List Int×Int×Int=>∃n:Nat,s.2.2=n/\n<=a.length+1/\s.1.length=n/\bA aX s.1/\0<=s.2.1/\s.2.1<aX/\(a.length<n->s.2.1=0)/\val aX s.1+aX^n*s.2.1=val aX (a.take n)*d) (fun s=>a.length+1-s.2.2.toNat)
   ⟨0,rfl,fE _,rfl,.nil,by simp,(by decide:(0:Int)<aX),fun _=>rfl,by simp[val]⟩ ?_) ?_
 . rintro⟨out,carry,i⟩ ⟨n,rfl,hn,ho,hB,c0,c1,hc,hv⟩;dsimp only[Fs]at*;refine Tm.bind (Q:=(·=decide (n<a.length\/0<carry))) (aZ (fun h=>aS ?_) (fun h=>aS ?_)) ?_
   . have:n<a.length:=by omega
     simp[this]
   . have:¬n<a.length:=by omega
     simp[this]
   rintro _ rfl;refine aZ (fun h=>?_) (fun h=>aS ?_)
   . have h:=of_decide_eq_true h;have hx:=ha.getD (by decide) n;simp only[aX]at hx h1 c1;have hm:0<=a.getD n 0*d/\a.getD n 0*d<=65535*65535:=⟨eI hx.1 h0,nr (by omega) (by omega) h0 (by decide)⟩;refine Tm.bind (Q:=(·=carry+a.getD n 0*d)) (aZ (fun h2=>?_) (fun h2=>aS ?_)) ?_
     . rw[fU (l:=a) (by omega)]at*;refine aN (cU (by omega)) (aS ?_);rw[bH (z:=_*_) (by omega) (by omega),bH (by omega) (by omega)]
     . rw[mE (by omega)];simp
     rintro _ rfl;have hz:a.length<=n->a.getD n 0=0:=fun h=>mE (by omega);have hz':a.length<=n->a.getD n 0*d=0:=fun h=>by rw[hz h];simp
     generalize exd:a.getD n 0*d=xd at*;rw[zz (by omega),zi (by omega)];refine aN (dN (by simp only[cv,dM];omega) (by decide)) (aS ⟨⟨n+1,?_,by omega,by simp;omega,hB.append (.cons (B:=65536) (by omega) .nil),?_,?_,?_,?_⟩,?_⟩)
     . show iw ((n:Int)+1)=_;rw[bH]<;>omega
     . show 0<=iw ((carry+xd)/65536);rw[bH]<;>omega
     . show iw ((carry+xd)/65536)<65536;rw[bH]<;>omega
     . intro h';show iw ((carry+xd)/65536)=0;have:=hz' (by omega);rw[bH]<;>omega
     . show val aX (out++[(carry+xd)%65536])+aX^(n+1)*iw ((carry+xd)/65536)=_;rw[bH (by omega) (by omega),o8,fu,ho,fl];have:=jO (carry+xd) 65536;have hw:aX=65536:=rfl;simp only[val];grind
     . show a.length+1-(iw ((n:Int)+1)).toNat<a.length+1-((n:Int)).toNat;rw[bH]<;>omega
   . have h:¬(n<a.length\/0<carry):=fun e=>h (decide_eq_true e);rw[kO (by omega),show carry=0 by omega]at hv;exact⟨hB,by show val aX out=_;omega,by show out.length<=_;omega⟩
 . rintro r ⟨h1,h2,h3⟩;exact Tm.bind (ug h1 (by omega)) (fun r' h=>aS ⟨h2▸h.1,by omega⟩)
theorem Dp{a b:aB}(ha:bA aC a.aP)(hb:bA aC b.aP)(hl:a.aP.length<=1099511627776)(hl':b.aP.length<=1099511627776):
 Tm (fun N=>sc N a b) (fun r=>Is r (bv a*bv b)/\r.aP.length<=a.aP.length+b.aP.length):=by
 unfold sc;refine Tm.bind (oJ ha (by omega)) ?_;rintro x ⟨hx,hxl⟩;refine Tm.bind (oJ hb (by omega)) ?_;rintro y ⟨hy,hyl⟩;refine Tm.bind (Tm.loop (fun s:List Int×Int=>∃n:Nat,s.2=(n:Int)-1/\n<=y.length/\Dg aX s.1 (val aX x*val aX (y.drop n))/\s.1.length<=x.length+(y.length-n)) (fun s=>(s.2+1).toNat) (Q:=fun r=>Dg aX r (val aX x*val aX y)/\r.length<=x.length+y.length)
  ⟨y.length,by dsimp only;rw[bH]<;>omega,bK _,by simpa[val]using Dg.nil,by simp⟩ ?_) ?_
 . rintro⟨sum,i⟩ ⟨n,rfl,hn,hs,hsl⟩;dsimp only[Ee]at*;refine aZ (fun h=>?_) (fun h=>aS ?_)
   . refine aN (dN (by simp only[cv,dM];omega) (by decide)) ?_;have hny:n-1<y.length:=by omega
     refine aN (gi (n:=n-1) (by omega) hny) ?_;have hd:=hy.bL.get hny;refine Tm.bind (RZ hx.bL hd.1 hd.2 (by omega)) ?_;rintro t ⟨ht,htl⟩;refine Tm.bind (zY (a:=[0]++sum) (.append (.cons (by decide) .nil) hs.bL) ht.bL (by simp;omega) (by omega)) ?_;rintro r ⟨hr,hrl⟩;refine aS ⟨⟨n-1,by dsimp only;rw[bH]<;>omega,by omega,?_,?_⟩,?_⟩
     . have e:val aX ([0]++sum)+val aX t=val aX x*val aX (y.drop (n-1)):=by
        rw[ht.val,fD hny,show n-1+1=n by omega];simp only[MX,val,hs.val];grind
       show Dg aX r _;rw[<-e];exact hr
     . show r.length<=_;have hb:val aX ([0]++sum)+val aX t<aX^(x.length+(y.length-(n-1))):=by
        have e:val aX ([0]++sum)+val aX t=val aX x*val aX (y.drop (n-1)):=by
         rw[ht.val,fD hny,show n-1+1=n by omega];simp only[MX,val,hs.val];grind
        rw[e,jM];have l1:=iq (by decide) hx.bL;have l2:=iq (by decide) (hy.bL.drop (n-1));have l3:=gH (by decide) hx.bL;have l4:=gH (by decide) (hy.bL.drop (n-1));rw[vQ]at l2;exact Int.mul_lt_mul' (by omega) l2 l4 (kF (by decide) _)
       exact EF nB hr.bL hr.ff (by rw[hr.val];exact hb)
     . show(iw ((n:Int)-1-1)+1).toNat<((n:Int)-1+1).toNat;rw[bH]<;>omega
   . have:n=0:=by omega
     subst this;exact⟨by simpa using hs,by simpa using hsl⟩
 . rintro s ⟨hs,hsl⟩;refine Tm.bind (oO hs.bL (by omega)) (fun r hr=>aS ⟨?_,by omega⟩);have hr:=hr.1;rw[hs.val,hx.val,hy.val]at hr;rw[Mq];exact hr
theorem uW{n:Int}(h1:-9223372036854775808<=n)(h2:n<=9223372036854775807):Tm (fun N=>kS N n) (fun r=>Is r n/\r.aP.length<=2):=by
 unfold kS;refine Tm.bind (Q:=(·=(n.natAbs:Int))) (aZ (fun h=>aS ?_) (fun h=>aS ?_)) ?_
 . rw[bH (z:=n+1) (by omega) (by omega),bH (by omega) (by omega),fM,fM];omega
 . rw[fM];omega
 rintro _ rfl;refine Tm.bind (Tm.loop (fun s:Int×List Int=>∃m:Nat,m<=4/\s.2.length=m/\bA aX s.2/\0<=s.1/\s.1<aX^(4-m)/\val aX s.2+aX^m*s.1=n.natAbs) (fun s=>s.1.toNat) (Q:=fun r=>bA aX r/\val aX r=n.natAbs/\r.length<=4)
  ⟨0,by omega,rfl,.nil,by simp,by simp only[aX];omega,by simp[val]⟩ ?_) ?_
 . rintro⟨u,l⟩ ⟨m,hm,hl,hB,u0,u1,hv⟩;dsimp only[Ec]at*;refine aZ (fun h=>?_) (fun h=>aS ?_)
   . have hm':m≠4:=by rintro rfl;simp at u1;omega
     have hu:u<18446744073709551616:=by
      have:aX^(4-m)<=aX^4:=j4 (by decide) (by omega);have e:aX^4=18446744073709551616:=by decide
      omega
     rw[zz u0,zi u0];have e1:iw (u%65536)=u%65536:=by rw[bH]<;>omega
     have e2:uw (u/65536)=u/65536:=by rw[fM];omega
     rw[e1,e2];refine aN (dN (by simp only[cv,dM];omega) (by decide)) (aS ⟨⟨m+1,by omega,by simp;omega,hB.append (.cons (B:=65536) (by omega) .nil),?_,?_,?_⟩,?_⟩)
     . show 0<=u/65536;omega
     . show u/65536<aX^(4-(m+1));have e:aX^(4-m)=aX^(4-(m+1))*65536:=by rw[show 4-m=4-(m+1)+1 by omega,fl]
       rw[e]at u1;exact Gt (by decide) u1
     . show val aX (l++[u%65536])+aX^(m+1)*(u/65536)=_;rw[o8,hl,fl];have:=jO u 65536;have hw:aX=65536:=rfl;simp only[val];grind
     . show(u/65536).toNat<u.toNat;omega
   . have:u=0:=by omega
     subst this;exact⟨hB,by show val aX l=_;simpa using hv,by show l.length<=4;omega⟩
 . rintro l ⟨hB,hv,hl⟩;refine Tm.bind (oO hB (by omega)) (fun r hr=>aS ⟨?_,by omega⟩);have hr:=hr.1;rw[hv]at hr;by_cases hn:n<0
   . simp only[hn,decide_true,if_true]at hr;rwa[show-(n.natAbs:Int)=n by omega]at hr
   . simp only[hn,decide_false,ml,if_false]at hr;rwa[show(n.natAbs:Int)=n by omega]at hr
open Go Go.X
def CM(N:Nat)(c:Constraint)(n:Int):(Int×Int)->Option (aK (Int×Int) (Sum Unit Bool))
 |(d,a)=>(if(a:Int)<(List.length c.Linear.aT:Int)then (idx c.Linear.aT a).bind fun b=>(((if(b.Var:Int)<=d then some true else some (decide ((b.Var:Int)≥n))):Option Bool)).bind fun ss=>match ss with
    |e=>(if e=true then some (aK.done (Sum.inr false)) else some (aK.next (b.Var,(iw (a+1))))) else some (aK.done (Sum.inl ())))
def tF(N:Nat)(c:Constraint)(n:Int):Option Bool:=(bI (CM N c n) N ((-1),0)).bind fun ss=>match ss with
  |(Sum.inl _)=>(if(n:Int)≥0 then some (decide ((n:Int)<=512)) else some false)
  |(Sum.inr a)=>some a
def CY(N:Nat)(l:(List aB)):((List aB)×Int)->Option (aK ((List aB)×Int) (List aB))
 |(b,a)=>(if(a:Int)<(List.length l:Int)then (idx l a).bind fun c=>(jq N c).bind fun d=>(cM 32 b [d]).bind fun e=>some (aK.next (e,(iw (a+1)))) else some (aK.done b))
def yc(N:Nat)(l:(List aB))(bound:aB):Option bB:=(lq N bound).bind fun a=>(bI (CY N l) N (([]:(List aB)),0)).bind fun ss=>match ss with
  |b=>some (bB.mk b a)
def De(N:Nat)(c:Constraint):((List aB)×Int)->Option (aK ((List aB)×Int) (List aB))
 |(a,b)=>(if(b:Int)<(List.length c.Linear.aT:Int)then (idx c.Linear.aT b).bind fun d=>(fN N d.N).bind fun e=>(idx a d.Var).bind fun g=>(dw a d.Var e).bind fun f=>some (aK.next (f,(iw (b+1)))) else some (aK.done a))
def cOf(N:Nat)(c:Constraint)(n:Int):Option (List bB):=(tF N c n).bind fun r6=>(if(!r6)=true then some ([]:(List bB)) else (gg (α:=aB) 32 (aB.mk false []) n).bind fun d=>(fN N c.Linear.Const).bind fun e=>(jq N e).bind fun b=>(bI (De N c) N (d,0)).bind fun ss=>match ss with
   |a=>(if(!c.e9)=true then some [(bB.mk a b)] else (fN N c.Linear.Const).bind fun f=>(yc N a f).bind fun g=>some [(bB.mk a b),g]))
def DP(N:Nat)(l:(List Constraint))(n:Int):((List bB)×Int)->Option (aK ((List bB)×Int) (Sum (List bB) (List bB)))
 |(b,a)=>(if(a:Int)<(List.length l:Int)then (idx l a).bind fun c=>(tF N c n).bind fun d=>(if(!d)=true then some (aK.done (Sum.inr ([]:(List bB)))) else (cOf N c n).bind fun e=>(cM 56 b e).bind fun f=>some (aK.next (f,(iw (a+1))))) else some (aK.done (Sum.inl b)))
def um(N:Nat)(l:(List Constraint))(n:Int):Option (List bB):=(bI (DP N l n) N (([]:(List bB)),0)).bind fun ss=>match ss with
  |(Sum.inl a)=>some a
  |(Sum.inr b)=>some b
def yP(N:Nat)(s:(List bB)):Option (List bB):=(cM 56 ([]:(List bB)) s).bind fun a=>some a
def AW(N:Nat)(s:(List bB)):Option (List bB):= some s
open Go Go.X
def u6(N:Nat)(n:Int):Option bB:=(gg (α:=aB) 32 (aB.mk false []) n).bind fun x7=>some (bB.mk x7 (aB.mk false ([]:(List Int))))
def EH(N:Nat)(c:Constraint)(n:Int):Int->Option (aK Int (Sum Unit Bool))
 |a=>(if(a:Int)<(List.length c.Linear.aT:Int)then (idx c.Linear.aT a).bind fun b=>(((if(b.Var:Int)<0 then some true else (if(b.Var:Int)≥n then some true else (if(a:Int)>0 then (idx c.Linear.aT (iw (a-1))).bind fun d=>some (decide ((b.Var:Int)<=d.Var)) else some false))):Option Bool)).bind fun ss=>match ss with
    |e=>(if e=true then some (aK.done (Sum.inr false)) else some (aK.next (iw (a+1)))) else some (aK.done (Sum.inl ())))
def rX(N:Nat)(c:Constraint)(n:Int):Option Bool:=(bI (EH N c n) N 0).bind fun ss=>match ss with
  |(Sum.inl _)=>(if(n:Int)≥0 then some (decide ((n:Int)<=512)) else some false)
  |(Sum.inr a)=>some a
def zq(N:Nat)(q:bB):((List aB)×Int)->Option (aK ((List aB)×Int) (List aB))
 |(b,a)=>(if(a:Int)<(List.length q.aT:Int)then (idx q.aT a).bind fun c=>(qa N c).bind fun d=>(cM 32 b [d]).bind fun e=>some (aK.next (e,(iw (a+1)))) else some (aK.done b))
def pS(N:Nat)(q:bB)(bound:aB):Option bB:=(xh N bound).bind fun a=>(bI (zq N q) N (([]:(List aB)),0)).bind fun ss=>match ss with
  |b=>some (bB.mk b a)
def CU(N:Nat)(c:Constraint):((List aB)×Int)->Option (aK ((List aB)×Int) (List aB))
 |(b,a)=>(if(a:Int)<(List.length c.Linear.aT:Int)then (idx c.Linear.aT a).bind fun d=>(idx c.Linear.aT a).bind fun e=>(kS N e.N).bind fun f=>(idx b d.Var).bind fun i=>(dw b d.Var f).bind fun g=>some (aK.next (g,(iw (a+1)))) else some (aK.done b))
def yo(N:Nat)(c:Constraint)(n:Int):Option (List bB):=(rX N c n).bind fun r6=>(if(!r6)=true then some ([]:(List bB)) else (u6 N n).bind fun e=>(bI (CU N c) N (e.aT,0)).bind fun ss=>match ss with
   |a=>(kS N c.Linear.Const).bind fun d=>(qa N d).bind fun b=>(if(!c.e9)=true then some [(bB.mk a b)] else (pS N (bB.mk a b) d).bind fun f=>some [(bB.mk a b),f]))
def DL(N:Nat)(l:(List Constraint))(n:Int):((List bB)×Int)->Option (aK ((List bB)×Int) (Sum (List bB) (List bB)))
 |(b,a)=>(if(a:Int)<(List.length l:Int)then (idx l a).bind fun c=>(rX N c n).bind fun d=>(if(!d)=true then some (aK.done (Sum.inr ([]:(List bB)))) else (idx l a).bind fun e=>(yo N e n).bind fun f=>(cM 56 b f).bind fun g=>some (aK.next (g,(iw (a+1))))) else some (aK.done (Sum.inl b)))
def w5(N:Nat)(l:(List Constraint))(n:Int):Option (List bB):=(bI (DL N l n) N (([]:(List bB)),0)).bind fun ss=>match ss with
  |(Sum.inl a)=>some a
  |(Sum.inr b)=>some b
def xX(N:Nat)(l:(List bB)):Int->Option (aK Int (Sum Unit Bool))
 |a=>(if(a:Int)<(List.length l:Int)then (idx l a).bind fun b=>(idx l 0).bind fun c=>(if((List.length b.aT:Int):Int)≠(List.length c.aT:Int)then some (aK.done (Sum.inr false)) else some (aK.next (iw (a+1)))) else some (aK.done (Sum.inl ())))
def uR(N:Nat)(l:(List bB)):Option Bool:=(bI (xX N l) N 0).bind fun ss=>match ss with
  |(Sum.inl _)=>some true
  |(Sum.inr a)=>some a
def xU(N:Nat)(c:Int)(d:dR)(e:bB):((List aB)×Int)->Option (aK ((List aB)×Int) (List aB))
 |(b,a)=>(if(a:Int)<c then (idx b a).bind fun f=>(idx e.aT a).bind fun g=>(sc N g d.N).bind fun i=>(oK N f i).bind fun j=>(idx b a).bind fun l=>(dw b a j).bind fun k=>some (aK.next (k,(iw (a+1)))) else some (aK.done b))
def Fk(N:Nat)(l:(List bB))(s:Step)(i:Int):((List aB)×Bool×(List Int)×Int)->Option (aK ((List aB)×Bool×(List Int)×Int) (Sum ((List aB)×Bool×(List Int)) (bB×Bool)))
 |(c,d,e,b)=>(if(b:Int)<(List.length s.Uses:Int)then (idx s.Uses b).bind fun a=>(((if(a.Index:Int)<0 then some true else (if(a.Index:Int)≥(List.length l:Int)then some true else (kL N a.N).bind fun j=>some (decide ((j:Int)<0)))):Option Bool)).bind fun ss=>match ss with
    |k=>(if k=true then some (aK.done (Sum.inr ((bB.mk [] (aB.mk false [])),false))) else (idx l a.Index).bind fun f=>(bI (xU N i a f) N (c,0)).bind fun ss=>match ss with
       |m=>(sc N f.dA a.N).bind fun n=>(oK N (aB.mk d e) n).bind fun g=>some (aK.next (m,g.bG,g.aP,(iw (b+1))))) else some (aK.done (Sum.inl (c,d,e))))
def wC(N:Nat)(s:Step)(d:Int):((List aB)×Int)->Option (aK ((List aB)×Int) (Sum (List aB) (bB×Bool)))
 |(b,a)=>(if(a:Int)<d then (idx b a).bind fun e=>(tZ N e s.gh).bind fun c=>(kL N c.2.1).bind fun f=>(if(f:Int)≠0 then some (aK.done (Sum.inr ((bB.mk [] (aB.mk false [])),false))) else (idx b a).bind fun i=>(dw b a c.1).bind fun g=>some (aK.next (g,(iw (a+1))))) else some (aK.done (Sum.inl b)))
def wH(N:Nat)(l:(List bB))(s:Step):Option (bB×Bool):=(((uR N l).bind fun c=>(if(!c)=true then some true else (kL N s.gh).bind fun d=>some (decide ((d:Int)<=0))):Option Bool)).bind fun ss=>match ss with
  |e=>(if e=true then some ((bB.mk [] (aB.mk false [])),false) else (((if((List.length l:Int):Int)>0 then (idx l 0).bind fun f=>some (List.length f.aT:Int) else some 0):Option Int)).bind fun ss=>match ss with
     |a=>(u6 N a).bind fun b=>(bI (Fk N l s a) N (b.aT,b.dA.bG,b.dA.aP,0)).bind fun ss=>match ss with
       |(Sum.inl (g,i,j))=>(bI (wC N s a) N (g,0)).bind fun ss=>match ss with
         |(Sum.inl k)=>(tZ N (aB.mk i j) s.gh).bind fun m=>some ((bB.mk k m.1),true)
         |(Sum.inr n)=>some n
       |(Sum.inr o)=>some o)
def wz(N:Nat)(q:bB):Int->Option (aK Int (Sum Unit Bool))
 |a=>(if(a:Int)<(List.length q.aT:Int)then (idx q.aT a).bind fun b=>(kL N b).bind fun c=>(if(c:Int)≠0 then some (aK.done (Sum.inr false)) else some (aK.next (iw (a+1)))) else some (aK.done (Sum.inl ())))
def xD(N:Nat)(q:bB):Option Bool:=(bI (wz N q) N 0).bind fun ss=>match ss with
  |(Sum.inl _)=>(kL N q.dA).bind fun a=>some (decide ((a:Int)<0))
  |(Sum.inr b)=>some b
def zn(N:Nat)(p:Proof):((List bB)×Int)->Option (aK ((List bB)×Int) (Sum (List bB) Bool))
 |(a,b)=>(if(b:Int)<(List.length p.Steps:Int)then (idx p.Steps b).bind fun d=>(wH N a d).bind fun c=>(if(!c.2)=true then some (aK.done (Sum.inr false)) else (cM 56 a [c.1]).bind fun e=>some (aK.next (e,(iw (b+1))))) else some (aK.done (Sum.inl a)))
def C1(N:Nat)(b:(List bB)):Int->Option (aK Int (Sum Unit Bool))
 |a=>(if(a:Int)<(List.length b:Int)then (idx b a).bind fun c=>(xD N c).bind fun d=>(if d=true then some (aK.done (Sum.inr true)) else some (aK.next (iw (a+1)))) else some (aK.done (Sum.inl ())))
def so(N:Nat)(self:(List bB)->Proof->Option Bool)(l:(List bB))(p:Proof):Option Bool:=(uR N l).bind fun r6=>(if(!r6)=true then some false else (cM 56 ([]:(List bB)) l).bind fun b=>(bI (zn N p) N (b,0)).bind fun ss=>match ss with
   |(Sum.inl a)=>(if((List.length p.mi:Int):Int)=0 then (bI (C1 N a) N 0).bind fun ss=>match ss with
      |(Sum.inl _)=>some false
      |(Sum.inr c)=>some c else (((if((List.length p.mi:Int):Int)≠2 then some true else (if((List.length a:Int):Int)>0 then (idx a 0).bind fun d=>some (decide (((List.length p.Form:Int):Int)≠(List.length d.aT:Int))) else some false)):Option Bool)).bind fun ss=>match ss with
      |e=>(if e=true then some false else (qa N p.dA).bind fun f=>(kS N 1).bind fun g=>(uM N f g).bind fun i=>(pS N (bB.mk p.Form p.dA) i).bind fun j=>(cM 56 ([]:(List bB)) a).bind fun k=>(cM 56 k [(bB.mk p.Form p.dA)]).bind fun m=>(cM 56 ([]:(List bB)) a).bind fun n=>(cM 56 n [j]).bind fun o=>(idx p.mi 0).bind fun s=>(self m s).bind fun u=>(if u=true then (idx p.mi 1).bind fun v=>(self o v).bind fun y=>some y else some false)))
   |(Sum.inr a0)=>some a0)
def rP:Nat->(List bB)->Proof->Option Bool
 |0=>fun _ _=>none
 |N+1=>so N (rP N)
open Go Go.X
def jE(K:Nat)(x:aB):Prop:=bA aC x.aP/\x.aP.length<=K
def qd(K:Nat)(q:bB):Prop:=q.aT.length<=K/\(∀b∈q.aT,jE K b)/\jE K q.dA
theorem jE.mono{K K':Nat}{x:aB}(h:jE K x)(hK:K<=K'):jE K' x:=⟨h.1,by have:=h.2;omega⟩
theorem jE.nil{K:Nat}{b:Bool}:jE K ⟨b,[]⟩:=⟨.nil,fE _⟩
abbrev eP:aB:=⟨false,[]⟩
theorem Rg{b:Bool}:bv ⟨b,[]⟩=0:=by cases b<;>rfl
theorem Is.ok{x:aB}{v:Int}{K:Nat}(h:Is x v)(hl:x.aP.length<=K):jE K x:=⟨h.dg.bL,hl⟩
theorem Tm.each{α β:Type}{body:Nat->Int->Option (aK Int (Sum Unit β))}(xs:List α)(P:α->Prop){Q:Sum Unit β->Prop}(hl:xs.length<=9223372036854775807)
 (step:∀(n:Nat) (hn:n<xs.length),(∀j,(hj:j<xs.length)->j<n->P xs[j])->Tm (fun N=>body N (n:Int)) (fun t=>(t=.next (iw ((n:Int)+1))/\P xs[n])\/(∃b,t=.done (.inr b)/\Q (.inr b))))
 (fin:(∀x∈xs,P x)->Tm (fun N=>body N (xs.length:Int)) (fun t=>∃r,t=.done r/\Q r)):Tm (fun N=>bI (body N) N 0) Q:=by
 refine Tm.loop (fun i:Int=>∃n:Nat,i=n/\n<=xs.length/\∀j,(hj:j<xs.length)->j<n->P xs[j]) (fun i:Int=>xs.length-i.toNat) ⟨0,rfl,fE _,fun _ _ h=>absurd h (by omega)⟩ ?_;rintro _ ⟨n,rfl,hn,hP⟩;rcases cw n xs.length with h|h
 . refine(step n h hP).mono ?_;rintro t (⟨rfl,hp⟩|⟨b,rfl,hq⟩)
   . refine⟨⟨n+1,by rw[bH]<;>omega,by omega,fun j hj hlt=>?_⟩,?_⟩
     . rcases cw j n with h'|h'
       . exact hP j hj h'
       . obtain rfl:j=n:=by omega
         exact hp
     . show xs.length-(iw ((n:Int)+1)).toNat<xs.length-((n:Int)).toNat;rw[bH]<;>omega
   . exact hq
 . obtain rfl:n=xs.length:=by omega
   refine(fin fun x hx=>?_).mono ?_
   . obtain⟨j,hj,rfl⟩:=Gh.1 hx;exact hP j hj hj
   . rintro t ⟨r,rfl,hq⟩;exact hq
theorem ta{l:List aB}{n:Nat}(h:n<l.length):l.getD n eP=l[n]:=by rw[cA,bV h];rfl
theorem EX{a b:Int}:bM a b<=0↔a<=b:=by unfold bM;(repeat' split)<;>omega
def xI(q:bB):Bool:=decide ((∀b∈q.aT,bv b=0)/\bv q.dA<0)
theorem Af{a:Int}:bM a 0=0↔a=0:=by unfold bM;(repeat' split)<;>omega
theorem As{a:Int}:bM a 0<0↔a<0:=by unfold bM;(repeat' split)<;>omega
theorem SK{K:Nat}{q:bB}(hK:K<=1073741824)(hq:qd K q):Tm (fun N=>xD N q) (fun r=>r=xI q):=by
 unfold xD xI;have hlK:=hq.1;refine Tm.bind (Tm.each (body:=fun N=>wz N q) q.aT (fun b=>bv b=0) (Q:=fun r=>(r=.inr false/\¬∀b∈q.aT,bv b=0)\/(r=.inl ()/\∀b∈q.aT,bv b=0)) (by omega) ?_ ?_) ?_
 . intro n hn _;unfold wz;have h1:=hq.2.1 _ (cX hn);refine cL (by omega) (aN (cU hn) (Tm.bind (oh h1.1 (by have:=h1.2;omega)) ?_));rintro _ rfl;refine aZ (fun h=>aS (.inr ⟨_,rfl,.inl ⟨rfl,fun h'=>h (Af.2 (h' _ (cX hn)))⟩⟩)) (fun h=>aS (.inl ⟨rfl,Af.1 (by omega)⟩))
 . intro h;unfold wz;exact cC (by omega) (aS ⟨_,rfl,.inr ⟨rfl,h⟩⟩)
 . rintro _ (⟨rfl,h⟩|⟨rfl,h⟩)
   . refine aS ?_;simp only[h,false_and,decide_false]
   . refine Tm.bind (oh hq.2.2.1 (by have:=hq.2.2.2;omega)) ?_;rintro _ rfl;refine aS ?_;simp only[As];exact decide_eq_decide.2 ⟨fun h'=>⟨h,h'⟩,fun h'=>h'.2⟩
open Go Go.X
def fe(c:Constraint)(n:Int):Prop:=(∀i,(h:i<c.Linear.aT.length)->0<=c.Linear.aT[i].Var/\c.Linear.aT[i].Var<n/\(∀(_:0<i),(c.Linear.aT[i-1]'(by omega)).Var<c.Linear.aT[i].Var))/\0<=n/\n<=512
theorem I3{c:Constraint}{n:Int}(hl:c.Linear.aT.length<=9223372036854775807):Tm (fun N=>tF N c n) (fun r=>r=true↔fe c n):=by
 unfold tF;generalize hcs:c.Linear.aT=cs at hl;have hR:fe c n↔((∀i,(h:i<cs.length)->0<=cs[i].Var/\cs[i].Var<n/\(∀(_:0<i),(cs[i-1]'(by omega)).Var<cs[i].Var))/\0<=n/\n<=512):=by subst hcs;rfl
 refine Tm.bind (Tm.loop (fun s:Int×Int=>∃k:Nat,s.2=k/\k<=cs.length/\(k=0->s.1=-1)/\(∀h:0<k/\k-1<cs.length,s.1=cs[k-1].Var)/\∀i,(h:i<cs.length)->i<k->0<=cs[i].Var/\cs[i].Var<n/\(∀(_:0<i),(cs[i-1]'(by omega)).Var<cs[i].Var)) (fun s=>cs.length-s.2.toNat)
  (Q:=fun r=>(r=.inl ()/\∀i,(h:i<cs.length)->0<=cs[i].Var/\cs[i].Var<n/\(∀(_:0<i),(cs[i-1]'(by omega)).Var<cs[i].Var))\/(r=.inr false/\¬fe c n)) ⟨0,rfl,fE _,fun _=>rfl,fun h=>absurd h.1 (by omega),fun i _ h=>absurd h (by omega)⟩ ?_) ?_
 . rintro⟨last,i⟩ ⟨k,rfl,hk,h0,h1,hP⟩;dsimp only[CM]at*;rw[hcs];refine aZ (fun h=>?_) (fun h=>aS (.inl ⟨rfl,fun i hi=>hP i hi (by omega)⟩));have hkl:k<cs.length:=by omega
   refine aN (cU hkl) (Tm.bind (Q:=(·=decide (cs[k].Var<=last\/cs[k].Var≥n))) (aZ (fun h=>aS ?_) (fun h=>aS ?_)) ?_)
   . simp[h]
   . simp[h]
   rintro _ rfl;refine aZ (fun h=>aS (.inr ⟨rfl,fun hr=>?_⟩)) (fun h=>aS ⟨⟨k+1,by dsimp only;rw[bH]<;>omega,by omega,fun h=>by omega,fun _=>rfl,fun i hi hik=>?_⟩,?_⟩)
   . have h:=of_decide_eq_true h;have:=(hR.1 hr).1 k hkl;rcases gz k with h'|h'
     . have:=h0 h';omega
     . have h2:=this.2.2 h';have h3:=h1 ⟨h',by omega⟩;omega
   . have h:¬(cs[k].Var<=last\/cs[k].Var≥n):=fun e=>h (decide_eq_true e);rcases cw i k with h'|h'
     . exact hP i hi h'
     . obtain rfl:i=k:=by omega
       rcases gz i with h'|h'
       . have:=h0 h';exact⟨by omega,by omega,fun e=>by omega⟩
       . have h3:=h1 ⟨h',by omega⟩;have h4:=hP (i-1) (by omega) (by omega);exact⟨by omega,by omega,fun _=>by omega⟩
   . show cs.length-(iw ((k:Int)+1)).toNat<cs.length-((k:Int)).toNat;rw[bH]<;>omega
 . rintro _ (⟨rfl,h⟩|⟨rfl,h⟩)
   . refine aZ (fun h1=>aS ?_) (fun h1=>aS ?_)
     . rw[hR];simp only[decide_eq_true_eq];exact⟨fun h2=>⟨h,by omega,h2⟩,fun h2=>h2.2.2⟩
     . rw[hR];exact⟨fun h2=>(by cases h2),fun h2=>absurd h2.2.1 (by omega)⟩
   . exact aS ⟨fun h'=>(by cases h'),fun h'=>absurd h' h⟩
theorem C3{c:Constraint}{n:Int}(hl:c.Linear.aT.length<=9223372036854775807):Tm (fun N=>rX N c n) (fun r=>r=true↔fe c n):=by
 unfold rX;generalize hcs:c.Linear.aT=cs at hl;have hR:fe c n↔((∀i,(h:i<cs.length)->0<=cs[i].Var/\cs[i].Var<n/\(∀(_:0<i),(cs[i-1]'(by omega)).Var<cs[i].Var))/\0<=n/\n<=512):=by subst hcs;rfl
 refine Tm.bind (Tm.loop (fun s:Int=>∃k:Nat,s=k/\k<=cs.length/\∀i,(h:i<cs.length)->i<k->0<=cs[i].Var/\cs[i].Var<n/\(∀(_:0<i),(cs[i-1]'(by omega)).Var<cs[i].Var)) (fun s=>cs.length-s.toNat)
  (Q:=fun r=>(r=.inl ()/\∀i,(h:i<cs.length)->0<=cs[i].Var/\cs[i].Var<n/\(∀(_:0<i),(cs[i-1]'(by omega)).Var<cs[i].Var))\/(r=.inr false/\¬fe c n)) ⟨0,rfl,fE _,fun i _ h=>absurd h (by omega)⟩ ?_) ?_
 . rintro _ ⟨k,rfl,hk,hP⟩;dsimp only[EH]at*;rw[hcs];refine aZ (fun h=>?_) (fun h=>aS (.inl ⟨rfl,fun i hi=>hP i hi (by omega)⟩));have hkl:k<cs.length:=by omega
   refine aN (cU hkl) (Tm.bind (Q:=fun r=>r=true↔¬(0<=cs[k].Var/\cs[k].Var<n/\(∀(_:0<k),(cs[k-1]'(by omega)).Var<cs[k].Var))) (aZ (fun h=>aS ?_) (fun h=>aZ (fun h'=>aS ?_) (fun h'=>aZ (fun h2=>?_) (fun h2=>aS ?_)))) ?_)
   . exact⟨fun _ e=>by omega,fun _=>rfl⟩
   . exact⟨fun _ e=>by omega,fun _=>rfl⟩
   . refine aN (gi (n:=k-1) (by rw[bH]<;>omega) (by omega)) (aS ?_);simp only[decide_eq_true_eq];exact⟨fun e e'=>by have:=e'.2.2 (by omega);omega,fun e=>by
      rcases qW (cs[k-1]'(by omega)).Var cs[k].Var with e'|e'
      . exact absurd ⟨by omega,by omega,fun _=>e'⟩ e
      . exact e'⟩
   . exact⟨fun e=>(by cases e),fun e=>absurd ⟨by omega,by omega,fun e'=>absurd e' (by omega)⟩ e⟩
   intro r hr;refine aZ (fun h=>aS (.inr ⟨rfl,fun hr'=>hr.1 h ((hR.1 hr').1 k hkl)⟩)) (fun hf=>aS ⟨⟨k+1,by rw[bH]<;>omega,by omega,fun i hi hik=>?_⟩,?_⟩)
   . rcases cw i k with h'|h'
     . exact hP i hi h'
     . obtain rfl:i=k:=by omega
       exact jL fun e=>hf (hr.2 e)
   . show cs.length-(iw ((k:Int)+1)).toNat<cs.length-((k:Int)).toNat;rw[bH]<;>omega
 . rintro _ (⟨rfl,h⟩|⟨rfl,h⟩)
   . refine aZ (fun h1=>aS ?_) (fun h1=>aS ?_)
     . rw[hR];simp only[decide_eq_true_eq];exact⟨fun h2=>⟨h,by omega,h2⟩,fun h2=>h2.2.2⟩
     . rw[hR];exact⟨fun h2=>(by cases h2),fun h2=>absurd h2.2.1 (by omega)⟩
   . exact aS ⟨fun h'=>(by cases h'),fun h'=>absurd h' h⟩
def eY(xs:List aB)(vs:List Int):Prop:=xs.length=vs.length/\∀j,(h:j<xs.length)->(h':j<vs.length)->Is xs[j] vs[j]
theorem eY.uniq{xs ys:List aB}{vs:List Int}(h:eY xs vs)(h':eY ys vs):xs=ys:=by
 apply pR (h.1.trans h'.1.symm);intro i h1 h2;exact(h.2 i h1 (by rw[<-h.1];exact h1)).uniq (h'.2 i h2 (by rw[<-h.1];exact h1))
theorem eY.nil:eY [] []:=⟨rfl,fun j h=>absurd h (by simp)⟩
theorem is0:Is eP 0:=⟨Dg.nil,rfl⟩
theorem eY.dp{n:Nat}:eY (List.replicate n eP) (List.replicate n 0):=⟨by simp,fun j h h'=>by simpa using is0⟩
theorem eY.set{xs:List aB}{vs:List Int}(h:eY xs vs){k:Nat}{x:aB}{v:Int}(hx:Is x v):eY (xs.set k x) (vs.set k v):=by
 refine⟨by simpa using h.1,fun j h1 h2=>?_⟩;by_cases hj:k=j
 . subst hj;simpa using hx
 . rw[Gq hj,Gq hj];exact h.2 j (by simpa using h1) (by simpa using h2)
theorem eY.snoc{xs:List aB}{vs:List Int}(h:eY xs vs){x:aB}{v:Int}(hx:Is x v):eY (xs++[x]) (vs++[v]):=by
 refine⟨by simp[h.1],fun j h1 h2=>?_⟩;rcases cw j xs.length with hj|hj
 . rw[M1 hj,M1 (by rw[<-h.1];exact hj)];exact h.2 j hj _
 . simp only[dd,ku]at h1 h2;have hj':j=xs.length:=by omega
   have hj2:j=vs.length:=by rw[<-h.1];exact hj'
   have e1:(xs++[x])[j]?=some x:=by rw[hj'];simp
   have e2:(vs++[v])[j]?=some v:=by rw[hj2];simp
   rw[(dS.1 e1).2,(dS.1 e2).2];exact hx
theorem Is.len{x:aB}{v:Int}(h:Is x v){k:Nat}(hv:(v.natAbs:Int)<aC^k):x.aP.length<=k:=EF mZ h.dg.bL h.dg.ff (by rw[h.dg.val];exact hv)
def pC(q:bB)(vs:List Int)(b:Int):Prop:=eY q.aT vs/\Is q.dA b
theorem pC.uniq{p q:bB}{vs:List Int}{b:Int}(h:pC p vs b)(h':pC q vs b):p=q:=by
 have h1:=h.1.uniq h'.1;have h2:=h.2.uniq h'.2;cases p;cases q;simp_all
def fG(z:Int):Prop:=-9223372036854775808<=z/\z<=9223372036854775807
structure od (c:Constraint):Prop where
 len:c.Linear.aT.length<=9223372036854775807
 const:fG c.Linear.Const
 jw:∀k∈c.Linear.aT,fG k.N
def qi(l:List Int)(k:gK):List Int:=l.set k.Var.toNat k.N
def fW(c:Constraint)(n:Int)(k:Nat):List Int:=(c.Linear.aT.take k).foldl qi (List.replicate n.toNat 0)
theorem xE{c:Constraint}{n:Int}{k:Nat}(h:k<c.Linear.aT.length):fW c n (k+1)=qi (fW c n k) c.Linear.aT[k]:=by
 unfold fW;rw[pQ h,M2];rfl
theorem se{c:Constraint}{n:Int}{k:Nat}:(fW c n k).length=n.toNat:=by
 unfold fW;generalize c.Linear.aT.take k=l;have:∀(l:List gK) (v:List Int),(l.foldl qi v).length=v.length:=by
  intro l
  induction l with
  |nil=>intro v;rfl
  |cons x l ih=>intro v;rw[List.foldl_cons,ih];simp[qi]
 rw[this];simp
def nK(c:Constraint)(n:Int)(r:List bB):Prop:=(¬fe c n/\r=[])\/(fe c n/\∃q,pC q (fW c n c.Linear.aT.length) (-c.Linear.Const)/\((c.e9=false/\r=[q])\/(c.e9=true/\∃q',pC q' ((fW c n c.Linear.aT.length).map (fun v=>-v)) c.Linear.Const/\r=[q,q'])))
theorem nK.uniq{c:Constraint}{n:Int}{r s:List bB}(h:nK c n r)(h':nK c n s):r=s:=by
 rcases h with⟨h1,rfl⟩|⟨h1,q,hq,h2⟩<;>rcases h' with⟨g1,rfl⟩|⟨g1,q',gq,g2⟩
 . rfl
 . exact absurd g1 h1
 . exact absurd h1 g1
 . have e:=hq.uniq gq;subst e;rcases h2 with⟨h3,rfl⟩|⟨h3,p,hp,rfl⟩<;>rcases g2 with⟨g3,rfl⟩|⟨g3,p',gp,rfl⟩
   . rfl
   . rw[h3]at g3;cases g3
   . rw[h3]at g3;cases g3
   . rw[hp.uniq gp]
theorem zW{z:Int}{x:aB}(h:Is x z)(hz:fG z):bA aC x.aP/\x.aP.length<=2:=⟨h.dg.bL,h.len (by unfold fG at hz;have e:aC^2=18446744073709551616:=(by decide);omega)⟩
theorem QL{l:List aB}{vs:List Int}{bound:aB}{z:Int}(hl:eY l vs)(hv:∀v∈vs,fG v)(hb:Is bound z)(hz:fG z)(hn:l.length<=512):Tm (fun N=>yc N l bound) (fun r=>pC r (vs.map (fun v=>-v)) z):=by
 unfold yc;refine Tm.bind (o9 hb.dg.bL (by have:=(zW hb hz).2;omega)) ?_;rintro b ⟨hb',-⟩;rw[hb.bv]at hb';refine Tm.bind (Tm.loop (fun s:List aB×Int=>∃k:Nat,s.2=k/\k<=l.length/\eY s.1 ((vs.take k).map (fun v=>-v))) (fun s=>l.length-s.2.toNat) (Q:=fun r=>eY r (vs.map (fun v=>-v))) ⟨0,rfl,fE _,by simpa using eY.nil⟩ ?_) (fun r h=>aS ⟨h,hb'⟩);rintro⟨cs,i⟩ ⟨k,rfl,hk,h⟩;have hlv:=hl.1;dsimp only[CY]at*;refine aZ (fun h1=>?_) (fun h1=>aS ?_)
 . have hkl:k<l.length:=by omega
   have hx:=hl.2 k hkl (by omega);have hxv:=hv _ (cX (show k<vs.length by omega));refine aN (cU hkl) (Tm.bind (yV hx.dg.bL (by have:=(zW hx hxv).2;omega)) ?_);rintro m ⟨hm,-⟩;rw[hx.bv]at hm;have hcl:=h.1;simp only[cD,eQ]at hcl;refine aN (dN (by simp only[cv,dM];omega) (by decide)) (aS ⟨⟨k+1,by dsimp only;rw[bH]<;>omega,by omega,?_⟩,?_⟩)
   . rw[pQ (by omega),jg];exact h.snoc hm
   . show l.length-(iw ((k:Int)+1)).toNat<l.length-((k:Int)).toNat;rw[bH]<;>omega
 . show eY cs _;rwa[eU (by omega)]at h
theorem Ot{q:bB}{vs:List Int}{bound:aB}{z:Int}(hl:eY q.aT vs)(hv:∀v∈vs,fG v)(hb:Is bound z)(hz:fG z)(hn:q.aT.length<=512):Tm (fun N=>pS N q bound) (fun r=>pC r (vs.map (fun v=>-v)) z):=by
 unfold pS;refine Tm.bind (HQ hb.dg.bL (by have:=(zW hb hz).2;omega)) ?_;rintro b ⟨hb',-⟩;rw[hb.bv]at hb';refine Tm.bind (Tm.loop (fun s:List aB×Int=>∃k:Nat,s.2=k/\k<=q.aT.length/\eY s.1 ((vs.take k).map (fun v=>-v))) (fun s=>q.aT.length-s.2.toNat) (Q:=fun r=>eY r (vs.map (fun v=>-v))) ⟨0,rfl,fE _,by simpa using eY.nil⟩ ?_) (fun r h=>aS ⟨h,hb'⟩);rintro⟨cs,i⟩ ⟨k,rfl,hk,h⟩;have hlv:=hl.1;dsimp only[zq]at*;refine aZ (fun h1=>?_) (fun h1=>aS ?_)
 . have hkl:k<q.aT.length:=by omega
   have hx:=hl.2 k hkl (by omega);have hxv:=hv _ (cX (show k<vs.length by omega));refine aN (cU hkl) (Tm.bind (yt hx.dg.bL (by have:=(zW hx hxv).2;omega)) ?_);rintro m ⟨hm,-⟩;rw[hx.bv]at hm;have hcl:=h.1;simp only[cD,eQ]at hcl;refine aN (dN (by simp only[cv,dM];omega) (by decide)) (aS ⟨⟨k+1,by dsimp only;rw[bH]<;>omega,by omega,?_⟩,?_⟩)
   . rw[pQ (by omega),jg];exact h.snoc hm
   . show q.aT.length-(iw ((k:Int)+1)).toNat<q.aT.length-((k:Int)).toNat;rw[bH]<;>omega
 . show eY cs _;rwa[eU (by omega)]at h
theorem y5{c:Constraint}{n:Int}{k:Nat}(hc:od c):∀v∈fW c n k,fG v:=by
 induction k with
 |zero=>
  intro v hv;simp only[fW,M3,M4]at hv;rw[(yB.1 hv).2];unfold fG;omega
 |succ k ih=>
  rcases cw k c.Linear.aT.length with h|h
  . rw[xE h];intro v hv;rcases pM hv with hv|rfl
    . exact ih v hv
    . exact hc.jw _ (cX h)
  . have e:fW c n (k+1)=fW c n k:=by
     unfold fW;rw[eU (by omega),eU h]
    rw[e];exact ih
theorem Oa{c:Constraint}{n:Int}(hc:od c):Tm (fun N=>cOf N c n) (nK c n):=by
 unfold cOf;refine Tm.bind (I3 hc.len) ?_;intro r hr;refine aZ (fun h=>aS (.inl ⟨fun e=>(by rw[hr.2 e]at h;cases h),rfl⟩)) (fun h=>?_);have hR:fe c n:=hr.1 (by simpa using h);refine aN (ik (n:=n.toNat) (by have:=hR.2;omega) (by have:=hR.2;omega) (by decide)) ?_;have hn:n.toNat<=512:=by have:=hR.2;omega
 refine Tm.bind (yX hc.const.1 hc.const.2) ?_;rintro k0 ⟨hk0,hk0l⟩;refine Tm.bind (yV hk0.dg.bL (by omega)) ?_;rintro b ⟨hb,-⟩;rw[hk0.bv]at hb;refine Tm.bind (Tm.loop (fun s:List aB×Int=>∃k:Nat,s.2=k/\k<=c.Linear.aT.length/\eY s.1 (fW c n k)) (fun s=>c.Linear.aT.length-s.2.toNat) (Q:=fun r=>eY r (fW c n c.Linear.aT.length)) ⟨0,rfl,fE _,by simpa[fW]using eY.dp⟩ ?_) ?_
 . rintro⟨cs,i⟩ ⟨k,rfl,hk,h⟩;dsimp only[De]at*;refine aZ (fun h1=>?_) (fun h1=>aS ?_)
   . have hkl:k<c.Linear.aT.length:=by omega
     have hv:=hR.1 k hkl;have hx:=hc.jw _ (cX hkl);have hcl:=h.1;rw[se]at hcl;refine aN (cU hkl) (Tm.bind (yX hx.1 hx.2) ?_);rintro m ⟨hm,-⟩;refine aN (gi (n:=c.Linear.aT[k].Var.toNat) (by omega) (by omega)) (aN (ee (n:=c.Linear.aT[k].Var.toNat) (by omega) (by omega)) (aS ⟨⟨k+1,by have:=hc.len;dsimp only;rw[bH]<;>omega,by omega,?_⟩,?_⟩))
     . rw[xE hkl];exact h.set hm
     . show c.Linear.aT.length-(iw ((k:Int)+1)).toNat<c.Linear.aT.length-((k:Int)).toNat;have:=hc.len;rw[bH]<;>omega
   . obtain rfl:k=c.Linear.aT.length:=by omega
     exact h
 . rintro cs hcs;refine aZ (fun h1=>aS (.inr ⟨hR,_,⟨hcs,hb⟩,.inl ⟨by simpa using h1,rfl⟩⟩)) (fun h1=>?_);refine Tm.bind (yX hc.const.1 hc.const.2) ?_;rintro k1 ⟨hk1,-⟩;refine Tm.bind (QL hcs (y5 hc) hk1 hc.const (by rw[hcs.1,se];exact hn)) ?_;rintro q' hq';exact aS (.inr ⟨hR,_,⟨hcs,hb⟩,.inr ⟨by simpa using h1,q',hq',rfl⟩⟩)
theorem TG{c:Constraint}{n:Int}(hc:od c):Tm (fun N=>yo N c n) (nK c n):=by
 unfold yo;refine Tm.bind (C3 hc.len) ?_;intro r hr;refine aZ (fun h=>aS (.inl ⟨fun e=>(by rw[hr.2 e]at h;cases h),rfl⟩)) (fun h=>?_);have hR:fe c n:=hr.1 (by simpa using h);have hn:n.toNat<=512:=by have:=hR.2;omega
 refine Tm.bind (Q:=(·=bB.mk (List.replicate n.toNat eP) eP)) ?_ ?_
 . unfold u6;exact aN (ik (n:=n.toNat) (by have:=hR.2;omega) (by omega) (by decide)) (aS rfl)
 rintro _ rfl;dsimp only;refine Tm.bind (Tm.loop (fun s:List aB×Int=>∃k:Nat,s.2=k/\k<=c.Linear.aT.length/\eY s.1 (fW c n k)) (fun s=>c.Linear.aT.length-s.2.toNat) (Q:=fun r=>eY r (fW c n c.Linear.aT.length)) ⟨0,rfl,fE _,by simpa[fW]using eY.dp⟩ ?_) ?_
 . rintro⟨cs,i⟩ ⟨k,rfl,hk,h⟩;dsimp only[CU]at*;refine aZ (fun h1=>?_) (fun h1=>aS ?_)
   . have hkl:k<c.Linear.aT.length:=by omega
     have hv:=hR.1 k hkl;have hx:=hc.jw _ (cX hkl);have hcl:=h.1;rw[se]at hcl;refine aN (cU hkl) (aN (cU hkl) (Tm.bind (uW hx.1 hx.2) ?_));rintro m ⟨hm,-⟩;refine aN (gi (n:=c.Linear.aT[k].Var.toNat) (by omega) (by omega)) (aN (ee (n:=c.Linear.aT[k].Var.toNat) (by omega) (by omega)) (aS ⟨⟨k+1,by have:=hc.len;dsimp only;rw[bH]<;>omega,by omega,?_⟩,?_⟩))
     . rw[xE hkl];exact h.set hm
     . show c.Linear.aT.length-(iw ((k:Int)+1)).toNat<c.Linear.aT.length-((k:Int)).toNat;have:=hc.len;rw[bH]<;>omega
   . obtain rfl:k=c.Linear.aT.length:=by omega
     exact h
 . rintro cs hcs;refine Tm.bind (uW hc.const.1 hc.const.2) ?_;rintro k0 ⟨hk0,hk0l⟩;refine Tm.bind (yt hk0.dg.bL (by omega)) ?_;rintro b ⟨hb,-⟩;rw[hk0.bv]at hb;refine aZ (fun h1=>aS (.inr ⟨hR,_,⟨hcs,hb⟩,.inl ⟨by simpa using h1,rfl⟩⟩)) (fun h1=>?_);refine Tm.bind (Ot (q:=⟨cs,b⟩) hcs (y5 hc) hk0 hc.const (by show cs.length<=_;rw[hcs.1,se];exact hn)) ?_;rintro q' hq';exact aS (.inr ⟨hR,_,⟨hcs,hb⟩,.inr ⟨by simpa using h1,q',hq',rfl⟩⟩)
end Go.D
namespace Go.Proofs.YtipdkfmhfakbnaaGreatDoor.TB
open Go Go.RowKit Go.X Go.Q
instance:eW:=⟨[0],fun _ o=>∃t fr,o=.cells (Lib.pow10Tab.map fun z=>Value.int .u64 z).toArray t fr⟩
theorem Of{w:World}(h:∀g∈eW.l,∃o,w.heap[g]?=some o/\eW.p g o):Lib.TabIs Tryz.prog w "internal/strconv.uint64pow10" .u64 Lib.pow10Tab:=by
 obtain⟨o,h1,t,fr,rfl⟩:=h 0 (cP.2 rfl);unfold Lib.TabIs World.var?;rw[show Program.globalNamed Tryz.prog "internal/strconv.uint64pow10"=some 0 by kernel_rfl];simp[h1]
theorem Q5{w:World}(h:Lib.TabIs Tryz.prog w "internal/strconv.uint64pow10" .u64 Lib.pow10Tab):∀g∈eW.l,∃o,w.heap[g]?=some o/\eW.p g o:=by
 intro g hg;obtain rfl:=cP.1 hg;unfold Lib.TabIs World.var? at h;rw[show Program.globalNamed Tryz.prog "internal/strconv.uint64pow10"=some 0 by kernel_rfl]at h;simp only[F5]at h;cases ho:w.heap[0]?with
 |none=>rw[ho]at h;cases h
 |some o=>
  rw[ho]at h;cases o with
  |cells cs t fr=>exact⟨_,rfl,t,fr,by rw[iR h]⟩
  |_=>cases h
end Go.Proofs.YtipdkfmhfakbnaaGreatDoor.TB
namespace Go.D
open Go Go.X
theorem OS:∀i,i<256->rB.getD i 0<=8/\(0<i->0<(rB.getD i 0).toNat/\2^((rB.getD i 0).toNat-1)<=i/\i<2^(rB.getD i 0).toNat):=by decide+kernel
theorem CX:rB.length=256:=by decide+kernel
theorem HZ{x:Int}{n:Nat}(h:n<=32):fq .u32 x n=x/2^n:=by
 unfold fq;rw[show min ((n:Int)).toNat IntKind.u32.bits=n by show min _ 32=n;omega];exact jx _ (ed (kv (by decide)))
theorem QK{x:Int}(h0:0<x)(h1:x<4294967296):Tm (fun N=>wY N x) (fun r=>∃k:Nat,r=k/\0<k/\k<=32/\2^(k-1)<=x/\x<2^k):=by
 unfold wY;refine Tm.bind (Q:=fun p:Int×Int=>∃m:Nat,p.2=m/\m<=16/\0<p.1/\p.1<65536/\p.1*2^m<=x/\x<(p.1+1)*2^m) (aZ (fun h=>aS ?_) (fun h=>aS ?_)) ?_
 . refine⟨16,rfl,by decide,?_⟩;rw[show fq .u32 x 16=x/2^16 from HZ (n:=16) (by decide)];have e:(2:Int)^16=65536:=by decide
   dsimp only;rw[e];omega
 . exact⟨0,rfl,by decide,h0,by dsimp only;omega,by simp,by dsimp only;omega⟩
 rintro⟨y,_⟩ ⟨m,rfl,hm,y0,y1,hy,hy'⟩;dsimp only at*;refine Tm.bind (Q:=fun p:Int×Int=>∃m:Nat,p.2=m/\m<=24/\0<p.1/\p.1<256/\p.1*2^m<=x/\x<(p.1+1)*2^m) (aZ (fun h=>aS ?_) (fun h=>aS ?_)) ?_
 . refine⟨m+8,by dsimp only;rw[bH]<;>omega,by omega,?_⟩;rw[show fq .u32 y 8=y/2^8 from HZ (n:=8) (by decide)];have e:(2:Int)^8=256:=by decide
   have hp:(0:Int)<2^m:=kv (by decide);dsimp only;rw[jM,e];refine⟨by omega,by omega,?_,?_⟩
   . have:y/256*256*2^m<=y*2^m:=fp (by omega) (by omega);have e2:y/256*(2^m*256)=y/256*256*2^m:=by grind
     omega
   . have:(y+1)*2^m<=(y/256+1)*256*2^m:=fp (by omega) (by omega);have e2:(y/256+1)*(2^m*256)=(y/256+1)*256*2^m:=by grind
     omega
 . exact⟨m,rfl,by omega,y0,by dsimp only;omega,hy,hy'⟩
 rintro⟨z,_⟩ ⟨m,rfl,hm,z0,z1,hz,hz'⟩;dsimp only at*;have hu:uw8 z=(z.toNat:Int):=by unfold uw8;rw[show IntKind.u8.wrap z=z%256 from wu8];omega
 refine aN (gi (n:=z.toNat) hu (by rw[CX];omega)) (aS ?_);obtain⟨t1,t2⟩:=OS z.toNat (by omega);rw[cA,bV (by rw[CX];omega)]at t1 t2;simp only[BY]at t1 t2;generalize rB[z.toNat]'(by rw[CX];omega)=t at*;obtain⟨p0,p1,p2⟩:=t2 (by omega);have t1':t.toNat<=8:=by simpa[UInt8.le_iff_toNat_le]using t1
 have e1:iw (t.toNat:Int)=t.toNat:=by rw[bH]<;>omega
 rw[e1];have hp:(0:Int)<2^m:=kv (by decide);have p1':((2:Int)^(t.toNat-1))<=z:=by
  have h:((2^(t.toNat-1):Nat):Int)<=(z.toNat:Int):=Int.ofNat_le.2 p1;rw[Int.toNat_of_nonneg (by omega),Gu]at h;exact h
 have p2':z+1<=(2:Int)^t.toNat:=by
  have h:(z.toNat:Int)<((2^t.toNat:Nat):Int):=Int.ofNat_lt.2 p2;rw[Int.toNat_of_nonneg (by omega),Gu]at h;exact h
 refine⟨m+t.toNat,by rw[bH]<;>omega,by omega,by omega,?_,?_⟩
 . rw[show m+t.toNat-1=(t.toNat-1)+m by omega,jM];exact Int.le_trans (fp p1' (by omega)) hz
 . rw[Nat.add_comm,jM];exact Int.lt_of_lt_of_le hz' (fp p2' (by omega))
theorem Ss{x:Int}(h0:0<x)(h1:x<4294967296):Tm (fun N=>yp N x) (fun r=>∃s:Nat,r=s/\s<=31/\2147483648<=x*2^s/\x*2^s<4294967296):=by
 unfold yp;refine Tm.bind (QK h0 h1) ?_;rintro _ ⟨k,rfl,k0,k1,hk,hk'⟩;refine aS ⟨32-k,by rw[bH]<;>omega,by omega,?_,?_⟩
 . have:=fp hk (show(0:Int)<=2^(32-k) from ed (kv (by decide)));rw[<-jM,show k-1+(32-k)=31 by omega]at this;exact this
 . have:=M5 hk' (show(0:Int)<2^(32-k) from kv (by decide));rw[<-jM,show k+(32-k)=32 by omega]at this;exact this
open Go Go.X
theorem RH{k:IntKind}{x y n:Nat}(hx:k.wrap (x:Int)=x)(hy:k.wrap (y:Int)=y)(h:x<2^n)(hm:2^n∣y):jA k x y=((x+y:Nat):Int):=by
 rw[LX hx hy];obtain⟨q,rfl⟩:=hm;rw[Nat.or_comm,<-Nat.two_pow_add_eq_or_of_lt h,Nat.add_comm]
theorem sY{l:List Int}{n m:Nat}{y:Int}(h:n<l.length):(l.set n y).getD m 0=if n=m then y else l.getD m 0:=by
 rw[cA,cA,qS];by_cases e:n=m
 . subst e;simp[h]
 . simp[e]
theorem LS{z:Nat}(h:z<4294967296):IntKind.u32.wrap (z:Int)=z:=by rw[show IntKind.u32.wrap (z:Int)=(z:Int)%4294967296 from wu32];omega
theorem BL{s:Nat}(h:s<=31):(2:Int)^s*2^(32-s)=4294967296:=by rw[<-jM,show s+(32-s)=32 by omega];decide
theorem JT{a:List Int}{n:Int}{s:Nat}(hn:n=s)(hs:s<=31)(ha:bA aC a)(hl:a.length<=17592186044416):Tm (fun N=>uJ N a n) (fun r=>bA aC r/\val aC r=val aC a*2^s/\r.length=a.length+1):=by
 unfold uJ;subst hn;have hP:(0:Int)<2^s:=kv (by decide);have hQ:(0:Int)<2^(32-s):=kv (by decide);have hPQ:=BL hs;refine aN (ik (n:=a.length+1) (by rw[bH]<;>omega) (by omega) (by decide)) ?_;refine Tm.bind (Q:=fun r=>bA aC r/\val aC r=val aC a*2^s/\r.length=a.length+1)
  (Tm.loop (fun t:List Int×Int=>∃k:Nat,t.2=k/\k<=a.length/\t.1.length=a.length+1/\bA aC t.1/\t.1.getD k 0<2^s/\val aC (t.1.take (k+1))=val aC (a.take k)*2^s) (fun t=>a.length-t.2.toNat)
   ⟨0,rfl,fE _,by simp,bA.dp (by decide),?_,?_⟩ ?_) (fun r h=>aS h)
 . show(List.replicate (a.length+1) (0:Int)).getD 0 0<_;simpa using hP
 . show val aC ((List.replicate (a.length+1) (0:Int)).take 1)=_;rw[List.take_replicate,Bp];simp[val]
 rintro⟨out,i⟩ ⟨k,rfl,hk,ho,hB,hc,hv⟩;dsimp only[CG]at*;refine aZ (fun h=>?_) (fun h=>aS ?_)
 . have hx:=ha.get (n:=k) (by omega);have ex:a.getD k 0=a[k]'(by omega):=fU (by omega);refine aN (cU (by omega)) (aN (ye (by omega)) (aN (cU (by omega)) (aN (cU (by omega)) ?_)));generalize a[k]'(by omega)=x at*;have hco:=hB.get (n:=k) (by omega);have eo:out.getD k 0=out[k]'(by omega):=fU (by omega);have hvs:=fun y=>take_set (l:=out) (n:=k) (y:=y) (by omega);rw[eo]at hc;rw[fu,eo]at hv;generalize out[k]'(by omega)=c at*;simp only[aC]at hx;have hw0:0<=x*2^s:=eI hx.1 (by omega);have hP31:(2:Int)^s<=2147483648:=by
    have:=j4 (B:=2) (by decide) hs;exact this
   have hw1:x*2^s<=4294967295*2147483648:=nr (by omega) hP31 (by omega) (by decide);have ew:iW .u64 (uw x) s=x*2^s:=by
    unfold iW;rw[show uw x=x by rw[fM];omega,show min ((s:Int)).toNat IntKind.u64.bits=s by show min _ 64=s;omega];rw[show IntKind.u64.wrap (x*2^s)=(x*2^s)%18446744073709551616 from wu];omega
   rw[ew,xp,gn];have hlo:(x*2^s)%4294967296=(x%2^(32-s))*2^s:=by
    rw[<-hPQ,fm x,Int.mul_emod_mul_of_pos _ _ hP,fm]
   have hhi:x*2^s/4294967296=x/2^(32-s):=by
    rw[<-hPQ,fm ((2:Int)^s) (2^(32-s)),Int.mul_ediv_mul_of_pos_left _ _ hP]
   have hhi1:x/2^(32-s)<2^s:=Gt hQ (by rw[hPQ];omega);have hhi0:0<=x/2^(32-s):=yD hx.1 (by omega);have hlo0:0<=x%2^(32-s):=lO _ (by omega);have hlo1:x%2^(32-s)+1<=2^(32-s):=lP _ hQ;have hlo2:(x%2^(32-s))*2^s+2^s<=4294967296:=by
    have:=fp hlo1 (show(0:Int)<=2^s by omega);rw[fm (2^(32-s)) (2^s),hPQ]at this;grind
   have hor:jA .u32 c ((x*2^s)%4294967296)=c+(x%2^(32-s))*2^s:=by
    rw[hlo];obtain⟨cn,rfl⟩:=qX hco.1;obtain⟨ln,hln⟩:=qX hlo0;rw[hln];have e1:(ln:Int)*2^s=((ln*2^s:Nat):Int):=by simp
    have hl0:0<=(ln:Int)*2^s:=eI (by omega) (by omega);rw[hln]at hlo2;rw[e1]at hlo2⊢;simp only[aC]at hco;rw[RH (n:=s) (LS (by omega)) (LS (by omega)) (by have:((cn:Nat):Int)<((2^s:Nat):Int):=(by simpa using hc);omega) (Nat.dvd_mul_left _ _)];omega
   rw[hor];refine aN (ee rfl (by omega)) ?_;have hB1:bA aC (out.set k (c+(x%2^(32-s))*2^s)):=hB.set (by
    have:0<=(x%2^(32-s))*2^s:=eI hlo0 (by omega);simp only[aC]at*;omega)
   have hi1:iw ((k:Int)+1)=((k+1:Nat):Int):=by rw[bH]<;>omega
   refine aN (gi hi1 (by simp;omega)) (aN (ee hi1 (by simp;omega)) ?_);have ehi:dU (x*2^s/4294967296)=x/2^(32-s):=by rw[hhi,gn];omega
   rw[ehi];refine aS ⟨⟨k+1,hi1,by omega,by simp;omega,hB1.set (by simp only[aC];omega),?_,?_⟩,?_⟩
   . show(((out.set k _).set (k+1) _).getD (k+1) 0)<2^s;rw[sY (by simp;omega),if_pos rfl];exact hhi1
   . show val aC (((out.set k _).set (k+1) _).take (k+1+1))=_;rw[take_set (by simp;omega),hvs,fu,ex,fl];have:=jO x (2^(32-s));have hw:aC=2^s*2^(32-s):=hPQ.symm;have e3:aC^k*aC*(x/2^(32-s))=aC^k*(2^s*(2^(32-s)*(x/2^(32-s)))):=by
      conv=>lhs;rw[Gv,show aC*(x/2^(32-s))=2^s*2^(32-s)*(x/2^(32-s)) by rw[<-hw]]
      rw[Gv]
     rw[e3];grind
   . show a.length-(iw ((k:Int)+1)).toNat<a.length-((k:Int)).toNat;rw[hi1];omega
 . obtain rfl:k=a.length:=by omega
   rw[kO (by omega),kO (bK _)]at hv;exact⟨hB,hv,ho⟩
open Go Go.X
theorem gu{xs:List Int}{i:Int}{n:Nat}(e:i=(n:Int))(h:n<xs.length):idx xs i=some (xs.getD n 0):=by
 rw[fU h];exact gi e h
theorem Cp{k:IntKind}{x y:Int}(h:y≠0):sdiv k x y=some (k.wrap (x.tdiv y)):=by unfold sdiv;rw[if_neg h]
theorem KM{x y:Int}(h:y≠0):srem x y=some (x.tmod y):=by unfold srem;rw[if_neg h]
theorem BH{z:Nat}(h:z<18446744073709551616):IntKind.u64.wrap (z:Int)=z:=by rw[show IntKind.u64.wrap (z:Int)=(z:Int)%18446744073709551616 from wu];omega
theorem PT{x:Int}(h0:0<=x)(h1:x<4294967296):iW .u64 x 32=x*4294967296:=by
 unfold iW;rw[show((2:Int)^(min (32:Int).toNat IntKind.u64.bits))=4294967296 from rfl];rw[show IntKind.u64.wrap (x*4294967296)=(x*4294967296)%18446744073709551616 from wu];omega
theorem BS{x y:Int}(h0:0<=x)(h1:x<4294967296)(h2:0<=y)(h3:y<4294967296):jA .u64 (iW .u64 x 32) y=x*4294967296+y:=by
 rw[PT h0 h1];obtain⟨a,rfl⟩:=qX h0;obtain⟨b,rfl⟩:=qX h2;rw[show(a:Int)*4294967296=((a*2^32:Nat):Int) by simp];rw[LX (BH (by omega)) (BH (by omega)),<-Nat.shiftLeft_eq,<-Nat.shiftLeft_add_eq_or_of_lt (by omega),Nat.shiftLeft_eq];omega
theorem PL{z:Int}(h0:0<=z)(h1:z<18446744073709551616):qN .u64 z 4294967295=z%4294967296:=by
 obtain⟨a,rfl⟩:=qX h0;rw[show(4294967295:Int)=((2^32-1:Nat):Int) by decide,N5 (BH (by omega)) (BH (by decide)),Nat.and_two_pow_sub_one_eq_mod];omega
theorem gN{z:Int}(h0:0<=z)(h1:z<18446744073709551616):uw z=z:=by rw[fM];omega
theorem A4{x y:Int}(h:0<=x):x.tdiv y=x/y:=U1 h
theorem DA{x y:Int}(h:0<=x):x.tmod y=x%y:=MZ h
theorem LL{a:List Int}{y:Int}(ha:bA aC a)(h0:0<y)(h1:y<aC)(hl:a.length<=17592186044416):
 Tm (fun N=>uc N a y) (fun r=>bA aC r.1/\val aC r.1=val aC a/y/\r.2=val aC a%y/\r.1.length=a.length):=by
 unfold uc;refine aN (ik rfl (by omega) (by decide)) ?_;refine Tm.bind (Q:=fun r:List Int×Int=>bA aC r.1/\r.1.length=a.length/\0<=r.2/\r.2<y/\val aC r.1*y+r.2=val aC a)
  (Tm.loop (fun t:List Int×Int×Int=>∃k:Nat,t.2.2=(k:Int)-1/\k<=a.length/\t.1.length=a.length/\bA aC t.1/\0<=t.2.1/\t.2.1<y/\(∀j,j<k->t.1.getD j 0=0)/\val aC t.1*y+aC^k*t.2.1+val aC (a.take k)=val aC a) (fun t=>(t.2.2+1).toNat)
   ⟨a.length,by rw[bH]<;>omega,bK _,by simp,bA.dp (by decide),by simp,h0,fun j hj=>by rw[fU (by simpa using hj)];simp,by rw[kO (bK _),Bp];simp⟩ ?_) ?_
 . rintro⟨out,rest,i⟩ ⟨k,rfl,hk,ho,hB,r0,r1,hz,hv⟩;dsimp only[Eg]at*;refine aZ (fun h=>?_) (fun h=>aS ?_)
   . obtain⟨n,rfl⟩:∃n,k=n+1:=⟨k-1,by omega⟩;have hi:((n+1:Nat):Int)-1=(n:Int):=by omega
     rw[hi];have hx:=ha.getD (by decide) n;have hvt:=fu (B:=aC) (l:=a) (n:=n);refine aN (gu rfl (by omega)) ?_;generalize a.getD n 0=x at*;simp only[aC]at hx h1;have ex:uw x=x:=gN hx.1 (by omega);have ey:uw y=y:=gN (by omega) (by omega);rw[ex,ey,BS r0 (by omega) hx.1 hx.2];have hT0:0<=rest*4294967296+x:=by omega
     have hq1:(rest*4294967296+x)/y<4294967296:=Gt h0 (by
      have:=fp (show rest+1<=y by omega) (show(0:Int)<=4294967296 by decide);rw[fm 4294967296 y];omega)
     have hq0:0<=(rest*4294967296+x)/y:=yD hT0 (by omega);refine aN (Cp (by omega)) (aN (gu rfl (by omega)) (aN (ee rfl (by omega)) (aN (KM (by omega)) (aS ?_))));rw[A4 hT0,DA hT0,show IntKind.u64.wrap ((rest*4294967296+x)/y)=(rest*4294967296+x)/y from gN hq0 (by omega),show dU ((rest*4294967296+x)/y)=(rest*4294967296+x)/y by rw[gn];omega];have hm0:=lO (rest*4294967296+x) (show y≠0 by omega);have hm1:=lP (rest*4294967296+x) h0;have hd:=jO (rest*4294967296+x) y;refine⟨⟨n,by show iw ((n:Int)-1)=_;rw[bH]<;>omega,by omega,by simp;omega,hB.set (by simp only[aC];omega),hm0,hm1,fun j hj=>?_,?_⟩,?_⟩
     . show(out.set n _).getD j 0=0;rw[sY (by omega),if_neg (by omega)];exact hz j (by omega)
     . show val aC (out.set n _)*y+aC^n*((rest*4294967296+x)%y)+val aC (a.take n)=_;have hon:out[n]'(by omega)=0:=by have:=hz n (by omega);rwa[fU (by omega)]at this
       rw[uZ (by omega),hon];rw[fl]at hv;have hw:aC=4294967296:=rfl;generalize(rest*4294967296+x)/y=q at*;generalize(rest*4294967296+x)%y=t at*;rw[<-hv,hvt];have e1:aC^n*aC*rest=aC^n*(rest*4294967296):=by rw[hw];grind
       have e2:aC^n*(t+y*q)=aC^n*(rest*4294967296+x):=by rw[hd]
       rw[e1];grind
     . show(iw ((n:Int)-1)+1).toNat<((n:Int)+1).toNat;rw[bH]<;>omega
   . obtain rfl:k=0:=by omega
     refine⟨hB,ho,r0,r1,?_⟩;simpa[val]using hv
 . rintro⟨out,rest⟩ ⟨hB,ho,r0,r1,hv⟩;dsimp only at*;simp only[aC]at h1;refine aS ⟨hB,?_,?_,ho⟩
   . show val aC out=_;rw[<-hv,Int.add_comm,Int.add_mul_ediv_right _ _ (by omega),M6 r0 r1];omega
   . show dU rest=_;rw[gn,<-hv,Int.add_comm,Int.add_mul_emod_self_right,Cc r0 r1];omega
section
variable {W V R v1 v2 u2 top p vl rl g rest:Int}
theorem g_dec(hp:0<p)(hV:V=(v1*W+v2)*p+vl)(hvl:0<=vl)(hR:R=(top*W+u2)*p+rl)(hrl:rl<p)(ht:top=g*v1+rest)(hg:0<=g)(h:rest*W+u2<g*v2):R<g*V:=by
 have h1:top*W+u2+1<=g*(v1*W+v2):=by
  have e:g*(v1*W+v2)=(g*v1)*W+g*v2:=by grind
  have e2:top*W=(g*v1)*W+rest*W:=by rw[ht];grind
  omega
 have h2:=fp h1 (ed hp);have h3:0<=g*vl:=eI hg hvl;have e1:g*V=g*(v1*W+v2)*p+g*vl:=by rw[hV];grind
 have e2:(top*W+u2+1)*p=(top*W+u2)*p+p:=by grind
 omega
theorem g_top(hp:0<p)(hW:0<W)(hv2:v2<W)(hV:V=(v1*W+v2)*p+vl)(hvl:vl<p)(hR:R=(top*W+u2)*p+rl)(hu2:0<=u2)(hrl:0<=rl)(h:R<W*V):top<(v1+1)*W:=by
 have h1:top*W<W*(v1*W+v2+1):=by
  rcases qW (top*W) (W*(v1*W+v2+1))with h1|h1
  . exact h1
  . exfalso;have h2:=fp (show W*(v1*W+v2+1)<=top*W+u2 by omega) (ed hp);have h3:W*vl<W*p:=Int.mul_lt_mul_of_pos_left hvl hW;have e1:W*V=W*(v1*W+v2)*p+W*vl:=by rw[hV];grind
    have e2:W*(v1*W+v2+1)*p=W*(v1*W+v2)*p+W*p:=by grind
    omega
 have h2:W*top<W*(v1*W+v2+1):=by rw[fm W top];exact h1
 have h3:=Gw h2 (ed hW);have e:(v1+1)*W=v1*W+W:=by grind
 omega
theorem Qu(hv1:0<v1)(ht:top=g*v1+rest)(hr:W<=rest)(h:top<(v1+1)*W):g<W:=by
 have h1:g*v1<W*v1:=by
  have e:(v1+1)*W=W*v1+W:=by grind
  omega
 exact M7 h1 (ed hv1)
theorem g_brk(hp:0<p)(hW:0<W)(hv2:0<=v2)(hv2':v2<W)(hV:V=(v1*W+v2)*p+vl)(hvl:0<=vl)(hvl':vl<p)(hR:R=(top*W+u2)*p+rl)(hu2:0<=u2)(hrl:0<=rl)
 (ht:top=g*v1+rest)(hr:W<=rest)(hg:0<=g)(hgW:g<W):g*V<=R:=by
 have h1:g*(v2*p+vl)<=W*(W*p):=by
  have:v2*p+vl<=W*p:=by
   have:=fp (show v2+1<=W by omega) (ed hp);have e:(v2+1)*p=v2*p+p:=by grind
   omega
  have h0:0<=v2*p+vl:=by have:=eI hv2 (ed hp);omega
  exact nr (by omega) this h0 (by omega)
 have h2:W*(W*p)<=rest*(W*p):=fp hr (eI (by omega) (by omega));have h3:0<=u2*p:=eI hu2 (by omega);have e1:g*V=g*v1*(W*p)+g*(v2*p+vl):=by rw[hV];grind
 have e2:R=g*v1*(W*p)+rest*(W*p)+u2*p+rl:=by rw[hR,ht];grind
 omega
theorem g_end(hp:0<p)(hW:0<W)(hv1:0<v1)(hv2:0<=v2)(hV:V=(v1*W+v2)*p+vl)(hvl:0<=vl)(hvl':vl<p)(hR:R=(top*W+u2)*p+rl)(hrl:0<=rl)
 (ht:top=g*v1+rest)(hg:0<=g)(hgW:g<W)(h:g*v2<=rest*W+u2):g*V<=R+V:=by
 have h1:g*(v1*W+v2)<=top*W+u2:=by
  have e:g*(v1*W+v2)=(g*v1)*W+g*v2:=by grind
  have e2:top*W=(g*v1)*W+rest*W:=by rw[ht];grind
  omega
 have h2:=fp h1 (ed hp);have h3:g*vl<=W*p:=nr (by omega) (by omega) hvl (by omega);have h4:W*p<=v1*(W*p):=by
  have:=fp (show 1<=v1 by omega) (show 0<=W*p from eI (by omega) (by omega));omega
 have h5:0<=v2*p:=eI hv2 (by omega);have e1:g*V=g*(v1*W+v2)*p+g*vl:=by rw[hV];grind
 have e2:V=v1*(W*p)+v2*p+vl:=by rw[hV];grind
 omega
theorem Uq(hp:0<p)(hW:0<W)(hv1:0<v1)(hv2:0<=v2)(hV:V=(v1*W+v2)*p+vl)(hvl:0<=vl)(hR:R=(top*W+u2)*p+rl)(hu2:u2<W)(hrl:rl<p)
 (ht:top=g*v1+rest)(hr:rest<v1)(hg:0<=g):R<(g+1)*V:=by
 have h1:(top+1)*(W*p)<=(g+1)*v1*(W*p):=fp (by have e:(g+1)*v1=g*v1+v1:=(by grind);omega) (eI (by omega) (by omega));have h2:0<=(g+1)*(v2*p+vl):=eI (by omega) (by have:=eI hv2 (ed hp);omega);have h3:=fp (show u2+1<=W by omega) (ed hp);have e1:(g+1)*V=(g+1)*v1*(W*p)+(g+1)*(v2*p+vl):=by rw[hV];grind
 have e2:R=top*(W*p)+u2*p+rl:=by rw[hR];grind
 have e3:(top+1)*(W*p)=top*(W*p)+W*p:=by grind
 have e4:(u2+1)*p=u2*p+p:=by grind
 omega
end
theorem b2_tm{b v u:List Int}{n m:Nat}{V R v1 v2 u2 top p vl rl g0 r0:Int}(hb:b.length=m)(hv:v.length=m)(hm:2<=m)(hu:n+m<u.length)(hul:u.length<=35184372088832)
 (e1:v.getD (m-1) 0=v1)(e2:v.getD (m-2) 0=v2)(e3:u.getD (n+m-2) 0=u2)(hv1:0<v1/\v1<4294967296)(hv2:0<=v2/\v2<4294967296)(hu2:0<=u2/\u2<4294967296)
 (hp:0<p)(hV:V=(v1*4294967296+v2)*p+vl)(hvl:0<=vl/\vl<p)(hR:R=(top*4294967296+u2)*p+rl)(hrl:0<=rl/\rl<p)(hRV:R<4294967296*V)
 (ht:top=g0*v1+r0)(hr0:0<=r0/\r0<v1)(hg0:0<=g0/\g0<18446744073709551616):
 Tm (fun N=>bI (zf N b v u n) N (g0,r0)) (fun g=>0<=g/\g<4294967296/\R<(g+1)*V/\g*V<=R+V):=by
 have htop:=g_top hp (by decide) hv2.2 hV hvl.2 hR hu2.1 hrl.1 hRV;have hV0:0<=V:=by
  have h1:=eI (show 0<=v1*4294967296+v2 by omega) (ed hp);omega
 refine Tm.loop (fun t:Int×Int=>0<=t.1/\t.1<18446744073709551616/\0<=t.2/\t.2<4294967296/\top=t.1*v1+t.2/\R<(t.1+1)*V) (fun t=>t.1.toNat)
  ⟨hg0.1,hg0.2,hr0.1,by omega,ht,Uq hp (by decide) hv1.1 hv2.1 hV hvl.1 hR hu2.2 hrl.2 ht hr0.2 hg0.1⟩ ?_
 rintro⟨g,rest⟩ ⟨g1,g2,r1,r2,ht,hRg⟩;dsimp only[zf]at*;have ev2:uw v2=v2:=gN hv2.1 (by omega);have eu2:uw u2=u2:=gN hu2.1 (by omega);have ev1:uw v1=v1:=gN (by omega) (by omega);refine Tm.bind (Q:=(·=decide (4294967295<g\/rest*4294967296+u2<g*v2))) (aZ (fun h=>aS ?_) (fun h=>?_)) ?_
 . simp[show 4294967295<g from h]
 . refine aN (gu (n:=m-2) (by rw[bH]<;>omega) (by omega)) (aN (gu (n:=n+m-2) (by rw[show iw ((n:Int)+(b.length:Int))=(n:Int)+m by rw[bH]<;>omega,bH]<;>omega) (by omega)) (aS ?_));rw[e2,e3,ev2,eu2,BS r1 r2 hu2.1 hu2.2];have hgv:0<=g*v2/\g*v2<=4294967295*4294967295:=⟨eI g1 hv2.1,nr (by omega) (by omega) hv2.1 (by decide)⟩;rw[gN hgv.1 (by omega)];have:¬4294967295<g:=h;simp[this]
 rintro _ rfl;refine aZ (fun h=>?_) (fun h=>aS ?_)
 . have h:=of_decide_eq_true h;have hgp:0<g:=by
    rcases h with h|h
    . omega
    . rcases qW 0 g with h'|h'
      . exact h'
      . have:g=0:=by omega
        subst this;simp at h;omega
   have hRg':R<g*V:=by
    rcases h with h|h
    . have:=fp (show 4294967296<=g by omega) hV0;omega
    . exact g_dec hp hV hvl.1 hR hrl.2 ht g1 h
   have ht':top=(g-1)*v1+(rest+v1):=by rw[ht];grind
   refine aN (gu (n:=m-1) (by rw[bH]<;>omega) (by omega)) ?_;rw[e1,ev1,gN (show 0<=g-1 by omega) (by omega),gN (show 0<=rest+v1 by omega) (by omega)];refine aZ (fun h1=>aS ?_) (fun h1=>aS ⟨⟨by dsimp only;omega,by dsimp only;omega,by dsimp only;omega,by dsimp only;omega,ht',?_⟩,?_⟩)
   . have hgW:=Qu hv1.1 ht' (show 4294967296<=rest+v1 by omega) htop;have:=g_brk hp (by decide) hv2.1 hv2.2 hV hvl.1 hvl.2 hR hu2.1 hrl.1 ht' (show 4294967296<=rest+v1 by omega) (by omega) hgW;refine⟨by omega,hgW,?_,by omega⟩;rw[show g-1+1=g by omega];exact hRg'
   . show R<(g-1+1)*V;rw[show g-1+1=g by omega];exact hRg'
   . show(g-1).toNat<g.toNat;omega
 . have h:¬(4294967295<g\/rest*4294967296+u2<g*v2):=fun e=>h (by simpa using e);refine⟨g1,by omega,hRg,?_⟩;exact g_end hp (by decide) hv1.1 hv2.1 hV hvl.1 hvl.2 hR hrl.1 ht g1 (by omega) (by omega)
open Go Go.X
theorem tR{l:List Int}{m:Nat}(h:bA aC l)(hv:val aC l<aC^m):∀j,m<=j->l.getD j 0=0:=by
 intro j hj;rcases cw j l.length with hl|hl
 . rw[fU hl];have h1:=h.get hl;rcases qW 0 l[j]with h2|h2
   . exfalso;have e:=pv (B:=aC) (l:=l) j (by omega);rw[fD hl,sN]at e;have p0:=gH (B:=aC) (by decide) (h.take j);have p1:=gH (B:=aC) (by decide) (h.drop (j+1));have p2:=kF (B:=aC) (by decide) j;have p3:=j4 (B:=aC) (by decide) hj;have p4:aC^j*1<=aC^j*(l[j]+aC*val aC (l.drop (j+1))):=fZ (by have:=eI (show(0:Int)<=aC by decide) p1;omega) (by omega);omega
   . omega
 . exact mE hl
theorem Jj{l:List Int}{m:Nat}(h:bA aC l)(hz:∀j,m<=j->l.getD j 0=0):val aC l<aC^m:=by
 rcases cw m l.length with hm|hm
 . have:=wQ (B:=aC) (l:=l) (n:=m) (by omega) (fun k hk hmk=>by have:=hz k hmk;rwa[fU hk]at this);rw[<-this];have h2:=iq (B:=aC) (by decide) (h.take m);rwa[eQ,j1 (by omega)]at h2
 . have h2:=iq (B:=aC) (by decide) h;have h3:=j4 (B:=aC) (by decide) hm;omega
theorem rE{l:List Int}{n j:Nat}:(l.drop n).getD j 0=l.getD (n+j) 0:=by
 rw[cA,cA,te]
theorem b3_tm{b v u:List Int}{n m:Nat}{g:Int}(hb:b.length=m)(hv:v.length=m)(hvB:bA aC v)(huB:bA aC u)(hu:n+m<u.length)(hul:u.length<=35184372088832)(g0:0<=g)(g1:g<4294967296):
 Tm (fun N=>bI (Bo N g ((n+m+1:Nat):Int) (n:Int) v) N (u,0,0,0)) (fun r=>bA aC r.1/\r.1.length=u.length/\r.1.take n=u.take n/\(∀k,n+m<k->r.1.getD k 0=u.getD k 0)/\0<=r.2/\r.2<=1/\val aC r.1=val aC u-aC^n*(g*val aC v)+aC^(n+(m+1))*r.2):=by
 refine Tm.loop (fun t:List Int×Int×Int×Int=>∃j:Nat,t.2.2.2=j/\j<=m+1/\bA aC t.1/\t.1.length=u.length/\t.1.take n=u.take n/\(∀k,n+j<=k->t.1.getD k 0=u.getD k 0)/\0<=t.2.1/\t.2.1<4294967296/\(m<j->t.2.1=0)/\0<=t.2.2.1/\t.2.2.1<=1/\val aC t.1=val aC u-aC^n*(g*val aC (v.take j))+aC^(n+j)*(t.2.1+t.2.2.1)) (fun t=>m+1-t.2.2.2.toNat)
  ⟨0,rfl,by omega,huB,rfl,rfl,fun _ _=>rfl,by simp,by simp,fun _=>rfl,by simp,by simp,by simp[val]⟩ ?_
 rintro⟨x,carry,borrow,jj⟩ ⟨j,rfl,hj,hB,hx,htk,hup,c0,c1,hc,b0,b1,hval⟩;dsimp only[Bo]at*;refine aZ (fun h=>?_) (fun h=>aS ?_)
 . have hjm:j<=m:=by omega
   refine Tm.bind (AM hvB) ?_;rintro d rfl;have hij:(n:Int)+(j:Int)=((n+j:Nat):Int):=by omega
   refine aN (ye (by omega)) (aN (gu hij (by omega)) (aN (ye (by omega)) (aN (gu hij (by omega)) (aN (ee hij (by omega)) (aS ?_)))));have hd:=hvB.getD (by decide) j;have hvt:=fu (B:=aC) (l:=v) (n:=j);have hd0:m<=j->v.getD j 0=0:=fun h=>mE (by omega);have huu:=hB.getD (by decide) (n+j);have hset:=fun y=>uZ (B:=aC) (l:=x) (n:=n+j) (y:=y) (by omega);rw[<-fU (l:=x) (n:=n+j) (by omega)]at hset;generalize v.getD j 0=d at*;generalize hUU:x.getD (n+j) 0=uu at*;simp only[aC]at hd huu;have hgd:0<=g*d/\g*d<=4294967295*4294967295:=⟨eI g0 hd.1,nr (by omega) (by omega) hd.1 (by decide)⟩;rw[gN hgd.1 (by omega)];have hgd0:m<=j->g*d=0:=fun h=>by rw[hd0 h];simp
   generalize hC:g*d=gd at*;rw[gN (show 0<=carry+gd by omega) (by omega),PL (by omega) (by omega),xp];have e1:uw (uw (uw uu-(carry+gd)%4294967296)-borrow)=(uu-(carry+gd)%4294967296-borrow)%18446744073709551616:=by
    rw[fM,fM,fM];omega
   rw[e1,HT,gn];have hy:(uu-(carry+gd)%4294967296-borrow)%18446744073709551616%4294967296=uu-(carry+gd)%4294967296-borrow+4294967296*((uu-(carry+gd)%4294967296-borrow)%18446744073709551616/9223372036854775808):=by omega
   have hb':0<=(uu-(carry+gd)%4294967296-borrow)%18446744073709551616/9223372036854775808/\(uu-(carry+gd)%4294967296-borrow)%18446744073709551616/9223372036854775808<=1:=by omega
   have hy2:0<=(uu-(carry+gd)%4294967296-borrow)%18446744073709551616%4294967296/\(uu-(carry+gd)%4294967296-borrow)%18446744073709551616%4294967296<4294967296:=by omega
   generalize(uu-(carry+gd)%4294967296-borrow)%18446744073709551616%4294967296=y at*;generalize(uu-(carry+gd)%4294967296-borrow)%18446744073709551616/9223372036854775808=bb at*;have hdm:=jO (carry+gd) 4294967296;refine⟨⟨j+1,by show iw ((j:Int)+1)=_;rw[bH]<;>omega,by omega,hB.set (by simp only[aC];omega),by simp;omega,?_,?_,?_,?_,?_,hb'.1,hb'.2,?_⟩,?_⟩
   . show(x.set (n+j) y).take n=_;rw[yC (by omega)];exact htk
   . intro k hk;show(x.set (n+j) y).getD k 0=_;rw[sY (by omega),if_neg (by omega)];exact hup k (by omega)
   . show 0<=(carry+gd)/4294967296;omega
   . show(carry+gd)/4294967296<4294967296;omega
   . intro h1;show(carry+gd)/4294967296=0;have:=hgd0 (by omega);omega
   . show val aC (x.set (n+j) y)=_+aC^(n+(j+1))*((carry+gd)/4294967296+bb);rw[hset,hval,hvt,hy];have hw:aC=4294967296:=rfl;have hp:aC^(n+(j+1))=aC^n*aC^j*4294967296:=by rw[jM,fl,hw];grind
     rw[hp,jM];generalize aC^n=P at*;generalize aC^j=Q at*;have e3:g*(val aC (v.take j)+Q*d)=g*val aC (v.take j)+Q*gd:=by rw[<-hC];grind
     rw[e3];generalize(carry+gd)/4294967296=cc at*;generalize(carry+gd)%4294967296=c2 at*;have e4:gd=c2+4294967296*cc-carry:=by omega
     rw[e4];grind
   . show m+1-(iw ((j:Int)+1)).toNat<m+1-((j:Int)).toNat;rw[bH]<;>omega
 . have hjm:j=m+1:=by omega
   subst hjm;refine⟨hB,hx,htk,fun k hk=>hup k (by omega),b0,b1,?_⟩;show val aC x=_;rw[hval,hc (by omega),kO (by omega),Cg]
theorem b4_tm{v u:List Int}{n m:Nat}(hv:v.length=m)(hvB:bA aC v)(huB:bA aC u)(hu:n+m<u.length)(hul:u.length<=35184372088832):
 Tm (fun N=>bI (yO N v n) N (u,0,0)) (fun r=>bA aC r.1/\r.1.length=u.length/\r.1.take n=u.take n/\(∀k,n+m<=k->r.1.getD k 0=u.getD k 0)/\0<=r.2/\r.2<=1/\val aC r.1=val aC u+aC^n*val aC v-aC^(n+m)*r.2):=by
 refine Tm.loop (fun t:List Int×Int×Int=>∃j:Nat,t.2.2=j/\j<=m/\bA aC t.1/\t.1.length=u.length/\t.1.take n=u.take n/\(∀k,n+j<=k->t.1.getD k 0=u.getD k 0)/\0<=t.2.1/\t.2.1<=1/\val aC t.1=val aC u+aC^n*val aC (v.take j)-aC^(n+j)*t.2.1) (fun t=>m-t.2.2.toNat)
  ⟨0,rfl,by omega,huB,rfl,rfl,fun _ _=>rfl,by simp,by simp,by simp[val]⟩ ?_
 rintro⟨x,carry,jj⟩ ⟨j,rfl,hj,hB,hx,htk,hup,c0,c1,hval⟩;dsimp only[yO]at*;refine aZ (fun h=>?_) (fun h=>aS ?_)
 . have hij:iw ((n:Int)+(j:Int))=((n+j:Nat):Int):=by rw[bH]<;>omega
   refine aN (gu hij (by omega)) (aN (gu rfl (by omega)) (aN (gu hij (by omega)) (aN (ee hij (by omega)) (aS ?_))));have hd:=hvB.getD (by decide) j;have hvt:=fu (B:=aC) (l:=v) (n:=j);have huu:=hB.getD (by decide) (n+j);have hset:=fun y=>uZ (B:=aC) (l:=x) (n:=n+j) (y:=y) (by omega);rw[<-fU (l:=x) (n:=n+j) (by omega)]at hset;generalize v.getD j 0=d at*;generalize hUU:x.getD (n+j) 0=uu at*;simp only[aC]at hd huu;have e1:uw (carry+uw (uw uu+uw d))=carry+uu+d:=by rw[fM,fM,fM,fM];omega
   rw[e1,xp,gn];have hdm:=jO (carry+uu+d) 4294967296;refine⟨⟨j+1,by show iw ((j:Int)+1)=_;rw[bH]<;>omega,by omega,hB.set (by simp only[aC];omega),by simp;omega,?_,?_,?_,?_,?_⟩,?_⟩
   . show(x.set (n+j) _).take n=_;rw[yC (by omega)];exact htk
   . intro k hk;show(x.set (n+j) _).getD k 0=_;rw[sY (by omega),if_neg (by omega)];exact hup k (by omega)
   . show 0<=(carry+uu+d)/4294967296;omega
   . show(carry+uu+d)/4294967296<=1;omega
   . show val aC (x.set (n+j) ((carry+uu+d)%4294967296))=_-aC^(n+(j+1))*((carry+uu+d)/4294967296);rw[hset,hval,hvt];have hw:aC=4294967296:=rfl;have hp:aC^(n+(j+1))=aC^n*aC^j*4294967296:=by rw[jM,fl,hw];grind
     rw[hp,jM];generalize aC^n=P at*;generalize aC^j=Q at*;generalize(carry+uu+d)/4294967296=cc at*;generalize(carry+uu+d)%4294967296=c2 at*;have e4:c2=carry+uu+d-4294967296*cc:=by omega
     rw[e4];grind
   . show m-(iw ((j:Int)+1)).toNat<m-((j:Int)).toNat;rw[bH]<;>omega
 . have hjm:j=m:=by omega
   subst hjm;rw[kO (by omega)]at hval;exact⟨hB,hx,htk,hup,c0,c1,hval⟩
theorem JX{u x:List Int}{n:Nat}{t:Int}(hu:n<=u.length)(hx:x.length=u.length)(htk:x.take n=u.take n)(h:val aC x=val aC u+aC^n*t):val aC (x.drop n)=val aC (u.drop n)+t:=by
 rw[pv (B:=aC) (l:=x) n (by omega),pv (B:=aC) (l:=u) n hu,htk]at h;have h1:aC^n*val aC (x.drop n)=aC^n*(val aC (u.drop n)+t):=by rw[pP];omega
 exact MQ (by have:=kF (B:=aC) (by decide) n;omega) h1
theorem top3{l:List Int}{m:Nat}(h:bA aC l)(hm:2<=m)(hl:m<l.length)(hv:val aC l<aC^(m+1)):val aC l=((l.getD m 0*aC+l.getD (m-1) 0)*aC+l.getD (m-2) 0)*aC^(m-2)+val aC (l.take (m-2)):=by
 have h0:=wQ (B:=aC) (l:=l) (n:=m+1) (by omega) (fun k hk hmk=>by have:=tR h hv k hmk;rwa[fU hk]at this);obtain⟨k,rfl⟩:∃k,m=k+2:=⟨m-2,by omega⟩;rw[<-h0,fu,fu (n:=k+1),fu (n:=k),show k+2-1=k+1 by omega,show k+2-2=k by omega,fl,fl];grind
theorem top2{l:List Int}{m:Nat}(hm:2<=m)(hl:l.length=m):val aC l=(l.getD (m-1) 0*aC+l.getD (m-2) 0)*aC^(m-2)+val aC (l.take (m-2)):=by
 obtain⟨k,rfl⟩:∃k,m=k+2:=⟨m-2,by omega⟩;have h0:l.take (k+1+1)=l:=kO (by omega);rw[<-h0,fu,fu (n:=k),h0,show k+2-1=k+1 by omega,show k+2-2=k by omega,fl];grind
theorem b1_tm{b v u q:List Int}{m:Nat}(hb:b.length=m)(hm:2<=m)(hv:v.length=m)(hvB:bA aC v)(huB:bA aC u)(hqB:bA aC q)(hu:u.length=q.length+m)(hul:u.length<=17592186044416)(hv1:0<v.getD (m-1) 0)(h0:val aC (u.drop q.length)<val aC v):
 Tm (fun N=>bI (yZ N b v) N (u,q,iw ((q.length:Int)-1))) (fun r=>bA aC r.1/\r.1.length=u.length/\bA aC r.2/\r.2.length=q.length/\val aC u=val aC r.1+val aC v*val aC r.2/\val aC r.1<val aC v):=by
 refine Tm.loop (fun t:List Int×List Int×Int=>∃k:Nat,t.2.2=(k:Int)-1/\k<=q.length/\bA aC t.1/\t.1.length=u.length/\bA aC t.2.1/\t.2.1.length=q.length/\val aC u=val aC t.1+aC^k*(val aC v*val aC (t.2.1.drop k))/\val aC (t.1.drop k)<val aC v) (fun t=>(t.2.2+1).toNat)
  ⟨q.length,by rw[bH]<;>omega,bK _,huB,rfl,hqB,rfl,by simp[val],h0⟩ ?_
 rintro⟨x,y,ii⟩ ⟨k,rfl,hk,hxB,hx,hyB,hy,hval,hlt⟩;dsimp only[yZ]at*;refine aZ (fun h=>?_) (fun h=>aS ?_)
 . obtain⟨n,rfl⟩:∃n,k=n+1:=⟨k-1,by omega⟩;have hi:((n+1:Nat):Int)-1=(n:Int):=by omega
   rw[hi];have him:iw ((n:Int)+(b.length:Int))=((n+m:Nat):Int):=by rw[bH]<;>omega
   have him1:iw (((n+m:Nat):Int)-1)=((n+m-1:Nat):Int):=by rw[bH]<;>omega
   have hbm:iw ((b.length:Int)-1)=((m-1:Nat):Int):=by rw[bH]<;>omega
   rw[him,him1,hbm];refine aN (gu rfl (by omega)) (aN (gu rfl (by omega)) (aN (gu rfl (by omega)) ?_));have hV:=top2 hm hv;have hVl:=gH (B:=aC) (by decide) (hvB.take (m-2));have hVl':=iq (B:=aC) (by decide) (hvB.take (m-2));rw[eQ,j1 (by omega)]at hVl';have hVW:val aC v<aC^m:=by have:=iq (B:=aC) (by decide) hvB;rwa[hv]at this
   have hxn:=hxB.getD (B:=aC) (by decide) n;have hRe:val aC (x.drop n)=x.getD n 0+aC*val aC (x.drop (n+1)):=by rw[fD (by omega),sN,fU (by omega)]
   have hR0:=gH (B:=aC) (by decide) (hxB.drop n);have hRV:val aC (x.drop n)<4294967296*val aC v:=by
    rw[hRe];simp only[aC]at*;omega
   have hR1:val aC (x.drop n)<aC^(m+1):=by
    rw[fl];simp only[aC]at*;omega
   have hR:=top3 (hxB.drop n) hm (by simp;omega) hR1;have hRl:=gH (B:=aC) (by decide) ((hxB.drop n).take (m-2));have hRl':=iq (B:=aC) (by decide) ((hxB.drop n).take (m-2));rw[eQ,vQ,j1 (by omega)]at hRl';rw[rE,rE,rE,show n+(m-1)=n+m-1 by omega,show n+(m-2)=n+m-2 by omega]at hR;have d1:=hvB.getD (B:=aC) (by decide) (m-1);have d2:=hvB.getD (B:=aC) (by decide) (m-2);have d3:=hxB.getD (B:=aC) (by decide) (n+m);have d4:=hxB.getD (B:=aC) (by decide) (n+m-1);have d5:=hxB.getD (B:=aC) (by decide) (n+m-2);have hp:=kF (B:=aC) (by decide) (m-2);have hV0:=gH (B:=aC) (by decide) hvB;simp only[aC]at d1 d2 d3 d4 d5;rw[gN (z:=x.getD (n+m) 0) d3.1 (by omega),gN (z:=x.getD (n+m-1) 0) d4.1 (by omega),gN (z:=v.getD (m-1) 0) d1.1 (by omega),BS d3.1 d3.2 d4.1 d4.2];have t0:0<=x.getD (n+m) 0*4294967296+x.getD (n+m-1) 0:=by omega
   have t1:x.getD (n+m) 0*4294967296+x.getD (n+m-1) 0<18446744073709551616:=by omega
   refine aN (Cp (by omega)) (aN (gu rfl (by omega)) ?_);rw[gN (z:=v.getD (m-1) 0) d1.1 (by omega)];refine aN (KM (by omega)) ?_;rw[A4 t0,DA t0];have hq0:=yD t0 (show 0<=v.getD (m-1) 0 by omega);have hq1:(x.getD (n+m) 0*4294967296+x.getD (n+m-1) 0)/v.getD (m-1) 0<=x.getD (n+m) 0*4294967296+x.getD (n+m-1) 0:=Int.ediv_le_self _ t0;have hm0:=lO (x.getD (n+m) 0*4294967296+x.getD (n+m-1) 0) (show v.getD (m-1) 0≠0 by omega);have hm1:=lP (x.getD (n+m) 0*4294967296+x.getD (n+m-1) 0) hv1;have hdm:=jO (x.getD (n+m) 0*4294967296+x.getD (n+m-1) 0) (v.getD (m-1) 0);rw[show IntKind.u64.wrap ((x.getD (n+m) 0*4294967296+x.getD (n+m-1) 0)/v.getD (m-1) 0)=(x.getD (n+m) 0*4294967296+x.getD (n+m-1) 0)/v.getD (m-1) 0 from gN hq0 (by omega)];refine Tm.bind (b2_tm (b:=b) (v:=v) (u:=x) (n:=n) (m:=m) (V:=val aC v) (R:=val aC (x.drop n)) (top:=x.getD (n+m) 0*4294967296+x.getD (n+m-1) 0) hb hv hm (by omega) (by omega) rfl rfl rfl ⟨hv1,d1.2⟩ d2 d5 hp hV ⟨hVl,hVl'⟩ hR ⟨hRl,hRl'⟩ hRV
    (by have:=fm (v.getD (m-1) 0) ((x.getD (n+m) 0*4294967296+x.getD (n+m-1) 0)/v.getD (m-1) 0);omega) ⟨hm0,hm1⟩ ⟨hq0,by omega⟩) ?_
   rintro g ⟨g0,g1,hgR,hgV⟩;clear hdm hm0 hm1 hq0 hq1;generalize hRR:val aC (x.drop n)=R at*;generalize hVV:val aC v=V at*;have hsg:iw (((n+m:Nat):Int)+1)=((n+m+1:Nat):Int):=by rw[bH]<;>omega
   rw[hsg];refine aN (f:=nt _ _ _) (a:=()) (by unfold nt;rw[if_pos (by omega)]) ?_;refine Tm.bind (Q:=fun r:Bool×List Int=>bA aC r.2/\r.2.length=x.length/\r.2.take n=x.take n/\(∀k,n+m<k->r.2.getD k 0=x.getD k 0)/\((r.1=false/\val aC (r.2.drop n)=R-g*V)\/(r.1=true/\val aC (r.2.drop n)=R-g*V+aC^(m+1)))) ?_ ?_
   . unfold zh;refine Tm.bind (b3_tm (b:=b) (v:=v) (u:=x) (n:=n) (m:=m) (g:=g) hb hv hvB hxB (by omega) (by omega) g0 g1) ?_;rintro⟨z,bo⟩ ⟨z1,z2,z3,z4,z5,z6,z7⟩;dsimp only at*;refine aS ⟨z1,z2,z3,z4,?_⟩;have hva:=JX (u:=x) (x:=z) (n:=n) (t:=-(g*V)+aC^(m+1)*bo) (by omega) z2 z3 (by rw[z7,hVV,jM aC n (m+1)];grind);rw[hRR]at hva;rcases(show bo=0\/bo=1 by omega)with rfl|rfl
     . exact .inl ⟨rfl,by rw[hva,Ch];omega⟩
     . exact .inr ⟨rfl,by rw[hva,yE];omega⟩
   rintro⟨bz,z⟩ ⟨z1,z2,z3,z4,z5⟩;dsimp only at*;have hzn:=gH (B:=aC) (by decide) (z1.drop n);have hzW:val aC (z.drop n)<aC^(m+1):=Jj (z1.drop n) (fun j hj=>by rw[rE,z4 _ (by omega)];have:=tR (hxB.drop n) (by rw[hRR];exact hR1) j hj;rwa[rE]at this);have e1:(g+1)*V=g*V+V:=by grind
   refine Tm.bind (Q:=fun r:List Int×Int=>bA aC r.1/\r.1.length=x.length/\r.1.take n=x.take n/\0<=r.2/\r.2<4294967296/\val aC (r.1.drop n)=R-r.2*V/\val aC (r.1.drop n)<V) ?_ ?_
   . refine aZ (fun hz=>?_) (fun hz=>aS ?_)
     . have z6:val aC (z.drop n)=R-g*V+aC^(m+1):=by
        rcases z5 with z5|z5
        . rw[z5.1]at hz;cases hz
        . exact z5.2
       refine Tm.bind (b4_tm (v:=v) (u:=z) (n:=n) (m:=m) hv hvB z1 (by omega) (by omega)) ?_;rintro⟨s,carry⟩ ⟨s1,s2,s3,s4,s5,s6,s7⟩;dsimp only at*;have hset:=fun y=>uZ (B:=aC) (l:=s) (n:=n+m) (y:=y) (by omega);rw[<-fU (l:=s) (n:=n+m) (by omega)]at hset;have hsd:=s1.getD (B:=aC) (by decide) (n+m);refine aN (gu rfl (by omega)) (aN (gu rfl (by omega)) (aN (ee rfl (by omega)) (aS ?_)));have hsu:=fun k hk=>s4 k hk;generalize hD:s.getD (n+m) 0=D at*;simp only[aC]at hsd;have ec:dU (D+dU carry)=(D+carry)%4294967296:=by rw[gn,gn];omega
       rw[ec];have hdm:=jO (D+carry) 4294967296;have hdb:0<=(D+carry)%4294967296/\(D+carry)%4294967296<4294967296:=by omega
       generalize(D+carry)%4294967296=D' at*;generalize(D+carry)/4294967296=tt at*;have hB':bA aC (s.set (n+m) D'):=s1.set (by simp only[aC];omega);have hva:=JX (u:=z) (x:=s.set (n+m) D') (n:=n) (t:=V-aC^(m+1)*tt) (by omega) (by simp;omega) (by rw[yC (by omega)];exact s3) (by
        rw[hset,s7,hVV,jM,fl];have hw:aC=4294967296:=rfl;have e4:D'=D+carry-4294967296*tt:=by omega
        rw[e4];generalize aC^n=P at*;generalize aC^m=Q at*;rw[hw];grind)
       have hlo:=gH (B:=aC) (by decide) (hB'.drop n);have hhi:val aC ((s.set (n+m) D').drop n)<aC^(m+1):=Jj (hB'.drop n) (fun j hj=>by
        rw[rE,sY (by omega),if_neg (by omega),s4 _ (by omega),z4 _ (by omega)];have:=tR (hxB.drop n) (by rw[hRR];exact hR1) j hj;rwa[rE]at this)
       have hpp:=kF (B:=aC) (by decide) (m+1);have hgp:0<g:=by
        rcases qW 0 g with h'|h'
        . exact h'
        . have:g=0:=by omega
          subst this;rw[Int.zero_mul]at z6;omega
       have htt:tt=1:=by
        have e3:tt=0\/tt=1:=by omega
        rcases e3 with e3|e3
        . subst e3;rw[hva,z6,Ch]at hhi;omega
        . exact e3
       subst htt;have e5:(g-1)*V=g*V-V:=by grind
       refine⟨hB',by simp;omega,by dsimp only;rw[yC (by omega)];exact s3.trans z3,?_,?_,?_,?_⟩
       . show 0<=uw (g-1);rw[gN]<;>omega
       . show uw (g-1)<_;rw[gN]<;>omega
       . show val aC ((s.set (n+m) D').drop n)=R-uw (g-1)*V;rw[gN (show 0<=g-1 by omega) (by omega),hva,z6,e5,yE];omega
       . show val aC ((s.set (n+m) D').drop n)<V;rw[hva,z6,yE];omega
     . have z6:val aC (z.drop n)=R-g*V:=by
        rcases z5 with z5|z5
        . exact z5.2
        . exact absurd z5.1 hz
       exact⟨z1,z2,z3,g0,g1,z6,by dsimp only;omega⟩
   rintro⟨s,g'⟩ ⟨s1,s2,s3,s4,s5,s6,s7⟩;dsimp only at*;refine aN (gu rfl (by omega)) (aN (ee rfl (by omega)) (aS ?_));have eg:dU g'=g':=by rw[gn];omega
   rw[eg];refine⟨⟨n,by show iw ((n:Int)-1)=_;rw[bH]<;>omega,by omega,s1,s2.trans hx,hyB.set (by simp only[aC];omega),by simp;omega,?_,s7⟩,?_⟩
   . show val aC u=val aC s+aC^n*(V*val aC ((y.set n g').drop n));rw[fD (by simp;omega),sN,List.getElem_set_self,List.drop_set_of_lt (by omega),hval,pv (B:=aC) (l:=s) n (by omega),s6,s3,pv (B:=aC) (l:=x) n (by omega),hRR,fl];generalize aC^n=P at*;generalize aC=W at*;grind
   . show(iw ((n:Int)-1)+1).toNat<((n:Int)+1).toNat;rw[bH]<;>omega
 . obtain rfl:k=0:=by omega
   simp only[lL,Int.pow_zero,Int.one_mul]at hval hlt;exact⟨hxB,hx,hyB,hy,hval,hlt⟩
open Go Go.X
theorem QS{x:Int}{s:Nat}(hs:s<=31)(z:Int)(h:x=2^s*z):x%4294967296%2^s=0:=by
 have hPQ:=BL hs;rw[<-hPQ,Int.emod_emod_of_dvd _ (Int.dvd_mul_right _ _),h,Int.mul_emod_right]
theorem b5_tm{u z:List Int}{n:Int}{s m:Nat}{t:Int}(hn:uw n=s)(hs:s<=31)(hz:z=List.replicate m 0)(huB:bA aC u)(hu:m<u.length)(hul:u.length<=17592186044416)(hm:0<m)(hv:val aC u<aC^m)(ht:val aC u=t*2^s):
 Tm (fun N=>bI (zm N n u z) N (z,0)) (fun r=>bA aC r/\r.length=m/\val aC r=t):=by
 subst hz;have hPQ:=BL hs;have hP:(0:Int)<2^s:=kv (by decide);have hQ:(0:Int)<2^(32-s):=kv (by decide);have hP31:(2:Int)^s<=2147483648:=j4 (B:=2) (by decide) hs;have c0:u.getD 0 0%2^s=0:=by
  have h1:val aC u%4294967296=u.getD 0 0:=by
   cases u with
   |nil=>simp at hu
   |cons x l=>
    have:=huB.head;simp only[val,List.getD_cons_zero];rw[show aC*val aC l=4294967296*val aC l from rfl,Gj];simp only[aC]at this;omega
  rw[<-h1];exact QS hs t (by rw[ht,fm])
 refine Tm.loop (fun r:List Int×Int=>∃j:Nat,r.2=j/\j<=m/\bA aC r.1/\r.1.length=m/\val aC (r.1.take j)*2^s=val aC (u.take j)+aC^j*(u.getD j 0%2^s)) (fun r=>m-r.2.toNat)
  ⟨0,rfl,by omega,bA.dp (by decide),by simp,by rw[c0];simp[val]⟩ ?_
 rintro⟨r,jj⟩ ⟨j,rfl,hj,hB,hr,hval⟩;dsimp only[zm]at*;rw[kQ];refine aZ (fun h=>?_) (fun h=>aS ?_)
 . have hj1:iw ((j:Int)+1)=((j+1:Nat):Int):=by rw[bH]<;>omega
   rw[hj1,hn];refine aN (gu rfl (by omega)) (aN (gu rfl (by omega)) (aN (ye (by omega)) (aN (gu rfl (by omega)) (aN (ee rfl (by omega)) (aS ?_)))));have hx:=huB.getD (B:=aC) (by decide) j;have hy:=huB.getD (B:=aC) (by decide) (j+1);have hut:=fu (B:=aC) (l:=u) (n:=j);have hts:=fun y=>take_set (l:=r) (n:=j) (y:=y) (by omega);generalize u.getD j 0=x at*;generalize hY:u.getD (j+1) 0=y at*;simp only[aC]at hx hy;rw[gN hx.1 (by omega),gN hy.1 (by omega),BS hy.1 hy.2 hx.1 hx.2];have esh:fq .u64 (y*4294967296+x) (s:Int)=(y*4294967296+x)/2^s:=by
    unfold fq;rw[show min ((s:Int)).toNat IntKind.u64.bits=s by show min _ 64=s;omega];exact jx _ (ed hP)
   rw[esh];have hx1:=jO x (2^s);have hy1:=jO y (2^s);have hxm0:=lO x (show(2:Int)^s≠0 by omega);have hxm1:=lP x hP;have hym0:=lO y (show(2:Int)^s≠0 by omega);have hym1:=lP y hP;have hxd1:x/2^s<2^(32-s):=Gt hP (by rw[fm,hPQ];omega);have hxd0:0<=x/2^s:=yD hx.1 (by omega);have e1:(y*4294967296+x)/2^s=y*2^(32-s)+x/2^s:=by
    rw[<-hPQ,show y*(2^s*2^(32-s))+x=x+2^s*(y*2^(32-s)) by grind,Int.add_mul_ediv_left _ _ (by omega),Int.add_comm]
   have e2:dU (y*2^(32-s)+x/2^s)=(y%2^s)*2^(32-s)+x/2^s:=by
    have hle:(y%2^s)*2^(32-s)+2^(32-s)<=4294967296:=by
     have:=fp (show y%2^s+1<=2^s by omega) (show(0:Int)<=2^(32-s) by omega);rw[hPQ]at this;have e:(y%2^s+1)*2^(32-s)=(y%2^s)*2^(32-s)+2^(32-s):=by grind
     omega
    have hge:0<=(y%2^s)*2^(32-s):=eI hym0 (by omega);have e3:y*2^(32-s)+x/2^s=(y%2^s)*2^(32-s)+x/2^s+4294967296*(y/2^s):=by
     have e4:4294967296*(y/2^s)=2^s*2^(32-s)*(y/2^s):=by rw[hPQ]
     have e5:y*2^(32-s)=(y%2^s+2^s*(y/2^s))*2^(32-s):=by rw[hy1]
     rw[e4,e5];grind
    rw[gn,e3,Gj,Cc (by omega) (by omega)]
   rw[e1,e2];have hdig:0<=(y%2^s)*2^(32-s)+x/2^s/\(y%2^s)*2^(32-s)+x/2^s<4294967296:=by
    rw[<-e2,gn];omega
   refine⟨⟨j+1,rfl,by omega,hB.set (by simp only[aC];exact hdig),by simp;omega,?_⟩,?_⟩
   . show val aC ((r.set j _).take (j+1))*2^s=val aC (u.take (j+1))+aC^(j+1)*(u.getD (j+1) 0%2^s);rw[hY];rw[hts,hut,fl];have hw:aC=2^s*2^(32-s):=hPQ.symm;have e6:aC^j*aC*(y%2^s)=aC^j*(2^s*2^(32-s))*(y%2^s):=by rw[<-hw]
     rw[e6];have e7:aC^j*x=aC^j*(x%2^s+2^s*(x/2^s)):=by rw[hx1]
     rw[e7];generalize aC^j=P at*;generalize val aC (r.take j)=a1 at*;generalize val aC (u.take j)=a2 at*;have:(a1+P*((y%2^s)*2^(32-s)+x/2^s))*2^s=a1*2^s+P*((y%2^s)*2^(32-s)+x/2^s)*2^s:=by grind
     rw[this,hval];grind
   . show m-(((j+1:Nat):Int)).toNat<m-((j:Int)).toNat;omega
 . obtain rfl:j=m:=by omega
   rw[kO (by omega),tR huB hv j (bK _)]at hval;have h1:=wQ (B:=aC) (l:=u) (n:=j) (by omega) (fun k hk hmk=>by have:=tR huB hv k hmk;rwa[fU hk]at this);rw[h1,ht]at hval;simp only[Int.zero_emod,Ch,Int.add_zero]at hval;exact⟨hB,hr,Int.eq_of_mul_eq_mul_right (by omega) hval⟩
theorem Rh{l:List Int}(h:bA aC l)(hn:fJ l)(hl:0<l.length):0<l.getD (l.length-1) 0:=by
 have h1:=h.getD (B:=aC) (by decide) (l.length-1);have h2:l.getD (l.length-1) 0≠0:=by
  intro e;apply hn;rw[Gl,bV (by omega)];rw[fU (by omega)]at e;rw[e]
 omega
theorem HA{a b:List Int}(ha:bA aC a)(hb:bA aC b)(na:fJ a)(nb:fJ b)(hb0:0<b.length)(hl:a.length<=8796093022208)(hl':b.length<=8796093022208):
 Tm (fun N=>tG N a b) (fun r=>Dg aC r.1 (val aC a/val aC b)/\Dg aC r.2 (val aC a%val aC b)/\r.1.length<=a.length/\r.2.length<=a.length+1):=by
 unfold tG;have hA0:=gH (B:=aC) (by decide) ha;have hB0:=ym (B:=aC) (by decide) hb nb (by intro e;rw[e]at hb0;simp at hb0);refine Tm.bind (AB ha hb na nb (by omega) (by omega)) ?_;rintro _ rfl;refine aZ (fun h=>?_) (fun h=>?_)
 . have hlt:val aC a<val aC b:=by revert h;unfold bM;split<;>(try split)<;>omega
   refine Tm.bind (pq ha (by omega)) ?_;rintro r ⟨hr,hrl⟩;refine aS ⟨?_,?_,by simp,by dsimp only;omega⟩
   . rw[M6 hA0 hlt];exact Dg.nil
   . rw[Cc hA0 hlt];exact hr
 . have hge:val aC b<=val aC a:=by revert h;unfold bM;split<;>(try split)<;>omega
   have hle:b.length<=a.length:=by
    rcases cw a.length b.length with h'|h'
    . have:=mX mZ ha hb nb h';omega
    . exact h'
   have hlast:=Rh hb nb hb0;have hlast':=hb.getD (B:=aC) (by decide) (b.length-1);refine aZ (fun h1=>?_) (fun h1=>?_)
   . have hb1:b.length=1:=by omega
     refine aN (gu (n:=0) rfl (by omega)) ?_;have hbv:val aC b=b.getD 0 0:=by
      match b,hb1 with
      |[x],_=>simp[val]
     rw[hb1]at hlast hlast';simp only[vN]at hlast hlast';refine Tm.bind (LL ha hlast hlast'.2 (by omega)) ?_;rintro⟨q,r⟩ ⟨hq,hqv,hrv,hql⟩;dsimp only at*;refine Tm.bind (pq hq (by omega)) ?_;rintro q' ⟨hq',hql'⟩;have hr0:=lO (val aC a) (show b.getD 0 0≠0 by omega);have hr1:=lP (val aC a) hlast;refine Tm.bind (pq (d:=[r]) (bA.cons (by rw[hrv];omega) bA.nil) (by simp)) ?_;rintro r' ⟨hr',hrl'⟩;refine aS ⟨?_,?_,by dsimp only;omega,by simp at hrl';dsimp only;omega⟩
     . rw[hbv,<-hqv];exact hq'
     . rw[hbv,<-hrv];simpa[val]using hr'
   . have hm:2<=b.length:=by omega
     generalize hmm:b.length=m at*;have hbm:iw ((m:Int)-1)=((m-1:Nat):Int):=by rw[bH]<;>omega
     rw[hbm];refine aN (gu rfl (by omega)) ?_;generalize hx:b.getD (m-1) 0=x at*;refine Tm.bind (Ss hlast hlast'.2) ?_;rintro _ ⟨s,rfl,hs,s1,s2⟩;have eus:uw (s:Int)=s:=gN (by omega) (by omega);refine Tm.bind (JT eus hs ha (by omega)) ?_;rintro u ⟨huB,huv,hul⟩;refine Tm.bind (JT eus hs hb (by omega)) ?_;rintro v0 ⟨hvB0,hvv0,hvl0⟩;refine aN (rU (m:=0) (n:=m) rfl rfl (by omega) (by omega)) ?_;simp only[lL];have hPQ:=BL hs;have hP:(0:Int)<2^s:=kv (by decide);have hQ:(0:Int)<2^(32-s):=kv (by decide);have hP31:(2:Int)^s<=2147483648:=j4 (B:=2) (by decide) hs;have hbt:val aC b=val aC (b.take (m-1))+aC^(m-1)*x:=by
      have:=fu (B:=aC) (l:=b) (n:=m-1);rwa[kO (by omega),hx]at this
     have hbl:=iq (B:=aC) (by decide) (hb.take (m-1));rw[eQ,j1 (by omega)]at hbl;have hbl0:=gH (B:=aC) (by decide) (hb.take (m-1));have pm:=kF (B:=aC) (by decide) (m-1);have pm1:aC^m=aC^(m-1)*aC:=by rw[<-fl];congr 1;omega
     have hx32:(x+1)*2^s<=4294967296:=by
      have h1:x*2^s<2^(32-s)*2^s:=by rw[fm (2^(32-s)),hPQ];exact s2
      have h2:=M7 h1 (by omega);have h3:=fp (show x+1<=2^(32-s) by omega) (show(0:Int)<=2^s by omega);rw[fm (2^(32-s)),hPQ]at h3;exact h3
     have hv0m:val aC v0<aC^m:=by
      have h1:val aC b<aC^(m-1)*(x+1):=by rw[pP];omega
      have h2:=M5 h1 hP;have h3:=fZ hx32 (show 0<=aC^(m-1) by omega);have e:aC^(m-1)*(x+1)*2^s=aC^(m-1)*((x+1)*2^s):=by grind
      rw[hvv0,pm1];simp only[aC]at*;omega
     have hvv:val aC (v0.take m)=val aC b*2^s:=by
      rw[<-hvv0];exact wQ (by omega) (fun k hk hmk=>by have:=tR hvB0 hv0m k hmk;rwa[fU hk]at this)
     have hvl:(v0.take m).length=m:=by simp;omega
     have hvB:=hvB0.take m;generalize v0.take m=v at*;have hvge:2147483648*aC^(m-1)<=val aC v:=by
      rw[hvv];have h1:=fp (show aC^(m-1)*x<=val aC b by omega) (show(0:Int)<=2^s by omega);have h2:=fZ s1 (show 0<=aC^(m-1) by omega);have e:aC^(m-1)*x*2^s=aC^(m-1)*(x*2^s):=by grind
      rw[fm 2147483648];omega
     have hv1:0<v.getD (m-1) 0:=by
      have h1:val aC v=val aC (v.take (m-1))+aC^(m-1)*v.getD (m-1) 0:=by
       have:=fu (B:=aC) (l:=v) (n:=m-1);rwa[kO (by omega)]at this
      have h2:=iq (B:=aC) (by decide) (hvB.take (m-1));rw[eQ,j1 (by omega)]at h2;have h3:=hvB.getD (B:=aC) (by decide) (m-1);rcases qW 0 (v.getD (m-1) 0)with h4|h4
      . exact h4
      . have h5:v.getD (m-1) 0=0:=by omega
        rw[h5]at h1;omega
     refine aN (ik (n:=a.length+1-m) (by rw[hul,bH]<;>omega) (by omega) (by decide)) ?_;have hul2:u.length=(List.replicate (a.length+1-m) (0:Int)).length+m:=by simp;omega
     refine Tm.bind (b1_tm (b:=b) (v:=v) (u:=u) (q:=List.replicate (a.length+1-m) 0) (m:=m) hmm hm hvl hvB huB (bA.dp (by decide)) hul2 (by omega) hv1 ?_) ?_
     . have h1:=pv (B:=aC) (l:=u) (List.replicate (a.length+1-m) (0:Int)).length (by omega);rw[kQ]at h1⊢;have h2:=gH (B:=aC) (by decide) (huB.take (a.length+1-m));have h3:=M5 (iq (B:=aC) (by decide) ha) hP;have p1:aC^a.length=aC^(a.length+1-m)*aC^(m-1):=by rw[<-jM];congr 1;omega
       have h4:aC^(a.length+1-m)*val aC (u.drop (a.length+1-m))<aC^(a.length+1-m)*(aC^(m-1)*2^s):=by
        rw[<-Gv,<-p1];omega
       have h5:=Gw h4 (by have:=kF (B:=aC) (by decide) (a.length+1-m);omega);have h6:=fZ hP31 (show 0<=aC^(m-1) by omega);rw[fm 2147483648]at hvge;omega
     rintro⟨u',q⟩ ⟨hu'B,hu'l,hqB,hql,hAv,hlt⟩;dsimp only at*;refine aN (ik (n:=m) rfl (by omega) (by decide)) ?_;have hu0:=gH (B:=aC) (by decide) hu'B;have ht:val aC u'=(val aC a-val aC b*val aC q)*2^s:=by
      rw[huv,hvv]at hAv;have e:(val aC a-val aC b*val aC q)*2^s=val aC a*2^s-val aC b*2^s*val aC q:=by grind
      omega
     have hr0:0<=val aC a-val aC b*val aC q:=by
      rcases qW (val aC a-val aC b*val aC q) 0 with h1|h1
      . have:=fp (show val aC a-val aC b*val aC q≤-1 by omega) (show(0:Int)<=2^s by omega);omega
      . exact h1
     have hr1:val aC a-val aC b*val aC q<val aC b:=by
      rw[ht,hvv]at hlt;exact M7 hlt (by omega)
     refine Tm.bind (b5_tm (u:=u') (n:=(s:Int)) (s:=s) (m:=m) eus hs rfl hu'B (by omega) (by omega) (by omega) (by have:=iq (B:=aC) (by decide) hvB;rw[hvl]at this;omega) ht) ?_;rintro r ⟨hrB,hrl,hrv⟩;refine Tm.bind (pq hqB (by rw[hql];simp;omega)) ?_;rintro q' ⟨hq',hql'⟩;refine Tm.bind (pq hrB (by omega)) ?_;rintro r' ⟨hr',hrl'⟩;have hdm:=(Gx (a:=val aC a) (b:=val aC b) (r:=val aC a-val aC b*val aC q) (q:=val aC q) hB0).2 ⟨by omega,hr0,hr1⟩;rw[kQ]at hql;refine aS ⟨?_,?_,by dsimp only;omega,by dsimp only;omega⟩
     . rw[hdm.1];exact hq'
     . rw[hdm.2,<-hrv];exact hr'
structure DivP (a b:Int)(r:aB×aB×Bool):Prop where
 ok:r.2.2=decide (b≠0)
 quo:Is r.1 (a.fdiv b)
 rem:Is r.2.1 (if b=0 then 0 else a.fmod b)
theorem Lu{x y:Int}(hx:0<=x)(hy:0<y):(-x).fdiv (-y)=x/y/\(-x).fmod (-y)=-(x%y):=by
 have h1:(-x).fdiv (-y)=x.fdiv y:=Gy _ _;rw[h1,jx _ (by omega)];refine⟨rfl,?_⟩;have h2:=Gz (-x) (-y);rw[h1,jx _ (by omega)]at h2;have h3:=jO x y;have e:-y*(x/y)=-(y*(x/y)):=by grind
 omega
theorem Ia{x y:Int}(hy:0<y):(-x).fdiv y=(if x%y=0 then-(x/y)else-(x/y+1))/\(-x).fmod y=(if x%y=0 then 0 else y-x%y):=by
 rw[jx _ (by omega),GA _ (by omega)];have h3:=jO x y;have h4:=lO x (show y≠0 by omega);have h5:=lP x hy;split
 . rename_i h;have:=(Gx (a:=-x) (b:=y) (r:=0) (q:=-(x/y)) hy).2 ⟨by have e:y*-(x/y)=-(y*(x/y)):=(by grind);omega,by omega,by omega⟩;exact this
 . have:=(Gx (a:=-x) (b:=y) (r:=y-x%y) (q:=-(x/y+1)) hy).2 ⟨by have e:y*-(x/y+1)=-(y*(x/y))-y:=(by grind);omega,by omega,by omega⟩;exact this
theorem Il{x y:Int}:x.fdiv (-y)=(-x).fdiv y/\x.fmod (-y)=-((-x).fmod y):=by
 have h1:x.fdiv (-y)=(-x).fdiv y:=by rw[<-Gy x,Int.neg_neg]
 refine⟨h1,?_⟩;have h2:=Gz x (-y);have h3:=Gz (-x) y;rw[h1]at h2;have e:-y*(-x).fdiv y=-(y*(-x).fdiv y):=by grind
 omega
theorem inB1:bA aC [1]:=bA.cons (by decide) bA.nil
theorem Sp{a b:aB}(ha:bA aC a.aP)(hb:bA aC b.aP)(hl:a.aP.length<=4398046511104)(hl':b.aP.length<=4398046511104):
 Tm (fun N=>kG N a b) (fun r=>DivP (bv a) (bv b) r/\r.1.aP.length<=a.aP.length+2/\r.2.1.aP.length<=max (a.aP.length+1) b.aP.length):=by
 unfold kG;refine Tm.bind (o9 ha (by omega)) ?_;rintro x ⟨hx,hxl⟩;refine Tm.bind (o9 hb (by omega)) ?_;rintro y ⟨hy,hyl⟩;have hz:=hy.dg.zero (by decide);refine aZ (fun h=>aS ?_) (fun h=>?_)
 . have h0:bv b=0:=by have:=hz.1 (mo.1 (by omega));omega
   refine⟨⟨by simp[h0],?_,?_⟩,by simp,by simp⟩
   . rw[h0,M8];exact⟨Dg.nil,rfl⟩
   . rw[if_pos h0];exact⟨Dg.nil,rfl⟩
 . have h0:bv b≠0:=fun e=>h (by rw[hz.2 (by omega)];rfl);have hyl0:0<y.aP.length:=by omega
   have vx:=hx.A6;have vy:=hy.A6;have n1:=hx.neg;have n2:=hy.neg;have X0:=gH (B:=aC) (by decide) hx.dg.bL;refine Tm.bind (HA hx.dg.bL hy.dg.bL hx.dg.ff hy.dg.ff hyl0 (by omega) (by omega)) ?_;rintro⟨q,r⟩ ⟨hq,hr,hql,hrl⟩;dsimp only at*;generalize hX:val aC x.aP=X at*;generalize hY:val aC y.aP=Y at*;have Y0:0<Y:=by rw[vy];split<;>omega
   have hr0:=lO X (show Y≠0 by omega);have hr1:=lP X Y0;have hq0:=yD X0 (show 0<=Y by omega);have hrz:=hr.zero (by decide);refine aZ (fun hs=>?_) (fun hs=>?_)
   . 
     have hab:(bv a).fdiv (bv b)=(-X).fdiv Y/\(bv a).fmod (bv b)=if y.bG=true then-((-X).fmod Y)else(-X).fmod Y:=by
      have hs':¬x.bG=y.bG:=by simpa using hs
      by_cases p:bv a<0<;>by_cases p':bv b<0<;>simp only[p,p',decide_true,decide_false,if_true,if_false]at n1 n2 vx vy
      . rw[n1,n2]at hs';exact absurd rfl hs'
      . rw[n2,show bv a=-X by omega,show bv b=Y by omega];simp
      . rw[n2,show bv a=X by omega,show bv b=-Y by omega];simpa using Il
      . rw[n1,n2]at hs';exact absurd rfl hs'
     have hdd:=Ia (x:=X) Y0;refine Tm.bind (Q:=fun t:List Int×List Int=>bA aC t.1/\bA aC t.2∧-(val aC t.1)=(-X).fdiv Y/\val aC t.2=(-X).fmod Y/\t.1.length<=x.aP.length+2/\t.2.length<=max (x.aP.length+1) y.aP.length) (aZ (fun hrp=>?_) (fun hrp=>aS ?_)) ?_
     . have hrne:X%Y≠0:=fun e=>by have:=hrz.2 e;rw[this]at hrp;simp at hrp
       rw[if_neg hrne,if_neg hrne]at hdd;refine Tm.bind (GU hq.bL inB1 (by omega) (by simp)) ?_;rintro q1 ⟨hq1,hq1v,hq1l⟩;have hle:r.length<=y.aP.length:=by
        rcases cw y.aP.length r.length with h'|h'
        . have:=mX mZ hy.dg.bL hr.bL hr.ff h';rw[hY,hr.val]at this;omega
        . exact h'
       refine Tm.bind (FJ hy.dg.bL hr.bL (by omega) hle (by rw[hY,hr.val];omega)) ?_;rintro r1 ⟨hr1B,hr1v,hr1l⟩;refine aS ⟨hq1,hr1B,?_,?_,?_,by dsimp only;omega⟩
       . rw[hdd.1,hq1v,hq.val];simp[val]
       . rw[hdd.2,hr1v,hY,hr.val]
       . simp only[cv,dM]at hq1l;dsimp only;omega
     . have hre:r=[]:=mo.1 (by omega);have hrz':=hrz.1 hre;rw[if_pos hrz',if_pos hrz']at hdd;refine⟨hq.bL,hr.bL,?_,?_,by dsimp only;omega,by dsimp only;omega⟩
       . rw[hdd.1,hq.val]
       . rw[hdd.2,hr.val,hrz']
     rintro⟨q1,r1⟩ ⟨hq1,hr1B,hq1v,hr1v,hq1l,hr1l⟩;dsimp only at*;refine Tm.bind (lQ hq1 (by omega)) ?_;rintro q2 ⟨hq2,hq2l⟩;refine Tm.bind (lQ hr1B (by omega)) ?_;rintro r2 ⟨hr2,hr2l⟩;refine aS ⟨⟨by simp[h0],?_,?_⟩,by dsimp only;omega,by dsimp only;omega⟩
     . rw[hab.1,<-hq1v];simpa using hq2
     . rw[if_neg h0,hab.2,<-hr1v];exact hr2
   . 
     have hs':x.bG=y.bG:=by simpa using hs
     have hab:(bv a).fdiv (bv b)=X/Y/\(bv a).fmod (bv b)=if y.bG=true then-(X%Y)else X%Y:=by
      by_cases p:bv a<0<;>by_cases p':bv b<0<;>simp only[p,p',decide_true,decide_false,if_true,if_false]at n1 n2 vx vy
      . rw[n2,show bv a=-X by omega,show bv b=-Y by omega];simpa using Lu X0 Y0
      . rw[n1,n2]at hs';cases hs'
      . rw[n1,n2]at hs';cases hs'
      . rw[n2,show bv a=X by omega,show bv b=Y by omega,jx _ (by omega),GA _ (by omega)];simp
     refine Tm.bind (lQ hq.bL (by omega)) ?_;rintro q2 ⟨hq2,hq2l⟩;refine Tm.bind (lQ hr.bL (by omega)) ?_;rintro r2 ⟨hr2,hr2l⟩;refine aS ⟨⟨by simp[h0],?_,?_⟩,by dsimp only;omega,by dsimp only;omega⟩
     . rw[hab.1,<-hq.val];simpa using hq2
     . rw[if_neg h0,hab.2,<-hr.val];exact hr2
open Go Go.X
theorem F4{B:Int}(hB:1<B){a b:List Int}(ha:bA B a)(hb:bA B b)(nb:fJ b)(h:val B b<=val B a):b.length<=a.length:=by
 rcases cw a.length b.length with h'|h'
 . have:=mX hB ha hb nb h';omega
 . exact h'
def tL(j:Nat):Int:=if j=0 then 0 else 2^(j-1)
theorem yJ(j:Nat):tL (j+1)=2^j:=by simp[tL]
theorem P5(j:Nat)(hj:j<16):iw (Int.tdiv (tL (j+1)) 2)=tL j:=by
 rw[yJ];cases j with
 |zero=>decide
 |succ j=>
  rw[yJ,A4 (ed (kv (by decide))),fl,Int.mul_ediv_cancel _ (by decide)];have h1:=kF (B:=2) (by decide) j;have h2:=j4 (B:=2) (by decide) (show j<=15 by omega);have e:(2:Int)^15=32768:=by decide
  rw[bH]<;>omega
theorem QY{x:Int}(hx:0<=x)(j:Nat):x/2^j=2*(x/2^(j+1))+x/2^j%2:=by
 have h:=jO (x/2^j) 2;have e:x/2^j/2=x/2^(j+1):=by rw[Int.ediv_ediv_of_nonneg (ed (kv (by decide))),fl]
 rw[e]at h;omega
theorem N7{a b q r:List Int}{n:Nat}{H Qh:Int}(ha:bA aX a)(hb:bA aX b)(nb:fJ b)(hb0:0<val aX b)(hla:a.length<=4398046511104)(hlb:b.length<=4398046511104)(hn:n<a.length)(hq:q.length=a.length)(hqB:bA aX q)(hqn:q.getD n 0=0)
 (hr:Dg aX r (val aX r))(hrlt:val aX r<val aX b)(hI:H=val aX b*Qh+val aX r):
 Tm (fun N=>bI (Bb N a b n) N (q,r,32768)) (fun t=>t.1.length=a.length/\bA aX t.1/\Dg aX t.2 (val aX t.2)/\val aX t.2<val aX b/\(∀m,m≠n->t.1.getD m 0=q.getD m 0)/\H*65536+a.getD n 0=val aX b*(Qh*65536+t.1.getD n 0)+val aX t.2):=by
 have hx:=ha.getD (B:=aX) (by decide) n;generalize hxx:a.getD n 0=x at*;simp only[aX]at hx;have key:∀r:List Int,Dg aX r (val aX r)->val aX r<val aX b->r.length<=b.length:=fun r h1 h2=>F4 nB hb h1.bL h1.ff (by omega);refine Tm.loop (fun t:List Int×List Int×Int=>∃(j:Nat) (y:Int),t.2.2=tL j/\j<=16/\t.1.length=a.length/\bA aX t.1/\Dg aX t.2.1 (val aX t.2.1)/\val aX t.2.1<val aX b/\(∀m,m≠n->t.1.getD m 0=q.getD m 0)/\0<=y/\y<2^(16-j)/\t.1.getD n 0=y*2^j/\H*2^(16-j)+x/2^j=val aX b*(Qh*2^(16-j)+y)+val aX t.2.1) (fun t=>t.2.2.toNat)
  ⟨16,0,rfl,bK _,hq,hqB,hr,hrlt,fun _ _=>rfl,by simp,by simp,by rw[hqn];simp,?_⟩ ?_
 . show H*2^(16-16)+x/2^16=_;have e:(2:Int)^16=65536:=by decide
   rw[e,M6 hx.1 hx.2];simp;omega
 rintro⟨qq,rr,bit⟩ ⟨j,y,rfl,hj,hql,hqqB,hrr,hrrlt,hoth,y0,y1,hy,hI2⟩;dsimp only[Bb]at*;have hr0:=hrr.wF (by decide);cases j with
 |zero=>
  refine cC (by decide) (aS ⟨hql,hqqB,hrr,hrrlt,hoth,?_⟩);simp only[Nat.sub_zero,Int.pow_zero,yE,Int.ediv_one]at hy hI2;have e:(2:Int)^16=65536:=by decide
  rw[e]at hI2;show H*65536+x=val aX b*(Qh*65536+qq.getD n 0)+val aX rr;rw[hy];exact hI2
 |succ j=>
  have hhalf:=P5 j (by omega);rw[hhalf];rw[yJ];have hP:=kv (n:=2) (m:=j) (by decide);have hP2:(2:Int)^j<=32768:=j4 (B:=2) (by decide) (show j<=15 by omega);refine cL (by omega) ?_;have hrl:=key rr hrr hrrlt;refine Tm.bind (zY hrr.bL hrr.bL (by omega) (by omega)) ?_;rintro r2 ⟨hr2,hr2l⟩;refine aN (gu rfl (by omega)) ?_;rw[hxx];refine aN (Cp (by omega)) ?_;rw[A4 hx.1];have hd0:=yD hx.1 (show(0:Int)<=2^j by omega);have hd1:x/2^j<=x:=Int.ediv_le_self _ hx.1;rw[show IntKind.i64.wrap (x/2^j)=x/2^j from wi64 (by omega) (by omega),DA hd0];have hhb:=QY hx.1 j;have hv:val aX r2=val aX rr+val aX rr:=hr2.val;have r3:Tm (fun N=>if x/2^j%2=1 then(oP N r2 [1]).bind fun r1352=>some r1352 else some r2) (fun t=>Dg aX t (2*val aX rr+x/2^j%2)/\t.length<=b.length+2):=by
   refine aZ (fun h=>?_) (fun h=>aS ⟨?_,by omega⟩)
   . refine Tm.bind (zY hr2.bL (bA.cons (by decide) bA.nil) (by omega) (by simp)) ?_;rintro t ⟨ht,htl⟩;refine aS ⟨?_,by simp only[cv,dM]at htl;omega⟩;rw[hv]at ht;simp only[val]at ht;rw[h,show 2*val aX rr+1=val aX rr+val aX rr+(1+aX*0) by omega];exact ht
   . rw[show 2*val aX rr+x/2^j%2=val aX rr+val aX rr by omega];exact hr2
  refine Tm.bind r3 ?_;rintro r3 ⟨h3,h3l⟩;refine Tm.bind (I2 h3.bL hb h3.ff nb (by omega) (by omega)) ?_;rintro _ rfl;rw[h3.val];have hbit:0<=x/2^j%2/\x/2^j%2<=1:=by omega
  have hsub:16-j=(16-(j+1))+1:=by omega
  have hy2:(2:Int)^(16-j)=2*2^(16-(j+1)):=by rw[hsub,fl,fm]
  have hyj:y*2^(j+1)=2*y*2^j:=by rw[fl];grind
  have hmeas:(tL j).toNat<((2:Int)^j).toNat:=by
   cases j with
   |zero=>decide
   |succ j=>
    rw[yJ,fl];have:=kv (n:=2) (m:=j) (by decide);omega
  refine aZ (fun h=>?_) (fun h=>aS ⟨⟨j,2*y,rfl,by omega,hql,hqqB,by rw[h3.val];exact h3,?_,hoth,by omega,by omega,by rw[hy,hyj],?_⟩,hmeas⟩)
  . have hge:val aX b<=2*val aX rr+x/2^j%2:=by revert h;unfold bM;split<;>(try split)<;>omega
    have hle:b.length<=r3.length:=F4 nB h3.bL hb nb (by rw[h3.val];exact hge);refine Tm.bind (Fy h3.bL hb (by omega) hle (by rw[h3.val];exact hge)) ?_;rintro r4 ⟨h4,h4l⟩;rw[h3.val]at h4;have hqn:=hqqB.getD (B:=aX) (by decide) n;refine aN (gu rfl (by omega)) (aN (gu rfl (by omega)) (aN (ee rfl (by omega)) (aS ?_)));simp only[aX]at hqn;rw[hy,hyj]at hqn⊢;have hq2:2*y*2^j+2^j=(2*y+1)*2^j:=by grind
    have hlt:(2*y+1)*2^j<65536:=by
     have h5:=fp (show 2*y+1+1<=2^(16-j) by omega) (show(0:Int)<=2^j by omega);rw[<-jM,show 16-j+j=16 by omega]at h5;have e:(2:Int)^16=65536:=by decide
     have e2:(2*y+1+1)*2^j=(2*y+1)*2^j+2^j:=by grind
     omega
    rw[show iw (2*y*2^j+2^j)=(2*y+1)*2^j by rw[bH]<;>omega];refine⟨⟨j,2*y+1,rfl,by omega,by simp;omega,hqqB.set (by simp only[aX];omega),by rw[h4.val];exact h4,by dsimp only;rw[h4.val];omega,fun m hm=>?_,by omega,by omega,?_,?_⟩,hmeas⟩
    . show(qq.set n _).getD m 0=_;rw[sY (by omega),if_neg (fun e=>hm e.symm)];exact hoth m hm
    . show(qq.set n _).getD n 0=_;rw[sY (by omega),if_pos rfl]
    . show H*2^(16-j)+x/2^j=val aX b*(Qh*2^(16-j)+(2*y+1))+val aX r4;rw[h4.val,hy2,hhb];generalize val aX b=B at*;generalize val aX rr=R at*;generalize(2:Int)^(16-(j+1))=T at*;generalize x/2^(j+1)=X at*;generalize x/2^j%2=z at*;grind
  . show val aX r3<val aX b;rw[h3.val];revert h;unfold bM;split<;>(try split)<;>omega
  . show H*2^(16-j)+x/2^j=val aX b*(Qh*2^(16-j)+2*y)+val aX r3;rw[h3.val,hy2,hhb];generalize val aX b=B at*;generalize val aX rr=R at*;generalize(2:Int)^(16-(j+1))=T at*;generalize x/2^(j+1)=X at*;generalize x/2^j%2=z at*;grind
theorem Oi{a b:List Int}(ha:bA aX a)(hb:bA aX b)(nb:fJ b)(hb0:0<val aX b)(hla:a.length<=4398046511104)(hlb:b.length<=4398046511104):
 Tm (fun N=>xu N a b) (fun t=>Dg aX t.1 (val aX a/val aX b)/\Dg aX t.2 (val aX a%val aX b)/\t.1.length<=a.length/\t.2.length<=b.length):=by
 unfold xu;refine aN (ik rfl (by omega) (by decide)) ?_;refine Tm.bind (Q:=fun t:List Int×List Int=>t.1.length=a.length/\bA aX t.1/\Dg aX t.2 (val aX t.2)/\val aX t.2<val aX b/\val aX a=val aX b*val aX t.1+val aX t.2)
  (Tm.loop (fun t:List Int×List Int×Int=>∃k:Nat,t.2.2=(k:Int)-1/\k<=a.length/\t.1.length=a.length/\bA aX t.1/\Dg aX t.2.1 (val aX t.2.1)/\val aX t.2.1<val aX b/\(∀m,m<k->t.1.getD m 0=0)/\val aX (a.drop k)=val aX b*val aX (t.1.drop k)+val aX t.2.1) (fun t=>(t.2.2+1).toNat)
   ⟨a.length,by rw[bH]<;>omega,bK _,by simp,bA.dp (by decide),Dg.nil,by simpa[val]using hb0,fun m hm=>by rw[fU (by simpa using hm)];simp,by simp[val]⟩ ?_) ?_
 . rintro⟨q,r,i⟩ ⟨k,rfl,hk,hq,hqB,hr,hrlt,hz,hv⟩;dsimp only[FO]at*;refine aZ (fun h=>?_) (fun h=>aS ?_)
   . obtain⟨n,rfl⟩:∃n,k=n+1:=⟨k-1,by omega⟩;have hi:((n+1:Nat):Int)-1=(n:Int):=by omega
     rw[hi];refine Tm.bind (N7 (n:=n) ha hb nb hb0 hla hlb (by omega) hq hqB (hz n (by omega)) hr hrlt hv) ?_;rintro⟨q',r'⟩ ⟨h1,h2,h3,h4,h5,h6⟩;dsimp only at*;refine aS ⟨⟨n,by show iw ((n:Int)-1)=_;rw[bH]<;>omega,by omega,h1,h2,h3,h4,fun m hm=>?_,?_⟩,?_⟩
     . show q'.getD m 0=0;rw[h5 m (by omega)];exact hz m (by omega)
     . show val aX (a.drop n)=val aX b*val aX (q'.drop n)+val aX r';have hqd:q'.drop (n+1)=q.drop (n+1):=by
        apply pR (by simp;omega);intro i g1 g2;rw[Gk,Gk];have:=h5 (n+1+i) (by omega);simp only[vQ]at g1 g2;rwa[fU (by omega),fU (by omega)]at this
       rw[fD (l:=a) (by omega),fD (l:=q') (by omega),sN,sN,hqd,<-fU (l:=a),<-fU (l:=q')];have hw:aX=65536:=rfl;rw[hw]at*;generalize val 65536 (a.drop (n+1))=H at*;generalize val 65536 (q.drop (n+1))=Qh at*;have e1:a.getD n 0+65536*H=H*65536+a.getD n 0:=by omega
       have e2:q'.getD n 0+65536*Qh=Qh*65536+q'.getD n 0:=by omega
       rw[e1,e2];exact h6
     . show(iw ((n:Int)-1)+1).toNat<((n:Int)+1).toNat;rw[bH]<;>omega
   . obtain rfl:k=0:=by omega
     simp only[lL]at hv;exact⟨hq,hqB,hr,hrlt,hv⟩
 . rintro⟨q,r⟩ ⟨hq,hqB,hr,hrlt,hv⟩;dsimp only at*;refine Tm.bind (ug hqB (by omega)) ?_;rintro q' ⟨hq',hql⟩;have hr0:=hr.wF (by decide);have hdm:=(Gx (a:=val aX a) (b:=val aX b) (r:=val aX r) (q:=val aX q) hb0).2 ⟨by omega,hr0,hrlt⟩;refine aS ⟨?_,?_,by dsimp only;omega,F4 nB hb hr.bL hr.ff (show val aX r<=val aX b by omega)⟩
   . rw[hdm.1];exact hq'
   . rw[hdm.2];exact hr
theorem Ka{a b:aB}(ha:bA aC a.aP)(hb:bA aC b.aP)(hl:a.aP.length<=1099511627776)(hl':b.aP.length<=1099511627776):
 Tm (fun N=>tZ N a b) (fun r=>DivP (bv a) (bv b) r):=by
 unfold tZ;refine Tm.bind (oh hb (by omega)) ?_;rintro _ rfl;refine aZ (fun h=>aS ?_) (fun h=>?_)
 . have h0:bv b=0:=by revert h;unfold bM;split<;>(try split)<;>omega
   exact⟨by simp[h0],by rw[h0,M8];exact⟨Dg.nil,rfl⟩,by rw[if_pos h0];exact⟨Dg.nil,rfl⟩⟩
 . have h0:bv b≠0:=by revert h;unfold bM;split<;>(try split)<;>omega
   refine Tm.bind (oJ ha (by omega)) ?_;rintro l ⟨hl1,hl2⟩;refine Tm.bind (oJ hb (by omega)) ?_;rintro m ⟨hm1,hm2⟩;have A0:=gH (B:=aC) (by decide) ha;have B0:=gH (B:=aC) (by decide) hb;have hbv:bv b=if b.bG=true then-val aC b.aP else val aC b.aP:=rfl;have hav:bv a=if a.bG=true then-val aC a.aP else val aC a.aP:=rfl;have B1:0<val aC b.aP:=by revert h0;rw[hbv];split<;>omega
   refine Tm.bind (Oi hl1.bL hm1.bL hm1.ff (by rw[hm1.val];exact B1) (by omega) (by omega)) ?_;rintro⟨q,r⟩ ⟨hq,hr,hql,hrl⟩;rw[hl1.val,hm1.val]at hq hr;dsimp only at*;refine Tm.bind (oO (neg:=!(a.bG==b.bG)) hq.bL (by omega)) ?_;rintro q1 ⟨hq1,hq1l⟩;refine Tm.bind (oO (neg:=a.bG) hr.bL (by omega)) ?_;rintro r1 ⟨hr1,hr1l⟩;rw[hq.val]at hq1;rw[hr.val]at hr1;generalize hA:val aC a.aP=A at*;generalize hB:val aC b.aP=B at*;have m0:=lO A (show B≠0 by omega);have m1:=lP A B1;have hdd:=Ia (x:=A) B1;have hds:=Lu A0 B1;have hdn:=Il (x:=A) (y:=B);generalize hQ:(if(!(a.bG==b.bG))=true then-(A/B)else A/B)=Q at*;generalize hR:(if a.bG=true then-(A%B)else A%B)=R at*;have hfd:(bv a).fdiv (bv b)=(if bM R 0≠0/\bM R 0≠bM (bv b) 0 then Q-1 else Q)/\(bv a).fmod (bv b)=(if bM R 0≠0/\bM R 0≠bM (bv b) 0 then R+bv b else R):=by
    have sp:bM B 0=1:=by unfold bM;rw[if_neg (by omega),if_pos (by omega)]
    have sn:bM (-B) 0=-1:=by unfold bM;rw[if_pos (by omega)]
    rw[hav,hbv];cases hna:a.bG<;>cases hnb:b.bG<;>simp only[hna,hnb]at hQ hR<;>simp at hQ hR<;>subst hQ<;>subst hR
    . simp only[ml,if_false,sp];have e:¬(bM (A%B) 0≠0/\bM (A%B) 0≠1):=by unfold bM;rw[if_neg (by omega)];split<;>omega
      rw[if_neg e,if_neg e,jx _ (by omega),GA _ (by omega)];exact⟨rfl,rfl⟩
    . simp only[ml,if_false,if_true,sn];rw[hdn.1,hdn.2,hdd.1,hdd.2];by_cases e0:A%B=0
      . have e:¬(bM (A%B) 0≠0/\bM (A%B) 0≠-1):=by rw[e0];decide
        rw[if_neg e,if_neg e,if_pos e0,if_pos e0];omega
      . have e:bM (A%B) 0≠0/\bM (A%B) 0≠-1:=by unfold bM;rw[if_neg (by omega),if_pos (by omega)];decide
        rw[if_pos e,if_pos e,if_neg e0,if_neg e0];omega
    . simp only[ml,if_false,if_true,sp];rw[hdd.1,hdd.2];by_cases e0:A%B=0
      . have e:¬(bM (-(A%B)) 0≠0/\bM (-(A%B)) 0≠1):=by rw[e0];decide
        rw[if_neg e,if_neg e,if_pos e0,if_pos e0];omega
      . have e:bM (-(A%B)) 0≠0/\bM (-(A%B)) 0≠1:=by unfold bM;rw[if_pos (by omega)];decide
        rw[if_pos e,if_pos e,if_neg e0,if_neg e0];omega
    . simp only[if_true,sn];have e:¬(bM (-(A%B)) 0≠0/\bM (-(A%B)) 0≠-1):=by unfold bM;split<;>(try split)<;>omega
      rw[if_neg e,if_neg e];exact hds
   have hr1v:=hr1.bv;refine Tm.bind (Q:=(·=decide (bM R 0≠0/\bM R 0≠bM (bv b) 0))) (Tm.bind (oh hr1.dg.bL (by omega)) ?_) ?_
   . rintro _ rfl;rw[hr1v];refine aZ (fun h1=>?_) (fun h1=>aS ?_)
     . refine Tm.bind (oh hr1.dg.bL (by omega)) ?_;rintro _ rfl;refine Tm.bind (oh hb (by omega)) ?_;rintro _ rfl;rw[hr1v];refine aS ?_;simp[h1]
     . simp at h1;simp[h1]
   rintro _ rfl;refine Tm.bind (Q:=fun t:aB×aB=>Is t.1 ((bv a).fdiv (bv b))/\Is t.2 ((bv a).fmod (bv b))) ?_ ?_
   . rw[hfd.1,hfd.2];refine aZ (fun h1=>?_) (fun h1=>aS ?_)
     . have h1:=of_decide_eq_true h1;refine Tm.bind (uW (n:=1) (by decide) (by decide)) ?_;rintro o ⟨ho,hol⟩;refine Tm.bind (KG hq1.dg.bL ho.dg.bL (by omega) (by omega)) ?_;rintro q2 ⟨hq2,_⟩;refine Tm.bind (w8 hr1.dg.bL hb (by omega) (by omega)) ?_;rintro r2 ⟨hr2,_⟩;rw[hq1.bv,ho.bv]at hq2;rw[hr1v]at hr2;refine aS ⟨?_,?_⟩
       . rw[if_pos h1];exact hq2
       . rw[if_pos h1];exact hr2
     . have h1:¬(bM R 0≠0/\bM R 0≠bM (bv b) 0):=by simpa using h1
       rw[if_neg h1,if_neg h1];exact⟨hq1,hr1⟩
   . rintro⟨q2,r2⟩ ⟨hq2,hr2⟩;exact aS ⟨by simp[h0],hq2,by rw[if_neg h0];exact hr2⟩
open Go Go.X
abbrev kV:bB:=⟨[],⟨false,[]⟩⟩
theorem tJ{xs:List aB}{i:Int}{n:Nat}(e:i=(n:Int))(h:n<xs.length):idx xs i=some (xs.getD n eP):=by
 rw[ta h];exact gi e h
theorem ER{xs:List bB}{i:Int}{n:Nat}(e:i=(n:Int))(h:n<xs.length):idx xs i=some (xs.getD n kV):=by
 rw[cA,bV h];exact gi e h
theorem K6{l:List aB}{n m:Nat}{y:aB}(h:n<l.length):(l.set n y).getD m eP=if n=m then y else l.getD m eP:=by
 rw[cA,cA,qS];by_cases e:n=m
 . subst e;simp[h]
 . simp[e]
theorem D1{l:List bB}{n:Nat}(h:n<l.length):l.getD n kV∈l:=by
 rw[cA,bV h];exact cX h
theorem Kq{l:List aB}{n:Nat}(h:n<l.length):l.getD n eP∈l:=by
 rw[cA,bV h];exact cX h
def iO(n:Nat)(c:List aB)(f:Nat->Int):Prop:=c.length=n/\∀j,j<n->Is (c.getD j eP) (f j)
theorem iO.uniq{n:Nat}{c c':List aB}{f:Nat->Int}(h:iO n c f)(h':iO n c' f):c=c':=by
 apply pR (h.1.trans h'.1.symm);intro i h1 h2;have g1:=h.2 i (by rw[<-h.1];exact h1);have g2:=h'.2 i (by rw[<-h.1];exact h1);rw[ta h1]at g1;rw[ta h2]at g2;exact g1.uniq g2
theorem L0{ρ:Type}{body:Nat->List aB×Int->Option (aK (List aB×Int) ρ)}{fin:List aB->ρ}{bad:ρ}{n K K':Nat}{f g:Nat->Int}{F:Nat->Prop}{c0:List aB}(hn:n<=1073741824)(h0:iO n c0 f)(hk0:∀j,j<n->(c0.getD j eP).aP.length<=K)
 (step:∀k,k<n->∀c:List aB,c.length=n->Is (c.getD k eP) (f k)->(c.getD k eP).aP.length<=K->
  Tm (fun N=>body N (c,(k:Int))) (fun s=>(∃y,s=.next (c.set k y,iw ((k:Int)+1))/\Is y (g k)/\y.aP.length<=K'/\¬F k)\/(s=.done bad/\F k)))
 (stop:∀c:List aB,c.length=n->Tm (fun N=>body N (c,(n:Int))) (fun s=>s=.done (fin c))):
 Tm (fun N=>bI (body N) N (c0,0)) (fun r=>(∃c,r=fin c/\iO n c g/\(∀j,j<n->(c.getD j eP).aP.length<=K')/\∀k,k<n->¬F k)\/(r=bad/\∃k,k<n/\F k)):=by
 refine Tm.loop (fun t:List aB×Int=>∃k:Nat,t.2=k/\k<=n/\t.1.length=n/\(∀j,j<k->Is (t.1.getD j eP) (g j)/\(t.1.getD j eP).aP.length<=K'/\¬F j)/\∀j,k<=j->j<n->Is (t.1.getD j eP) (f j)/\(t.1.getD j eP).aP.length<=K) (fun t=>n-t.2.toNat)
  ⟨0,rfl,fE _,h0.1,fun j hj=>absurd hj (by omega),fun j _ hj=>⟨h0.2 j hj,hk0 j hj⟩⟩ ?_
 rintro⟨c,kk⟩ ⟨k,rfl,hk,hc,h1,h2⟩;dsimp only at*;rcases cw k n with hkn|hkn
 . refine(step k hkn c hc (h2 k (bK _) hkn).1 (h2 k (bK _) hkn).2).mono ?_;rintro s (⟨y,rfl,hy,hyl,hF⟩|⟨rfl,hF⟩)
   . refine⟨⟨k+1,by show iw ((k:Int)+1)=_;rw[bH]<;>omega,by omega,by simp;omega,fun j hj=>?_,fun j hj hjn=>?_⟩,?_⟩
     . show Is ((c.set k y).getD j eP) (g j)/\((c.set k y).getD j eP).aP.length<=K'/\¬F j;rw[K6 (by omega)];by_cases e:k=j
       . subst e;rw[if_pos rfl];exact⟨hy,hyl,hF⟩
       . rw[if_neg e];exact h1 j (by omega)
     . show Is ((c.set k y).getD j eP) (f j)/\((c.set k y).getD j eP).aP.length<=K;rw[K6 (by omega),if_neg (by omega)];exact h2 j (by omega) hjn
     . show n-(iw ((k:Int)+1)).toNat<n-((k:Int)).toNat;rw[bH]<;>omega
   . exact .inr ⟨rfl,k,hkn,hF⟩
 . obtain rfl:k=n:=by omega
   refine(stop c hc).mono ?_;rintro s rfl;exact .inl ⟨c,rfl,⟨hc,fun j hj=>(h1 j hj).1⟩,fun j hj=>(h1 j hj).2.1,fun j hj=>(h1 j hj).2.2⟩
def nV(l:List bB):Nat:=(l.getD 0 kV).aT.length
def lW(l:List bB):Prop:=∀q∈l,q.aT.length=nV l
instance (l:List bB):Decidable (lW l):=inferInstanceAs (Decidable (∀q∈l,q.aT.length=nV l))
def mP(l:List bB)(u:dR):Prop:=u.Index<0\/(l.length:Int)<=u.Index\/bv u.N<0
instance (l:List bB)(u:dR):Decidable (mP l u):=inferInstanceAs (Decidable (_\/_\/_))
def xq(l:List bB)(u:dR)(a:(Nat->Int)×Int):(Nat->Int)×Int:=(fun j=>a.1 j+bv u.N*bv ((l.getD u.Index.toNat kV).aT.getD j eP),a.2+bv u.N*bv (l.getD u.Index.toNat kV).dA)
def mb(l:List bB):List dR->(Nat->Int)×Int->Option ((Nat->Int)×Int)
 |[],a=>some a
 |u::us,a=>if mP l u then none else mb l us (xq l u a)
def mM(l:List bB)(s:Step)(r:bB×Bool):Prop:= if lW l/\0<bv s.gh then match mb l s.Uses (fun _=>0,0)with
  |none=>r=(kV,false)
  |some (f,b)=>if∀j,j<nV l->f j%bv s.gh=0 then r.2=true/\iO (nV l) r.1.aT (fun j=>f j/bv s.gh)/\Is r.1.dA (b/bv s.gh)else r=(kV,false) else r=(kV,false)
theorem mM.uniq{l:List bB}{s:Step}{r r':bB×Bool}(h:mM l s r)(h':mM l s r'):r=r':=by
 unfold mM at h h';split at h
 . rename_i hc;rw[if_pos hc]at h';cases hs:mb l s.Uses (fun _=>0,0)with
   |none=>rw[hs]at h h';exact h.trans h'.symm
   |some a=>
    rw[hs]at h h';obtain⟨f,b⟩:=a;dsimp only at h h';split at h
    . rename_i hd;rw[if_pos hd]at h';obtain⟨⟨c,d⟩,t⟩:=r;obtain⟨⟨c',d'⟩,t'⟩:=r';have h1:c=c':=h.2.1.uniq h'.2.1;have h2:d=d':=h.2.2.uniq h'.2.2;have h3:t=t':=h.1.trans h'.1.symm;subst h1;subst h2;subst h3;rfl
    . rename_i hd;rw[if_neg hd]at h';exact h.trans h'.symm
 . rename_i hc;rw[if_neg hc]at h';exact h.trans h'.symm
theorem Rq{a:Int}:0<bM a 0↔0<a:=by unfold bM;(repeat' split)<;>omega
structure OkS (s:Step):Prop where
 len:s.Uses.length<=12
 use:∀u∈s.Uses,jE 4 u.N
 div:jE 4 s.gh
theorem Ep{l:List bB}(hl:l.length<=9223372036854775807):Tm (fun N=>uR N l) (fun r=>r=decide (lW l)):=by
 unfold uR;refine Tm.bind (Tm.each (body:=fun N=>xX N l) l (fun q=>q.aT.length=nV l) (Q:=fun r=>(r=.inl ()/\lW l)\/(r=.inr false/\¬lW l)) hl ?_ ?_) ?_
 . intro n hn hP;dsimp only[xX];refine cL (by omega) (aN (cU hn) (aN (ER (n:=0) rfl (by omega)) ?_));refine aZ (fun h=>aS (.inr ⟨_,rfl,.inr ⟨rfl,fun he=>?_⟩⟩)) (fun h=>aS (.inl ⟨rfl,?_⟩))
   . have:=he _ (cX hn);unfold nV at this;omega
   . unfold nV;omega
 . intro hP;dsimp only[xX];exact cC (by omega) (aS ⟨_,rfl,.inl ⟨rfl,hP⟩⟩)
 . rintro _ (⟨rfl,h⟩|⟨rfl,h⟩)
   . exact aS (by simp[h])
   . exact aS (by simp[h])
theorem lW.get{l:List bB}(h:lW l){n:Nat}(hn:n<l.length):(l.getD n kV).aT.length=nV l:=h _ (D1 hn)
theorem iO.dp{n:Nat}:iO n (List.replicate n eP) (fun _=>0):=⟨by simp,fun j hj=>by rw[ta (by simpa using hj)];simpa using is0⟩
theorem drop_cons{l:List dR}{k:Nat}(h:k<l.length):l.drop k=l[k]::l.drop (k+1):=fD h
open Go Go.X
theorem pC.same{q:bB}{vs:List Int}{b:Int}(h:pC q vs b)(hv:∀v∈vs,(v.natAbs:Int)<aC^2)(hb:(b.natAbs:Int)<aC^2)(hl:vs.length<=512):qd 512 q:=by
 refine⟨by rw[h.1.1];exact hl,fun x hx=>?_,h.2.dg.bL,by have:=h.2.len hb;omega⟩;obtain⟨j,hj,rfl⟩:=Gh.1 hx;have:=h.1.2 j hj (by rw[<-h.1.1];exact hj);exact⟨this.dg.bL,by have:=this.len (hv _ (cX _));omega⟩
theorem Jk{z:Int}(h:fG z):(z.natAbs:Int)<aC^2:=by unfold fG at h;have e:aC^2=18446744073709551616:=(by decide);omega
theorem GR{z:Int}(h:fG z):((-z).natAbs:Int)<aC^2:=by unfold fG at h;have e:aC^2=18446744073709551616:=(by decide);omega
theorem nK.ok{c:Constraint}{n:Int}{r:List bB}(hc:od c)(h:nK c n r):r.length<=2/\∀q∈r,qd 512 q:=by
 rcases h with⟨_,rfl⟩|⟨hR,q,hq,h⟩
 . exact⟨by simp,fun q hq=>by cases hq⟩
 . have hn:(fW c n c.Linear.aT.length).length<=512:=by rw[se];have:=hR.2;omega
   have h1:qd 512 q:=hq.same (fun v hv=>Jk (y5 hc v hv)) (GR hc.const) hn;rcases h with⟨_,rfl⟩|⟨_,q',hq',rfl⟩
   . exact⟨by simp,fun p hp=>by simp at hp;exact hp▸h1⟩
   . have h2:qd 512 q':=hq'.same (fun v hv=>by obtain⟨u,hu,rfl⟩:=dz.1 hv;exact GR (y5 hc u hu)) (Jk hc.const) (by simpa using hn);refine⟨by simp,fun p hp=>?_⟩;simp only[eb,MU,or_false]at hp;rcases hp with rfl|rfl
     . exact h1
     . exact h2
def kD(n:Int):List Constraint->List bB->Prop
 |[],r=>r=[]
 |c::l,r=>∃a b,nK c n a/\kD n l b/\r=a++b
theorem kD.uniq{n:Int}:∀{l:List Constraint} {r s:List bB},kD n l r->kD n l s->r=s
 |[],_,_,h,h'=>h.trans h'.symm
 |_::_,_,_,⟨a,b,h1,h2,h3⟩,⟨a',b',g1,g2,g3⟩=>by rw[h3,g3,h1.uniq g1,kD.uniq h2 g2]
theorem kD.snoc{n:Int}:∀{l:List Constraint} {c:Constraint} {r a:List bB},kD n l r->nK c n a->kD n (l++[c]) (r++a)
 |[],_,_,a,h,h'=>⟨a,[],h',rfl,by rw[show _=[] from h];simp⟩
 |_::_,_,_,_,⟨x,y,h1,h2,h3⟩,h'=>⟨x,_,h1,h2.snoc h',by rw[h3];simp⟩
theorem kD.ok{n:Int}:∀{l:List Constraint} {r:List bB},(∀c∈l,od c)->kD n l r->r.length<=2*l.length/\∀q∈r,qd 512 q
 |[],_,_,h=>by rw[show _=[] from h];exact⟨by simp,fun q hq=>by cases hq⟩
 |c::l,_,hc,⟨a,b,h1,h2,h3⟩=>by
  have e1:=h1.ok (hc c cO);have e2:=h2.ok (fun c h=>hc c (cJ _ h));subst h3;refine⟨by simp;omega,fun q hq=>?_⟩;rcases fR.1 hq with h|h
  . exact e1.2 q h
  . exact e2.2 q h
def qJ(l:List Constraint)(n:Int)(r:List bB):Prop:=((∀c∈l,fe c n)/\kD n l r)\/(¬(∀c∈l,fe c n)/\r=[])
theorem qJ.uniq{l:List Constraint}{n:Int}{r s:List bB}(h:qJ l n r)(h':qJ l n s):r=s:=by
 rcases h with⟨h1,h2⟩|⟨h1,rfl⟩<;>rcases h' with⟨g1,g2⟩|⟨g1,rfl⟩
 . exact h2.uniq g2
 . exact absurd h1 g1
 . exact absurd g1 h1
 . rfl
theorem Ts{l:List Constraint}{n:Int}(hc:∀c∈l,od c)(hl:l.length<=1000):Tm (fun N=>um N l n) (qJ l n):=by
 unfold um;refine Tm.bind (Tm.loop (fun s:List bB×Int=>∃k:Nat,s.2=k/\k<=l.length/\(∀c∈l.take k,fe c n)/\kD n (l.take k) s.1) (fun s=>l.length-s.2.toNat)
  (Q:=fun r=>qJ l n (match r with|.inl a=>a|.inr a=>a)) ⟨0,rfl,fE _,by simp,rfl⟩ ?_) (fun r h=>by cases r<;>exact aS h)
 rintro⟨out,i⟩ ⟨k,rfl,hk,hR,hS⟩;dsimp only[DP]at*;refine aZ (fun h1=>?_) (fun h1=>aS ?_)
 . have hkl:k<l.length:=by omega
   have hck:=hc _ (cX hkl);refine aN (cU hkl) (Tm.bind (I3 hck.len) ?_);intro r hr;refine aZ (fun h=>aS (.inr ⟨fun e=>?_,rfl⟩)) (fun h=>Tm.bind (Oa hck) ?_)
   . rw[hr.2 (e _ (cX hkl))]at h;cases h
   . intro a ha;have h2:=hS.ok (fun c h=>hc c (tk h));have h3:=ha.ok hck;have h4:(l.take k).length<=1000:=by simp;omega
     refine aN (dN (by omega) (by decide)) (aS ⟨⟨k+1,by dsimp only;rw[bH]<;>omega,by omega,?_,?_⟩,?_⟩)
     . rw[pQ hkl];intro c hc';rcases fR.1 hc' with h'|h'
       . exact hR c h'
       . rw[cP.1 h'];exact hr.1 (by simpa using h)
     . rw[pQ hkl];exact hS.snoc ha
     . show l.length-(iw ((k:Int)+1)).toNat<l.length-((k:Int)).toNat;rw[bH]<;>omega
 . rw[eU (by omega)]at hR hS;exact .inl ⟨hR,hS⟩
theorem RK{l:List Constraint}{n:Int}(hc:∀c∈l,od c)(hl:l.length<=1000):Tm (fun N=>w5 N l n) (qJ l n):=by
 unfold w5;refine Tm.bind (Tm.loop (fun s:List bB×Int=>∃k:Nat,s.2=k/\k<=l.length/\(∀c∈l.take k,fe c n)/\kD n (l.take k) s.1) (fun s=>l.length-s.2.toNat)
  (Q:=fun r=>qJ l n (match r with|.inl a=>a|.inr a=>a)) ⟨0,rfl,fE _,by simp,rfl⟩ ?_) (fun r h=>by cases r<;>exact aS h)
 rintro⟨out,i⟩ ⟨k,rfl,hk,hR,hS⟩;dsimp only[DL]at*;refine aZ (fun h1=>?_) (fun h1=>aS ?_)
 . have hkl:k<l.length:=by omega
   have hck:=hc _ (cX hkl);refine aN (cU hkl) (Tm.bind (C3 hck.len) ?_);intro r hr;refine aZ (fun h=>aS (.inr ⟨fun e=>?_,rfl⟩)) (fun h=>aN (cU hkl) (Tm.bind (TG hck) ?_))
   . rw[hr.2 (e _ (cX hkl))]at h;cases h
   . intro a ha;have h2:=hS.ok (fun c h=>hc c (tk h));have h3:=ha.ok hck;have h4:(l.take k).length<=1000:=by simp;omega
     refine aN (dN (by omega) (by decide)) (aS ⟨⟨k+1,by dsimp only;rw[bH]<;>omega,by omega,?_,?_⟩,?_⟩)
     . rw[pQ hkl];intro c hc';rcases fR.1 hc' with h'|h'
       . exact hR c h'
       . rw[cP.1 h'];exact hr.1 (by simpa using h)
     . rw[pQ hkl];exact hS.snoc ha
     . show l.length-(iw ((k:Int)+1)).toNat<l.length-((k:Int)).toNat;rw[bH]<;>omega
 . rw[eU (by omega)]at hR hS;exact .inl ⟨hR,hS⟩
open Go Go.X
def n7(vs xs:List Int):Nat->Int
 |0=>0
 |n+1=>n7 vs xs n+vs.getD n 0*xs.getD n 0
theorem IQ{l xs:List Int}{v:Nat}{y:Int}(hv:v<l.length):∀n,n7 (l.set v y) xs n=n7 l xs n+(if v<n then(y-l.getD v 0)*xs.getD v 0 else 0)
 |0=>by simp[n7]
 |n+1=>by
  rw[n7,n7,IQ hv n];rcases M9 v n with h|h|h
  . have:(l.set v y).getD n 0=l.getD n 0:=by rw[cA,cA,vO (by omega)]
    rw[this,if_pos h,if_pos (by omega)];grind
  . subst h;have:(l.set v y).getD v 0=y:=by rw[cA,yv hv];rfl
    rw[this,if_neg (by omega),if_pos (by omega)];grind
  . have:(l.set v y).getD n 0=l.getD n 0:=by rw[cA,cA,vO (by omega)]
    rw[this,if_neg (by omega),if_neg (by omega)];grind
theorem HR{xs:List Int}{m:Nat}:∀n,n7 (List.replicate m 0) xs n=0
 |0=>rfl
 |n+1=>by
  rw[n7,HR n];have:(List.replicate m (0:Int)).getD n 0=0:=by
   rcases cw n m with hn|hn
   . rw[fU (by simpa using hn)];simp
   . rw[mE (by simpa using hn)]
  rw[this];simp
theorem JQ{c:Constraint}{n:Int}(h:fe c n):∀{i k:Nat},(hik:i<k)->(hk:k<c.Linear.aT.length)->(c.Linear.aT[i]'(by omega)).Var<c.Linear.aT[k].Var:=by
 intro i k
 induction k with
 |zero=>intro h;omega
 |succ k ih=>
  intro hik hk;have h1:=(h.1 (k+1) hk).2.2 (by omega);simp only[MO]at h1;rcases cw i k with h2|h2
  . have:=ih h2 (by omega);omega
  . obtain rfl:i=k:=by omega
    exact h1
theorem Uv{c:Constraint}{n:Int}(h:fe c n):(c.Linear.aT.length:Int)<=n:=by
 have key:∀k,(hk:k<c.Linear.aT.length)->(k:Int)<=c.Linear.aT[k].Var:=by
  intro k
  induction k with
  |zero=>intro hk;have:=(h.1 0 hk).1;omega
  |succ k ih=>intro hk;have:=ih (by omega);have:=JQ h (show k<k+1 by omega) hk;omega
 rcases gz c.Linear.aT.length with h0|h0
 . have:=h.2;omega
 . have h1:=key (c.Linear.aT.length-1) (by omega);have h2:=(h.1 (c.Linear.aT.length-1) (by omega)).2.1;omega
theorem Nv{c:Constraint}{n:Int}(h:fe c n){k:Nat}(hk:k<=c.Linear.aT.length){j:Nat}(hj:∀i,(hi:i<k)->(c.Linear.aT[i]'(by omega)).Var≠j):(fW c n k).getD j 0=0:=by
 induction k with
 |zero=>
  simp only[fW,M3,M4];rcases cw j n.toNat with hn|hn
  . rw[fU (by simpa using hn)];simp
  . rw[mE (by simpa using hn)]
 |succ k ih=>
  rw[xE (by omega),qi,cA,vO]
  . rw[<-cA];exact ih (by omega) (fun i hi=>hj i (by omega))
  . have h1:=hj k (by omega);have h2:=(h.1 k (by omega)).1;omega
def fj(c:Constraint)(x:List Int):Nat->Int
 |0=>0
 |k+1=>fj c x k+(c.Linear.aT.getD k ⟨0,0⟩).N*x.getD (c.Linear.aT.getD k ⟨0,0⟩).Var.toNat 0
theorem ve{l:List gK}{n:Nat}(h:n<l.length):l.getD n ⟨0,0⟩=l[n]:=by rw[cA,bV h];rfl
theorem PA{c:Constraint}{x:List Int}(h:fe c x.length):∀{k:Nat},k<=c.Linear.aT.length->n7 (fW c x.length k) x x.length=fj c x k:=by
 intro k
 induction k with
 |zero=>intro _;simp only[fW,M3,M4];rw[HR];rfl
 |succ k ih=>
  intro hk;have hv:=h.1 k (by omega);have hz:(fW c x.length k).getD c.Linear.aT[k].Var.toNat 0=0:=Nv h (by omega) (fun i hi=>by have:=JQ h hi (by omega);omega);rw[xE (by omega),qi,IQ (by rw[se];omega),ih (by omega),if_pos (by omega),hz,fj,ve (by omega)];grind
open Go Go.X
theorem jE.abs{K:Nat}{x:aB}(h:jE K x):((bv x).natAbs:Int)<aC^K:=by
 have h0:=gH (B:=aC) (by decide) h.1;have h1:=iq (B:=aC) (by decide) h.1;have h2:=j4 (B:=aC) (by decide) h.2;unfold bv;split<;>omega
theorem Rv{K:Nat}{l:List bB}{s:Step}(hK:K<=536870912)(hl:l.length<=1073741824)(hq:∀q∈l,qd K q)(hs:OkS s):Tm (fun N=>wH N l s) (fun r=>mM l s r):=by
 unfold wH;refine Tm.bind (Q:=(·=decide (¬(lW l/\0<bv s.gh)))) (Tm.bind (Ep (by omega)) ?_) ?_
 . rintro _ rfl;refine aZ (fun h=>aS ?_) (fun h=>?_)
   . have:¬lW l:=by simpa using h
     simp[this]
   . have he:lW l:=by simpa using h
     refine Tm.bind (oh hs.div.1 (by have:=hs.div.2;omega)) ?_;rintro _ rfl;refine aS ?_;have:=Rq (a:=bv s.gh);by_cases h1:0<bv s.gh
     . have h2:=this.2 h1;simp[he,h1];omega
     . have h2:¬0<bM (bv s.gh) 0:=fun e=>h1 (this.1 e);simp[h1];omega
 rintro _ rfl;refine aZ (fun h=>aS ?_) (fun h=>?_)
 . unfold mM;rw[if_neg (of_decide_eq_true h)]
 . have hc:lW l/\0<bv s.gh:=by simpa using h
   obtain⟨he,hd⟩:=hc;have hn:nV l<=K:=by
    rcases gz l.length with h0|h0
    . have:l=[]:=mo.1 h0;subst this;simp[nV]
    . exact(hq _ (D1 h0)).1
   refine Tm.bind (Q:=(·=(nV l:Int))) (aZ (fun h1=>aN (ER (n:=0) rfl (by omega)) (aS rfl)) (fun h1=>aS ?_)) ?_
   . have:l=[]:=mo.1 (by omega);subst this;simp[nV]
   rintro _ rfl;refine Tm.bind (Q:=(·=⟨List.replicate (nV l) eP,eP⟩)) (by unfold u6;exact aN (ik rfl (by omega) (by decide)) (aS rfl)) ?_;rintro _ rfl;dsimp only;refine Tm.bind (Q:=fun r:Sum (List aB×Bool×List Int) (bB×Bool)=>(∃f c neg ds,r=.inl (c,neg,ds)/\mb l s.Uses (fun _=>0,0)=some (f,bv ⟨neg,ds⟩)/\iO (nV l) c f/\(∀j,j<nV l->(c.getD j eP).aP.length<=K+16)/\jE (K+16) ⟨neg,ds⟩)\/(r=.inr (kV,false)/\mb l s.Uses (fun _=>0,0)=none))
    (Tm.loop (fun t:List aB×Bool×List Int×Int=>∃(k:Nat) (f:Nat->Int),t.2.2.2=k/\k<=s.Uses.length/\mb l s.Uses (fun _=>0,0)=mb l (s.Uses.drop k) (f,bv ⟨t.2.1,t.2.2.1⟩)/\iO (nV l) t.1 f/\(∀j,j<nV l->(t.1.getD j eP).aP.length<=K+4+k)/\jE (K+4+k) ⟨t.2.1,t.2.2.1⟩) (fun t=>s.Uses.length-t.2.2.2.toNat)
     ⟨0,fun _=>0,rfl,fE _,by rw[lL,Rg],iO.dp,fun j hj=>by rw[ta (by simpa using hj)];simp,.nil⟩ ?_) ?_
   . rintro⟨c,neg,ds,kk⟩ ⟨k,f,rfl,hk,hsum,hcf,hcl,hb⟩;have hlen:=hs.len;dsimp only[Fk]at*;refine aZ (fun h1=>?_) (fun h1=>aS ?_)
     . have hku:k<s.Uses.length:=by omega
       refine aN (cU hku) ?_;have hu:=hs.use _ (cX hku);rw[drop_cons hku]at hsum;generalize s.Uses[k]=u at*;simp only[mb]at hsum;refine Tm.bind (Q:=(·=decide (mP l u))) (aZ (fun h2=>aS ?_) (fun h2=>aZ (fun h3=>aS ?_) (fun h3=>?_))) ?_
       . have:mP l u:=.inl h2;simp[this]
       . have:mP l u:=.inr (.inl (by omega));simp[this]
       . refine Tm.bind (oh hu.1 (by have:=hu.2;omega)) ?_;rintro _ rfl;refine aS ?_;have:=As (a:=bv u.N);unfold mP;by_cases h4:bv u.N<0
         . simp[h4,this.2 h4]
         . have:¬bM (bv u.N) 0<0:=fun e=>h4 (this.1 e);simp[h4,this];omega
       rintro _ rfl;refine aZ (fun h2=>aS ?_) (fun h2=>?_)
       . rw[if_pos (of_decide_eq_true h2)]at hsum;exact .inr ⟨rfl,hsum⟩
       . have hbu:¬mP l u:=by simpa using h2
         rw[if_neg hbu]at hsum;have hi:0<=u.Index/\u.Index<l.length/\0<=bv u.N:=by unfold mP at hbu;omega
         have hii:u.Index=(u.Index.toNat:Int):=by omega
         have hil:u.Index.toNat<l.length:=by omega
         refine aN (ER hii hil) ?_;have hqq:=hq _ (D1 hil);have hqn:=he.get hil;generalize hQ:l.getD u.Index.toNat kV=q at*;have hu4:=hu.2;have hqb:=hqq.2.2.2;have inner:=L0 (ρ:=List aB) (body:=fun N=>xU N (nV l:Int) u q) (fin:=fun c=>c) (bad:=[]) (n:=nV l) (K:=K+4+k) (K':=K+4+(k+1)) (f:=f) (g:=fun j=>f j+bv u.N*bv (q.aT.getD j eP)) (F:=fun _=>False) (c0:=c) (by omega) hcf hcl
          (fun j hj c' hc' h3 h4=>by
           dsimp only[xU];have hqj:=hqq.2.1 _ (Kq (l:=q.aT) (n:=j) (by omega));have:=hqj.2;refine cL (by omega) (aN (tJ rfl (by omega)) (aN (tJ rfl (by omega)) (Tm.bind (Dp hqj.1 hu.1 (by omega) (by omega)) ?_)));rintro m ⟨hm,hml⟩;refine Tm.bind (w8 h3.dg.bL hm.dg.bL (by omega) (by omega)) ?_;rintro a ⟨ha,hal⟩;refine aN (tJ rfl (by omega)) (aN (ee rfl (by omega)) (aS (.inl ⟨a,rfl,?_,by omega,fun e=>e⟩)));rw[h3.bv,hm.bv,fm]at ha;exact ha)
          (fun c' hc'=>by dsimp only[xU];exact cC (by omega) (aS rfl))
         refine Tm.bind inner ?_;rintro c2 (⟨_,rfl,hc2,hc2l,-⟩|⟨-,j,hj,hF⟩)
         . refine Tm.bind (Dp hqq.2.2.1 hu.1 (by omega) (by omega)) ?_;rintro m ⟨hm,hml⟩;have hb2:ds.length<=K+4+k:=hb.2;refine Tm.bind (w8 hb.1 hm.dg.bL (show ds.length<=_ by omega) (by omega)) ?_;rintro a ⟨ha,hal⟩;dsimp only at hal;refine aS ⟨⟨k+1,_,by show iw ((k:Int)+1)=_;rw[bH]<;>omega,by omega,?_,hc2,hc2l,ha.ok ?_⟩,?_⟩
           . show mb l s.Uses (fun _=>0,0)=mb l (s.Uses.drop (k+1)) (_,bv a);rw[ha.bv,hm.bv,hsum,fm (bv q.dA)];unfold xq;rw[hQ]
           . omega
           . show s.Uses.length-(iw ((k:Int)+1)).toNat<s.Uses.length-((k:Int)).toNat;rw[bH]<;>omega
         . exact hF.elim
     . have hkL:k=s.Uses.length:=by omega
       subst hkL;rw[Ci]at hsum;exact .inl ⟨f,c,neg,ds,rfl,hsum,hcf,fun j hj=>by have:=hcl j hj;omega,hb.mono (by omega)⟩
   . rintro _ (⟨f,c,neg,ds,rfl,hsum,hcf,hcl,hb⟩|⟨rfl,hsum⟩)
     . dsimp only;have hb2:ds.length<=K+16:=hb.2;have hdv:=hs.div.2;have inner:=L0 (ρ:=Sum (List aB) (bB×Bool)) (body:=fun N=>wC N s (nV l:Int)) (fin:=fun c=>.inl c) (bad:=.inr (kV,false)) (n:=nV l) (K:=K+16) (K':=K+20) (f:=f) (g:=fun j=>f j/bv s.gh) (F:=fun j=>¬f j%bv s.gh=0) (c0:=c) (by omega) hcf hcl
        (fun j hj c' hc' h3 h4=>by
         dsimp only[wC];refine cL (by have:=hcf.1;omega) (aN (tJ rfl (by omega)) (Tm.bind (Ka h3.dg.bL hs.div.1 (by omega) (by omega)) ?_));rintro⟨qq,rr,oo⟩ hD;have hquo:=hD.quo;have hrem:=hD.rem;dsimp only at hquo hrem;rw[h3.bv,jx _ (by omega)]at hquo;rw[h3.bv,if_neg (by omega),GA _ (by omega)]at hrem;have hrl:=hrem.len (k:=4) (by have:=hs.div.abs;have m0:=lO (f j) (show bv s.gh≠0 by omega);have m1:=lP (f j) hd;omega);have hql:=hquo.len (k:=K+16) (by have:=(h3.ok h4).abs;rw[h3.bv]at this;have:=Int.natAbs_ediv_le_natAbs (f j) (bv s.gh);omega);refine Tm.bind (oh hrem.dg.bL (show rr.aP.length<=_ by omega)) ?_;rintro _ rfl;rw[hrem.bv];refine aZ (fun h5=>aS (.inr ⟨rfl,fun e=>h5 (Af.2 e)⟩)) (fun h5=>?_);refine aN (tJ rfl (by omega)) (aN (ee rfl (by omega)) (aS (.inl ⟨qq,rfl,hquo,by omega,fun e=>e (Af.1 (by omega))⟩))))
        (fun c' hc'=>by dsimp only[wC];exact cC (by have:=hcf.1;omega) (aS rfl))
       refine Tm.bind inner ?_;rintro _ (⟨c2,rfl,hc2,hc2l,hall⟩|⟨rfl,j,hj,hF⟩)
       . refine Tm.bind (Ka hb.1 hs.div.1 (show ds.length<=_ by omega) (by omega)) ?_;rintro⟨qq,rr,oo⟩ hD;have hquo:=hD.quo;dsimp only at hquo;rw[jx _ (by omega)]at hquo;refine aS ?_;unfold mM;rw[if_pos ⟨he,hd⟩,hsum];dsimp only;rw[if_pos (fun j hj=>tu.1 (hall j hj))];exact⟨rfl,hc2,hquo⟩
       . refine aS ?_;unfold mM;rw[if_pos ⟨he,hd⟩,hsum];dsimp only;rw[if_neg (fun h=>hF (h j hj))]
     . refine aS ?_;unfold mM;rw[if_pos ⟨he,hd⟩,hsum]
open Go Go.X
def pU(n:Nat):List Int:=if h:n=0 then[]else((n%4294967296:Nat):Int)::pU (n/4294967296)
termination_by n
decreasing_by omega
theorem Pk(n:Nat):Dg aC (pU n) n:=by
 induction n using Nat.strongRecOn with
 |ind n ih=>
  rw[pU];split
  . rename_i h;subst h;exact Dg.nil
  . rename_i h;have h1:=ih (n/4294967296) (by omega);refine⟨h1.bL.cons ⟨by omega,by show((n%4294967296:Nat):Int)<4294967296;omega⟩,?_,?_⟩
    . unfold fJ;cases hd:pU (n/4294967296)with
      |nil=>
       have:n/4294967296=0:=by have:=(h1.zero (by decide)).1 hd;omega
       simp;omega
      |cons x r=>rw[UZ,<-hd];exact h1.ff
    . rw[sN,h1.val];show((n%4294967296:Nat):Int)+4294967296*((n/4294967296:Nat):Int)=n;omega
def B(v:Int):aB:=⟨decide (v<0),pU v.natAbs⟩
theorem nh(v:Int):Is (B v) v:=⟨Pk _,rfl⟩
theorem p8{x:aB}{v:Int}(h:Is x v):x=B v:=h.uniq (nh v)
theorem gC(v:Int):bv (B v)=v:=(nh v).bv
theorem bL(v:Int):bA aC (B v).aP:=(nh v).dg.bL
theorem B0:B 0=⟨false,[]⟩:=by unfold B;rw[show(0:Int).natAbs=0 from rfl,pU];rfl
def dl(v:Int):Nat:=(B v).aP.length
theorem okB{v:Int}{K:Nat}(h:dl v<=K):jE K (B v):=⟨bL v,h⟩
theorem rA{v:Int}{k:Nat}(h:(v.natAbs:Int)<aC^k):dl v<=k:=(nh v).len h
theorem uE(v:Int):(v.natAbs:Int)<aC^dl v:=by have:=(okB (v:=v) (bK _)).abs;rwa[gC]at this
theorem rI{a b:Int}(h:a.natAbs<=b.natAbs):dl a<=dl b:=rA (by have:=uE b;omega)
theorem Dz{m n:Nat}(h:m<=n):aC^m<=aC^n:=j4 (by decide) h
theorem oD{a b:Int}{K:Nat}(ha:dl a<=K)(hb:dl b<=K):dl (a+b)<=K+1:=by
 apply rA;have h1:=uE a;have h2:=uE b;have h3:=Dz ha;have h4:=Dz hb;rw[fl];have h5:=kF (B:=aC) (by decide) K;have h6:aC^K*2<=aC^K*aC:=fZ (by decide) (ed h5);omega
theorem fY(a:Int):dl (-a)=dl a:=Nat.le_antisymm (rI (by omega)) (rI (by omega))
theorem jX{a b:Int}{K:Nat}(ha:dl a<=K)(hb:dl b<=K):dl (a-b)<=K+1:=by
 rw[Gp];exact oD ha (by rw[fY];exact hb)
theorem kr(a b:Int):dl (a*b)<=dl a+dl b:=by
 apply rA;have h1:=uE a;have h2:=uE b;rw[vS,Ge,jM];exact Int.mul_lt_mul' (ed h1) h2 (by omega) (by omega)
theorem ir:dl 0=0:=by unfold dl;rw[B0];rfl
theorem j9{a:Int}(h:a.natAbs<4294967296):dl a<=1:=rA (by show(a.natAbs:Int)<4294967296^1;omega)
theorem Ey{a:Int}(h:a.natAbs<18446744073709551616):dl a<=2:=rA (by show(a.natAbs:Int)<4294967296^2;omega)
theorem jF:dl 1<=1:=j9 (by decide)
theorem I6{a b:Int}:(a.fdiv b).natAbs<=a.natAbs:=by
 rcases tv b 0 with h|h|h
 . have e:a.fdiv b=(-a).fdiv (-b):=(Gy a b).symm;rw[e,jx _ (by omega)];have h1:0< -b:=by omega
   generalize-b=c at h1;have h2:=jO (-a) c;have h3:=lO (-a) (show c≠0 by omega);have h4:=lP (-a) h1;generalize(-a)/c=q at*;generalize(-a)%c=r at*;rcases qW q 0 with hq|hq
   . have:=fp (show(1:Int)<=c by omega) (show 0≤-q by omega);have e2:c*-q=-(c*q):=by grind
     have:c+c*q<=0:=by
      have:=fZ (show q≤-1 by omega) (show 0<=c by omega);omega
     have h7:(c-1)*(-q-1)≥0:=eI (by omega) (by omega);have e3:(c-1)*(-q-1)=-(c*q)-c+q+1:=by grind
     omega
   . have:=fp (show(1:Int)<=c by omega) hq;omega
 . subst h;rw[M8];omega
 . rw[jx _ (by omega)];have h2:=jO a b;have h3:=lO a (show b≠0 by omega);have h4:=lP a h;generalize a/b=q at*;generalize a%b=r at*;rcases qW q 0 with hq|hq
   . have:b+b*q<=0:=by
      have:=fZ (show q≤-1 by omega) (show 0<=b by omega);omega
     have h7:(b-1)*(-q-1)≥0:=eI (by omega) (by omega);have e3:(b-1)*(-q-1)=-(b*q)-b+q+1:=by grind
     omega
   . have:=fp (show(1:Int)<=b by omega) hq;omega
theorem re(a b:Int):dl (a.fdiv b)<=dl a:=rI I6
theorem EM{a b:Int}(h:0<=b):dl (a/b)<=dl a:=by rw[<-jx a h];exact re a b
abbrev cY:Nat:=1099511627776
section
variable {a b:Int}
theorem mN(ha:dl a<=cY)(hb:dl b<=cY):Tm (fun N=>iT N (B a) (B b)) (·=B (a+b)):=
 (HB (bL a) (bL b) (bO ha (by decide)) (bO hb (by decide))).mono fun r h=>by rw[gC,gC]at h;exact p8 h.1
theorem l5(ha:dl a<=cY)(hb:dl b<=cY):Tm (fun N=>jc N (B a) (B b)) (·=B (a-b)):=
 (QC (bL a) (bL b) (bO ha (by decide)) (bO hb (by decide))).mono fun r h=>by rw[gC,gC]at h;exact p8 h.1
theorem oc(ha:dl a<=cY)(hb:dl b<=cY):Tm (fun N=>km N (B a) (B b)) (·=B (a*b)):=
 (OU (bL a) (bL b) (bO ha (by decide)) (bO hb (by decide))).mono fun r h=>by rw[gC,gC]at h;exact p8 h.1
theorem nX(ha:dl a<=cY):Tm (fun N=>jq N (B a)) (·=B (-a)):=
 (yV (bL a) (bO ha (by decide))).mono fun r h=>by rw[gC]at h;exact p8 h.1
theorem jv(ha:dl a<=cY):Tm (fun N=>gJ N (B a)) (·=bM a 0):=
 (NL (bL a) (bO ha (by decide))).mono fun r h=>by rw[gC]at h;exact h
theorem j8(ha:dl a<=cY)(hb:dl b<=cY):Tm (fun N=>iN N (B a) (B b)) (·=bM a b):=
 (PX (bL a) (bL b) (bO ha (by decide)) (bO hb (by decide))).mono fun r h=>by rw[gC,gC]at h;exact h
theorem qH(ha:dl a<=cY)(hb:dl b<=cY):Tm (fun N=>kG N (B a) (B b)) (fun r=>r.1=B (a.fdiv b)):=
 (Sp (bL a) (bL b) (bO ha (by decide)) (bO hb (by decide))).mono fun r h=>by have:=h.1.quo;rw[gC,gC]at this;exact p8 this
theorem jU{n:Int}(h1:-9223372036854775808<=n)(h2:n<=9223372036854775807):Tm (fun N=>fN N n) (·=B n):=(yX h1 h2).mono fun r h=>p8 h.1
end
theorem PZ{x y:Int}(hx:0<=x)(hy:0<=y):Nat.gcd y.toNat (x%y).toNat=Nat.gcd x.toNat y.toNat:=by
 obtain⟨m,rfl⟩:=qX hx;obtain⟨n,rfl⟩:=qX hy;rw[<-Int.natCast_emod,mn,mn,mn,Nat.gcd_comm n,<-Nat.gcd_rec,Nat.gcd_comm]
def gOf(a b:aB):Nat:=Nat.gcd (val aC a.aP).toNat (val aC b.aP).toNat
theorem PV{a b:aB}{K:Nat}(hK:K<=cY)(ha:bA aC a.aP)(hb:bA aC b.aP)(la:a.aP.length<=K)(lb:b.aP.length<=K):
 Tm (fun N=>tK N a b) (fun r=>Is r (gOf a b:Int)):=by
 have hL:cY=1099511627776:=rfl;unfold tK;refine Tm.bind (pq ha (by omega)) (fun x ⟨hx,lx⟩=>Tm.bind (pq hb (by omega)) (fun y ⟨hy,ly⟩=>?_));refine Tm.bind (Tm.loop (fun s:List Int×List Int=>bA aC s.1/\fJ s.1/\s.1.length<=K/\bA aC s.2/\fJ s.2/\s.2.length<=K/\Nat.gcd (val aC s.1).toNat (val aC s.2).toNat=gOf a b) (fun s=>(val aC s.2).toNat)
  (Q:=fun r=>bA aC r/\r.length<=K/\val aC r=gOf a b) ⟨hx.bL,hx.ff,by show x.length<=K;omega,hy.bL,hy.ff,by show y.length<=K;omega,by rw[hx.val,hy.val];rfl⟩ ?_) ?_
 . rintro⟨u,v⟩ ⟨u1,u2,u3,v1,v2,v3,hg⟩;dsimp only[Dy]at*;refine aZ (fun h=>?_) (fun h=>aS ?_)
   . have hv0:v≠[]:=fun e=>by rw[e]at h;simp at h
     have hvp:=ym (B:=aC) (by decide) v1 v2 hv0;have hup:=gH (B:=aC) (by decide) u1;refine Tm.bind (HA u1 v1 u2 v2 (by omega) (by omega) (by omega)) (fun r ⟨_,hr,_,_⟩=>aS ?_);have hm:=hr.val;have h1:=lP (val aC u) hvp;have h2:=lO (val aC u) (show val aC v≠0 by omega);have h3:=iq (B:=aC) (by decide) v1;have hlen:r.2.length<=v.length:=EF mZ hr.bL hr.ff (by rw[hm];omega);exact⟨⟨v1,v2,v3,hr.bL,hr.ff,by show r.2.length<=K;omega,by rw[hm,PZ hup (ed hvp)];exact hg⟩,by show(val aC r.2).toNat<(val aC v).toNat;rw[hm];omega⟩
   . have hv0:v=[]:=mo.1 (by omega);have hup:=gH (B:=aC) (by decide) u1;rw[hv0]at hg;refine⟨u1,u3,?_⟩;rw[<-hg];simp[val];omega
 . rintro r ⟨r1,r2,r3⟩;refine Tm.bind (lQ (neg:=false) r1 (by omega)) (fun z ⟨hz,lz⟩=>aS ?_);rw[<-r3];exact hz
theorem gOf_B(a b:Int):gOf (B a) (B b)=Int.gcd a b:=by
 unfold gOf Int.gcd;rw[(nh a).dg.val,(nh b).dg.val,mn,mn]
theorem tmGcd{a b:Int}(ha:dl a<=cY)(hb:dl b<=cY):Tm (fun N=>tK N (B a) (B b)) (·=B (Int.gcd a b)):=
 (PV (bK _) (bL a) (bL b) ha hb).mono fun r h=>by rw[gOf_B]at h;exact p8 h
open Go Go.X
def Dl(N:Nat)(f:Linear)(x:(List aB)):(aB×Int)->Option (aK (aB×Int) aB)
 |(b,a)=>(if(a:Int)<(List.length f.aT:Int)then (idx f.aT a).bind fun c=>(kS N c.N).bind fun d=>(idx f.aT a).bind fun e=>(idx x e.Var).bind fun g=>(sc N d g).bind fun i=>(oK N b i).bind fun j=>some (aK.next (j,(iw (a+1)))) else some (aK.done b))
def wI(N:Nat)(f:Linear)(x:(List aB)):Option aB:=(kS N f.Const).bind fun a=>(bI (Dl N f x) N (a,0)).bind fun ss=>match ss with
  |b=>some b
def wv(N:Nat)(l:(List Constraint))(x:(List aB)):Int->Option (aK Int (Sum Unit Bool))
 |a=>(if(a:Int)<(List.length l:Int)then (idx l a).bind fun c=>(wI N c.Linear x).bind fun d=>(kL N d).bind fun b=>(((if(b:Int)>0 then some true else (if(b:Int)<0 then (idx l a).bind fun e=>some e.e9 else some false)):Option Bool)).bind fun ss=>match ss with
    |f=>(if f=true then some (aK.done (Sum.inr false)) else some (aK.next (iw (a+1)))) else some (aK.done (Sum.inl ())))
def vF(N:Nat)(l:(List Constraint))(x:(List aB)):Option Bool:=(bI (wv N l x) N 0).bind fun ss=>match ss with
  |(Sum.inl _)=>some true
  |(Sum.inr a)=>some a
def xk(N:Nat)(l:(List Constraint))(n:Int):Int->Option (aK Int (Sum Unit Bool))
 |a=>(if(a:Int)<(List.length l:Int)then (idx l a).bind fun b=>(rX N b n).bind fun c=>(if(!c)=true then some (aK.done (Sum.inr false)) else some (aK.next (iw (a+1)))) else some (aK.done (Sum.inl ())))
def wj(N:Nat)(n:Int)(l:(List Constraint)):Option Bool:=(bI (xk N l n) N 0).bind fun ss=>match ss with
  |(Sum.inl _)=>(if(n:Int)≥0 then some (decide ((n:Int)<=512)) else some false)
  |(Sum.inr a)=>some a
def xV(N:Nat)(most:Int)(b:Constraint):Int->Option (aK Int (Sum Unit Bool))
 |a=>(if(a:Int)<(List.length b.Linear.aT:Int)then (((idx b.Linear.aT a).bind fun c=>(if(c.N:Int)>most then some true else (idx b.Linear.aT a).bind fun d=>some (decide ((d.N:Int)<(iw (0-most))))):Option Bool)).bind fun ss=>match ss with
    |e=>(if e=true then some (aK.done (Sum.inr false)) else some (aK.next (iw (a+1)))) else some (aK.done (Sum.inl ())))
def xm(N:Nat)(l:(List Constraint))(most:Int):Int->Option (aK Int (Sum Unit Bool))
 |a=>(if(a:Int)<(List.length l:Int)then (idx l a).bind fun b=>(((if(b.Linear.Const:Int)>1000000 then some true else some (decide ((b.Linear.Const:Int)<(-1000000)))):Option Bool)).bind fun ss=>match ss with
    |c=>(if c=true then some (aK.done (Sum.inr false)) else (bI (xV N most b) N 0).bind fun ss=>match ss with
       |(Sum.inl _)=>some (aK.next (iw (a+1)))
       |(Sum.inr d)=>some (aK.done (Sum.inr d))) else some (aK.done (Sum.inl ())))
def wW(N:Nat)(n:Int)(l:(List Constraint))(most:Int):Option Bool:=(bI (xm N l most) N 0).bind fun ss=>match ss with
  |(Sum.inl _)=>(if(n:Int)<=4 then (if((List.length l:Int):Int)<=6 then (wj N n l).bind fun a=>some a else some false) else some false)
  |(Sum.inr b)=>some b
def rm(N:Nat)(n:Int)(l:(List Constraint))(p:Proof):Option Bool:=(w5 N l n).bind fun r6=>(rP N r6 p).bind fun a=>some a
def EC(N:Nat)(pb:(List Int)):(Constraint×Int)->Option (aK (Constraint×Int) Constraint)
 |(a,b)=>(if(b:Int)<(List.length a.Linear.aT:Int)then (idx a.Linear.aT b).bind fun c=>(idx a.Linear.aT b).bind fun d=>(idx pb d.Var).bind fun e=>some (aK.next ((Constraint.mk (Linear.mk (iw (a.Linear.Const+(iw (c.N*e)))) a.Linear.aT) a.e9),(iw (b+1)))) else some (aK.done a))
def Cu(N:Nat)(l:(List Constraint))(pb:(List Int)):((List Constraint)×Int)->Option (aK ((List Constraint)×Int) (List Constraint))
 |(b,a)=>(if(a:Int)<(List.length l:Int)then (idx l a).bind fun c=>(bI (EC N pb) N (c,0)).bind fun ss=>match ss with
    |d=>(cM 40 b [d]).bind fun e=>some (aK.next (e,(iw (a+1)))) else some (aK.done b))
def xR(N:Nat)(l:(List Constraint))(pb:(List Int)):Option (List Constraint):=(bI (Cu N l pb) N (([]:(List Constraint)),0)).bind fun ss=>match ss with
  |a=>some a
def C0(N:Nat)(c:Constraint)(k:Int):((List gK)×Int)->Option (aK ((List gK)×Int) (List gK))
 |(b,a)=>(if(a:Int)<(List.length c.Linear.aT:Int)then (idx c.Linear.aT a).bind fun d=>(idx c.Linear.aT a).bind fun e=>(cM 16 b [(gK.mk d.Var (iw (e.N*k)))]).bind fun f=>some (aK.next (f,(iw (a+1)))) else some (aK.done b))
def xF(N:Nat)(c:Constraint)(k:Int):Option Constraint:=(bI (C0 N c k) N (([]:(List gK)),0)).bind fun ss=>match ss with
  |a=>some (Constraint.mk (Linear.mk (iw (c.Linear.Const*k)) a) c.e9)
open Go Go.X
def nT(N:Nat)(s:(List aB)):Option (List aB):=(cM 32 ([]:(List aB)) s).bind fun a=>some a
def qI(N:Nat)(s:(List aY)):Option (List aY):=(cM 32 ([]:(List aY)) s).bind fun a=>some a
def AO(N:Nat)(s:(List (List aB))):Option (List (List aB)):=(cM 24 ([]:(List (List aB))) s).bind fun a=>some a
def zU(N:Nat)(s:(List Int)):Option (List Int):=(cM 8 ([]:(List Int)) s).bind fun a=>some a
def DY(N:Nat)(s:(List Step)):Option (List Step):= some s
def Fq(N:Nat)(s:(List dK)):Option (List dK):= some s
def xL(N:Nat)(f:(aY->Option Bool))(s:(List aY)):Int->Option (aK Int (Sum Unit Int))
 |a=>(if(a:Int)<(List.length s:Int)then (idx s a).bind fun b=>(f b).bind fun c=>(if c=true then some (aK.done (Sum.inr a)) else some (aK.next (iw (a+1)))) else some (aK.done (Sum.inl ())))
def vD(N:Nat)(s:(List aY))(f:(aY->Option Bool)):Option Int:=(bI (xL N f s) N 0).bind fun ss=>match ss with
  |(Sum.inl _)=>some (-1)
  |(Sum.inr a)=>some a
def BQ(N:Nat)(s:(List aY))(f:(aY->Option Bool)):Option Bool:=(vD N s f).bind fun r1=>some (decide ((r1:Int)≥0))
def wN(N:Nat)(eq:(aB->aB->Option Bool))(pb:(List aB))(s:(List aB)):Int->Option (aK Int (Sum Unit Bool))
 |a=>(if(a:Int)<(List.length s:Int)then (idx s a).bind fun b=>(idx pb a).bind fun c=>(eq b c).bind fun d=>(if(!d)=true then some (aK.done (Sum.inr false)) else some (aK.next (iw (a+1)))) else some (aK.done (Sum.inl ())))
def xS(N:Nat)(s:(List aB))(pb:(List aB))(eq:(aB->aB->Option Bool)):Option Bool:=(if((List.length s:Int):Int)≠(List.length pb:Int)then some false else (bI (wN N eq pb s) N 0).bind fun ss=>match ss with
   |(Sum.inl _)=>some true
   |(Sum.inr a)=>some a)
def CP(N:Nat)(del:(aY->Option Bool)):((List aY)×Int×Int)->Option (aK ((List aY)×Int×Int) ((List aY)×Int))
 |(a,b,c)=>(if(c:Int)<(List.length a:Int)then ((((idx a c).bind fun d=>(del d).bind fun e=>(if(!e)=true then (idx a b).bind fun j=>(dw a b d).bind fun f=>some (f,(iw (b+1))) else some (a,b))):Option ((List aY)×Int))).bind fun ss=>match ss with
    |(g,i)=>some (aK.next (g,i,(iw (c+1)))) else some (aK.done (a,b)))
def yi(N:Nat)(s:(List aY))(del:(aY->Option Bool)):Option (List aY):=(vD N s del).bind fun r1=>(if(r1:Int)=(-1)then some s else (bI (CP N del) N (s,r1,(iw (r1+1)))).bind fun ss=>match ss with
   |(a,b)=>(nt a b (List.length a:Int)).bind fun _=>(cut (qA a b (List.length a:Int) (aY.mk 0 ([]:(List aB)))) 0 b).bind fun c=>some c)
def Bc(N:Nat)(n:Int):Option (List aY):=(if(n:Int)<0 then none else ((((if((iw (n-(iw (0-0)))):Int)>0 then (cM 32 [] (List.replicate (Int.toNat (iw (n-(iw (0-0))))) ((aY.mk 0 ([]:(List aB))):aY))).bind fun a=>(cut a 0 0).bind fun b=>some b else some ([]:(List aY)))):Option (List aY))).bind fun ss=>match ss with
   |s8=>some s8)
def ya(N:Nat)(slices:(List (List aY))):(Int×Int)->Option (aK (Int×Int) Int)
 |(a,b)=>(if(b:Int)<(List.length slices:Int)then (idx slices b).bind fun c=>(if((iw (a+(List.length c:Int))):Int)<0 then none else some (aK.next ((iw (a+(List.length c:Int))),(iw (b+1))))) else some (aK.done a))
def wq(N:Nat)(slices:(List (List aY))):((List aY)×Int)->Option (aK ((List aY)×Int) (List aY))
 |(b,a)=>(if(a:Int)<(List.length slices:Int)then (idx slices a).bind fun c=>(cM 32 b c).bind fun d=>some (aK.next (d,(iw (a+1)))) else some (aK.done b))
def tU(N:Nat)(slices:(List (List aY))):Option (List aY):=(bI (ya N slices) N (0,0)).bind fun ss=>match ss with
  |a=>(Bc N a).bind fun b=>(bI (wq N slices) N (b,0)).bind fun ss=>match ss with
    |c=>some c
end Go.D

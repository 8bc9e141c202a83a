/- Plain theorems and definitions of this seat, several texts in one. -/
import Derived.Test.YtipdkfmhfakbnaaGreatDoorAa
import Derived.Lib.Repeat
import Derived.Lib.Join
import Derived.Lib.Strings
import Derived.Lib.ItoaNum
import Derived.Test.YtipdkfmhfakbnaaGreatDoorProg
import Derived.Test.YtipdkfmhfakbnaaGreatDoorAc
import Derived.Lib.AppendIntMem
import Derived.KernelRfl
import Derived.Shelf.Strings.Builder1
import Derived.Shelf.Strings.Builder2
import Derived.Shelf.Strings.OnBuilder
import Derived.Shelf.Small.Bits
import Derived.Shelf.Strings.BuilderF
import Derived.Shelf.Strconv.Itoa0
import Derived.Shelf.Strconv.Itoa1
import Derived.Shelf.LaysM
import Derived.Shelf.Strconv.Itoa2
import Derived.Shelf.Strings.Prefix
import Derived.Shelf.Bits.Mul64
import Derived.Shelf.Strings.Repeat
import Derived.Ground.Names2Prog
import Derived.Shelf.Slices.ReverseS
import Derived.Shelf.Slices.Clone
import Derived.Shelf.Slices.Cells
import Derived.Ground.SlgnProg
import Derived.Shelf.SlicesE.Clone
import Derived.Shelf.Strconv.Itoa3
import Derived.Test.YtipdkfmhfakbnaaGreatDoorAb
import Derived.RangeFuncNested
import Derived.RangeFuncLeaves
import Derived.TacticsIn
import Derived.LoopNIn
set_option linter.unusedVariables false
set_option linter.unusedSimpArgs false
set_option linter.unusedSectionVars false
namespace Go.D
open Go Go.X
structure Big where
 Negative:Bool
 Digits:(List Int)
 deriving DecidableEq
def rBig:Rep Big:=⟨2,fun H vs x=>∃v0,vs=[Value.bool x.Negative,v0]∧Rs (rInt .u32) H v0 x.Digits∧True,
 fun H H' vs x hle h=>by obtain⟨v0,h0,k0,-⟩:=h;exact⟨v0,h0,k0.mono hle,trivial⟩,
 fun H vs x h=>by obtain⟨v0,h0,k0,-⟩:=h;rw[h0];rfl,
 fun H vs x h=>by obtain⟨v0,h0,k0,-⟩:=h;rw[h0];exact(ones_cons rfl (ones_cons k0.one ones_nil))⟩
theorem rBig_open{H:Hp}{vs:List Value}{x:Big}(h:rBig.R H vs x):∃v0,vs=[Value.bool x.Negative,v0]∧Rs (rInt .u32) H v0 x.Digits∧True:=h
theorem rBig_close{H:Hp}{vs:List Value}{x:Big}(h:∃v0,vs=[Value.bool x.Negative,v0]∧Rs (rInt .u32) H v0 x.Digits∧True):rBig.R H vs x:=h
structure Coef where
 Var:Int
 N:Int
 deriving DecidableEq
def rCoef:Rep Coef:=⟨2,fun H vs x=>vs=[Value.int .i64 x.Var,Value.int .i64 x.N]∧True,
 fun H H' vs x hle h=>by obtain⟨h0,-⟩:=h;exact⟨h0,trivial⟩,
 fun H vs x h=>by obtain⟨h0,-⟩:=h;rw[h0];rfl,
 fun H vs x h=>by obtain⟨h0,-⟩:=h;rw[h0];exact(ones_cons rfl (ones_cons rfl ones_nil))⟩
theorem rCoef_open{H:Hp}{vs:List Value}{x:Coef}(h:rCoef.R H vs x):vs=[Value.int .i64 x.Var,Value.int .i64 x.N]∧True:=h
theorem rCoef_close{H:Hp}{vs:List Value}{x:Coef}(h:vs=[Value.int .i64 x.Var,Value.int .i64 x.N]∧True):rCoef.R H vs x:=h
structure Linear where
 Const:Int
 Coefs:(List Coef)
 deriving DecidableEq
def rLinear:Rep Linear:=⟨2,fun H vs x=>∃v0,vs=[Value.int .i64 x.Const,v0]∧Rs rCoef H v0 x.Coefs∧True,
 fun H H' vs x hle h=>by obtain⟨v0,h0,k0,-⟩:=h;exact⟨v0,h0,k0.mono hle,trivial⟩,
 fun H vs x h=>by obtain⟨v0,h0,k0,-⟩:=h;rw[h0];rfl,
 fun H vs x h=>by obtain⟨v0,h0,k0,-⟩:=h;rw[h0];exact(ones_cons rfl (ones_cons k0.one ones_nil))⟩
theorem rLinear_open{H:Hp}{vs:List Value}{x:Linear}(h:rLinear.R H vs x):∃v0,vs=[Value.int .i64 x.Const,v0]∧Rs rCoef H v0 x.Coefs∧True:=h
theorem rLinear_close{H:Hp}{vs:List Value}{x:Linear}(h:∃v0,vs=[Value.int .i64 x.Const,v0]∧Rs rCoef H v0 x.Coefs∧True):rLinear.R H vs x:=h
structure Constraint where
 Linear:Linear
 Equal:Bool
 deriving DecidableEq
def rConstraint:Rep Constraint:=⟨3,fun H vs x=>∃v0,vs=[Value.int .i64 x.Linear.Const,v0,Value.bool x.Equal]∧Rs rCoef H v0 x.Linear.Coefs∧True,
 fun H H' vs x hle h=>by obtain⟨v0,h0,k0,-⟩:=h;exact⟨v0,h0,k0.mono hle,trivial⟩,
 fun H vs x h=>by obtain⟨v0,h0,k0,-⟩:=h;rw[h0];rfl,
 fun H vs x h=>by obtain⟨v0,h0,k0,-⟩:=h;rw[h0];exact(ones_cons rfl (ones_cons k0.one (ones_cons rfl ones_nil)))⟩
theorem rConstraint_open{H:Hp}{vs:List Value}{x:Constraint}(h:rConstraint.R H vs x):∃v0,vs=[Value.int .i64 x.Linear.Const,v0,Value.bool x.Equal]∧Rs rCoef H v0 x.Linear.Coefs∧True:=h
theorem rConstraint_close{H:Hp}{vs:List Value}{x:Constraint}(h:∃v0,vs=[Value.int .i64 x.Linear.Const,v0,Value.bool x.Equal]∧Rs rCoef H v0 x.Linear.Coefs∧True):rConstraint.R H vs x:=h
structure Ineq where
 Coefs:(List Big)
 Bound:Big
 deriving DecidableEq
def rIneq:Rep Ineq:=⟨3,fun H vs x=>∃v0 v1,vs=[v0,Value.bool x.Bound.Negative,v1]∧Rs rBig H v0 x.Coefs∧Rs (rInt .u32) H v1 x.Bound.Digits∧True,
 fun H H' vs x hle h=>by obtain⟨v0,v1,h0,k0,k1,-⟩:=h;exact⟨v0,v1,h0,k0.mono hle,k1.mono hle,trivial⟩,
 fun H vs x h=>by obtain⟨v0,v1,h0,k0,k1,-⟩:=h;rw[h0];rfl,
 fun H vs x h=>by obtain⟨v0,v1,h0,k0,k1,-⟩:=h;rw[h0];exact(ones_cons k0.one (ones_cons rfl (ones_cons k1.one ones_nil)))⟩
theorem rIneq_open{H:Hp}{vs:List Value}{x:Ineq}(h:rIneq.R H vs x):∃v0 v1,vs=[v0,Value.bool x.Bound.Negative,v1]∧Rs rBig H v0 x.Coefs∧Rs (rInt .u32) H v1 x.Bound.Digits∧True:=h
theorem rIneq_close{H:Hp}{vs:List Value}{x:Ineq}(h:∃v0 v1,vs=[v0,Value.bool x.Bound.Negative,v1]∧Rs rBig H v0 x.Coefs∧Rs (rInt .u32) H v1 x.Bound.Digits∧True):rIneq.R H vs x:=h
structure Use where
 Index:Int
 N:Big
 deriving DecidableEq
def rUse:Rep Use:=⟨3,fun H vs x=>∃v0,vs=[Value.int .i64 x.Index,Value.bool x.N.Negative,v0]∧Rs (rInt .u32) H v0 x.N.Digits∧True,
 fun H H' vs x hle h=>by obtain⟨v0,h0,k0,-⟩:=h;exact⟨v0,h0,k0.mono hle,trivial⟩,
 fun H vs x h=>by obtain⟨v0,h0,k0,-⟩:=h;rw[h0];rfl,
 fun H vs x h=>by obtain⟨v0,h0,k0,-⟩:=h;rw[h0];exact(ones_cons rfl (ones_cons rfl (ones_cons k0.one ones_nil)))⟩
theorem rUse_open{H:Hp}{vs:List Value}{x:Use}(h:rUse.R H vs x):∃v0,vs=[Value.int .i64 x.Index,Value.bool x.N.Negative,v0]∧Rs (rInt .u32) H v0 x.N.Digits∧True:=h
theorem rUse_close{H:Hp}{vs:List Value}{x:Use}(h:∃v0,vs=[Value.int .i64 x.Index,Value.bool x.N.Negative,v0]∧Rs (rInt .u32) H v0 x.N.Digits∧True):rUse.R H vs x:=h
structure Step where
 Uses:(List Use)
 Divisor:Big
 deriving DecidableEq
def rStep:Rep Step:=⟨3,fun H vs x=>∃v0 v1,vs=[v0,Value.bool x.Divisor.Negative,v1]∧Rs rUse H v0 x.Uses∧Rs (rInt .u32) H v1 x.Divisor.Digits∧True,
 fun H H' vs x hle h=>by obtain⟨v0,v1,h0,k0,k1,-⟩:=h;exact⟨v0,v1,h0,k0.mono hle,k1.mono hle,trivial⟩,
 fun H vs x h=>by obtain⟨v0,v1,h0,k0,k1,-⟩:=h;rw[h0];rfl,
 fun H vs x h=>by obtain⟨v0,v1,h0,k0,k1,-⟩:=h;rw[h0];exact(ones_cons k0.one (ones_cons rfl (ones_cons k1.one ones_nil)))⟩
theorem rStep_open{H:Hp}{vs:List Value}{x:Step}(h:rStep.R H vs x):∃v0 v1,vs=[v0,Value.bool x.Divisor.Negative,v1]∧Rs rUse H v0 x.Uses∧Rs (rInt .u32) H v1 x.Divisor.Digits∧True:=h
theorem rStep_close{H:Hp}{vs:List Value}{x:Step}(h:∃v0 v1,vs=[v0,Value.bool x.Divisor.Negative,v1]∧Rs rUse H v0 x.Uses∧Rs (rInt .u32) H v1 x.Divisor.Digits∧True):rStep.R H vs x:=h
structure Proof where
 Steps:(List Step)
 Form:(List Big)
 Bound:Big
 Children:(List Proof)
def RProof:Nat→Hp→List Value→Proof→Prop
 |0,_,_,_=>False
 |n+1,H,vs,x=>∃v0 v1 v2 v3,vs=[v0,v1,Value.bool x.Bound.Negative,v2,v3]∧Rs rStep H v0 x.Steps∧Rs rBig H v1 x.Form∧Rs (rInt .u32) H v2 x.Bound.Digits∧Sl 5 (RProof n) H v3 x.Children∧True
theorem RProof_mono:∀(n:Nat) {H H':Hp} {vs:List Value} {x:Proof},Le H H'→RProof n H vs x→RProof n H' vs x
 |0,_,_,_,_,_,h=>h.elim
 |n+1,_,_,_,_,hle,h=>by obtain⟨v0,v1,v2,v3,h0,k0,k1,k2,k3,-⟩:=h;exact⟨v0,v1,v2,v3,h0,k0.mono hle,k1.mono hle,k2.mono hle,Sl.mono (R:=RProof n) (fun _ _ _ _ a b=>RProof_mono n a b) hle k3,trivial⟩
theorem RProof_up:∀{n m:Nat} {H:Hp} {vs:List Value} {x:Proof},n≤m→RProof n H vs x→RProof m H vs x
 |0,_,_,_,_,_,h=>h.elim
 |n+1,0,_,_,_,hm,_=>by omega
 |n+1,m+1,_,_,_,hm,h=>by have hm:n≤m:=(by omega);obtain⟨v0,v1,v2,v3,h0,k0,k1,k2,k3,-⟩:=h;exact⟨v0,v1,v2,v3,h0,k0,k1,k2,sl_imp (fun _ _=>RProof_up hm) k3,trivial⟩
def rProof:Rep Proof:=⟨5,fun H vs x=>∃n,RProof n H vs x,fun _ _ _ _ hle ⟨n,h⟩=>⟨n,RProof_mono n hle h⟩,
 fun H vs x h=>by obtain⟨n,h⟩:=h;cases n with|zero=>exact h.elim|succ n=>obtain⟨v0,v1,v2,v3,h0,k0,k1,k2,k3,-⟩:=h;rw[h0];rfl,
 fun H vs x h=>by obtain⟨n,h⟩:=h;cases n with|zero=>exact h.elim|succ n=>obtain⟨v0,v1,v2,v3,h0,k0,k1,k2,k3,-⟩:=h;rw[h0];exact(ones_cons k0.one (ones_cons k1.one (ones_cons rfl (ones_cons k2.one (ones_cons (Sl.one k3) ones_nil)))))⟩
theorem rProof_open{H:Hp}{vs:List Value}{x:Proof}(h:rProof.R H vs x):∃v0 v1 v2 v3,vs=[v0,v1,Value.bool x.Bound.Negative,v2,v3]∧Rs rStep H v0 x.Steps∧Rs rBig H v1 x.Form∧Rs (rInt .u32) H v2 x.Bound.Digits∧Rs rProof H v3 x.Children∧True:=by
 obtain⟨n,h⟩:=h;cases n with|zero=>exact h.elim|succ n=>obtain⟨v0,v1,v2,v3,h0,k0,k1,k2,k3,-⟩:=h;exact⟨v0,v1,v2,v3,h0,k0,k1,k2,sl_imp (fun _ _ h=>⟨n,h⟩) k3,trivial⟩
theorem rProof_close{H:Hp}{vs:List Value}{x:Proof}(h:∃v0 v1 v2 v3,vs=[v0,v1,Value.bool x.Bound.Negative,v2,v3]∧Rs rStep H v0 x.Steps∧Rs rBig H v1 x.Form∧Rs (rInt .u32) H v2 x.Bound.Digits∧Rs rProof H v3 x.Children∧True):rProof.R H vs x:=by
 obtain⟨v0,v1,v2,v3,h0,k0,k1,k2,k3,-⟩:=h;obtain⟨n,hn⟩:=sl_bound (Rn:=RProof) (fun _ _ _ _ hm h=>RProof_up hm h) k3;exact⟨n+1,v0,v1,v2,v3,h0,k0,k1,k2,hn,trivial⟩
structure OItem where
 pos:Int
 g:(List Big)
 deriving DecidableEq
def rOItem:Rep OItem:=⟨2,fun H vs x=>∃v0,vs=[Value.int .i64 x.pos,v0]∧Rs rBig H v0 x.g∧True,
 fun H H' vs x hle h=>by obtain⟨v0,h0,k0,-⟩:=h;exact⟨v0,h0,k0.mono hle,trivial⟩,
 fun H vs x h=>by obtain⟨v0,h0,k0,-⟩:=h;rw[h0];rfl,
 fun H vs x h=>by obtain⟨v0,h0,k0,-⟩:=h;rw[h0];exact(ones_cons rfl (ones_cons k0.one ones_nil))⟩
theorem rOItem_open{H:Hp}{vs:List Value}{x:OItem}(h:rOItem.R H vs x):∃v0,vs=[Value.int .i64 x.pos,v0]∧Rs rBig H v0 x.g∧True:=h
theorem rOItem_close{H:Hp}{vs:List Value}{x:OItem}(h:∃v0,vs=[Value.int .i64 x.pos,v0]∧Rs rBig H v0 x.g∧True):rOItem.R H vs x:=h
structure OElim where
 v:Int
 items:(List Int)
 tried:Bool
 deriving DecidableEq
def rOElim:Rep OElim:=⟨3,fun H vs x=>∃v0,vs=[Value.int .i64 x.v,v0,Value.bool x.tried]∧Rs (rInt .i64) H v0 x.items∧True,
 fun H H' vs x hle h=>by obtain⟨v0,h0,k0,-⟩:=h;exact⟨v0,h0,k0.mono hle,trivial⟩,
 fun H vs x h=>by obtain⟨v0,h0,k0,-⟩:=h;rw[h0];rfl,
 fun H vs x h=>by obtain⟨v0,h0,k0,-⟩:=h;rw[h0];exact(ones_cons rfl (ones_cons k0.one (ones_cons rfl ones_nil)))⟩
theorem rOElim_open{H:Hp}{vs:List Value}{x:OElim}(h:rOElim.R H vs x):∃v0,vs=[Value.int .i64 x.v,v0,Value.bool x.tried]∧Rs (rInt .i64) H v0 x.items∧True:=h
theorem rOElim_close{H:Hp}{vs:List Value}{x:OElim}(h:∃v0,vs=[Value.int .i64 x.v,v0,Value.bool x.tried]∧Rs (rInt .i64) H v0 x.items∧True):rOElim.R H vs x:=h
structure OState where
 n:Int
 known:(List Ineq)
 steps:(List Step)
 u:(List (List Big))
 status:(List Int)
 value:(List Big)
 items:(List OItem)
 stack:(List OElim)
 deriving DecidableEq
def rOState:Rep OState:=⟨8,fun H vs x=>∃v0 v1 v2 v3 v4 v5 v6,vs=[Value.int .i64 x.n,v0,v1,v2,v3,v4,v5,v6]∧Rs rIneq H v0 x.known∧Rs rStep H v1 x.steps∧Rs (rSl rBig) H v2 x.u∧Rs (rInt .i64) H v3 x.status∧Rs rBig H v4 x.value∧Rs rOItem H v5 x.items∧Rs rOElim H v6 x.stack∧True,
 fun H H' vs x hle h=>by obtain⟨v0,v1,v2,v3,v4,v5,v6,h0,k0,k1,k2,k3,k4,k5,k6,-⟩:=h;exact⟨v0,v1,v2,v3,v4,v5,v6,h0,k0.mono hle,k1.mono hle,k2.mono hle,k3.mono hle,k4.mono hle,k5.mono hle,k6.mono hle,trivial⟩,
 fun H vs x h=>by obtain⟨v0,v1,v2,v3,v4,v5,v6,h0,k0,k1,k2,k3,k4,k5,k6,-⟩:=h;rw[h0];rfl,
 fun H vs x h=>by obtain⟨v0,v1,v2,v3,v4,v5,v6,h0,k0,k1,k2,k3,k4,k5,k6,-⟩:=h;rw[h0];exact(ones_cons rfl (ones_cons k0.one (ones_cons k1.one (ones_cons k2.one (ones_cons k3.one (ones_cons k4.one (ones_cons k5.one (ones_cons k6.one ones_nil))))))))⟩
theorem rOState_open{H:Hp}{vs:List Value}{x:OState}(h:rOState.R H vs x):∃v0 v1 v2 v3 v4 v5 v6,vs=[Value.int .i64 x.n,v0,v1,v2,v3,v4,v5,v6]∧Rs rIneq H v0 x.known∧Rs rStep H v1 x.steps∧Rs (rSl rBig) H v2 x.u∧Rs (rInt .i64) H v3 x.status∧Rs rBig H v4 x.value∧Rs rOItem H v5 x.items∧Rs rOElim H v6 x.stack∧True:=h
theorem rOState_close{H:Hp}{vs:List Value}{x:OState}(h:∃v0 v1 v2 v3 v4 v5 v6,vs=[Value.int .i64 x.n,v0,v1,v2,v3,v4,v5,v6]∧Rs rIneq H v0 x.known∧Rs rStep H v1 x.steps∧Rs (rSl rBig) H v2 x.u∧Rs (rInt .i64) H v3 x.status∧Rs rBig H v4 x.value∧Rs rOItem H v5 x.items∧Rs rOElim H v6 x.stack∧True):rOState.R H vs x:=h
structure OOut where
 kind:Int
 x:(List Big)
 proof:Proof
 v:Int
def rOOut:Rep OOut:=⟨8,fun H vs x=>∃v0 v1 v2 v3 v4,vs=[Value.int .i64 x.kind,v0,v1,v2,Value.bool x.proof.Bound.Negative,v3,v4,Value.int .i64 x.v]∧Rs rBig H v0 x.x∧Rs rStep H v1 x.proof.Steps∧Rs rBig H v2 x.proof.Form∧Rs (rInt .u32) H v3 x.proof.Bound.Digits∧Rs rProof H v4 x.proof.Children∧True,
 fun H H' vs x hle h=>by obtain⟨v0,v1,v2,v3,v4,h0,k0,k1,k2,k3,k4,-⟩:=h;exact⟨v0,v1,v2,v3,v4,h0,k0.mono hle,k1.mono hle,k2.mono hle,k3.mono hle,k4.mono hle,trivial⟩,
 fun H vs x h=>by obtain⟨v0,v1,v2,v3,v4,h0,k0,k1,k2,k3,k4,-⟩:=h;rw[h0];rfl,
 fun H vs x h=>by obtain⟨v0,v1,v2,v3,v4,h0,k0,k1,k2,k3,k4,-⟩:=h;rw[h0];exact(ones_cons rfl (ones_cons k0.one (ones_cons k1.one (ones_cons k2.one (ones_cons rfl (ones_cons k3.one (ones_cons k4.one (ones_cons rfl ones_nil))))))))⟩
theorem rOOut_open{H:Hp}{vs:List Value}{x:OOut}(h:rOOut.R H vs x):∃v0 v1 v2 v3 v4,vs=[Value.int .i64 x.kind,v0,v1,v2,Value.bool x.proof.Bound.Negative,v3,v4,Value.int .i64 x.v]∧Rs rBig H v0 x.x∧Rs rStep H v1 x.proof.Steps∧Rs rBig H v2 x.proof.Form∧Rs (rInt .u32) H v3 x.proof.Bound.Digits∧Rs rProof H v4 x.proof.Children∧True:=h
theorem rOOut_close{H:Hp}{vs:List Value}{x:OOut}(h:∃v0 v1 v2 v3 v4,vs=[Value.int .i64 x.kind,v0,v1,v2,Value.bool x.proof.Bound.Negative,v3,v4,Value.int .i64 x.v]∧Rs rBig H v0 x.x∧Rs rStep H v1 x.proof.Steps∧Rs rBig H v2 x.proof.Form∧Rs (rInt .u32) H v3 x.proof.Bound.Digits∧Rs rProof H v4 x.proof.Children∧True):rOOut.R H vs x:=h
structure OSpan where
 up:OItem
 low:Big
 high:Big
 deriving DecidableEq
def rOSpan:Rep OSpan:=⟨6,fun H vs x=>∃v0 v1 v2,vs=[Value.int .i64 x.up.pos,v0,Value.bool x.low.Negative,v1,Value.bool x.high.Negative,v2]∧Rs rBig H v0 x.up.g∧Rs (rInt .u32) H v1 x.low.Digits∧Rs (rInt .u32) H v2 x.high.Digits∧True,
 fun H H' vs x hle h=>by obtain⟨v0,v1,v2,h0,k0,k1,k2,-⟩:=h;exact⟨v0,v1,v2,h0,k0.mono hle,k1.mono hle,k2.mono hle,trivial⟩,
 fun H vs x h=>by obtain⟨v0,v1,v2,h0,k0,k1,k2,-⟩:=h;rw[h0];rfl,
 fun H vs x h=>by obtain⟨v0,v1,v2,h0,k0,k1,k2,-⟩:=h;rw[h0];exact(ones_cons rfl (ones_cons k0.one (ones_cons rfl (ones_cons k1.one (ones_cons rfl (ones_cons k2.one ones_nil))))))⟩
theorem rOSpan_open{H:Hp}{vs:List Value}{x:OSpan}(h:rOSpan.R H vs x):∃v0 v1 v2,vs=[Value.int .i64 x.up.pos,v0,Value.bool x.low.Negative,v1,Value.bool x.high.Negative,v2]∧Rs rBig H v0 x.up.g∧Rs (rInt .u32) H v1 x.low.Digits∧Rs (rInt .u32) H v2 x.high.Digits∧True:=h
theorem rOSpan_close{H:Hp}{vs:List Value}{x:OSpan}(h:∃v0 v1 v2,vs=[Value.int .i64 x.up.pos,v0,Value.bool x.low.Negative,v1,Value.bool x.high.Negative,v2]∧Rs rBig H v0 x.up.g∧Rs (rInt .u32) H v1 x.low.Digits∧Rs (rInt .u32) H v2 x.high.Digits∧True):rOSpan.R H vs x:=h
def formatUint(N:Nat)(i b:Int):Option (List UInt8):=if 0≤i∧i<18446744073709551616∧b=10 then some (Go.Lib.decDigits i.toNat)else none
def repeatStr(N:Nat)(s:List UInt8)(c:Int):Option (List UInt8):=if 0≤c∧c≤9223372036854775807∧(s.length:Int)*c≤140737488355328 then some (Go.Lib.repeatL s c.toNat)else none
def joinStr(N:Nat)(xs:List (List UInt8))(s:List UInt8):Option (List UInt8):=if xs.length≤140737488355328∧(Go.Lib.join xs s).length≤140737488355328 then some (Go.Lib.join xs s)else none
def revStr(N:Nat)(xs:List (List UInt8)):Option (List (List UInt8)):=if xs.length≤9223372036854775807 then some xs.reverse else none
theorem revStr_some{xs Y:List (List UInt8)}{N:Nat}(h:revStr N xs=some Y):xs.length≤9223372036854775807∧Y=xs.reverse:=by
 unfold revStr at h;split at h
 · exact⟨by assumption,(Option.some.inj h).symm⟩
 · cases h
open Go Go.X
def cloneU32(N:Nat)(s:(List Int)):Option (List Int):=(apnd 4 ([]:(List Int)) s).bind fun a=>some a
def digit(N:Nat)(d:(List Int))(i:Int):Option Int:=(if(i:Int)<(List.length d:Int)then (idx d i).bind fun x2=>some (uw x2) else some 0)
def bsign(N:Nat)(n:Int):Option Int:= some (imin (imax n (-1)) 1)
def btrim_b1(N:Nat)(d:(List Int)):Int→Option (Stp Int Int)
 |a=>(((if(a:Int)>0 then (idx d (iw (a-1))).bind fun b=>some (decide ((b:Int)=0)) else some false):Option Bool)).bind fun ss=>match ss with
   |c=>(if c=true then some (Stp.next (iw (a-1))) else some (Stp.done a))
def btrim(N:Nat)(d:(List Int)):Option (List Int):=(loopM (btrim_b1 N d) N (List.length d:Int)).bind fun ss=>match ss with
  |a=>(cut d 0 a).bind fun b=>(cloneU32 N b).bind fun c=>some c
def bnormal(N:Nat)(negative:Bool)(d:(List Int)):Option Big:=(btrim N d).bind fun r6=>(if((List.length r6:Int):Int)=0 then some (Big.mk false []) else some (Big.mk negative r6))
def bcompare_b1(N:Nat)(a:(List Int))(b:(List Int)):Int→Option (Stp Int (Sum Unit Int))
 |c=>(if(c:Int)≥0 then (idx a c).bind fun d=>(idx b c).bind fun e=>(if(d:Int)<e then some (Stp.done (Sum.inr (-1))) else (idx a c).bind fun f=>(idx b c).bind fun g=>(if(f:Int)>g then some (Stp.done (Sum.inr 1)) else some (Stp.next (iw (c-1))))) else some (Stp.done (Sum.inl ())))
def bcompare(N:Nat)(a:(List Int))(b:(List Int)):Option Int:=(if((List.length a:Int):Int)≠(List.length b:Int)then (bsign N (iw ((List.length a:Int)-(List.length b:Int)))).bind fun r2=>some r2 else (loopM (bcompare_b1 N a b) N (iw ((List.length a:Int)-1))).bind fun ss=>match ss with
   |(Sum.inl _)=>some 0
   |(Sum.inr c)=>some c)
def bplus_b1(N:Nat)(a:(List Int))(b:(List Int))(x2:(List Int)):((List Int)×Int×Int)→Option (Stp ((List Int)×Int×Int) (List Int))
 |(d,e,c)=>(if(c:Int)<(List.length x2:Int)then (digit N a c).bind fun f=>(digit N b c).bind fun g=>(idx d c).bind fun j=>(upd1 d c (uw32 (uw (e+(uw (f+g)))))).bind fun i=>some (Stp.next (i,(bshr .u64 (uw (e+(uw (f+g)))) 32),(iw (c+1)))) else some (Stp.done d))
def bplus(N:Nat)(a:(List Int))(b:(List Int)):Option (List Int):=(mk1 (α:=Int) 4 0 (iw ((imax (List.length a:Int) (List.length b:Int))+1))).bind fun x2=>(loopM (bplus_b1 N a b x2) N (x2,0,0)).bind fun ss=>match ss with
  |c=>some c
def bminus_b1(N:Nat)(a:(List Int))(b:(List Int)):((List Int)×Int×Int)→Option (Stp ((List Int)×Int×Int) (List Int))
 |(d,e,c)=>(if(c:Int)<(List.length a:Int)then (idx a c).bind fun f=>(digit N b c).bind fun g=>(idx d c).bind fun j=>(upd1 d c (uw32 (uw ((uw ((uw f)-g))-e)))).bind fun i=>some (Stp.next (i,(bshr .u64 (uw ((uw ((uw f)-g))-e)) 63),(iw (c+1)))) else some (Stp.done d))
def bminus(N:Nat)(a:(List Int))(b:(List Int)):Option (List Int):=(mk1 (α:=Int) 4 0 (List.length a:Int)).bind fun x2=>(loopM (bminus_b1 N a b) N (x2,0,0)).bind fun ss=>match ss with
  |c=>some c
def btimes_b2(N:Nat)(b:(List Int))(d:Int)(f:Int):((List Int)×Int×Int)→Option (Stp ((List Int)×Int×Int) ((List Int)×Int))
 |(c,e,a)=>(if(a:Int)<(List.length b:Int)then (idx b a).bind fun g=>(idx c (iw (d+a))).bind fun i=>(idx c (iw (d+a))).bind fun k=>(upd1 c (iw (d+a)) (uw32 (uw (e+(uw ((uw ((uw f)*(uw g)))+(uw i))))))).bind fun j=>some (Stp.next (j,(bshr .u64 (uw (e+(uw ((uw ((uw f)*(uw g)))+(uw i))))) 32),(iw (a+1)))) else some (Stp.done (c,e)))
def btimes_b1(N:Nat)(a:(List Int))(b:(List Int)):((List Int)×Int)→Option (Stp ((List Int)×Int) (List Int))
 |(d,c)=>(if(c:Int)<(List.length a:Int)then (idx a c).bind fun f=>(loopM (btimes_b2 N b c f) N (d,0,0)).bind fun ss=>match ss with
    |(e,g)=>(idx e (iw (c+(List.length b:Int)))).bind fun j=>(upd1 e (iw (c+(List.length b:Int))) (uw32 g)).bind fun i=>some (Stp.next (i,(iw (c+1)))) else some (Stp.done d))
def btimes(N:Nat)(a:(List Int))(b:(List Int)):Option (List Int):=(mk1 (α:=Int) 4 0 (iw ((List.length a:Int)+(List.length b:Int)))).bind fun x2=>(loopM (btimes_b1 N a b) N (x2,0)).bind fun ss=>match ss with
  |c=>some c
def bshort_b1(N:Nat)(a:(List Int))(pb:Int):((List Int)×Int×Int)→Option (Stp ((List Int)×Int×Int) ((List Int)×Int))
 |(d,c,b)=>(if(b:Int)≥0 then (idx a b).bind fun e=>(sdiv .u64 (bor .u64 (bshl .u64 c 32) (uw e)) (uw pb)).bind fun f=>(idx d b).bind fun i=>(upd1 d b (uw32 f)).bind fun g=>(srem (bor .u64 (bshl .u64 c 32) (uw e)) (uw pb)).bind fun j=>some (Stp.next (g,(Int.tmod (bor .u64 (bshl .u64 c 32) (uw e)) (uw pb)),(iw (b-1)))) else some (Stp.done (d,c)))
def bshort(N:Nat)(a:(List Int))(pb:Int):Option ((List Int)×Int):=(mk1 (α:=Int) 4 0 (List.length a:Int)).bind fun x2=>(loopM (bshort_b1 N a pb) N (x2,0,(iw ((List.length a:Int)-1)))).bind fun ss=>match ss with
  |(b,c)=>some (b,(uw32 c))
def bshift_b1(N:Nat)(a:(List Int))(n:Int):((List Int)×Int)→Option (Stp ((List Int)×Int) (List Int))
 |(c,b)=>(if(b:Int)<(List.length a:Int)then (idx a b).bind fun d=>(chk (¬(n:Int)<0)).bind fun _=>(idx c b).bind fun f=>(idx c b).bind fun i=>(upd1 c b (bor .u32 f (uw32 (bshl .u64 (uw d) n)))).bind fun e=>(idx e (iw (b+1))).bind fun j=>(upd1 e (iw (b+1)) (uw32 (bshr .u64 (bshl .u64 (uw d) n) 32))).bind fun g=>some (Stp.next (g,(iw (b+1)))) else some (Stp.done c))
def bshift(N:Nat)(a:(List Int))(n:Int):Option (List Int):=(mk1 (α:=Int) 4 0 (iw ((List.length a:Int)+1))).bind fun x2=>(loopM (bshift_b1 N a n) N (x2,0)).bind fun ss=>match ss with
  |b=>some b
open Go Go.X
def rtrim_b1(N:Nat):(List Int)→Option (Stp (List Int) (List Int))
 |a=>(((if((List.length a:Int):Int)>0 then (idx a (iw ((List.length a:Int)-1))).bind fun b=>some (decide ((b:Int)=0)) else some false):Option Bool)).bind fun ss=>match ss with
   |c=>(if c=true then (cut a 0 (iw ((List.length a:Int)-1))).bind fun d=>some (Stp.next d) else some (Stp.done a))
def rtrim(N:Nat)(l:(List Int)):Option (List Int):=(loopM (rtrim_b1 N) N l).bind fun ss=>match ss with
  |a=>some a
def halves_b1(N:Nat)(x:Big):((List Int)×Int)→Option (Stp ((List Int)×Int) (List Int))
 |(b,a)=>(if(a:Int)<(List.length x.Digits:Int)then (idx x.Digits a).bind fun c=>(idx x.Digits a).bind fun d=>(apnd 8 b [(iw (Int.tmod c 65536)),(iw (uw32 (Int.tdiv d 65536)))]).bind fun e=>some (Stp.next (e,(iw (a+1)))) else some (Stp.done b))
def halves(N:Nat)(x:Big):Option (List Int):=(loopM (halves_b1 N x) N (([]:(List Int)),0)).bind fun ss=>match ss with
  |a=>(rtrim N a).bind fun b=>some b
def rbig_b1(N:Nat)(r6:(List Int)):((List Int)×Int)→Option (Stp ((List Int)×Int) (List Int))
 |(b,a)=>(if(a:Int)<(List.length r6:Int)then (idx r6 a).bind fun c=>(((if((iw (a+1)):Int)<(List.length r6:Int)then (idx r6 (iw (a+1))).bind fun d=>some (uw32 ((uw32 c)+(uw32 (65536*(uw32 d))))) else some (uw32 c)):Option Int)).bind fun ss=>match ss with
    |e=>(apnd 4 b [e]).bind fun f=>some (Stp.next (f,(iw (a+2)))) else some (Stp.done b))
def rbig(N:Nat)(negative:Bool)(l:(List Int)):Option Big:=(rtrim N l).bind fun r6=>(((if negative=true then some (decide (((List.length r6:Int):Int)>0)) else some false):Option Bool)).bind fun ss=>match ss with
  |a=>(loopM (rbig_b1 N r6) N (([]:(List Int)),0)).bind fun ss=>match ss with
    |b=>some (Big.mk a b)
def rNormal(N:Nat)(x:Big):Option Big:=(halves N x).bind fun a=>(rbig N x.Negative a).bind fun b=>some b
def rorder_b1(N:Nat)(a:(List Int))(b:(List Int)):Int→Option (Stp Int (Sum Unit Int))
 |c=>(if(c:Int)≥0 then (idx a c).bind fun d=>(idx b c).bind fun e=>(if(d:Int)<e then some (Stp.done (Sum.inr (-1))) else (idx a c).bind fun f=>(idx b c).bind fun g=>(if(f:Int)>g then some (Stp.done (Sum.inr 1)) else some (Stp.next (iw (c-1))))) else some (Stp.done (Sum.inl ())))
def rorder(N:Nat)(a:(List Int))(b:(List Int)):Option Int:=(if((List.length a:Int):Int)≠(List.length b:Int)then (if((List.length a:Int):Int)<(List.length b:Int)then some (-1) else some 1) else (loopM (rorder_b1 N a b) N (iw ((List.length a:Int)-1))).bind fun ss=>match ss with
   |(Sum.inl _)=>some 0
   |(Sum.inr c)=>some c)
def rplus_b1(N:Nat)(a:(List Int))(b:(List Int)):((List Int)×Int×Int)→Option (Stp ((List Int)×Int×Int) (List Int))
 |(e,d,c)=>(((if(c:Int)<(List.length a:Int)then some true else (if(c:Int)<(List.length b:Int)then some true else some (decide ((d:Int)>0)))):Option Bool)).bind fun ss=>match ss with
   |i=>(if i=true then (((if(c:Int)<(List.length a:Int)then (idx a c).bind fun j=>some (iw (d+j)) else some d):Option Int)).bind fun ss=>match ss with
      |f=>(((if(c:Int)<(List.length b:Int)then (idx b c).bind fun k=>some (iw (f+k)) else some f):Option Int)).bind fun ss=>match ss with
        |g=>(apnd 8 e [(Int.tmod g 65536)]).bind fun l=>some (Stp.next (l,(iw (Int.tdiv g 65536)),(iw (c+1)))) else some (Stp.done e))
def rplus(N:Nat)(a:(List Int))(b:(List Int)):Option (List Int):=(loopM (rplus_b1 N a b) N (([]:(List Int)),0,0)).bind fun ss=>match ss with
  |c=>(rtrim N c).bind fun d=>some d
def rminus_b1(N:Nat)(a:(List Int))(b:(List Int)):((List Int)×Int×Int)→Option (Stp ((List Int)×Int×Int) (List Int))
 |(e,f,c)=>(if(c:Int)<(List.length a:Int)then (idx a c).bind fun g=>(((if(c:Int)<(List.length b:Int)then (idx b c).bind fun i=>some (iw ((iw (g-f))-i)) else some (iw (g-f))):Option Int)).bind fun ss=>match ss with
    |d=>(((if(d:Int)<0 then some (1,(iw (d+65536))) else some (0,d)):Option (Int×Int))).bind fun ss=>match ss with
      |(j,k)=>(apnd 8 e [k]).bind fun l=>some (Stp.next (l,j,(iw (c+1)))) else some (Stp.done e))
def rminus(N:Nat)(a:(List Int))(b:(List Int)):Option (List Int):=(loopM (rminus_b1 N a b) N (([]:(List Int)),0,0)).bind fun ss=>match ss with
  |c=>(rtrim N c).bind fun d=>some d
def rSign(N:Nat)(x:Big):Option Int:=(halves N x).bind fun r6=>(if((List.length r6:Int):Int)=0 then some 0 else (if x.Negative=true then some (-1) else some 1))
def rNeg(N:Nat)(x:Big):Option Big:=(halves N x).bind fun a=>(rbig N (!x.Negative) a).bind fun b=>some b
def rAdd(N:Nat)(a:Big)(b:Big):Option Big:=(halves N a).bind fun c=>(halves N b).bind fun d=>(if(a.Negative==b.Negative)=true then (rplus N c d).bind fun e=>(rbig N a.Negative e).bind fun f=>some f else (rorder N c d).bind fun g=>(if(g:Int)≥0 then (rminus N c d).bind fun i=>(rbig N a.Negative i).bind fun j=>some j else (rminus N d c).bind fun k=>(rbig N b.Negative k).bind fun l=>some l))
def rSub(N:Nat)(a:Big)(b:Big):Option Big:=(rNeg N b).bind fun c=>(rAdd N a c).bind fun d=>some d
def rtimes_b1(N:Nat)(a:(List Int))(d:Int):((List Int)×Int×Int)→Option (Stp ((List Int)×Int×Int) (List Int))
 |(e,c,b)=>(((if(b:Int)<(List.length a:Int)then some true else some (decide ((c:Int)>0))):Option Bool)).bind fun ss=>match ss with
   |g=>(if g=true then (((if(b:Int)<(List.length a:Int)then (idx a b).bind fun i=>some (iw (c+(iw (i*d)))) else some c):Option Int)).bind fun ss=>match ss with
      |f=>(apnd 8 e [(Int.tmod f 65536)]).bind fun j=>some (Stp.next (j,(iw (Int.tdiv f 65536)),(iw (b+1)))) else some (Stp.done e))
def rtimes(N:Nat)(a:(List Int))(d:Int):Option (List Int):=(loopM (rtimes_b1 N a d) N (([]:(List Int)),0,0)).bind fun ss=>match ss with
  |b=>(rtrim N b).bind fun c=>some c
def rMul_b1(N:Nat)(c:(List Int))(d:(List Int)):((List Int)×Int)→Option (Stp ((List Int)×Int) (List Int))
 |(b,a)=>(if(a:Int)≥0 then (apnd 8 [0] b).bind fun e=>(idx d a).bind fun f=>(rtimes N c f).bind fun g=>(rplus N e g).bind fun i=>some (Stp.next (i,(iw (a-1)))) else some (Stp.done b))
def rMul(N:Nat)(a:Big)(b:Big):Option Big:=(halves N a).bind fun d=>(halves N b).bind fun c=>(loopM (rMul_b1 N d c) N (([]:(List Int)),(iw ((List.length c:Int)-1)))).bind fun ss=>match ss with
  |e=>(rbig N (!(a.Negative==b.Negative)) e).bind fun f=>some f
def rsplit_b2(N:Nat)(a:(List Int))(b:(List Int))(e:Int):((List Int)×(List Int)×Int)→Option (Stp ((List Int)×(List Int)×Int) ((List Int)×(List Int)))
 |(c,f,d)=>(if(d:Int)>0 then (rplus N f f).bind fun i=>(idx a e).bind fun j=>(sdiv .i64 j d).bind fun k=>(((if((Int.tmod k 2):Int)=1 then (rplus N i [1]).bind fun l=>some l else some i):Option (List Int))).bind fun ss=>match ss with
    |g=>(rorder N g b).bind fun m=>(if(m:Int)≥0 then (rminus N g b).bind fun n=>(idx c e).bind fun o=>(idx c e).bind fun q=>(upd1 c e (iw (o+d))).bind fun p=>some (Stp.next (p,n,(iw (Int.tdiv d 2)))) else some (Stp.next (c,g,(iw (Int.tdiv d 2))))) else some (Stp.done (c,f)))
def rsplit_b1(N:Nat)(a:(List Int))(b:(List Int)):((List Int)×(List Int)×Int)→Option (Stp ((List Int)×(List Int)×Int) ((List Int)×(List Int)))
 |(d,e,c)=>(if(c:Int)≥0 then (loopM (rsplit_b2 N a b c) N (d,e,32768)).bind fun ss=>match ss with
    |(f,g)=>some (Stp.next (f,g,(iw (c-1)))) else some (Stp.done (d,e)))
def rsplit(N:Nat)(a:(List Int))(b:(List Int)):Option ((List Int)×(List Int)):=(mk1 (α:=Int) 8 0 (List.length a:Int)).bind fun x2=>(loopM (rsplit_b1 N a b) N (x2,([]:(List Int)),(iw ((List.length a:Int)-1)))).bind fun ss=>match ss with
  |(c,d)=>(rtrim N c).bind fun e=>some (e,d)
def rOf_b1(N:Nat):(Int×(List Int))→Option (Stp (Int×(List Int)) (List Int))
 |(a,b)=>(if(a:Int)>0 then (apnd 8 b [(iw (Int.tmod a 65536))]).bind fun c=>some (Stp.next ((uw (Int.tdiv a 65536)),c)) else some (Stp.done b))
def rOf(N:Nat)(n:Int):Option Big:=(((if(n:Int)<0 then some (uw ((uw (iw (0-(iw (n+1)))))+1)) else some (uw n)):Option Int)).bind fun ss=>match ss with
  |u8=>(loopM (rOf_b1 N) N (u8,([]:(List Int)))).bind fun ss=>match ss with
    |a=>(rbig N (decide ((n:Int)<0)) a).bind fun b=>some b
def rDivFloor(N:Nat)(a:Big)(b:Big):Option (Big×Big×Bool):=(rSign N b).bind fun f=>(if(f:Int)=0 then some ((Big.mk false []),(Big.mk false []),false) else (halves N a).bind fun g=>(halves N b).bind fun i=>(rsplit N g i).bind fun d=>(rbig N (!(a.Negative==b.Negative)) d.1).bind fun e=>(rbig N a.Negative d.2).bind fun c=>(((rSign N c).bind fun j=>(if(j:Int)≠0 then (rSign N c).bind fun k=>(rSign N b).bind fun l=>some (decide ((k:Int)≠l)) else some false):Option Bool)).bind fun ss=>match ss with
   |m=>(((if m=true then (rOf N 1).bind fun n=>(rSub N e n).bind fun o=>(rAdd N c b).bind fun p=>some (o,p) else some (e,c)):Option (Big×Big))).bind fun ss=>match ss with
     |(q,s)=>some (q,s,true))
def rSame_b1(N:Nat)(a:Big)(b:Big):Int→Option (Stp Int (Sum Unit Bool))
 |c=>(if(c:Int)<(List.length a.Digits:Int)then (idx a.Digits c).bind fun d=>(idx b.Digits c).bind fun e=>(if(d:Int)≠e then some (Stp.done (Sum.inr false)) else some (Stp.next (iw (c+1)))) else some (Stp.done (Sum.inl ())))
def rSame(N:Nat)(a:Big)(b:Big):Option Bool:=(((if(!(a.Negative==b.Negative))=true then some true else some (decide (((List.length a.Digits:Int):Int)≠(List.length b.Digits:Int)))):Option Bool)).bind fun ss=>match ss with
  |c=>(if c=true then some false else (loopM (rSame_b1 N a b) N 0).bind fun ss=>match ss with
     |(Sum.inl _)=>some true
     |(Sum.inr d)=>some d)
def rSmall(N:Nat)(x:Big):Option Bool:= some (decide (((List.length x.Digits:Int):Int)≤8))
open Go Go.X
def len32_lit256:List UInt8:=[0,1,2,2,3,3,3,3,4,4,4,4,4,4,4,4,5,5,5,5,5,5,5,5,5,5,5,5,5,5,5,5,6,6,6,6,6,6,6,6,6,6,6,6,6,6,6,6,6,6,6,6,6,6,6,6,6,6,6,6,6,6,6,6,7,7,7,7,7,7,7,7,7,7,7,7,7,7,7,7,7,7,7,7,7,7,7,7,7,7,7,7,7,7,7,7,7,7,7,7,7,7,7,7,7,7,7,7,7,7,7,7,7,7,7,7,7,7,7,7,7,7,7,7,7,7,7,7,8,8,8,8,8,8,8,8,8,8,8,8,8,8,8,8,8,8,8,8,8,8,8,8,8,8,8,8,8,8,8,8,8,8,8,8,8,8,8,8,8,8,8,8,8,8,8,8,8,8,8,8,8,8,8,8,8,8,8,8,8,8,8,8,8,8,8,8,8,8,8,8,8,8,8,8,8,8,8,8,8,8,8,8,8,8,8,8,8,8,8,8,8,8,8,8,8,8,8,8,8,8,8,8,8,8,8,8,8,8,8,8,8,8,8,8,8,8,8,8,8,8,8,8,8,8,8,8]
def len32(N:Nat)(x:Int):Option Int:=(((if(x:Int)≥65536 then some ((bshr .u32 x 16),16) else some (x,0)):Option (Int×Int))).bind fun ss=>match ss with
  |(x2,n3)=>(((if(x2:Int)≥256 then some ((bshr .u32 x2 8),(iw (n3+8))) else some (x2,n3)):Option (Int×Int))).bind fun ss=>match ss with
    |(a,b)=>(idx len32_lit256 (uw8 a)).bind fun c=>some (iw (b+(iw (UInt8.toNat c:Int))))
def lz32(N:Nat)(x:Int):Option Int:=(len32 N x).bind fun r1=>some (iw (32-r1))
def bbelow_b1(N:Nat)(n:Int)(pa_hi:Int)(pa_lo:Int)(pb:(List Int)):((List Int)×Int×Int×Int)→Option (Stp ((List Int)×Int×Int×Int) ((List Int)×Int))
 |(b,c,d,a)=>(if(a:Int)<(pa_hi-pa_lo)then (digit N pb a).bind fun e=>(chk (0≤a∧a<pa_hi-pa_lo)).bind fun _=>(idx b (pa_lo+a)).bind fun f=>(chk (0≤a∧a<pa_hi-pa_lo)).bind fun _=>(idx b (pa_lo+a)).bind fun i=>(upd1 b (pa_lo+a) (uw32 (uw ((uw ((uw f)-(band .u64 (uw (c+(uw (n*e)))) 4294967295)))-d)))).bind fun g=>some (Stp.next (g,(bshr .u64 (uw (c+(uw (n*e)))) 32),(bshr .u64 (uw ((uw ((uw f)-(band .u64 (uw (c+(uw (n*e)))) 4294967295)))-d)) 63),(iw (a+1)))) else some (Stp.done (b,d)))
def bbelow(N:Nat)(pa:(List Int))(pa_lo:Int)(pa_hi:Int)(pb:(List Int))(n:Int):Option (Bool×(List Int)):=(loopM (bbelow_b1 N n pa_hi pa_lo pb) N (pa,0,0,0)).bind fun ss=>match ss with
  |(a,b)=>some ((decide ((b:Int)≠0)),a)
def bdivide_b2(N:Nat)(b:(List Int))(d:(List Int))(f:(List Int))(g:Int):(Int×Int)→Option (Stp (Int×Int) Int)
 |(a,c)=>(((if(a:Int)>4294967295 then some true else (idx d (iw ((List.length b:Int)-2))).bind fun i=>(idx f (iw ((iw (g+(List.length b:Int)))-2))).bind fun j=>some (decide (((uw (a*(uw i))):Int)>(bor .u64 (bshl .u64 c 32) (uw j))))):Option Bool)).bind fun ss=>match ss with
   |k=>(if k=true then (idx d (iw ((List.length b:Int)-1))).bind fun e=>(if((uw (c+(uw e))):Int)>4294967295 then some (Stp.done (uw (a-1))) else some (Stp.next ((uw (a-1)),(uw (c+(uw e)))))) else some (Stp.done a))
def bdivide_b3(N:Nat)(e:(List Int))(c:Int):((List Int)×Int×Int)→Option (Stp ((List Int)×Int×Int) ((List Int)×Int))
 |(b,d,a)=>(if(a:Int)<(List.length e:Int)then (idx b (iw (c+a))).bind fun f=>(idx e a).bind fun g=>(idx b (iw (c+a))).bind fun j=>(upd1 b (iw (c+a)) (uw32 (uw (d+(uw ((uw f)+(uw g))))))).bind fun i=>some (Stp.next (i,(bshr .u64 (uw (d+(uw ((uw f)+(uw g))))) 32),(iw (a+1)))) else some (Stp.done (b,d)))
def bdivide_b1(N:Nat)(b:(List Int))(d:(List Int)):((List Int)×(List Int)×Int)→Option (Stp ((List Int)×(List Int)×Int) ((List Int)×(List Int)))
 |(c,e,a)=>(if(a:Int)≥0 then (idx c (iw (a+(List.length b:Int)))).bind fun f=>(idx c (iw ((iw (a+(List.length b:Int)))-1))).bind fun g=>(idx d (iw ((List.length b:Int)-1))).bind fun m=>(sdiv .u64 (bor .u64 (bshl .u64 (uw f) 32) (uw g)) (uw m)).bind fun n=>(idx d (iw ((List.length b:Int)-1))).bind fun l=>(srem (bor .u64 (bshl .u64 (uw f) 32) (uw g)) (uw l)).bind fun y=>(loopM (bdivide_b2 N b d c a) N (n,(Int.tmod (bor .u64 (bshl .u64 (uw f) 32) (uw g)) (uw l)))).bind fun ss=>match ss with
    |i=>(seg c a (iw ((iw (a+(List.length b:Int)))+1))).bind fun _=>(bbelow N c a (iw ((iw (a+(List.length b:Int)))+1)) d i).bind fun j=>(((if j.1=true then (loopM (bdivide_b3 N d a) N (j.2,0,0)).bind fun ss=>match ss with
       |(k,o)=>(idx k (iw (a+(List.length b:Int)))).bind fun p=>(idx k (iw (a+(List.length b:Int)))).bind fun a0=>(upd1 k (iw (a+(List.length b:Int))) (uw32 (p+(uw32 o)))).bind fun q=>some (q,(uw (i-1))) else some (j.2,i)):Option ((List Int)×Int))).bind fun ss=>match ss with
      |(s,u)=>(idx e a).bind fun a1=>(upd1 e a (uw32 u)).bind fun v=>some (Stp.next (s,v,(iw (a-1)))) else some (Stp.done (c,e)))
def bdivide_b4(N:Nat)(c:Int)(d:(List Int))(e:(List Int)):((List Int)×Int)→Option (Stp ((List Int)×Int) (List Int))
 |(b,a)=>(if(a:Int)<(List.length e:Int)then (idx d (iw (a+1))).bind fun f=>(idx d a).bind fun g=>(chk (¬((uw c):Int)<0)).bind fun _=>(idx b a).bind fun j=>(upd1 b a (uw32 (bshr .u64 (bor .u64 (bshl .u64 (uw f) 32) (uw g)) (uw c)))).bind fun i=>some (Stp.next (i,(iw (a+1)))) else some (Stp.done b))
def bdivide(N:Nat)(a:(List Int))(b:(List Int)):Option ((List Int)×(List Int)):=(bcompare N a b).bind fun r1=>(if(r1:Int)<0 then (btrim N a).bind fun r9=>some (([]:(List Int)),r9) else (if((List.length b:Int):Int)=1 then (idx b 0).bind fun i=>(bshort N a i).bind fun d=>(btrim N d.1).bind fun j=>(btrim N [d.2]).bind fun k=>some (j,k) else (idx b (iw ((List.length b:Int)-1))).bind fun l=>(lz32 N l).bind fun c=>(bshift N a (uw c)).bind fun e=>(bshift N b (uw c)).bind fun m=>(cut m 0 (List.length b:Int)).bind fun n=>(mk1 (α:=Int) 4 0 (iw ((List.length e:Int)-(List.length b:Int)))).bind fun f=>(loopM (bdivide_b1 N b n) N (e,f,(iw ((List.length f:Int)-1)))).bind fun ss=>match ss with
    |(o,p)=>(mk1 (α:=Int) 4 0 (List.length b:Int)).bind fun g=>(loopM (bdivide_b4 N c o g) N (g,0)).bind fun ss=>match ss with
      |q=>(btrim N p).bind fun s=>(btrim N q).bind fun u=>some (s,u)))
def bOf(N:Nat)(n:Int):Option Big:=(((if(n:Int)<0 then some (uw (0-(uw n))) else some (uw n)):Option Int)).bind fun ss=>match ss with
  |u8=>(bnormal N (decide ((n:Int)<0)) [(uw32 u8),(uw32 (bshr .u64 u8 32))]).bind fun a=>some a
def bNormal(N:Nat)(x:Big):Option Big:=(bnormal N x.Negative x.Digits).bind fun a=>some a
def bSign(N:Nat)(x:Big):Option Int:=(bNormal N x).bind fun r6=>(if((List.length r6.Digits:Int):Int)=0 then some 0 else (if r6.Negative=true then some (-1) else some 1))
def bCompare(N:Nat)(a:Big)(b:Big):Option Int:=(bNormal N a).bind fun c=>(bNormal N b).bind fun d=>(((if(!(c.Negative==d.Negative))=true then some c.Negative else some false):Option Bool)).bind fun ss=>match ss with
  |e=>(if e=true then some (-1) else (if(!(c.Negative==d.Negative))=true then some 1 else (if c.Negative=true then (bcompare N d.Digits c.Digits).bind fun f=>some f else (bcompare N c.Digits d.Digits).bind fun g=>some g)))
def bNeg(N:Nat)(x:Big):Option Big:=(bnormal N (!x.Negative) x.Digits).bind fun a=>some a
def bAdd(N:Nat)(a:Big)(b:Big):Option Big:=(bNormal N a).bind fun c=>(bNormal N b).bind fun d=>(if(c.Negative==d.Negative)=true then (bplus N c.Digits d.Digits).bind fun e=>(bnormal N c.Negative e).bind fun f=>some f else (bcompare N c.Digits d.Digits).bind fun g=>(if(g:Int)<0 then (bminus N d.Digits c.Digits).bind fun i=>(bnormal N d.Negative i).bind fun j=>some j else (bminus N c.Digits d.Digits).bind fun k=>(bnormal N c.Negative k).bind fun l=>some l))
def bSub(N:Nat)(a:Big)(b:Big):Option Big:=(bNeg N b).bind fun c=>(bAdd N a c).bind fun d=>some d
def bMul(N:Nat)(a:Big)(b:Big):Option Big:=(btimes N a.Digits b.Digits).bind fun c=>(bnormal N (!(a.Negative==b.Negative)) c).bind fun d=>some d
def bDivFloor(N:Nat)(a:Big)(b:Big):Option (Big×Big×Bool):=(bNormal N a).bind fun e=>(bNormal N b).bind fun d=>(if((List.length d.Digits:Int):Int)=0 then some ((Big.mk false []),(Big.mk false []),false) else (bdivide N e.Digits d.Digits).bind fun c=>(if(!(e.Negative==d.Negative))=true then (((if((List.length c.2:Int):Int)>0 then (bplus N c.1 [1]).bind fun f=>(bminus N d.Digits c.2).bind fun g=>some (f,g) else some (c.1,c.2)):Option ((List Int)×(List Int)))).bind fun ss=>match ss with
    |(i,j)=>(bnormal N true i).bind fun k=>(bnormal N d.Negative j).bind fun l=>some (k,l,true) else (bnormal N false c.1).bind fun m=>(bnormal N d.Negative c.2).bind fun n=>some (m,n,true)))
def bGCD_b1(N:Nat):((List Int)×(List Int))→Option (Stp ((List Int)×(List Int)) (List Int))
 |(b,a)=>(if((List.length a:Int):Int)>0 then (bdivide N b a).bind fun c=>some (Stp.next (a,c.2)) else some (Stp.done b))
def bGCD(N:Nat)(a:Big)(b:Big):Option Big:=(btrim N a.Digits).bind fun c=>(btrim N b.Digits).bind fun d=>(loopM (bGCD_b1 N) N (c,d)).bind fun ss=>match ss with
  |e=>(bnormal N false e).bind fun f=>some f
def bFormat_b1(N:Nat):((List (List UInt8))×(List Int))→Option (Stp ((List (List UInt8))×(List Int)) (List (List UInt8)))
 |(b,c)=>(if((List.length c:Int):Int)>0 then (bshort N c 1000000000).bind fun d=>(btrim N d.1).bind fun e=>(formatUint N (uw d.2) 10).bind fun a=>(((if((List.length e:Int):Int)>0 then (repeatStr N ([48]:List UInt8) (iw (9-(List.length a:Int)))).bind fun f=>(chk ((List.length f:Int)+List.length a≤9223372036854775807)).bind fun _=>some (f++a) else some a):Option (List UInt8))).bind fun ss=>match ss with
    |g=>(apnd 16 b [g]).bind fun i=>some (Stp.next (i,e)) else some (Stp.done b))
def bFormat(N:Nat)(x:Big):Option (List UInt8):=(bNormal N x).bind fun r6=>(if((List.length r6.Digits:Int):Int)=0 then some ([48]:List UInt8) else (loopM (bFormat_b1 N) N (([]:(List (List UInt8))),r6.Digits)).bind fun ss=>match ss with
   |a=>(((if r6.Negative=true then (apnd 16 a [([45]:List UInt8)]).bind fun b=>some b else some a):Option (List (List UInt8)))).bind fun ss=>match ss with
     |c=>(revStr N c).bind fun d=>(joinStr N d ([]:List UInt8)).bind fun e=>some e)
open Go Go.X
abbrev W32:Int:=4294967296
theorem w32_pos:(1:Int)<W32:=by decide
theorem cloneU32_tm{s:List Int}(hl:s.length≤35184372088832):Tm (fun N=>cloneU32 N s) (fun r=>r=s):=by
 unfold cloneU32;exact Tm.step (apnd_ok (by simp only[List.length_nil];omega) (by decide)) (Tm.pure rfl)
theorem btrim_tm{d:List Int}(hd:InB W32 d)(hl:d.length≤35184372088832):Tm (fun N=>btrim N d) (fun r=>Dg W32 r (val W32 d)∧r.length≤d.length):=by
 unfold btrim;refine Tm.bind (Q:=fun n:Int=>∃k:Nat,n=k∧k≤d.length∧(∀j,(hj:j<d.length)→k≤j→d[j]=0)∧(k=0∨∃hk:k-1<d.length,d[k-1]≠0))
  (Tm.loop (fun n:Int=>∃k:Nat,n=k∧k≤d.length∧∀j,(hj:j<d.length)→k≤j→d[j]=0) (fun n=>n.toNat) ⟨d.length,rfl,Nat.le_refl _,fun j h1 h2=>absurd h1 (by omega)⟩ ?_) ?_
 · rintro _ ⟨k,rfl,hk,h0⟩;dsimp only[btrim_b1];rcases Nat.eq_zero_or_pos k with rfl|hk0
   · refine Tm.bind (Q:=(·=false)) (Tm.neg (by omega) (Tm.pure rfl)) ?_;rintro _ rfl;exact Tm.neg (by simp) (Tm.pure ⟨0,rfl,hk,h0,.inl rfl⟩)
   · refine Tm.bind (Q:=(·=decide (d[k-1]=0))) (Tm.pos (by omega) (Tm.step (idx_i (n:=k-1) (by rw[iw_eq]<;>omega) (by omega)) (Tm.pure rfl))) ?_;rintro _ rfl;by_cases h:d[k-1]=0
     · refine Tm.pos (by simpa using h) (Tm.pure ⟨⟨k-1,by rw[iw_eq]<;>omega,by omega,fun j h1 h2=>?_⟩,?_⟩)
       · rcases Nat.eq_or_lt_of_le h2 with rfl|h3
         · exact h
         · exact h0 j h1 (by omega)
       · show(iw ((k:Int)-1)).toNat<((k:Int)).toNat;rw[iw_eq]<;>omega
     · exact Tm.neg (by simpa using h) (Tm.pure ⟨k,rfl,hk,h0,.inr ⟨by omega,h⟩⟩)
 · rintro _ ⟨k,rfl,hk,h0,h1⟩;refine Tm.step (cut_i (m:=0) (n:=k) rfl rfl (by omega) hk) ?_;refine Tm.bind (cloneU32_tm (by simp;omega)) ?_;rintro _ rfl;refine Tm.pure ⟨by simpa using dg_cut hk hd h0 h1,by simp;omega⟩
def bv(x:Big):Int:=if x.Negative=true then-val W32 x.Digits else val W32 x.Digits
structure Is (x:Big)(v:Int):Prop where
 dg:Dg W32 x.Digits v.natAbs
 neg:x.Negative=decide (v<0)
theorem Is.bv{x:Big}{v:Int}(h:Is x v):bv x=v:=by
 unfold D.bv;rw[h.neg,h.dg.val];by_cases hv:v<0
 · simp[hv];omega
 · simp[hv];omega
theorem bnormal_tm{neg:Bool}{d:List Int}(hd:InB W32 d)(hl:d.length≤35184372088832):Tm (fun N=>bnormal N neg d) (fun r=>Is r (if neg=true then-val W32 d else val W32 d)∧r.Digits.length≤d.length):=by
 unfold bnormal;refine Tm.bind (btrim_tm hd hl) ?_;rintro r ⟨hr,hl'⟩;have h0:=hr.nonneg (by decide);refine Tm.ite (fun h=>Tm.pure ?_) (fun h=>Tm.pure ?_)
 · have he:r=[]:=List.length_eq_zero_iff.1 (by omega);have hv:=(hr.zero (by decide)).1 he;refine⟨⟨?_,?_⟩,by simp⟩
   · simp only[hv];simp;exact Dg.nil
   · simp[hv]
 · have he:r≠[]:=fun e=>h (by simp[e]);have hv:val W32 d≠0:=fun e=>he ((hr.zero (by decide)).2 e);refine⟨⟨?_,?_⟩,hl'⟩
   · cases neg<;>simp<;>rw[show((val W32 d).natAbs:Int)=val W32 d by omega]<;>exact hr
   · cases neg<;>simp<;>omega
theorem bNormal_tm{x:Big}(hd:InB W32 x.Digits)(hl:x.Digits.length≤35184372088832):Tm (fun N=>bNormal N x) (fun r=>Is r (bv x)∧r.Digits.length≤x.Digits.length):=by
 unfold bNormal;exact Tm.bind (bnormal_tm hd hl) (fun r h=>Tm.pure h)
theorem bSign_tm{x:Big}(hd:InB W32 x.Digits)(hl:x.Digits.length≤35184372088832):Tm (fun N=>bSign N x) (fun r=>r=sgn (bv x) 0):=by
 unfold bSign;refine Tm.bind (bNormal_tm hd hl) ?_;rintro r ⟨hr,-⟩;have hz:=hr.dg.zero (by decide);refine Tm.ite (fun h=>Tm.pure ?_) (fun h=>?_)
 · have:=hz.1 (List.length_eq_zero_iff.1 (by omega));unfold sgn;rw[if_neg (by omega),if_neg (by omega)]
 · have:bv x≠0:=fun e=>h (by rw[hz.2 (by omega)];rfl);refine Tm.ite (fun h'=>Tm.pure ?_) (fun h'=>Tm.pure ?_)
   · have:=hr.neg.symm.trans h';simp at this;unfold sgn;rw[if_pos (by omega)]
   · have:¬bv x<0:=fun e=>h' (by rw[hr.neg];simpa using e);unfold sgn;rw[if_neg (by omega),if_pos (by omega)]
theorem bOf_tm{n:Int}(h1:-9223372036854775808≤n)(h2:n≤9223372036854775807):Tm (fun N=>bOf N n) (fun r=>Is r n∧r.Digits.length≤2):=by
 unfold bOf;refine Tm.bind (Q:=(·=(n.natAbs:Int))) (Tm.ite (fun h=>Tm.pure ?_) (fun h=>Tm.pure ?_)) ?_
 · rw[uw_mod,uw_mod];omega
 · rw[uw_mod];omega
 rintro _ rfl;have hs:bshr .u64 (n.natAbs:Int) 32=(n.natAbs:Int)/4294967296:=by
  unfold bshr;rw[show((2:Int)^(min (32:Int).toNat IntKind.u64.bits))=4294967296 from rfl,Int.fdiv_eq_ediv_of_nonneg _ (by decide)]
 refine Tm.bind (bnormal_tm (d:=[uw32 (n.natAbs:Int),uw32 (bshr .u64 (n.natAbs:Int) 32)]) ?_ (by simp)) (fun r h=>Tm.pure ?_)
 · rw[hs,uw32_mod,uw32_mod];exact InB.cons (B:=4294967296) (by omega) (InB.cons (by omega) InB.nil)
 · refine⟨?_,h.2⟩;have hv:val W32 [uw32 (n.natAbs:Int),uw32 (bshr .u64 (n.natAbs:Int) 32)]=n.natAbs:=by
    rw[hs,uw32_mod,uw32_mod];simp only[val,W32];omega
   have h:=h.1;rw[hv]at h;by_cases hn:n<0
   · simp only[hn,decide_true,if_true]at h;rwa[show-(n.natAbs:Int)=n by omega]at h
   · simp only[hn,decide_false,Bool.false_eq_true,if_false]at h;rwa[show(n.natAbs:Int)=n by omega]at h
theorem clamp_sgn{n:Int}:imin (imax n (-1)) 1=sgn n 0:=by
 unfold imin imax sgn;by_cases h:-1>n<;>simp only[h,if_true,if_false]<;>(repeat' split)<;>omega
theorem bcompare_tm{a b:List Int}(ha:InB W32 a)(hb:InB W32 b)(na:Nrm a)(nb:Nrm b)(hl:a.length≤35184372088832)(hl':b.length≤35184372088832):Tm (fun N=>bcompare N a b) (fun r=>r=sgn (val W32 a) (val W32 b)):=by
 unfold bcompare;refine Tm.ite (fun h=>?_) (fun h=>?_)
 · unfold bsign;refine Tm.step rfl (Tm.pure ?_);rw[iw_eq (by omega) (by omega),clamp_sgn];unfold sgn;rcases Nat.lt_or_ge a.length b.length with h'|h'
   · have:=len_cmp w32_pos ha hb nb h';rw[if_pos this];(repeat' split)<;>omega
   · have:=len_cmp w32_pos hb ha na (by omega);rw[if_neg (by omega),if_pos this];(repeat' split)<;>omega
 · have hle:a.length=b.length:=by omega
   refine Tm.bind (Q:=fun r:Sum Unit Int=>(match r with|.inl _=>0|.inr z=>z)=sgn (val W32 a) (val W32 b))
    (Tm.loop (fun i:Int=>∃n:Nat,i=(n:Int)-1∧n≤a.length∧a.drop n=b.drop n) (fun i=>(i+1).toNat) ⟨a.length,by rw[iw_eq]<;>omega,Nat.le_refl _,by rw[List.drop_of_length_le (Nat.le_refl _),List.drop_of_length_le (by omega)]⟩ ?_) ?_
   · rintro _ ⟨n,rfl,hn,hd⟩;dsimp only[bcompare_b1];refine Tm.ite (fun h1=>?_) (fun h1=>?_)
     · have hna:n-1<a.length:=by omega
       have hnb:n-1<b.length:=by omega
       refine Tm.step (idx_i (n:=n-1) (by omega) hna) (Tm.step (idx_i (n:=n-1) (by omega) hnb) (Tm.ite (fun h2=>?_) (fun h2=>?_)))
       · have:=val_cmp w32_pos ha hb hle hna (by rw[show n-1+1=n by omega];exact hd) h2;refine Tm.pure ?_;show(-1:Int)=_;unfold sgn;rw[if_pos this]
       · refine Tm.step (idx_i (n:=n-1) (by omega) hna) (Tm.step (idx_i (n:=n-1) (by omega) hnb) (Tm.ite (fun h3=>?_) (fun h3=>?_)))
         · have:=val_cmp w32_pos hb ha hle.symm hnb (by rw[show n-1+1=n by omega];exact hd.symm) h3;refine Tm.pure ?_;show(1:Int)=_;unfold sgn;rw[if_neg (by omega),if_pos this]
         · refine Tm.pure ⟨⟨n-1,by rw[iw_eq]<;>omega,by omega,?_⟩,?_⟩
           · rw[List.drop_eq_getElem_cons hna,List.drop_eq_getElem_cons hnb,show n-1+1=n by omega,hd,show a[n-1]=b[n-1] by omega]
           · show(iw ((n:Int)-1-1)+1).toNat<((n:Int)-1+1).toNat;rw[iw_eq]<;>omega
     · have:n=0:=by omega
       subst this;refine Tm.pure ?_;show(0:Int)=_;have:a=b:=by simpa using hd
       rw[this];unfold sgn;rw[if_neg (by omega),if_neg (by omega)]
   · rintro(_|z) h<;>exact Tm.pure h
theorem digit_tm{d:List Int}(hd:InB W32 d){i:Nat}:Tm (fun N=>digit N d (i:Int)) (fun r=>r=d.getD i 0):=by
 unfold digit;have h0:=hd.getD (by decide) i;refine Tm.ite (fun h=>?_) (fun h=>Tm.pure ?_)
 · refine Tm.step (idx_ok (by omega)) (Tm.pure ?_);rw[List.getD_eq_getElem?_getD,List.getElem?_eq_getElem (by omega)]at*;simp only[Option.getD_some,W32]at*;rw[uw_mod];omega
 · rw[List.getD_eq_getElem?_getD,List.getElem?_eq_none (by omega)];rfl
theorem bshr32{x:Int}:bshr .u64 x 32=x/4294967296:=by
 unfold bshr;rw[show((2:Int)^(min (32:Int).toNat IntKind.u64.bits))=4294967296 from rfl,Int.fdiv_eq_ediv_of_nonneg _ (by decide)]
theorem bshr63{x:Int}:bshr .u64 x 63=x/9223372036854775808:=by
 unfold bshr;rw[show((2:Int)^(min (63:Int).toNat IntKind.u64.bits))=9223372036854775808 from rfl,Int.fdiv_eq_ediv_of_nonneg _ (by decide)]
theorem take_set{l:List Int}{n:Nat}{y:Int}(h:n<l.length):val W32 ((l.set n y).take (n+1))=val W32 (l.take n)+W32^n*y:=by
 rw[val_take,List.take_set_of_le (Nat.le_refl n),List.getD_eq_getElem?_getD,List.getElem?_set_self h];rfl
theorem bplus_tm{a b:List Int}(ha:InB W32 a)(hb:InB W32 b)(hl:a.length≤17592186044416)(hl':b.length≤17592186044416):Tm (fun N=>bplus N a b) (fun r=>InB W32 r∧val W32 r=val W32 a+val W32 b∧r.length=max a.length b.length+1):=by
 unfold bplus;have hi:iw (imax (a.length:Int) (b.length:Int)+1)=((max a.length b.length+1:Nat):Int):=by
  unfold imax;split<;>rw[iw_eq]<;>omega
 refine Tm.step (mk1_ok hi (by omega) (by decide)) ?_;generalize hL:max a.length b.length+1=L;refine Tm.bind (Q:=fun r=>InB W32 r∧val W32 r=val W32 a+val W32 b∧r.length=L)
  (Tm.loop (fun s:List Int×Int×Int=>∃n:Nat,s.2.2=n∧n≤L∧s.1.length=L∧InB W32 s.1∧0≤s.2.1∧s.2.1≤1∧val W32 (s.1.take n)+W32^n*s.2.1=val W32 (a.take n)+val W32 (b.take n)) (fun s=>L-s.2.2.toNat)
   ⟨0,rfl,Nat.zero_le _,by simp,InB.rep (by decide),by simp,by simp,by simp[val]⟩ ?_) (fun r h=>Tm.pure h)
 rintro⟨out,carry,i⟩ ⟨n,rfl,hn,ho,hB,h0,h1,hv⟩;dsimp only[bplus_b1]at*;simp only[List.length_replicate];refine Tm.ite (fun h=>?_) (fun h=>Tm.pure ?_)
 · refine Tm.bind (digit_tm ha) ?_;rintro x rfl;refine Tm.bind (digit_tm hb) ?_;rintro y rfl;refine Tm.step (idx_ok (by omega)) ?_;refine Tm.step (upd1_i rfl (by omega)) (Tm.pure ?_);have hx:=ha.getD (by decide) n;have hy:=hb.getD (by decide) n;generalize ex:a.getD n 0=x at*;generalize ey:b.getD n 0=y at*;have e1:uw (carry+uw (x+y))=carry+x+y:=by
    simp only[W32]at*;rw[uw_mod,uw_mod];omega
   rw[e1,bshr32,uw32_mod];refine⟨⟨n+1,?_,by omega,by simp;omega,hB.set (by simp only[W32];omega),?_,?_,?_⟩,?_⟩
   · show iw ((n:Int)+1)=_;rw[iw_eq]<;>omega
   · show 0≤(carry+x+y)/4294967296;omega
   · show(carry+x+y)/4294967296≤1;simp only[W32]at*;omega
   · show val W32 ((out.set n ((carry+x+y)%4294967296)).take (n+1))+W32^(n+1)*((carry+x+y)/4294967296)=_;rw[take_set (by omega),val_take,val_take,ex,ey,Int.pow_succ];have:=Int.emod_add_mul_ediv (carry+x+y) 4294967296;have hw:W32=4294967296:=rfl;grind
   · show L-(iw ((n:Int)+1)).toNat<L-((n:Int)).toNat;rw[iw_eq]<;>omega
 · have hnL:n=L:=by omega
   subst hnL;rw[List.take_of_length_le (by omega),List.take_of_length_le (by omega),List.take_of_length_le (by omega)]at hv;refine⟨hB,?_,ho⟩;show val W32 out=_;have l1:=val_lt (by decide) ha;have l2:=val_lt (by decide) hb;have l3:=val_nonneg (by decide) hB;have p1:=pow_mono (B:=W32) (by decide) (show a.length≤n-1 by omega);have p2:=pow_mono (B:=W32) (by decide) (show b.length≤n-1 by omega);have p3:W32^n=W32^(n-1)*W32:=by rw[←Int.pow_succ];congr 1;omega
   have p4:=pow_pos' (B:=W32) (by decide) (n-1);have hc:carry=0∨carry=1:=by omega
   rcases hc with rfl|rfl
   · omega
   · simp only[W32]at*;omega
theorem bminus_tm{a b:List Int}(ha:InB W32 a)(hb:InB W32 b)(hl:a.length≤17592186044416)(hl':b.length≤a.length)(hv:val W32 b≤val W32 a):Tm (fun N=>bminus N a b) (fun r=>InB W32 r∧val W32 r=val W32 a-val W32 b∧r.length=a.length):=by
 unfold bminus;refine Tm.step (mk1_ok rfl (by omega) (by decide)) ?_;generalize hL:a.length=L;refine Tm.bind (Q:=fun r=>InB W32 r∧val W32 r=val W32 a-val W32 b∧r.length=L)
  (Tm.loop (fun s:List Int×Int×Int=>∃n:Nat,s.2.2=n∧n≤L∧s.1.length=L∧InB W32 s.1∧0≤s.2.1∧s.2.1≤1∧val W32 (s.1.take n)=val W32 (a.take n)-val W32 (b.take n)+W32^n*s.2.1) (fun s=>L-s.2.2.toNat)
   ⟨0,rfl,Nat.zero_le _,by simp[hL],InB.rep (by decide),by simp,by simp,by simp[val]⟩ ?_) (fun r h=>Tm.pure h)
 rintro⟨out,borrow,i⟩ ⟨n,rfl,hn,ho,hB,h0,h1,hv'⟩;dsimp only[bminus_b1]at*;refine Tm.ite (fun h=>?_) (fun h=>Tm.pure ?_)
 · refine Tm.step (idx_ok (by omega)) ?_;refine Tm.bind (digit_tm hb) ?_;rintro y rfl;refine Tm.step (idx_ok (by omega)) ?_;refine Tm.step (upd1_i rfl (by omega)) (Tm.pure ?_);have hx:=ha.get (n:=n) (by omega);have hy:=hb.getD (by decide) n;have ex:a.getD n 0=a[n]'(by omega):=by rw[List.getD_eq_getElem?_getD,List.getElem?_eq_getElem (by omega)];rfl
   generalize a[n]'(by omega)=x at*;generalize ey:b.getD n 0=y at*;have e1:uw (uw (uw x-y)-borrow)=(x-y-borrow)%18446744073709551616:=by
    simp only[W32]at*;rw[uw_mod,uw_mod,uw_mod];omega
   rw[e1,bshr63,uw32_mod];simp only[W32]at hx hy;refine⟨⟨n+1,?_,by omega,by simp;omega,hB.set (by simp only[W32];omega),?_,?_,?_⟩,?_⟩
   · show iw ((n:Int)+1)=_;rw[iw_eq]<;>omega
   · show 0≤(x-y-borrow)%18446744073709551616/9223372036854775808;omega
   · show(x-y-borrow)%18446744073709551616/9223372036854775808≤1;omega
   · show val W32 ((out.set n ((x-y-borrow)%18446744073709551616%4294967296)).take (n+1))=_+W32^(n+1)*((x-y-borrow)%18446744073709551616/9223372036854775808);rw[take_set (by omega),val_take,val_take,ex,ey,Int.pow_succ];have hd:(x-y-borrow)%18446744073709551616%4294967296=x-y-borrow+W32*((x-y-borrow)%18446744073709551616/9223372036854775808):=by
      simp only[W32];omega
     rw[hd];grind
   · show L-(iw ((n:Int)+1)).toNat<L-((n:Int)).toNat;rw[iw_eq]<;>omega
 · have hnL:n=L:=by omega
   subst hnL;rw[List.take_of_length_le (by omega),List.take_of_length_le (by omega),List.take_of_length_le (by omega)]at hv';refine⟨hB,?_,ho⟩;show val W32 out=_;have l1:=val_lt (by decide) hB;rw[ho]at l1;have hc:borrow=0∨borrow=1:=by omega
   rcases hc with rfl|rfl
   · omega
   · simp only[W32]at*;omega
theorem Is.val_pos{x:Big}{v:Int}(h:Is x v):val W32 x.Digits=if v<0 then-v else v:=by rw[h.dg.val];split<;>omega
theorem bAdd_tm{a b:Big}(ha:InB W32 a.Digits)(hb:InB W32 b.Digits)(hl:a.Digits.length≤17592186044416)(hl':b.Digits.length≤17592186044416):
 Tm (fun N=>bAdd N a b) (fun r=>Is r (bv a+bv b)∧r.Digits.length≤max a.Digits.length b.Digits.length+1):=by
 unfold bAdd;refine Tm.bind (bNormal_tm ha (by omega)) ?_;rintro x ⟨hx,hxl⟩;refine Tm.bind (bNormal_tm hb (by omega)) ?_;rintro y ⟨hy,hyl⟩;have vx:=hx.val_pos;have vy:=hy.val_pos;have n1:=hx.neg;have n2:=hy.neg;refine Tm.ite (fun h=>?_) (fun h=>?_)
 · have hn:x.Negative=y.Negative:=by simpa using h
   refine Tm.bind (bplus_tm hx.dg.inB hy.dg.inB (by omega) (by omega)) ?_;rintro s ⟨hs,sv,sl⟩;refine Tm.bind (bnormal_tm hs (by omega)) (fun r hr=>Tm.pure ⟨?_,by omega⟩);have hr:=hr.1;rw[sv,vx,vy]at hr;by_cases p:bv a<0<;>by_cases q:bv b<0<;>simp only[p,q,decide_true,decide_false]at n1 n2 hn
   · simp only[n1,p,q,if_true]at hr;rwa[show-(-bv a+-bv b)=bv a+bv b by omega]at hr
   · rw[n1,n2]at hn;cases hn
   · rw[n1,n2]at hn;cases hn
   · simpa only[n1,p,q,if_false,Bool.false_eq_true]using hr
 · have hn:¬x.Negative=y.Negative:=by simpa using h
   refine Tm.bind (bcompare_tm hx.dg.inB hy.dg.inB hx.dg.nrm hy.dg.nrm (by omega) (by omega)) ?_;rintro c rfl;refine Tm.ite (fun hc=>?_) (fun hc=>?_)
   · have hlt:val W32 x.Digits<val W32 y.Digits:=by revert hc;unfold sgn;split<;>(try split)<;>omega
     have hle:x.Digits.length≤y.Digits.length:=by
      rcases Nat.lt_or_ge y.Digits.length x.Digits.length with h'|h'
      · have:=len_cmp w32_pos hy.dg.inB hx.dg.inB hx.dg.nrm h';omega
      · exact h'
     refine Tm.bind (bminus_tm hy.dg.inB hx.dg.inB (by omega) hle (by omega)) ?_;rintro s ⟨hs,sv,sl⟩;refine Tm.bind (bnormal_tm hs (by omega)) (fun r hr=>Tm.pure ⟨?_,by omega⟩);have hr:=hr.1;rw[sv,vx,vy]at hr;by_cases p:bv a<0<;>by_cases q:bv b<0<;>simp only[p,q,decide_true,decide_false]at n1 n2 hn
     · rw[n1,n2]at hn;exact absurd rfl hn
     · simp only[n2,p,q,if_true,if_false,Bool.false_eq_true]at hr;rwa[show bv b- -bv a=bv a+bv b by omega]at hr
     · simp only[n2,p,q,if_true,if_false]at hr;rwa[show-(-bv b-bv a)=bv a+bv b by omega]at hr
     · rw[n1,n2]at hn;exact absurd rfl hn
   · have hge:val W32 y.Digits≤val W32 x.Digits:=by revert hc;unfold sgn;split<;>(try split)<;>omega
     have hle:y.Digits.length≤x.Digits.length:=by
      rcases Nat.lt_or_ge x.Digits.length y.Digits.length with h'|h'
      · have:=len_cmp w32_pos hx.dg.inB hy.dg.inB hy.dg.nrm h';omega
      · exact h'
     refine Tm.bind (bminus_tm hx.dg.inB hy.dg.inB (by omega) hle hge) ?_;rintro s ⟨hs,sv,sl⟩;refine Tm.bind (bnormal_tm hs (by omega)) (fun r hr=>Tm.pure ⟨?_,by omega⟩);have hr:=hr.1;rw[sv,vx,vy]at hr;by_cases p:bv a<0<;>by_cases q:bv b<0<;>simp only[p,q,decide_true,decide_false]at n1 n2 hn
     · rw[n1,n2]at hn;exact absurd rfl hn
     · simp only[n1,p,q,if_true,if_false]at hr;rwa[show-(-bv a-bv b)=bv a+bv b by omega]at hr
     · simp only[n1,p,q,if_true,if_false,Bool.false_eq_true]at hr;rwa[show bv a- -bv b=bv a+bv b by omega]at hr
     · rw[n1,n2]at hn;exact absurd rfl hn
theorem btimes_tm{a b:List Int}(ha:InB W32 a)(hb:InB W32 b)(hl:a.length≤17592186044416)(hl':b.length≤17592186044416):
 Tm (fun N=>btimes N a b) (fun r=>InB W32 r∧val W32 r=val W32 a*val W32 b∧r.length=a.length+b.length):=by
 unfold btimes;refine Tm.step (mk1_ok (n:=a.length+b.length) (by rw[iw_eq]<;>omega) (by omega) (by decide)) ?_;refine Tm.bind (Q:=fun r=>InB W32 r∧val W32 r=val W32 a*val W32 b∧r.length=a.length+b.length)
  (Tm.loop (fun s:List Int×Int=>∃n:Nat,s.2=n∧n≤a.length∧s.1.length=a.length+b.length∧InB W32 s.1∧val W32 s.1=val W32 (a.take n)*val W32 b∧∀k,n+b.length≤k→(hk:k<s.1.length)→s.1[k]=0) (fun s=>a.length-s.2.toNat)
   ⟨0,rfl,Nat.zero_le _,by simp,InB.rep (by decide),by simp[val,val_rep],by simp⟩ ?_) (fun r h=>Tm.pure h)
 rintro⟨out,i⟩ ⟨n,rfl,hn,ho,hB,hv,hz⟩;dsimp only[btimes_b1]at*;refine Tm.ite (fun h=>?_) (fun h=>Tm.pure ?_)
 · refine Tm.step (idx_ok (by omega)) ?_;have hx:=ha.get (n:=n) (by omega);have ex:a.getD n 0=a[n]'(by omega):=by rw[List.getD_eq_getElem?_getD,List.getElem?_eq_getElem (by omega)];rfl
   generalize a[n]'(by omega)=x at*;refine Tm.bind (Q:=fun r:List Int×Int=>InB W32 r.1∧r.1.length=a.length+b.length∧0≤r.2∧r.2<W32∧val W32 r.1+W32^(n+b.length)*r.2=val W32 (a.take n)*val W32 b+W32^n*x*val W32 b∧∀k,n+b.length≤k→(hk:k<r.1.length)→r.1[k]=0)
    (Tm.loop (fun s:List Int×Int×Int=>∃m:Nat,s.2.2=m∧m≤b.length∧s.1.length=a.length+b.length∧InB W32 s.1∧0≤s.2.1∧s.2.1<W32∧val W32 s.1+W32^(n+m)*s.2.1=val W32 (a.take n)*val W32 b+W32^n*x*val W32 (b.take m)∧∀k,n+b.length≤k→(hk:k<s.1.length)→s.1[k]=0) (fun s=>b.length-s.2.2.toNat)
     ⟨0,rfl,Nat.zero_le _,ho,hB,by simp,(by decide:(0:Int)<W32),by simpa[val]using hv,hz⟩ ?_) ?_
   · rintro⟨out1,carry,j⟩ ⟨m,rfl,hm,ho1,hB1,c0,c1,hv1,hz1⟩;dsimp only[btimes_b2]at*;refine Tm.ite (fun h1=>?_) (fun h1=>Tm.pure ?_)
     · refine Tm.step (idx_ok (by omega)) ?_;have hi:iw ((n:Int)+(m:Int))=((n+m:Nat):Int):=by rw[iw_eq]<;>omega
       have hy:=hb.get (n:=m) (by omega);have ey:b.getD m 0=b[m]'(by omega):=by rw[List.getD_eq_getElem?_getD,List.getElem?_eq_getElem (by omega)];rfl
       generalize b[m]'(by omega)=y at*;refine Tm.step (idx_i (n:=n+m) hi (by omega)) (Tm.step (idx_i (n:=n+m) hi (by omega)) (Tm.step (upd1_i (n:=n+m) hi (by omega)) (Tm.pure ?_)));have hz':=hB1.get (n:=n+m) (by omega);have hvs:=fun y'=>val_set (B:=W32) (l:=out1) (n:=n+m) (y:=y') (by omega);generalize out1[n+m]'(by omega)=z at*;have hxy:0≤x*y∧x*y≤4294967295*4294967295:=by
        refine⟨Int.mul_nonneg hx.1 hy.1,?_⟩;exact Int.mul_le_mul (by simp only[W32]at hx;omega) (by simp only[W32]at hy;omega) hy.1 (by decide)
       generalize exy:x*y=xy at*;have e1:uw (carry+uw (uw (uw x*uw y)+uw z))=carry+xy+z:=by
        simp only[W32]at*;rw[show uw x=x by rw[uw_mod];omega,show uw y=y by rw[uw_mod];omega,exy,uw_mod,uw_mod,uw_mod,uw_mod];omega
       rw[e1,bshr32,uw32_mod];simp only[W32]at hz' c1;refine⟨⟨m+1,?_,by omega,by simp;omega,hB1.set (by simp only[W32];omega),?_,?_,?_,?_⟩,?_⟩
       · show iw ((m:Int)+1)=_;rw[iw_eq]<;>omega
       · show 0≤(carry+xy+z)/4294967296;omega
       · show(carry+xy+z)/4294967296<W32;simp only[W32];omega
       · show val W32 (out1.set (n+m) ((carry+xy+z)%4294967296))+W32^(n+(m+1))*((carry+xy+z)/4294967296)=_;rw[hvs,val_take,ey,←Nat.add_assoc,Int.pow_succ];have:=Int.emod_add_mul_ediv (carry+xy+z) 4294967296;have hw:W32=4294967296:=rfl;have hp:W32^(n+m)=W32^n*W32^m:=Int.pow_add ..;grind
       · intro k hk hk';rw[List.getElem_set_ne (by omega)];exact hz1 k hk (by simpa using hk')
       · show b.length-(iw ((m:Int)+1)).toNat<b.length-((m:Int)).toNat;rw[iw_eq]<;>omega
     · have hmL:m=b.length:=by omega
       subst hmL;rw[List.take_of_length_le (Nat.le_refl _)]at hv1;exact⟨hB1,ho1,c0,c1,hv1,hz1⟩
   · rintro⟨out2,carry⟩ ⟨hB2,ho2,c0,c1,hv2,hz2⟩;dsimp only at*;have hi:iw ((n:Int)+(b.length:Int))=((n+b.length:Nat):Int):=by rw[iw_eq]<;>omega
     refine Tm.step (idx_i hi (by omega)) (Tm.step (upd1_i hi (by omega)) (Tm.pure ?_));have e1:uw32 carry=carry:=by rw[uw32_mod];simp only[W32]at c1;omega
     rw[e1];refine⟨⟨n+1,?_,by omega,by simp;omega,hB2.set ⟨c0,c1⟩,?_,?_⟩,?_⟩
     · show iw ((n:Int)+1)=_;rw[iw_eq]<;>omega
     · show val W32 (out2.set (n+b.length) carry)=_;rw[val_set (by omega),hz2 _ (Nat.le_refl _) (by omega),val_take,ex];grind
     · intro k hk hk';rw[List.getElem_set_ne (by omega)];exact hz2 k (by omega) (by simpa using hk')
     · show a.length-(iw ((n:Int)+1)).toNat<a.length-((n:Int)).toNat;rw[iw_eq]<;>omega
 · have hnL:n=a.length:=by omega
   subst hnL;rw[List.take_of_length_le (Nat.le_refl _)]at hv;exact⟨hB,hv,ho⟩
theorem bv_mul{a b:Big}:bv a*bv b=if(!(a.Negative==b.Negative))=true then-(val W32 a.Digits*val W32 b.Digits)else val W32 a.Digits*val W32 b.Digits:=by
 unfold bv;cases a.Negative<;>cases b.Negative<;>simp[Int.neg_mul,Int.mul_neg]
theorem bMul_tm{a b:Big}(ha:InB W32 a.Digits)(hb:InB W32 b.Digits)(hl:a.Digits.length≤8796093022208)(hl':b.Digits.length≤8796093022208):
 Tm (fun N=>bMul N a b) (fun r=>Is r (bv a*bv b)∧r.Digits.length≤a.Digits.length+b.Digits.length):=by
 unfold bMul;refine Tm.bind (btimes_tm ha hb (by omega) (by omega)) ?_;rintro s ⟨hs,sv,sl⟩;refine Tm.bind (bnormal_tm hs (by omega)) (fun r h=>Tm.pure ⟨?_,by omega⟩);rw[bv_mul,←sv];exact h.1
open Go Go.X
abbrev W16:Int:=65536
theorem w16_pos:(1:Int)<W16:=by decide
theorem tmod16{x:Int}(h:0≤x):Int.tmod x 65536=x%65536:=Int.tmod_eq_emod_of_nonneg h
theorem tdiv16{x:Int}(h:0≤x):Int.tdiv x 65536=x/65536:=Int.tdiv_eq_ediv_of_nonneg h
theorem rtrim_tm{l:List Int}(hd:InB W16 l)(hl:l.length≤35184372088832):Tm (fun N=>rtrim N l) (fun r=>Dg W16 r (val W16 l)∧r.length≤l.length):=by
 unfold rtrim;refine Tm.bind (Tm.loop (fun s:List Int=>∃n:Nat,n≤l.length∧s=l.take n∧(∀j,(hj:j<l.length)→n≤j→l[j]=0)) (fun s=>s.length) (Q:=fun r=>Dg W16 r (val W16 l)∧r.length≤l.length) ⟨l.length,Nat.le_refl _,by simp,fun j h1 h2=>absurd h1 (by omega)⟩ ?_) (fun r h=>Tm.pure h);rintro _ ⟨n,hn,rfl,h0⟩;have hlen:(l.take n).length=n:=by simp;omega
 dsimp only[rtrim_b1];rcases Nat.eq_zero_or_pos n with rfl|hk0
 · refine Tm.bind (Q:=(·=false)) (Tm.neg (by simp) (Tm.pure rfl)) ?_;rintro _ rfl;exact Tm.neg (by simp) (Tm.pure ⟨dg_cut hn hd h0 (.inl rfl),by simp⟩)
 · refine Tm.bind (Q:=(·=decide (l[n-1]=0))) (Tm.pos (by omega) (Tm.step (idx_i (n:=n-1) (by rw[iw_eq]<;>omega) (by omega)) (Tm.pure ?_))) ?_
   · rw[List.getElem_take]
   rintro _ rfl;by_cases h:l[n-1]=0
   · refine Tm.pos (by simpa using h) (Tm.step (cut_i (m:=0) (n:=n-1) rfl (by rw[iw_eq]<;>omega) (by omega) (by omega)) (Tm.pure ⟨⟨n-1,by omega,?_,fun j h1 h2=>?_⟩,?_⟩))
     · simp[List.take_take]
     · rcases Nat.eq_or_lt_of_le h2 with rfl|h3
       · exact h
       · exact h0 j h1 (by omega)
     · simp;omega
   · exact Tm.neg (by simpa using h) (Tm.pure ⟨dg_cut hn hd h0 (.inr ⟨by omega,h⟩),by omega⟩)
theorem halves_tm{x:Big}(hd:InB W32 x.Digits)(hl:x.Digits.length≤8796093022208):Tm (fun N=>halves N x) (fun r=>Dg W16 r (val W32 x.Digits)∧r.length≤2*x.Digits.length):=by
 unfold halves;refine Tm.bind (Tm.loop (fun s:List Int×Int=>∃n:Nat,s.2=n∧n≤x.Digits.length∧s.1.length=2*n∧InB W16 s.1∧val W16 s.1=val W32 (x.Digits.take n)) (fun s=>x.Digits.length-s.2.toNat) (Q:=fun r=>InB W16 r∧val W16 r=val W32 x.Digits∧r.length=2*x.Digits.length) ⟨0,rfl,Nat.zero_le _,rfl,.nil,by simp[val]⟩ ?_) ?_
 · rintro⟨l,i⟩ ⟨n,rfl,hn,ho,hB,hv⟩;dsimp only[halves_b1]at*;refine Tm.ite (fun h=>?_) (fun h=>Tm.pure ?_)
   · refine Tm.step (idx_ok (by omega)) (Tm.step (idx_ok (by omega)) ?_);have hx:=hd.get (n:=n) (by omega);have ex:x.Digits.getD n 0=x.Digits[n]'(by omega):=by rw[List.getD_eq_getElem?_getD,List.getElem?_eq_getElem (by omega)];rfl
     generalize x.Digits[n]'(by omega)=y at*;simp only[W32]at hx;rw[tmod16 hx.1,tdiv16 hx.1,uw32_mod];have e1:iw (y%65536)=y%65536:=by rw[iw_eq]<;>omega
     have e2:iw (y/65536%4294967296)=y/65536:=by rw[iw_eq]<;>omega
     rw[e1,e2];refine Tm.step (apnd_ok (by simp only[List.length_cons,List.length_nil];omega) (by decide)) (Tm.pure ⟨⟨n+1,by dsimp only;rw[iw_eq]<;>omega,by omega,by simp;omega,hB.append (.cons (B:=65536) (by omega) (.cons (by omega) .nil)),?_⟩,?_⟩)
     · show val W16 (l++[y%65536,y/65536])=_;rw[val_append,val_take,ho,hv,ex,Int.pow_mul];have:val W16 [y%65536,y/65536]=y:=by simp only[val,W16];omega
       rw[this];rfl
     · dsimp only;rw[iw_eq]<;>omega
   · have hnL:n=x.Digits.length:=by omega
     subst hnL;rw[List.take_of_length_le (Nat.le_refl _)]at hv;exact⟨hB,hv,ho⟩
 · rintro r ⟨h1,h2,h3⟩;exact Tm.bind (rtrim_tm h1 (by omega)) (fun r' h=>Tm.pure ⟨h2▸h.1,by omega⟩)
theorem nrm_snoc{l:List Int}{d:Int}(h:d≠0):Nrm (l++[d]):=by simp[Nrm,h]
theorem rbig_tm{neg:Bool}{l:List Int}(hd:InB W16 l)(hl:l.length≤17592186044416):Tm (fun N=>rbig N neg l) (fun r=>Is r (if neg=true then-val W16 l else val W16 l)∧r.Digits.length≤(l.length+1)/2):=by
 unfold rbig;refine Tm.bind (rtrim_tm hd (by omega)) ?_;rintro t ⟨ht,htl⟩;have h0:=ht.nonneg (by decide);have hz:=ht.zero (by decide);refine Tm.bind (Q:=(·=(neg&&decide (val W16 l≠0)))) (Tm.ite (fun h=>Tm.pure ?_) (fun h=>Tm.pure ?_)) ?_
 · rw[h];by_cases e:t=[]
   · have:=hz.1 e;simp[e,this]
   · have:val W16 l≠0:=fun e'=>e (hz.2 e');have:=List.length_pos_iff.2 e;simp_all
 · simp at h;simp[h]
 rintro _ rfl;refine Tm.bind (Tm.loop (fun s:List Int×Int=>∃n:Nat,s.2=((2*n:Nat):Int)∧2*n≤t.length+1∧s.1.length=n∧InB W32 s.1∧val W32 s.1=val W16 (t.take (2*n))∧(t.length≤2*n→Nrm s.1)) (fun s=>t.length+2-s.2.toNat) (Q:=fun r=>Dg W32 r (val W16 t)∧r.length≤(t.length+1)/2)
  ⟨0,rfl,by omega,rfl,.nil,by simp[val],fun _=>nrm_nil⟩ ?_) ?_
 · rintro⟨ds,i⟩ ⟨n,rfl,hn,ho,hB,hv,hN⟩;dsimp only[rbig_b1]at*;refine Tm.ite (fun h=>?_) (fun h=>Tm.pure ?_)
   · refine Tm.step (idx_ok (by omega)) ?_;have hx:=ht.inB.get (n:=2*n) (by omega);have ex:t.getD (2*n) 0=t[2*n]'(by omega):=by rw[List.getD_eq_getElem?_getD,List.getElem?_eq_getElem (by omega)];rfl
     have hlast:t.length=2*n+1→t[2*n]'(by omega)≠0:=fun e h'=>ht.nrm (by rw[List.getLast?_eq_getElem?,e,Nat.add_sub_cancel,List.getElem?_eq_getElem (by omega),h']);generalize t[2*n]'(by omega)=x at*;have hi:iw (((2*n:Nat):Int)+1)=((2*n+1:Nat):Int):=by rw[iw_eq]<;>omega
     refine Tm.bind (Q:=fun d=>d=x+65536*t.getD (2*n+1) 0∧(t.length≤2*n+2→d≠0)) ?_ ?_
     · refine Tm.ite (fun h1=>?_) (fun h1=>Tm.pure ?_)
       · refine Tm.step (idx_i hi (by omega)) (Tm.pure ?_);have hy:=ht.inB.get (n:=2*n+1) (by omega);have ey:t.getD (2*n+1) 0=t[2*n+1]'(by omega):=by rw[List.getD_eq_getElem?_getD,List.getElem?_eq_getElem (by omega)];rfl
         have hlast':t.length=2*n+2→t[2*n+1]'(by omega)≠0:=fun e h'=>ht.nrm (by rw[List.getLast?_eq_getElem?,e,show 2*n+2-1=2*n+1 by omega,List.getElem?_eq_getElem (by omega),h']);rw[ey];generalize t[2*n+1]'(by omega)=y at*;simp only[W16]at hx hy;have e1:uw32 (uw32 x+uw32 (65536*uw32 y))=x+65536*y:=by
          rw[uw32_mod,uw32_mod,uw32_mod,uw32_mod];omega
         rw[e1];exact⟨rfl,fun h'=>by have:=hlast' (by omega);omega⟩
       · have ey:t.getD (2*n+1) 0=0:=by rw[List.getD_eq_getElem?_getD,List.getElem?_eq_none (by omega)];rfl
         rw[ey];simp only[W16]at hx;have:=hlast (by omega);rw[uw32_mod];exact⟨by omega,fun _=>by omega⟩
     · rintro _ ⟨rfl,hd0⟩;have hy:=ht.inB.getD (by decide) (2*n+1);have et:val W16 (t.take (2*(n+1)))=val W16 (t.take (2*n))+W16^(2*n)*(x+65536*t.getD (2*n+1) 0):=by
        rw[show 2*(n+1)=2*n+1+1 by omega,val_take,val_take,ex,Int.pow_succ];have hw:W16=65536:=rfl;grind
       generalize t.getD (2*n+1) 0=y at*;simp only[W16]at hx hy;refine Tm.step (apnd_ok (by simp only[List.length_cons,List.length_nil];omega) (by decide)) (Tm.pure ⟨⟨n+1,by dsimp only;rw[iw_eq]<;>omega,by omega,by simp;omega,hB.append (.cons (B:=4294967296) (by omega) .nil),?_,fun h'=>nrm_snoc (hd0 (by omega))⟩,?_⟩)
       · show val W32 (ds++[x+65536*y])=_;rw[val_append,et,ho,hv,Int.pow_mul];have hw:W16^2=W32:=by decide
         rw[hw];simp only[val];simp
       · dsimp only;rw[iw_eq]<;>omega
   · rw[List.take_of_length_le (by omega)]at hv;exact⟨⟨hB,hN (by omega),hv⟩,by omega⟩
 · rintro r ⟨hr,hrl⟩;refine Tm.pure ⟨⟨?_,?_⟩,Nat.le_trans (show r.length≤_ from hrl) (Nat.div_le_div_right (by omega))⟩
   · have e:(((if neg=true then-val W16 l else val W16 l):Int).natAbs:Int)=val W16 t:=by rw[ht.val];cases neg<;>simp<;>omega
     rw[e];exact hr
   · show(neg&&decide (val W16 l≠0))=_;by_cases e:val W16 l=0
     · cases neg<;>simp[e]
     · cases neg
       · simp;omega
       · have:-val W16 l<0:=by omega
         simp[e,this];omega
theorem rSign_tm{x:Big}(hd:InB W32 x.Digits)(hl:x.Digits.length≤8796093022208):Tm (fun N=>rSign N x) (fun r=>r=sgn (bv x) 0):=by
 unfold rSign;refine Tm.bind (halves_tm hd hl) ?_;rintro h ⟨hh,-⟩;have hz:=hh.zero (by decide);have h0:=hh.nonneg (by decide);unfold bv;refine Tm.ite (fun h1=>Tm.pure ?_) (fun h1=>?_)
 · have:=hz.1 (List.length_eq_zero_iff.1 (by omega));unfold sgn;rw[this];simp
 · have:val W32 x.Digits≠0:=fun e=>h1 (by rw[hz.2 e];rfl);refine Tm.ite (fun h'=>Tm.pure ?_) (fun h'=>Tm.pure ?_)
   · rw[if_pos h'];unfold sgn;rw[if_pos (by omega)]
   · rw[if_neg h'];unfold sgn;rw[if_neg (by omega),if_pos (by omega)]
theorem rorder_tm{a b:List Int}(ha:InB W16 a)(hb:InB W16 b)(na:Nrm a)(nb:Nrm b)(hl:a.length≤35184372088832)(hl':b.length≤35184372088832):Tm (fun N=>rorder N a b) (fun r=>r=sgn (val W16 a) (val W16 b)):=by
 unfold rorder;refine Tm.ite (fun h=>?_) (fun h=>?_)
 · refine Tm.ite (fun h'=>Tm.pure ?_) (fun h'=>Tm.pure ?_)
   · have:=len_cmp w16_pos ha hb nb (by omega);unfold sgn;rw[if_pos this]
   · have:=len_cmp w16_pos hb ha na (by omega);unfold sgn;rw[if_neg (by omega),if_pos this]
 · have hle:a.length=b.length:=by omega
   refine Tm.bind (Q:=fun r:Sum Unit Int=>(match r with|.inl _=>0|.inr z=>z)=sgn (val W16 a) (val W16 b))
    (Tm.loop (fun i:Int=>∃n:Nat,i=(n:Int)-1∧n≤a.length∧a.drop n=b.drop n) (fun i=>(i+1).toNat) ⟨a.length,by rw[iw_eq]<;>omega,Nat.le_refl _,by rw[List.drop_of_length_le (Nat.le_refl _),List.drop_of_length_le (by omega)]⟩ ?_) ?_
   · rintro _ ⟨n,rfl,hn,hd⟩;dsimp only[rorder_b1];refine Tm.ite (fun h1=>?_) (fun h1=>?_)
     · have hna:n-1<a.length:=by omega
       have hnb:n-1<b.length:=by omega
       refine Tm.step (idx_i (n:=n-1) (by omega) hna) (Tm.step (idx_i (n:=n-1) (by omega) hnb) (Tm.ite (fun h2=>?_) (fun h2=>?_)))
       · have:=val_cmp w16_pos ha hb hle hna (by rw[show n-1+1=n by omega];exact hd) h2;refine Tm.pure ?_;show(-1:Int)=_;unfold sgn;rw[if_pos this]
       · refine Tm.step (idx_i (n:=n-1) (by omega) hna) (Tm.step (idx_i (n:=n-1) (by omega) hnb) (Tm.ite (fun h3=>?_) (fun h3=>?_)))
         · have:=val_cmp w16_pos hb ha hle.symm hnb (by rw[show n-1+1=n by omega];exact hd.symm) h3;refine Tm.pure ?_;show(1:Int)=_;unfold sgn;rw[if_neg (by omega),if_pos this]
         · refine Tm.pure ⟨⟨n-1,by rw[iw_eq]<;>omega,by omega,?_⟩,?_⟩
           · rw[List.drop_eq_getElem_cons hna,List.drop_eq_getElem_cons hnb,show n-1+1=n by omega,hd,show a[n-1]=b[n-1] by omega]
           · show(iw ((n:Int)-1-1)+1).toNat<((n:Int)-1+1).toNat;rw[iw_eq]<;>omega
     · have:n=0:=by omega
       subst this;refine Tm.pure ?_;show(0:Int)=_;have:a=b:=by simpa using hd
       rw[this];unfold sgn;rw[if_neg (by omega),if_neg (by omega)]
   · rintro(_|z) h<;>exact Tm.pure h
theorem getD_ok{l:List Int}{n:Nat}(h:n<l.length):l.getD n 0=l[n]:=by rw[List.getD_eq_getElem?_getD,List.getElem?_eq_getElem h];rfl
theorem getD_out{l:List Int}{n:Nat}(h:l.length≤n):l.getD n 0=0:=by rw[List.getD_eq_getElem?_getD,List.getElem?_eq_none h];rfl
theorem take_all{l:List Int}{n:Nat}(h:l.length≤n):l.take n=l:=List.take_of_length_le h
theorem rplus_tm{a b:List Int}(ha:InB W16 a)(hb:InB W16 b)(hl:a.length≤8796093022208)(hl':b.length≤8796093022208):Tm (fun N=>rplus N a b) (fun r=>Dg W16 r (val W16 a+val W16 b)∧r.length≤max a.length b.length+1):=by
 unfold rplus;generalize hL:max a.length b.length=L;refine Tm.bind (Q:=fun r=>InB W16 r∧val W16 r=val W16 a+val W16 b∧r.length≤L+1)
  (Tm.loop (fun s:List Int×Int×Int=>∃n:Nat,s.2.2=n∧n≤L+1∧s.1.length=n∧InB W16 s.1∧0≤s.2.1∧s.2.1≤1∧(L<n→s.2.1=0)∧val W16 s.1+W16^n*s.2.1=val W16 (a.take n)+val W16 (b.take n)) (fun s=>L+1-s.2.2.toNat)
   ⟨0,rfl,Nat.zero_le _,rfl,.nil,by simp,by simp,fun _=>rfl,by simp[val]⟩ ?_) ?_
 · rintro⟨out,carry,i⟩ ⟨n,rfl,hn,ho,hB,h0,h1,hc,hv⟩;dsimp only[rplus_b1]at*;refine Tm.bind (Q:=(·=decide (n<L∨0<carry))) (Tm.ite (fun h=>Tm.pure ?_) (fun h=>Tm.ite (fun h'=>Tm.pure ?_) (fun h'=>Tm.pure ?_))) ?_
   · have:n<L:=by omega
     simp[this]
   · have:n<L:=by omega
     simp[this]
   · have:¬n<L:=by omega
     simp[this]
   rintro _ rfl;refine Tm.ite (fun h=>?_) (fun h=>Tm.pure ?_)
   · have h:=of_decide_eq_true h;have hx:=ha.getD (by decide) n;have hy:=hb.getD (by decide) n;simp only[W16]at hx hy;refine Tm.bind (Q:=(·=carry+a.getD n 0)) (Tm.ite (fun h2=>?_) (fun h2=>Tm.pure ?_)) ?_
     · rw[getD_ok (l:=a) (by omega)]at*;refine Tm.step (idx_ok (by omega)) (Tm.pure ?_);rw[iw_eq]<;>omega
     · rw[getD_out (by omega)];omega
     rintro _ rfl;refine Tm.bind (Q:=(·=carry+a.getD n 0+b.getD n 0)) (Tm.ite (fun h2=>?_) (fun h2=>Tm.pure ?_)) ?_
     · rw[getD_ok (l:=b) (by omega)]at*;refine Tm.step (idx_ok (by omega)) (Tm.pure ?_);rw[iw_eq]<;>omega
     · rw[getD_out (l:=b) (by omega)];omega
     rintro _ rfl;have hz:L≤n→a.getD n 0=0∧b.getD n 0=0:=fun h=>⟨getD_out (by omega),getD_out (by omega)⟩;generalize ex:a.getD n 0=x at*;generalize ey:b.getD n 0=y at*;rw[tmod16 (by omega),tdiv16 (by omega)];refine Tm.step (apnd_ok (by simp only[List.length_cons,List.length_nil];omega) (by decide)) (Tm.pure ⟨⟨n+1,?_,by omega,by simp;omega,hB.append (.cons (B:=65536) (by omega) .nil),?_,?_,?_,?_⟩,?_⟩)
     · show iw ((n:Int)+1)=_;rw[iw_eq]<;>omega
     · show 0≤iw ((carry+x+y)/65536);rw[iw_eq]<;>omega
     · show iw ((carry+x+y)/65536)≤1;rw[iw_eq]<;>omega
     · intro h';show iw ((carry+x+y)/65536)=0;have:=hz (by omega);rw[iw_eq]<;>omega
     · show val W16 (out++[(carry+x+y)%65536])+W16^(n+1)*iw ((carry+x+y)/65536)=_;rw[iw_eq (by omega) (by omega),val_append,val_take,val_take,ex,ey,ho,Int.pow_succ];have:=Int.emod_add_mul_ediv (carry+x+y) 65536;have hw:W16=65536:=rfl;simp only[val];grind
     · show L+1-(iw ((n:Int)+1)).toNat<L+1-((n:Int)).toNat;rw[iw_eq]<;>omega
   · have h:¬(n<L∨0<carry):=fun e=>h (decide_eq_true e);rw[take_all (by omega),take_all (by omega),show carry=0 by omega]at hv;exact⟨hB,by show val W16 out=_;omega,by show out.length≤_;omega⟩
 · rintro r ⟨h1,h2,h3⟩;exact Tm.bind (rtrim_tm h1 (by omega)) (fun r' h=>Tm.pure ⟨h2▸h.1,by omega⟩)
theorem rminus_tm{a b:List Int}(ha:InB W16 a)(hb:InB W16 b)(hl:a.length≤8796093022208)(hl':b.length≤a.length)(hv:val W16 b≤val W16 a):Tm (fun N=>rminus N a b) (fun r=>Dg W16 r (val W16 a-val W16 b)∧r.length≤a.length):=by
 unfold rminus;generalize hL:a.length=L at*;refine Tm.bind (Q:=fun r=>InB W16 r∧val W16 r=val W16 a-val W16 b∧r.length=L)
  (Tm.loop (fun s:List Int×Int×Int=>∃n:Nat,s.2.2=n∧n≤L∧s.1.length=n∧InB W16 s.1∧0≤s.2.1∧s.2.1≤1∧val W16 s.1=val W16 (a.take n)-val W16 (b.take n)+W16^n*s.2.1) (fun s=>L-s.2.2.toNat)
   ⟨0,rfl,Nat.zero_le _,rfl,.nil,by simp,by simp,by simp[val]⟩ ?_) ?_
 · rintro⟨out,borrow,i⟩ ⟨n,rfl,hn,ho,hB,h0,h1,hv'⟩;dsimp only[rminus_b1]at*;refine Tm.ite (fun h=>?_) (fun h=>Tm.pure ?_)
   · have hx:=ha.getD (by decide) n;have hy:=hb.getD (by decide) n;simp only[W16]at hx hy;refine Tm.step (idx_ok (by omega)) ?_;rw[←getD_ok (by omega)];refine Tm.bind (Q:=(·=a.getD n 0-borrow-b.getD n 0)) (Tm.ite (fun h2=>?_) (fun h2=>Tm.pure ?_)) ?_
     · rw[getD_ok (l:=b) (by omega)]at*;refine Tm.step (idx_ok (by omega)) (Tm.pure ?_);rw[iw_eq,iw_eq]<;>(try rw[iw_eq])<;>omega
     · rw[getD_out (l:=b) (by omega),iw_eq]<;>omega
     rintro _ rfl;generalize ex:a.getD n 0=x at*;generalize ey:b.getD n 0=y at*;refine Tm.bind (Q:=fun p:Int×Int=>0≤p.1∧p.1≤1∧0≤p.2∧p.2<65536∧p.2=x-borrow-y+65536*p.1) (Tm.ite (fun h2=>Tm.pure ?_) (fun h2=>Tm.pure ?_)) ?_
     · dsimp only;rw[iw_eq]<;>omega
     · dsimp only;omega
     rintro⟨bo,d⟩ ⟨g1,g2,g3,g4,g5⟩;dsimp only at*;refine Tm.step (apnd_ok (by simp only[List.length_cons,List.length_nil];omega) (by decide)) (Tm.pure ⟨⟨n+1,?_,by omega,by simp;omega,hB.append (.cons (B:=65536) (by omega) .nil),g1,g2,?_⟩,?_⟩)
     · show iw ((n:Int)+1)=_;rw[iw_eq]<;>omega
     · show val W16 (out++[d])=_;rw[val_append,val_take,val_take,ex,ey,ho,Int.pow_succ];have hw:W16=65536:=rfl;simp only[val];grind
     · show L-(iw ((n:Int)+1)).toNat<L-((n:Int)).toNat;rw[iw_eq]<;>omega
   · have hnL:n=L:=by omega
     subst hnL;rw[take_all (by omega),take_all (by omega)]at hv';refine⟨hB,?_,ho⟩;show val W16 out=_;have l1:=val_lt (by decide) hB;rw[ho]at l1;have hc:borrow=0∨borrow=1:=by omega
     rcases hc with rfl|rfl
     · omega
     · simp only[W16]at*;omega
 · rintro r ⟨h1,h2,h3⟩;exact Tm.bind (rtrim_tm h1 (by omega)) (fun r' h=>Tm.pure ⟨h2▸h.1,by omega⟩)
theorem sgn_ge{a b:Int}:sgn a b≥0↔b≤a:=by unfold sgn;(repeat' split)<;>omega
theorem rAdd_tm{a b:Big}(ha:InB W32 a.Digits)(hb:InB W32 b.Digits)(hl:a.Digits.length≤2199023255552)(hl':b.Digits.length≤2199023255552):
 Tm (fun N=>rAdd N a b) (fun r=>Is r (bv a+bv b)∧r.Digits.length≤max a.Digits.length b.Digits.length+1):=by
 unfold rAdd;refine Tm.bind (halves_tm ha (by omega)) ?_;rintro x ⟨hx,hxl⟩;refine Tm.bind (halves_tm hb (by omega)) ?_;rintro y ⟨hy,hyl⟩;refine Tm.ite (fun h=>?_) (fun h=>?_)
 · have hn:a.Negative=b.Negative:=by simpa using h
   refine Tm.bind (rplus_tm hx.inB hy.inB (by omega) (by omega)) ?_;rintro s ⟨hs,sl⟩;refine Tm.bind (rbig_tm hs.inB (by omega)) (fun r hr=>Tm.pure ⟨?_,by omega⟩);have hr:=hr.1;rw[hs.val,hx.val,hy.val]at hr;unfold bv;rw[←hn];cases e:a.Negative<;>rw[e]at hr
   · simpa using hr
   · simp only[if_true]at hr⊢;rwa[show-(val W32 a.Digits+val W32 b.Digits)=-val W32 a.Digits+-val W32 b.Digits by omega]at hr
 · have hn:¬a.Negative=b.Negative:=by simpa using h
   refine Tm.bind (rorder_tm hx.inB hy.inB hx.nrm hy.nrm (by omega) (by omega)) ?_;rintro c rfl;refine Tm.ite (fun hc=>?_) (fun hc=>?_)
   · have hge:=sgn_ge.1 hc;have hle:y.length≤x.length:=by
      rcases Nat.lt_or_ge x.length y.length with h'|h'
      · have:=len_cmp w16_pos hx.inB hy.inB hy.nrm h';omega
      · exact h'
     refine Tm.bind (rminus_tm hx.inB hy.inB (by omega) hle hge) ?_;rintro s ⟨hs,sl⟩;refine Tm.bind (rbig_tm hs.inB (by omega)) (fun r hr=>Tm.pure ⟨?_,by omega⟩);have hr:=hr.1;rw[hs.val,hx.val,hy.val]at hr;unfold bv;cases e:a.Negative<;>cases e':b.Negative<;>rw[e]at hr hn<;>rw[e']at hn
     · exact absurd rfl hn
     · simpa[Int.sub_eq_add_neg]using hr
     · simp only[if_true,Bool.false_eq_true,if_false]at hr⊢;rwa[show-(val W32 a.Digits-val W32 b.Digits)=-val W32 a.Digits+val W32 b.Digits by omega]at hr
     · exact absurd rfl hn
   · have hlt:¬val W16 y≤val W16 x:=fun e=>hc (sgn_ge.2 e);have hle:x.length≤y.length:=by
      rcases Nat.lt_or_ge y.length x.length with h'|h'
      · have:=len_cmp w16_pos hy.inB hx.inB hx.nrm h';omega
      · exact h'
     refine Tm.bind (rminus_tm hy.inB hx.inB (by omega) hle (by omega)) ?_;rintro s ⟨hs,sl⟩;refine Tm.bind (rbig_tm hs.inB (by omega)) (fun r hr=>Tm.pure ⟨?_,by omega⟩);have hr:=hr.1;rw[hs.val,hx.val,hy.val]at hr;unfold bv;cases e:a.Negative<;>cases e':b.Negative<;>rw[e']at hr hn<;>rw[e]at hn
     · exact absurd rfl hn
     · simp only[if_true,Bool.false_eq_true,if_false]at hr⊢;rwa[show-(val W32 b.Digits-val W32 a.Digits)=val W32 a.Digits+-val W32 b.Digits by omega]at hr
     · simp only[if_true,Bool.false_eq_true,if_false]at hr⊢;rwa[show val W32 b.Digits-val W32 a.Digits=-val W32 a.Digits+val W32 b.Digits by omega]at hr
     · exact absurd rfl hn
theorem rtimes_tm{a:List Int}{d:Int}(ha:InB W16 a)(h0:0≤d)(h1:d<W16)(hl:a.length≤8796093022208):Tm (fun N=>rtimes N a d) (fun r=>Dg W16 r (val W16 a*d)∧r.length≤a.length+1):=by
 unfold rtimes;refine Tm.bind (Q:=fun r=>InB W16 r∧val W16 r=val W16 a*d∧r.length≤a.length+1)
  (Tm.loop (fun s:List Int×Int×Int=>∃n:Nat,s.2.2=n∧n≤a.length+1∧s.1.length=n∧InB W16 s.1∧0≤s.2.1∧s.2.1<W16∧(a.length<n→s.2.1=0)∧val W16 s.1+W16^n*s.2.1=val W16 (a.take n)*d) (fun s=>a.length+1-s.2.2.toNat)
   ⟨0,rfl,Nat.zero_le _,rfl,.nil,by simp,(by decide:(0:Int)<W16),fun _=>rfl,by simp[val]⟩ ?_) ?_
 · rintro⟨out,carry,i⟩ ⟨n,rfl,hn,ho,hB,c0,c1,hc,hv⟩;dsimp only[rtimes_b1]at*;refine Tm.bind (Q:=(·=decide (n<a.length∨0<carry))) (Tm.ite (fun h=>Tm.pure ?_) (fun h=>Tm.pure ?_)) ?_
   · have:n<a.length:=by omega
     simp[this]
   · have:¬n<a.length:=by omega
     simp[this]
   rintro _ rfl;refine Tm.ite (fun h=>?_) (fun h=>Tm.pure ?_)
   · have h:=of_decide_eq_true h;have hx:=ha.getD (by decide) n;simp only[W16]at hx h1 c1;have hm:0≤a.getD n 0*d∧a.getD n 0*d≤65535*65535:=⟨Int.mul_nonneg hx.1 h0,Int.mul_le_mul (by omega) (by omega) h0 (by decide)⟩;refine Tm.bind (Q:=(·=carry+a.getD n 0*d)) (Tm.ite (fun h2=>?_) (fun h2=>Tm.pure ?_)) ?_
     · rw[getD_ok (l:=a) (by omega)]at*;refine Tm.step (idx_ok (by omega)) (Tm.pure ?_);rw[iw_eq (z:=_*_) (by omega) (by omega),iw_eq (by omega) (by omega)]
     · rw[getD_out (by omega)];simp
     rintro _ rfl;have hz:a.length≤n→a.getD n 0=0:=fun h=>getD_out (by omega);have hz':a.length≤n→a.getD n 0*d=0:=fun h=>by rw[hz h];simp
     generalize exd:a.getD n 0*d=xd at*;rw[tmod16 (by omega),tdiv16 (by omega)];refine Tm.step (apnd_ok (by simp only[List.length_cons,List.length_nil];omega) (by decide)) (Tm.pure ⟨⟨n+1,?_,by omega,by simp;omega,hB.append (.cons (B:=65536) (by omega) .nil),?_,?_,?_,?_⟩,?_⟩)
     · show iw ((n:Int)+1)=_;rw[iw_eq]<;>omega
     · show 0≤iw ((carry+xd)/65536);rw[iw_eq]<;>omega
     · show iw ((carry+xd)/65536)<65536;rw[iw_eq]<;>omega
     · intro h';show iw ((carry+xd)/65536)=0;have:=hz' (by omega);rw[iw_eq]<;>omega
     · show val W16 (out++[(carry+xd)%65536])+W16^(n+1)*iw ((carry+xd)/65536)=_;rw[iw_eq (by omega) (by omega),val_append,val_take,ho,Int.pow_succ];have:=Int.emod_add_mul_ediv (carry+xd) 65536;have hw:W16=65536:=rfl;simp only[val];grind
     · show a.length+1-(iw ((n:Int)+1)).toNat<a.length+1-((n:Int)).toNat;rw[iw_eq]<;>omega
   · have h:¬(n<a.length∨0<carry):=fun e=>h (decide_eq_true e);rw[take_all (by omega),show carry=0 by omega]at hv;exact⟨hB,by show val W16 out=_;omega,by show out.length≤_;omega⟩
 · rintro r ⟨h1,h2,h3⟩;exact Tm.bind (rtrim_tm h1 (by omega)) (fun r' h=>Tm.pure ⟨h2▸h.1,by omega⟩)
theorem rMul_tm{a b:Big}(ha:InB W32 a.Digits)(hb:InB W32 b.Digits)(hl:a.Digits.length≤1099511627776)(hl':b.Digits.length≤1099511627776):
 Tm (fun N=>rMul N a b) (fun r=>Is r (bv a*bv b)∧r.Digits.length≤a.Digits.length+b.Digits.length):=by
 unfold rMul;refine Tm.bind (halves_tm ha (by omega)) ?_;rintro x ⟨hx,hxl⟩;refine Tm.bind (halves_tm hb (by omega)) ?_;rintro y ⟨hy,hyl⟩;refine Tm.bind (Tm.loop (fun s:List Int×Int=>∃n:Nat,s.2=(n:Int)-1∧n≤y.length∧Dg W16 s.1 (val W16 x*val W16 (y.drop n))∧s.1.length≤x.length+(y.length-n)) (fun s=>(s.2+1).toNat) (Q:=fun r=>Dg W16 r (val W16 x*val W16 y)∧r.length≤x.length+y.length)
  ⟨y.length,by dsimp only;rw[iw_eq]<;>omega,Nat.le_refl _,by simpa[val]using Dg.nil,by simp⟩ ?_) ?_
 · rintro⟨sum,i⟩ ⟨n,rfl,hn,hs,hsl⟩;dsimp only[rMul_b1]at*;refine Tm.ite (fun h=>?_) (fun h=>Tm.pure ?_)
   · refine Tm.step (apnd_ok (by simp only[List.length_cons,List.length_nil];omega) (by decide)) ?_;have hny:n-1<y.length:=by omega
     refine Tm.step (idx_i (n:=n-1) (by omega) hny) ?_;have hd:=hy.inB.get hny;refine Tm.bind (rtimes_tm hx.inB hd.1 hd.2 (by omega)) ?_;rintro t ⟨ht,htl⟩;refine Tm.bind (rplus_tm (a:=[0]++sum) (.append (.cons (by decide) .nil) hs.inB) ht.inB (by simp;omega) (by omega)) ?_;rintro r ⟨hr,hrl⟩;refine Tm.pure ⟨⟨n-1,by dsimp only;rw[iw_eq]<;>omega,by omega,?_,?_⟩,?_⟩
     · have e:val W16 ([0]++sum)+val W16 t=val W16 x*val W16 (y.drop (n-1)):=by
        rw[ht.val,List.drop_eq_getElem_cons hny,show n-1+1=n by omega];simp only[List.singleton_append,val,hs.val];grind
       show Dg W16 r _;rw[←e];exact hr
     · show r.length≤_;have hb:val W16 ([0]++sum)+val W16 t<W16^(x.length+(y.length-(n-1))):=by
        have e:val W16 ([0]++sum)+val W16 t=val W16 x*val W16 (y.drop (n-1)):=by
         rw[ht.val,List.drop_eq_getElem_cons hny,show n-1+1=n by omega];simp only[List.singleton_append,val,hs.val];grind
        rw[e,Int.pow_add];have l1:=val_lt (by decide) hx.inB;have l2:=val_lt (by decide) (hy.inB.drop (n-1));have l3:=val_nonneg (by decide) hx.inB;have l4:=val_nonneg (by decide) (hy.inB.drop (n-1));rw[List.length_drop]at l2;exact Int.mul_lt_mul' (by omega) l2 l4 (pow_pos' (by decide) _)
       exact nrm_len w16_pos hr.inB hr.nrm (by rw[hr.val];exact hb)
     · show(iw ((n:Int)-1-1)+1).toNat<((n:Int)-1+1).toNat;rw[iw_eq]<;>omega
   · have:n=0:=by omega
     subst this;exact⟨by simpa using hs,by simpa using hsl⟩
 · rintro s ⟨hs,hsl⟩;refine Tm.bind (rbig_tm hs.inB (by omega)) (fun r hr=>Tm.pure ⟨?_,by omega⟩);have hr:=hr.1;rw[hs.val,hx.val,hy.val]at hr;rw[bv_mul];exact hr
theorem rOf_tm{n:Int}(h1:-9223372036854775808≤n)(h2:n≤9223372036854775807):Tm (fun N=>rOf N n) (fun r=>Is r n∧r.Digits.length≤2):=by
 unfold rOf;refine Tm.bind (Q:=(·=(n.natAbs:Int))) (Tm.ite (fun h=>Tm.pure ?_) (fun h=>Tm.pure ?_)) ?_
 · rw[iw_eq (z:=n+1) (by omega) (by omega),iw_eq (by omega) (by omega),uw_mod,uw_mod];omega
 · rw[uw_mod];omega
 rintro _ rfl;refine Tm.bind (Tm.loop (fun s:Int×List Int=>∃m:Nat,m≤4∧s.2.length=m∧InB W16 s.2∧0≤s.1∧s.1<W16^(4-m)∧val W16 s.2+W16^m*s.1=n.natAbs) (fun s=>s.1.toNat) (Q:=fun r=>InB W16 r∧val W16 r=n.natAbs∧r.length≤4)
  ⟨0,by omega,rfl,.nil,by simp,by simp only[W16];omega,by simp[val]⟩ ?_) ?_
 · rintro⟨u,l⟩ ⟨m,hm,hl,hB,u0,u1,hv⟩;dsimp only[rOf_b1]at*;refine Tm.ite (fun h=>?_) (fun h=>Tm.pure ?_)
   · have hm':m≠4:=by rintro rfl;simp at u1;omega
     have hu:u<18446744073709551616:=by
      have:W16^(4-m)≤W16^4:=pow_mono (by decide) (by omega);have e:W16^4=18446744073709551616:=by decide
      omega
     rw[tmod16 u0,tdiv16 u0];have e1:iw (u%65536)=u%65536:=by rw[iw_eq]<;>omega
     have e2:uw (u/65536)=u/65536:=by rw[uw_mod];omega
     rw[e1,e2];refine Tm.step (apnd_ok (by simp only[List.length_cons,List.length_nil];omega) (by decide)) (Tm.pure ⟨⟨m+1,by omega,by simp;omega,hB.append (.cons (B:=65536) (by omega) .nil),?_,?_,?_⟩,?_⟩)
     · show 0≤u/65536;omega
     · show u/65536<W16^(4-(m+1));have e:W16^(4-m)=W16^(4-(m+1))*65536:=by rw[show 4-m=4-(m+1)+1 by omega,Int.pow_succ]
       rw[e]at u1;exact Int.ediv_lt_of_lt_mul (by decide) u1
     · show val W16 (l++[u%65536])+W16^(m+1)*(u/65536)=_;rw[val_append,hl,Int.pow_succ];have:=Int.emod_add_mul_ediv u 65536;have hw:W16=65536:=rfl;simp only[val];grind
     · show(u/65536).toNat<u.toNat;omega
   · have:u=0:=by omega
     subst this;exact⟨hB,by show val W16 l=_;simpa using hv,by show l.length≤4;omega⟩
 · rintro l ⟨hB,hv,hl⟩;refine Tm.bind (rbig_tm hB (by omega)) (fun r hr=>Tm.pure ⟨?_,by omega⟩);have hr:=hr.1;rw[hv]at hr;by_cases hn:n<0
   · simp only[hn,decide_true,if_true]at hr;rwa[show-(n.natAbs:Int)=n by omega]at hr
   · simp only[hn,decide_false,Bool.false_eq_true,if_false]at hr;rwa[show(n.natAbs:Int)=n by omega]at hr
open Go Go.X
def cvalid_b1(N:Nat)(c:Constraint)(n:Int):(Int×Int)→Option (Stp (Int×Int) (Sum Unit Bool))
 |(d,a)=>(if(a:Int)<(List.length c.Linear.Coefs:Int)then (idx c.Linear.Coefs a).bind fun b=>(((if(b.Var:Int)≤d then some true else some (decide ((b.Var:Int)≥n))):Option Bool)).bind fun ss=>match ss with
    |e=>(if e=true then some (Stp.done (Sum.inr false)) else some (Stp.next (b.Var,(iw (a+1))))) else some (Stp.done (Sum.inl ())))
def cvalid(N:Nat)(c:Constraint)(n:Int):Option Bool:=(loopM (cvalid_b1 N c n) N ((-1),0)).bind fun ss=>match ss with
  |(Sum.inl _)=>(if(n:Int)≥0 then some (decide ((n:Int)≤512)) else some false)
  |(Sum.inr a)=>some a
def negated_b1(N:Nat)(l:(List Big)):((List Big)×Int)→Option (Stp ((List Big)×Int) (List Big))
 |(b,a)=>(if(a:Int)<(List.length l:Int)then (idx l a).bind fun c=>(bNeg N c).bind fun d=>(apnd 32 b [d]).bind fun e=>some (Stp.next (e,(iw (a+1)))) else some (Stp.done b))
def negated(N:Nat)(l:(List Big))(bound:Big):Option Ineq:=(bNormal N bound).bind fun a=>(loopM (negated_b1 N l) N (([]:(List Big)),0)).bind fun ss=>match ss with
  |b=>some (Ineq.mk b a)
def cOf_b1(N:Nat)(c:Constraint):((List Big)×Int)→Option (Stp ((List Big)×Int) (List Big))
 |(a,b)=>(if(b:Int)<(List.length c.Linear.Coefs:Int)then (idx c.Linear.Coefs b).bind fun d=>(bOf N d.N).bind fun e=>(idx a d.Var).bind fun g=>(upd1 a d.Var e).bind fun f=>some (Stp.next (f,(iw (b+1)))) else some (Stp.done a))
def cOf(N:Nat)(c:Constraint)(n:Int):Option (List Ineq):=(cvalid N c n).bind fun r6=>(if(!r6)=true then some ([]:(List Ineq)) else (mk1 (α:=Big) 32 (Big.mk false []) n).bind fun d=>(bOf N c.Linear.Const).bind fun e=>(bNeg N e).bind fun b=>(loopM (cOf_b1 N c) N (d,0)).bind fun ss=>match ss with
   |a=>(if(!c.Equal)=true then some [(Ineq.mk a b)] else (bOf N c.Linear.Const).bind fun f=>(negated N a f).bind fun g=>some [(Ineq.mk a b),g]))
def cSystem_b1(N:Nat)(l:(List Constraint))(n:Int):((List Ineq)×Int)→Option (Stp ((List Ineq)×Int) (Sum (List Ineq) (List Ineq)))
 |(b,a)=>(if(a:Int)<(List.length l:Int)then (idx l a).bind fun c=>(cvalid N c n).bind fun d=>(if(!d)=true then some (Stp.done (Sum.inr ([]:(List Ineq)))) else (cOf N c n).bind fun e=>(apnd 56 b e).bind fun f=>some (Stp.next (f,(iw (a+1))))) else some (Stp.done (Sum.inl b)))
def cSystem(N:Nat)(l:(List Constraint))(n:Int):Option (List Ineq):=(loopM (cSystem_b1 N l n) N (([]:(List Ineq)),0)).bind fun ss=>match ss with
  |(Sum.inl a)=>some a
  |(Sum.inr b)=>some b
def cloneIneq(N:Nat)(s:(List Ineq)):Option (List Ineq):=(apnd 56 ([]:(List Ineq)) s).bind fun a=>some a
def clipIneq(N:Nat)(s:(List Ineq)):Option (List Ineq):= some s
open Go Go.X
def rzero(N:Nat)(n:Int):Option Ineq:=(mk1 (α:=Big) 32 (Big.mk false []) n).bind fun x7=>some (Ineq.mk x7 (Big.mk false ([]:(List Int))))
def rRight_b1(N:Nat)(c:Constraint)(n:Int):Int→Option (Stp Int (Sum Unit Bool))
 |a=>(if(a:Int)<(List.length c.Linear.Coefs:Int)then (idx c.Linear.Coefs a).bind fun b=>(((if(b.Var:Int)<0 then some true else (if(b.Var:Int)≥n then some true else (if(a:Int)>0 then (idx c.Linear.Coefs (iw (a-1))).bind fun d=>some (decide ((b.Var:Int)≤d.Var)) else some false))):Option Bool)).bind fun ss=>match ss with
    |e=>(if e=true then some (Stp.done (Sum.inr false)) else some (Stp.next (iw (a+1)))) else some (Stp.done (Sum.inl ())))
def rRight(N:Nat)(c:Constraint)(n:Int):Option Bool:=(loopM (rRight_b1 N c n) N 0).bind fun ss=>match ss with
  |(Sum.inl _)=>(if(n:Int)≥0 then some (decide ((n:Int)≤512)) else some false)
  |(Sum.inr a)=>some a
def rflip_b1(N:Nat)(q:Ineq):((List Big)×Int)→Option (Stp ((List Big)×Int) (List Big))
 |(b,a)=>(if(a:Int)<(List.length q.Coefs:Int)then (idx q.Coefs a).bind fun c=>(rNeg N c).bind fun d=>(apnd 32 b [d]).bind fun e=>some (Stp.next (e,(iw (a+1)))) else some (Stp.done b))
def rflip(N:Nat)(q:Ineq)(bound:Big):Option Ineq:=(rNormal N bound).bind fun a=>(loopM (rflip_b1 N q) N (([]:(List Big)),0)).bind fun ss=>match ss with
  |b=>some (Ineq.mk b a)
def rIOf_b1(N:Nat)(c:Constraint):((List Big)×Int)→Option (Stp ((List Big)×Int) (List Big))
 |(b,a)=>(if(a:Int)<(List.length c.Linear.Coefs:Int)then (idx c.Linear.Coefs a).bind fun d=>(idx c.Linear.Coefs a).bind fun e=>(rOf N e.N).bind fun f=>(idx b d.Var).bind fun i=>(upd1 b d.Var f).bind fun g=>some (Stp.next (g,(iw (a+1)))) else some (Stp.done b))
def rIOf(N:Nat)(c:Constraint)(n:Int):Option (List Ineq):=(rRight N c n).bind fun r6=>(if(!r6)=true then some ([]:(List Ineq)) else (rzero N n).bind fun e=>(loopM (rIOf_b1 N c) N (e.Coefs,0)).bind fun ss=>match ss with
   |a=>(rOf N c.Linear.Const).bind fun d=>(rNeg N d).bind fun b=>(if(!c.Equal)=true then some [(Ineq.mk a b)] else (rflip N (Ineq.mk a b) d).bind fun f=>some [(Ineq.mk a b),f]))
def rSystem_b1(N:Nat)(l:(List Constraint))(n:Int):((List Ineq)×Int)→Option (Stp ((List Ineq)×Int) (Sum (List Ineq) (List Ineq)))
 |(b,a)=>(if(a:Int)<(List.length l:Int)then (idx l a).bind fun c=>(rRight N c n).bind fun d=>(if(!d)=true then some (Stp.done (Sum.inr ([]:(List Ineq)))) else (idx l a).bind fun e=>(rIOf N e n).bind fun f=>(apnd 56 b f).bind fun g=>some (Stp.next (g,(iw (a+1))))) else some (Stp.done (Sum.inl b)))
def rSystem(N:Nat)(l:(List Constraint))(n:Int):Option (List Ineq):=(loopM (rSystem_b1 N l n) N (([]:(List Ineq)),0)).bind fun ss=>match ss with
  |(Sum.inl a)=>some a
  |(Sum.inr b)=>some b
def rEven_b1(N:Nat)(l:(List Ineq)):Int→Option (Stp Int (Sum Unit Bool))
 |a=>(if(a:Int)<(List.length l:Int)then (idx l a).bind fun b=>(idx l 0).bind fun c=>(if((List.length b.Coefs:Int):Int)≠(List.length c.Coefs:Int)then some (Stp.done (Sum.inr false)) else some (Stp.next (iw (a+1)))) else some (Stp.done (Sum.inl ())))
def rEven(N:Nat)(l:(List Ineq)):Option Bool:=(loopM (rEven_b1 N l) N 0).bind fun ss=>match ss with
  |(Sum.inl _)=>some true
  |(Sum.inr a)=>some a
def rApply_b2(N:Nat)(c:Int)(d:Use)(e:Ineq):((List Big)×Int)→Option (Stp ((List Big)×Int) (List Big))
 |(b,a)=>(if(a:Int)<c then (idx b a).bind fun f=>(idx e.Coefs a).bind fun g=>(rMul N g d.N).bind fun i=>(rAdd N f i).bind fun j=>(idx b a).bind fun l=>(upd1 b a j).bind fun k=>some (Stp.next (k,(iw (a+1)))) else some (Stp.done b))
def rApply_b1(N:Nat)(l:(List Ineq))(s:Step)(i:Int):((List Big)×Bool×(List Int)×Int)→Option (Stp ((List Big)×Bool×(List Int)×Int) (Sum ((List Big)×Bool×(List Int)) (Ineq×Bool)))
 |(c,d,e,b)=>(if(b:Int)<(List.length s.Uses:Int)then (idx s.Uses b).bind fun a=>(((if(a.Index:Int)<0 then some true else (if(a.Index:Int)≥(List.length l:Int)then some true else (rSign N a.N).bind fun j=>some (decide ((j:Int)<0)))):Option Bool)).bind fun ss=>match ss with
    |k=>(if k=true then some (Stp.done (Sum.inr ((Ineq.mk [] (Big.mk false [])),false))) else (idx l a.Index).bind fun f=>(loopM (rApply_b2 N i a f) N (c,0)).bind fun ss=>match ss with
       |m=>(rMul N f.Bound a.N).bind fun n=>(rAdd N (Big.mk d e) n).bind fun g=>some (Stp.next (m,g.Negative,g.Digits,(iw (b+1))))) else some (Stp.done (Sum.inl (c,d,e))))
def rApply_b3(N:Nat)(s:Step)(d:Int):((List Big)×Int)→Option (Stp ((List Big)×Int) (Sum (List Big) (Ineq×Bool)))
 |(b,a)=>(if(a:Int)<d then (idx b a).bind fun e=>(rDivFloor N e s.Divisor).bind fun c=>(rSign N c.2.1).bind fun f=>(if(f:Int)≠0 then some (Stp.done (Sum.inr ((Ineq.mk [] (Big.mk false [])),false))) else (idx b a).bind fun i=>(upd1 b a c.1).bind fun g=>some (Stp.next (g,(iw (a+1))))) else some (Stp.done (Sum.inl b)))
def rApply(N:Nat)(l:(List Ineq))(s:Step):Option (Ineq×Bool):=(((rEven N l).bind fun c=>(if(!c)=true then some true else (rSign N s.Divisor).bind fun d=>some (decide ((d:Int)≤0))):Option Bool)).bind fun ss=>match ss with
  |e=>(if e=true then some ((Ineq.mk [] (Big.mk false [])),false) else (((if((List.length l:Int):Int)>0 then (idx l 0).bind fun f=>some (List.length f.Coefs:Int) else some 0):Option Int)).bind fun ss=>match ss with
     |a=>(rzero N a).bind fun b=>(loopM (rApply_b1 N l s a) N (b.Coefs,b.Bound.Negative,b.Bound.Digits,0)).bind fun ss=>match ss with
       |(Sum.inl (g,i,j))=>(loopM (rApply_b3 N s a) N (g,0)).bind fun ss=>match ss with
         |(Sum.inl k)=>(rDivFloor N (Big.mk i j) s.Divisor).bind fun m=>some ((Ineq.mk k m.1),true)
         |(Sum.inr n)=>some n
       |(Sum.inr o)=>some o)
def rBad_b1(N:Nat)(q:Ineq):Int→Option (Stp Int (Sum Unit Bool))
 |a=>(if(a:Int)<(List.length q.Coefs:Int)then (idx q.Coefs a).bind fun b=>(rSign N b).bind fun c=>(if(c:Int)≠0 then some (Stp.done (Sum.inr false)) else some (Stp.next (iw (a+1)))) else some (Stp.done (Sum.inl ())))
def rBad(N:Nat)(q:Ineq):Option Bool:=(loopM (rBad_b1 N q) N 0).bind fun ss=>match ss with
  |(Sum.inl _)=>(rSign N q.Bound).bind fun a=>some (decide ((a:Int)<0))
  |(Sum.inr b)=>some b
def rCheck_b1(N:Nat)(p:Proof):((List Ineq)×Int)→Option (Stp ((List Ineq)×Int) (Sum (List Ineq) Bool))
 |(a,b)=>(if(b:Int)<(List.length p.Steps:Int)then (idx p.Steps b).bind fun d=>(rApply N a d).bind fun c=>(if(!c.2)=true then some (Stp.done (Sum.inr false)) else (apnd 56 a [c.1]).bind fun e=>some (Stp.next (e,(iw (b+1))))) else some (Stp.done (Sum.inl a)))
def rCheck_b2(N:Nat)(b:(List Ineq)):Int→Option (Stp Int (Sum Unit Bool))
 |a=>(if(a:Int)<(List.length b:Int)then (idx b a).bind fun c=>(rBad N c).bind fun d=>(if d=true then some (Stp.done (Sum.inr true)) else some (Stp.next (iw (a+1)))) else some (Stp.done (Sum.inl ())))
def rCheck_step(N:Nat)(self:(List Ineq)→Proof→Option Bool)(l:(List Ineq))(p:Proof):Option Bool:=(rEven N l).bind fun r6=>(if(!r6)=true then some false else (apnd 56 ([]:(List Ineq)) l).bind fun b=>(loopM (rCheck_b1 N p) N (b,0)).bind fun ss=>match ss with
   |(Sum.inl a)=>(if((List.length p.Children:Int):Int)=0 then (loopM (rCheck_b2 N a) N 0).bind fun ss=>match ss with
      |(Sum.inl _)=>some false
      |(Sum.inr c)=>some c else (((if((List.length p.Children:Int):Int)≠2 then some true else (if((List.length a:Int):Int)>0 then (idx a 0).bind fun d=>some (decide (((List.length p.Form:Int):Int)≠(List.length d.Coefs:Int))) else some false)):Option Bool)).bind fun ss=>match ss with
      |e=>(if e=true then some false else (rNeg N p.Bound).bind fun f=>(rOf N 1).bind fun g=>(rSub N f g).bind fun i=>(rflip N (Ineq.mk p.Form p.Bound) i).bind fun j=>(apnd 56 ([]:(List Ineq)) a).bind fun k=>(apnd 56 k [(Ineq.mk p.Form p.Bound)]).bind fun m=>(apnd 56 ([]:(List Ineq)) a).bind fun n=>(apnd 56 n [j]).bind fun o=>(idx p.Children 0).bind fun q=>(self m q).bind fun s=>(if s=true then (idx p.Children 1).bind fun u=>(self o u).bind fun v=>some v else some false)))
   |(Sum.inr y)=>some y)
def rCheck:Nat→(List Ineq)→Proof→Option Bool
 |0=>fun _ _=>none
 |N+1=>rCheck_step N (rCheck N)
open Go Go.X
def OkB(K:Nat)(x:Big):Prop:=InB W32 x.Digits∧x.Digits.length≤K
abbrev big0:Big:=⟨false,[]⟩
theorem Tm.each{α β:Type}{body:Nat→Int→Option (Stp Int (Sum Unit β))}(xs:List α)(P:α→Prop){Q:Sum Unit β→Prop}(hl:xs.length≤9223372036854775807)
 (step:∀(n:Nat) (hn:n<xs.length),(∀j,(hj:j<xs.length)→j<n→P xs[j])→Tm (fun N=>body N (n:Int)) (fun t=>(t=.next (iw ((n:Int)+1))∧P xs[n])∨(∃b,t=.done (.inr b)∧Q (.inr b))))
 (fin:(∀x∈xs,P x)→Tm (fun N=>body N (xs.length:Int)) (fun t=>∃r,t=.done r∧Q r)):Tm (fun N=>loopM (body N) N 0) Q:=by
 refine Tm.loop (fun i:Int=>∃n:Nat,i=n∧n≤xs.length∧∀j,(hj:j<xs.length)→j<n→P xs[j]) (fun i:Int=>xs.length-i.toNat) ⟨0,rfl,Nat.zero_le _,fun _ _ h=>absurd h (by omega)⟩ ?_;rintro _ ⟨n,rfl,hn,hP⟩;rcases Nat.lt_or_ge n xs.length with h|h
 · refine(step n h hP).mono ?_;rintro t (⟨rfl,hp⟩|⟨b,rfl,hq⟩)
   · refine⟨⟨n+1,by rw[iw_eq]<;>omega,by omega,fun j hj hlt=>?_⟩,?_⟩
     · rcases Nat.lt_or_ge j n with h'|h'
       · exact hP j hj h'
       · obtain rfl:j=n:=by omega
         exact hp
     · show xs.length-(iw ((n:Int)+1)).toNat<xs.length-((n:Int)).toNat;rw[iw_eq]<;>omega
   · exact hq
 · obtain rfl:n=xs.length:=by omega
   refine(fin fun x hx=>?_).mono ?_
   · obtain⟨j,hj,rfl⟩:=List.mem_iff_getElem.1 hx;exact hP j hj hj
   · rintro t ⟨r,rfl,hq⟩;exact hq
theorem getDb{l:List Big}{n:Nat}(h:n<l.length):l.getD n big0=l[n]:=by rw[List.getD_eq_getElem?_getD,List.getElem?_eq_getElem h];rfl
theorem sgn_neg{a:Int}:sgn a 0<0↔a<0:=by unfold sgn;(repeat' split)<;>omega
open Go Go.X
def RightP(c:Constraint)(n:Int):Prop:=(∀i,(h:i<c.Linear.Coefs.length)→0≤c.Linear.Coefs[i].Var∧c.Linear.Coefs[i].Var<n∧(∀(_:0<i),(c.Linear.Coefs[i-1]'(by omega)).Var<c.Linear.Coefs[i].Var))∧0≤n∧n≤512
theorem cvalid_tm{c:Constraint}{n:Int}(hl:c.Linear.Coefs.length≤9223372036854775807):Tm (fun N=>cvalid N c n) (fun r=>r=true↔RightP c n):=by
 unfold cvalid;generalize hcs:c.Linear.Coefs=cs at hl;have hR:RightP c n↔((∀i,(h:i<cs.length)→0≤cs[i].Var∧cs[i].Var<n∧(∀(_:0<i),(cs[i-1]'(by omega)).Var<cs[i].Var))∧0≤n∧n≤512):=by subst hcs;rfl
 refine Tm.bind (Tm.loop (fun s:Int×Int=>∃k:Nat,s.2=k∧k≤cs.length∧(k=0→s.1=-1)∧(∀h:0<k∧k-1<cs.length,s.1=cs[k-1].Var)∧∀i,(h:i<cs.length)→i<k→0≤cs[i].Var∧cs[i].Var<n∧(∀(_:0<i),(cs[i-1]'(by omega)).Var<cs[i].Var)) (fun s=>cs.length-s.2.toNat)
  (Q:=fun r=>(r=.inl ()∧∀i,(h:i<cs.length)→0≤cs[i].Var∧cs[i].Var<n∧(∀(_:0<i),(cs[i-1]'(by omega)).Var<cs[i].Var))∨(r=.inr false∧¬RightP c n)) ⟨0,rfl,Nat.zero_le _,fun _=>rfl,fun h=>absurd h.1 (by omega),fun i _ h=>absurd h (by omega)⟩ ?_) ?_
 · rintro⟨last,i⟩ ⟨k,rfl,hk,h0,h1,hP⟩;dsimp only[cvalid_b1]at*;rw[hcs];refine Tm.ite (fun h=>?_) (fun h=>Tm.pure (.inl ⟨rfl,fun i hi=>hP i hi (by omega)⟩));have hkl:k<cs.length:=by omega
   refine Tm.step (idx_ok hkl) (Tm.bind (Q:=(·=decide (cs[k].Var≤last∨cs[k].Var≥n))) (Tm.ite (fun h=>Tm.pure ?_) (fun h=>Tm.pure ?_)) ?_)
   · simp[h]
   · simp[h]
   rintro _ rfl;refine Tm.ite (fun h=>Tm.pure (.inr ⟨rfl,fun hr=>?_⟩)) (fun h=>Tm.pure ⟨⟨k+1,by dsimp only;rw[iw_eq]<;>omega,by omega,fun h=>by omega,fun _=>rfl,fun i hi hik=>?_⟩,?_⟩)
   · have h:=of_decide_eq_true h;have:=(hR.1 hr).1 k hkl;rcases Nat.eq_zero_or_pos k with h'|h'
     · have:=h0 h';omega
     · have h2:=this.2.2 h';have h3:=h1 ⟨h',by omega⟩;omega
   · have h:¬(cs[k].Var≤last∨cs[k].Var≥n):=fun e=>h (decide_eq_true e);rcases Nat.lt_or_ge i k with h'|h'
     · exact hP i hi h'
     · obtain rfl:i=k:=by omega
       rcases Nat.eq_zero_or_pos i with h'|h'
       · have:=h0 h';exact⟨by omega,by omega,fun e=>by omega⟩
       · have h3:=h1 ⟨h',by omega⟩;have h4:=hP (i-1) (by omega) (by omega);exact⟨by omega,by omega,fun _=>by omega⟩
   · show cs.length-(iw ((k:Int)+1)).toNat<cs.length-((k:Int)).toNat;rw[iw_eq]<;>omega
 · rintro _ (⟨rfl,h⟩|⟨rfl,h⟩)
   · refine Tm.ite (fun h1=>Tm.pure ?_) (fun h1=>Tm.pure ?_)
     · rw[hR];simp only[decide_eq_true_eq];exact⟨fun h2=>⟨h,by omega,h2⟩,fun h2=>h2.2.2⟩
     · rw[hR];exact⟨fun h2=>(by cases h2),fun h2=>absurd h2.2.1 (by omega)⟩
   · exact Tm.pure ⟨fun h'=>(by cases h'),fun h'=>absurd h' h⟩
theorem rRight_tm{c:Constraint}{n:Int}(hl:c.Linear.Coefs.length≤9223372036854775807):Tm (fun N=>rRight N c n) (fun r=>r=true↔RightP c n):=by
 unfold rRight;generalize hcs:c.Linear.Coefs=cs at hl;have hR:RightP c n↔((∀i,(h:i<cs.length)→0≤cs[i].Var∧cs[i].Var<n∧(∀(_:0<i),(cs[i-1]'(by omega)).Var<cs[i].Var))∧0≤n∧n≤512):=by subst hcs;rfl
 refine Tm.bind (Tm.loop (fun s:Int=>∃k:Nat,s=k∧k≤cs.length∧∀i,(h:i<cs.length)→i<k→0≤cs[i].Var∧cs[i].Var<n∧(∀(_:0<i),(cs[i-1]'(by omega)).Var<cs[i].Var)) (fun s=>cs.length-s.toNat)
  (Q:=fun r=>(r=.inl ()∧∀i,(h:i<cs.length)→0≤cs[i].Var∧cs[i].Var<n∧(∀(_:0<i),(cs[i-1]'(by omega)).Var<cs[i].Var))∨(r=.inr false∧¬RightP c n)) ⟨0,rfl,Nat.zero_le _,fun i _ h=>absurd h (by omega)⟩ ?_) ?_
 · rintro _ ⟨k,rfl,hk,hP⟩;dsimp only[rRight_b1]at*;rw[hcs];refine Tm.ite (fun h=>?_) (fun h=>Tm.pure (.inl ⟨rfl,fun i hi=>hP i hi (by omega)⟩));have hkl:k<cs.length:=by omega
   refine Tm.step (idx_ok hkl) (Tm.bind (Q:=fun r=>r=true↔¬(0≤cs[k].Var∧cs[k].Var<n∧(∀(_:0<k),(cs[k-1]'(by omega)).Var<cs[k].Var))) (Tm.ite (fun h=>Tm.pure ?_) (fun h=>Tm.ite (fun h'=>Tm.pure ?_) (fun h'=>Tm.ite (fun h2=>?_) (fun h2=>Tm.pure ?_)))) ?_)
   · exact⟨fun _ e=>by omega,fun _=>rfl⟩
   · exact⟨fun _ e=>by omega,fun _=>rfl⟩
   · refine Tm.step (idx_i (n:=k-1) (by rw[iw_eq]<;>omega) (by omega)) (Tm.pure ?_);simp only[decide_eq_true_eq];exact⟨fun e e'=>by have:=e'.2.2 (by omega);omega,fun e=>by
      rcases Int.lt_or_le (cs[k-1]'(by omega)).Var cs[k].Var with e'|e'
      · exact absurd ⟨by omega,by omega,fun _=>e'⟩ e
      · exact e'⟩
   · exact⟨fun e=>(by cases e),fun e=>absurd ⟨by omega,by omega,fun e'=>absurd e' (by omega)⟩ e⟩
   intro r hr;refine Tm.ite (fun h=>Tm.pure (.inr ⟨rfl,fun hr'=>hr.1 h ((hR.1 hr').1 k hkl)⟩)) (fun hf=>Tm.pure ⟨⟨k+1,by rw[iw_eq]<;>omega,by omega,fun i hi hik=>?_⟩,?_⟩)
   · rcases Nat.lt_or_ge i k with h'|h'
     · exact hP i hi h'
     · obtain rfl:i=k:=by omega
       exact Classical.byContradiction fun e=>hf (hr.2 e)
   · show cs.length-(iw ((k:Int)+1)).toNat<cs.length-((k:Int)).toNat;rw[iw_eq]<;>omega
 · rintro _ (⟨rfl,h⟩|⟨rfl,h⟩)
   · refine Tm.ite (fun h1=>Tm.pure ?_) (fun h1=>Tm.pure ?_)
     · rw[hR];simp only[decide_eq_true_eq];exact⟨fun h2=>⟨h,by omega,h2⟩,fun h2=>h2.2.2⟩
     · rw[hR];exact⟨fun h2=>(by cases h2),fun h2=>absurd h2.2.1 (by omega)⟩
   · exact Tm.pure ⟨fun h'=>(by cases h'),fun h'=>absurd h' h⟩
def I64(z:Int):Prop:=-9223372036854775808≤z∧z≤9223372036854775807
structure OkC (c:Constraint):Prop where
 len:c.Linear.Coefs.length≤9223372036854775807
 const:I64 c.Linear.Const
 coef:∀k∈c.Linear.Coefs,I64 k.N
end Go.D
namespace Go.Proofs.YtipdkfmhfakbnaaGreatDoor.TB
open Go Go.RowKit Go.X Go.Q
instance:Tabs:=⟨[0],fun _ o=>∃t fr,o=.cells (Lib.pow10Tab.map fun z=>Value.int .u64 z).toArray t fr⟩
theorem tab_is{w:World}(h:∀g∈Tabs.l,∃o,w.heap[g]?=some o∧Tabs.p g o):Lib.TabIs Tryz.prog w "internal/strconv.uint64pow10" .u64 Lib.pow10Tab:=by
 obtain⟨o,h1,t,fr,rfl⟩:=h 0 (List.mem_singleton.2 rfl);unfold Lib.TabIs World.var?;rw[show Program.globalNamed Tryz.prog "internal/strconv.uint64pow10"=some 0 by kernel_rfl];simp[h1]
theorem tab_of{w:World}(h:Lib.TabIs Tryz.prog w "internal/strconv.uint64pow10" .u64 Lib.pow10Tab):∀g∈Tabs.l,∃o,w.heap[g]?=some o∧Tabs.p g o:=by
 intro g hg;obtain rfl:=List.mem_singleton.1 hg;unfold Lib.TabIs World.var? at h;rw[show Program.globalNamed Tryz.prog "internal/strconv.uint64pow10"=some 0 by kernel_rfl]at h;simp only[Option.bind_some]at h;cases ho:w.heap[0]?with
 |none=>rw[ho]at h;cases h
 |some o=>
  rw[ho]at h;cases o with
  |cells cs t fr=>exact⟨_,rfl,t,fr,by rw[Option.some.inj h]⟩
  |_=>cases h
end Go.Proofs.YtipdkfmhfakbnaaGreatDoor.TB
namespace Go.D
open Go Go.X
def oValue_b1(N:Nat)(f:Linear)(x:(List Big)):(Big×Int)→Option (Stp (Big×Int) Big)
 |(b,a)=>(if(a:Int)<(List.length f.Coefs:Int)then (idx f.Coefs a).bind fun c=>(rOf N c.N).bind fun d=>(idx f.Coefs a).bind fun e=>(idx x e.Var).bind fun g=>(rMul N d g).bind fun i=>(rAdd N b i).bind fun j=>some (Stp.next (j,(iw (a+1)))) else some (Stp.done b))
def oValue(N:Nat)(f:Linear)(x:(List Big)):Option Big:=(rOf N f.Const).bind fun a=>(loopM (oValue_b1 N f x) N (a,0)).bind fun ss=>match ss with
  |b=>some b
def oSatisfies_b1(N:Nat)(l:(List Constraint))(x:(List Big)):Int→Option (Stp Int (Sum Unit Bool))
 |a=>(if(a:Int)<(List.length l:Int)then (idx l a).bind fun c=>(oValue N c.Linear x).bind fun d=>(rSign N d).bind fun b=>(((if(b:Int)>0 then some true else (if(b:Int)<0 then (idx l a).bind fun e=>some e.Equal else some false)):Option Bool)).bind fun ss=>match ss with
    |f=>(if f=true then some (Stp.done (Sum.inr false)) else some (Stp.next (iw (a+1)))) else some (Stp.done (Sum.inl ())))
def oSatisfies(N:Nat)(l:(List Constraint))(x:(List Big)):Option Bool:=(loopM (oSatisfies_b1 N l x) N 0).bind fun ss=>match ss with
  |(Sum.inl _)=>some true
  |(Sum.inr a)=>some a
def oRight_b1(N:Nat)(l:(List Constraint))(n:Int):Int→Option (Stp Int (Sum Unit Bool))
 |a=>(if(a:Int)<(List.length l:Int)then (idx l a).bind fun b=>(rRight N b n).bind fun c=>(if(!c)=true then some (Stp.done (Sum.inr false)) else some (Stp.next (iw (a+1)))) else some (Stp.done (Sum.inl ())))
def oRight(N:Nat)(n:Int)(l:(List Constraint)):Option Bool:=(loopM (oRight_b1 N l n) N 0).bind fun ss=>match ss with
  |(Sum.inl _)=>(if(n:Int)≥0 then some (decide ((n:Int)≤512)) else some false)
  |(Sum.inr a)=>some a
def oRefutes(N:Nat)(n:Int)(l:(List Constraint))(p:Proof):Option Bool:=(rSystem N l n).bind fun r6=>(rCheck N r6 p).bind fun a=>some a
open Go Go.X
def cloneBig(N:Nat)(s:(List Big)):Option (List Big):=(apnd 32 ([]:(List Big)) s).bind fun a=>some a
def cloneItem(N:Nat)(s:(List OItem)):Option (List OItem):=(apnd 32 ([]:(List OItem)) s).bind fun a=>some a
def cloneRows(N:Nat)(s:(List (List Big))):Option (List (List Big)):=(apnd 24 ([]:(List (List Big))) s).bind fun a=>some a
def cloneInt(N:Nat)(s:(List Int)):Option (List Int):=(apnd 8 ([]:(List Int)) s).bind fun a=>some a
def clipStep(N:Nat)(s:(List Step)):Option (List Step):= some s
def clipElim(N:Nat)(s:(List OElim)):Option (List OElim):= some s
def indexCons_b1(N:Nat)(f:(Constraint→Option Bool))(s:(List Constraint)):Int→Option (Stp Int (Sum Unit Int))
 |a=>(if(a:Int)<(List.length s:Int)then (idx s a).bind fun b=>(f b).bind fun c=>(if c=true then some (Stp.done (Sum.inr a)) else some (Stp.next (iw (a+1)))) else some (Stp.done (Sum.inl ())))
def indexCons(N:Nat)(s:(List Constraint))(f:(Constraint→Option Bool)):Option Int:=(loopM (indexCons_b1 N f s) N 0).bind fun ss=>match ss with
  |(Sum.inl _)=>some (-1)
  |(Sum.inr a)=>some a
def containsCons(N:Nat)(s:(List Constraint))(f:(Constraint→Option Bool)):Option Bool:=(indexCons N s f).bind fun r1=>some (decide ((r1:Int)≥0))
def indexItem_b1(N:Nat)(f:(OItem→Option Bool))(s:(List OItem)):Int→Option (Stp Int (Sum Unit Int))
 |a=>(if(a:Int)<(List.length s:Int)then (idx s a).bind fun b=>(f b).bind fun c=>(if c=true then some (Stp.done (Sum.inr a)) else some (Stp.next (iw (a+1)))) else some (Stp.done (Sum.inl ())))
def indexItem(N:Nat)(s:(List OItem))(f:(OItem→Option Bool)):Option Int:=(loopM (indexItem_b1 N f s) N 0).bind fun ss=>match ss with
  |(Sum.inl _)=>some (-1)
  |(Sum.inr a)=>some a
def containsItem(N:Nat)(s:(List OItem))(f:(OItem→Option Bool)):Option Bool:=(indexItem N s f).bind fun r1=>some (decide ((r1:Int)≥0))
def equalBig_b1(N:Nat)(eq:(Big→Big→Option Bool))(pb:(List Big))(s:(List Big)):Int→Option (Stp Int (Sum Unit Bool))
 |a=>(if(a:Int)<(List.length s:Int)then (idx s a).bind fun b=>(idx pb a).bind fun c=>(eq b c).bind fun d=>(if(!d)=true then some (Stp.done (Sum.inr false)) else some (Stp.next (iw (a+1)))) else some (Stp.done (Sum.inl ())))
def equalBig(N:Nat)(s:(List Big))(pb:(List Big))(eq:(Big→Big→Option Bool)):Option Bool:=(if((List.length s:Int):Int)≠(List.length pb:Int)then some false else (loopM (equalBig_b1 N eq pb s) N 0).bind fun ss=>match ss with
   |(Sum.inl _)=>some true
   |(Sum.inr a)=>some a)
def deleteItem_b1(N:Nat)(del:(OItem→Option Bool)):((List OItem)×Int×Int)→Option (Stp ((List OItem)×Int×Int) ((List OItem)×Int))
 |(a,b,c)=>(if(c:Int)<(List.length a:Int)then ((((idx a c).bind fun d=>(del d).bind fun e=>(if(!e)=true then (idx a b).bind fun j=>(upd1 a b d).bind fun f=>some (f,(iw (b+1))) else some (a,b))):Option ((List OItem)×Int))).bind fun ss=>match ss with
    |(g,i)=>some (Stp.next (g,i,(iw (c+1)))) else some (Stp.done (a,b)))
def deleteItem(N:Nat)(s:(List OItem))(del:(OItem→Option Bool)):Option (List OItem):=(indexItem N s del).bind fun r1=>(if(r1:Int)=(-1)then some s else (loopM (deleteItem_b1 N del) N (s,r1,(iw (r1+1)))).bind fun ss=>match ss with
   |(a,b)=>(seg a b (List.length a:Int)).bind fun _=>(cut (clr a b (List.length a:Int) (OItem.mk 0 ([]:(List Big)))) 0 b).bind fun c=>some c)
def growItem(N:Nat)(n:Int):Option (List OItem):=(if(n:Int)<0 then none else ((((if((iw (n-(iw (0-0)))):Int)>0 then (apnd 32 [] (List.replicate (Int.toNat (iw (n-(iw (0-0))))) ((OItem.mk 0 ([]:(List Big))):OItem))).bind fun a=>(cut a 0 0).bind fun b=>some b else some ([]:(List OItem)))):Option (List OItem))).bind fun ss=>match ss with
   |s8=>some s8)
def concatItem_b1(N:Nat)(slices:(List (List OItem))):(Int×Int)→Option (Stp (Int×Int) Int)
 |(a,b)=>(if(b:Int)<(List.length slices:Int)then (idx slices b).bind fun c=>(if((iw (a+(List.length c:Int))):Int)<0 then none else some (Stp.next ((iw (a+(List.length c:Int))),(iw (b+1))))) else some (Stp.done a))
def concatItem_b2(N:Nat)(slices:(List (List OItem))):((List OItem)×Int)→Option (Stp ((List OItem)×Int) (List OItem))
 |(b,a)=>(if(a:Int)<(List.length slices:Int)then (idx slices a).bind fun c=>(apnd 32 b c).bind fun d=>some (Stp.next (d,(iw (a+1)))) else some (Stp.done b))
def concatItem(N:Nat)(slices:(List (List OItem))):Option (List OItem):=(loopM (concatItem_b1 N slices) N (0,0)).bind fun ss=>match ss with
  |a=>(growItem N a).bind fun b=>(loopM (concatItem_b2 N slices) N (b,0)).bind fun ss=>match ss with
    |c=>some c
open Go Go.X
def oValid_b2(N:Nat)(n:Int)(c:Constraint):(Int×Int)→Option (Stp (Int×Int) (Sum Unit Bool))
 |(d,a)=>(if(a:Int)<(List.length c.Linear.Coefs:Int)then (idx c.Linear.Coefs a).bind fun b=>(((if(b.Var:Int)≤d then some true else some (decide ((b.Var:Int)≥n))):Option Bool)).bind fun ss=>match ss with
    |e=>(if e=true then some (Stp.done (Sum.inr false)) else some (Stp.next (b.Var,(iw (a+1))))) else some (Stp.done (Sum.inl ())))
def oValid_b1(N:Nat)(l:(List Constraint))(n:Int):Int→Option (Stp Int (Sum Unit Bool))
 |a=>(if(a:Int)<(List.length l:Int)then (idx l a).bind fun b=>(loopM (oValid_b2 N n b) N ((-1),0)).bind fun ss=>match ss with
    |(Sum.inl _)=>some (Stp.next (iw (a+1)))
    |(Sum.inr c)=>some (Stp.done (Sum.inr c)) else some (Stp.done (Sum.inl ())))
def oValid(N:Nat)(n:Int)(l:(List Constraint)):Option Bool:=(((if(n:Int)<0 then some true else some (decide ((n:Int)>512))):Option Bool)).bind fun ss=>match ss with
  |x2=>(if x2=true then some false else (loopM (oValid_b1 N l n) N 0).bind fun ss=>match ss with
     |(Sum.inl _)=>some true
     |(Sum.inr a)=>some a)
def oSat1_b1(N:Nat)(c:Constraint)(c0:(List Big)):(Big×Int)→Option (Stp (Big×Int) Big)
 |(b,a)=>(if(a:Int)<(List.length c.Linear.Coefs:Int)then (idx c.Linear.Coefs a).bind fun d=>(bOf N d.N).bind fun e=>(idx c0 d.Var).bind fun f=>(bMul N e f).bind fun g=>(bAdd N b g).bind fun i=>some (Stp.next (i,(iw (a+1)))) else some (Stp.done b))
def oSat1(N:Nat)(c:Constraint)(c0:(List Big)):Option Bool:=(bOf N c.Linear.Const).bind fun r1=>(loopM (oSat1_b1 N c c0) N (r1,0)).bind fun ss=>match ss with
  |b=>(bSign N b).bind fun a=>(if(a:Int)>0 then some true else (if(a:Int)<0 then some c.Equal else some false))
def omSatisfies(N:Nat)(l:(List Constraint))(x:(List Big)):Option Bool:=(containsCons N l (fun y0=>oSat1 N y0 x)).bind fun r1=>some (!r1)
def ogcd_b1(N:Nat)(l:(List Big)):(Bool×(List Int)×Int)→Option (Stp (Bool×(List Int)×Int) (Bool×(List Int)))
 |(b,c,a)=>(if(a:Int)<(List.length l:Int)then (idx l a).bind fun e=>(bGCD N (Big.mk b c) e).bind fun d=>some (Stp.next (d.Negative,d.Digits,(iw (a+1)))) else some (Stp.done (b,c)))
def ogcd(N:Nat)(l:(List Big)):Option Big:=(loopM (ogcd_b1 N l) N (false,[],0)).bind fun ss=>match ss with
  |(a,b)=>some (Big.mk a b)
def onegative_b1(N:Nat)(l:(List Big)):((List Big)×Int)→Option (Stp ((List Big)×Int) (List Big))
 |(b,a)=>(if(a:Int)<(List.length l:Int)then (idx l a).bind fun c=>(bNeg N c).bind fun d=>(idx b a).bind fun f=>(upd1 b a d).bind fun e=>some (Stp.next (e,(iw (a+1)))) else some (Stp.done b))
def onegative(N:Nat)(l:(List Big)):Option (List Big):=(mk1 (α:=Big) 32 (Big.mk false []) (List.length l:Int)).bind fun x2=>(loopM (onegative_b1 N l) N (x2,0)).bind fun ss=>match ss with
  |a=>some a
def okey_b1(N:Nat)(g:(List Big)):((List (List UInt8))×Int)→Option (Stp ((List (List UInt8))×Int) (List (List UInt8)))
 |(b,a)=>(if(a:Int)<(List.length g:Int)then (idx g a).bind fun c=>(bFormat N c).bind fun d=>(apnd 16 b [d]).bind fun e=>some (Stp.next (e,(iw (a+1)))) else some (Stp.done b))
def okey(N:Nat)(g:(List Big)):Option (List UInt8):=(loopM (okey_b1 N g) N (([]:(List (List UInt8))),0)).bind fun ss=>match ss with
  |a=>(joinStr N a ([32]:List UInt8)).bind fun b=>some b
def oslack_b1(N:Nat)(pa:Int)(ups:(List OItem)):(Big×Int)→Option (Stp (Big×Int) Big)
 |(b,a)=>(if(a:Int)<(List.length ups:Int)then (idx ups a).bind fun c=>(idx c.g pa).bind fun d=>(bCompare N d b).bind fun e=>(if(e:Int)>0 then (idx c.g pa).bind fun f=>some (Stp.next (f,(iw (a+1)))) else some (Stp.next (b,(iw (a+1))))) else some (Stp.done b))
def oslack(N:Nat)(pa:Int)(low:OItem)(ups:(List OItem)):Option Big:=(idx ups 0).bind fun c=>(idx c.g pa).bind fun d=>(loopM (oslack_b1 N pa ups) N (d,0)).bind fun ss=>match ss with
  |a=>(idx low.g pa).bind fun e=>(bNeg N e).bind fun b=>(bMul N a b).bind fun f=>(bSub N f a).bind fun i=>(bSub N i b).bind fun j=>(bDivFloor N j a).bind fun k=>some k.1
def osingle_b1(N:Nat)(x:OItem):(Int×Int×Int)→Option (Stp (Int×Int×Int) (Int×Int))
 |(c,b,a)=>(if(a:Int)<(List.length x.g:Int)then (idx x.g a).bind fun d=>(bSign N d).bind fun e=>(if(e:Int)≠0 then some (Stp.next (a,(iw (b+1)),(iw (a+1)))) else some (Stp.next (c,b,(iw (a+1))))) else some (Stp.done (c,b)))
def osingle(N:Nat)(x:OItem):Option (Int×Bool):=(loopM (osingle_b1 N x) N (0,0,0)).bind fun ss=>match ss with
  |(a,b)=>some (a,(decide ((b:Int)=1)))
def oreplaced_b1(N:Nat)(pb:Int)(pc:Int)(r1:(List OItem)):((List OItem)×Int)→Option (Stp ((List OItem)×Int) (List OItem))
 |(b,a)=>(if(a:Int)<(List.length r1:Int)then (idx b a).bind fun c=>(if(c.pos:Int)=pb then (idx b a).bind fun d=>(upd1 b a (OItem.mk pc d.g)).bind fun e=>some (Stp.next (e,(iw (a+1)))) else some (Stp.next (b,(iw (a+1))))) else some (Stp.done b))
def oreplaced(N:Nat)(l:(List OItem))(pb:Int)(pc:Int):Option (List OItem):=(cloneItem N l).bind fun r1=>(loopM (oreplaced_b1 N pb pc r1) N (r1,0)).bind fun ss=>match ss with
  |a=>some a
def ounit(N:Nat)(n:Int)(pb:Int)(sign:Int)(bound:Big):Option Ineq:=(mk1 (α:=Big) 32 (Big.mk false []) n).bind fun a=>(bOf N sign).bind fun b=>(idx a pb).bind fun d=>(upd1 a pb b).bind fun c=>some (Ineq.mk c bound)
def oadd1(N:Nat)(a:Big)(b:Big):Option Bool:=(bCompare N a b).bind fun c=>some (decide ((c:Int)=0))
def oisolate1(N:Nat)(x:Big):Option Big:= some (Big.mk false x.Digits)
def oexact1(N:Nat)(x:OItem)(ca:Int)(cb:(List OItem)):Option Bool:=(oslack N ca x cb).bind fun r8=>(bSign N r8).bind fun a=>some (decide ((a:Int)≥0))
def odrop1(N:Nat)(x:OItem)(ca:Int):Option Bool:=(idx x.g ca).bind fun x7=>(bSign N x7).bind fun a=>some (decide ((a:Int)≠0))
open Go Go.X
def obound(N:Nat)(s:OState)(x:OItem):Option Big:=(idx s.known x.pos).bind fun x1=>some x1.Bound
def oboundR(N:Nat)(s:OState)(x:OItem):Option Big:=(idx s.known x.pos).bind fun x1=>some x1.Bound
def osum_b2(N:Nat)(Coefs138:(List Big))(b:Ineq)(c:Use):((List Big)×Int)→Option (Stp ((List Big)×Int) (List Big))
 |(Coefs375,a)=>(if(a:Int)<(List.length Coefs138:Int)then (idx Coefs375 a).bind fun d=>(idx b.Coefs a).bind fun e=>(bMul N c.N e).bind fun f=>(bAdd N d f).bind fun g=>(idx Coefs375 a).bind fun j=>(upd1 Coefs375 a g).bind fun i=>some (Stp.next (i,(iw (a+1)))) else some (Stp.done Coefs375))
def osum_b1(N:Nat)(s:OState)(uses:(List Use)):((List Big)×Big×Int)→Option (Stp ((List Big)×Big×Int) ((List Big)×Big))
 |(Coefs138,Bound139,a)=>(if(a:Int)<(List.length uses:Int)then (idx uses a).bind fun b=>(idx s.known b.Index).bind fun c=>(loopM (osum_b2 N Coefs138 c b) N (Coefs138,0)).bind fun ss=>match ss with
    |Coefs397=>(bMul N b.N c.Bound).bind fun d=>(bAdd N Bound139 d).bind fun e=>some (Stp.next (Coefs397,e,(iw (a+1)))) else some (Stp.done (Coefs138,Bound139)))
def osum_b3(N:Nat)(d:Big)(Coefs280:(List Big)):((List Big)×Int)→Option (Stp ((List Big)×Int) (List Big))
 |(Coefs434,a)=>(if(a:Int)<(List.length Coefs280:Int)then (idx Coefs434 a).bind fun b=>(bDivFloor N b d).bind fun c=>(idx Coefs434 a).bind fun f=>(upd1 Coefs434 a c.1).bind fun e=>some (Stp.next (e,(iw (a+1)))) else some (Stp.done Coefs434))
def osum(N:Nat)(s:OState)(uses:(List Use))(d:Big):Option Ineq:=(mk1 (α:=Big) 32 (Big.mk false ([]:(List Int))) s.n).bind fun x1=>(loopM (osum_b1 N s uses) N (x1,(Big.mk false ([]:(List Int))),0)).bind fun ss=>match ss with
  |(Coefs280,Bound281)=>(loopM (osum_b3 N d Coefs280) N (Coefs280,0)).bind fun ss=>match ss with
    |Coefs452=>(bDivFloor N Bound281 d).bind fun a=>some (Ineq.mk Coefs452 a.1)
def oderive_b1(N:Nat)(g:(List Big))(d6:Big):((List Big)×Int)→Option (Stp ((List Big)×Int) (List Big))
 |(b,a)=>(if(a:Int)<(List.length g:Int)then (idx g a).bind fun c=>(bDivFloor N c d6).bind fun d=>(idx b a).bind fun f=>(upd1 b a d.1).bind fun e=>some (Stp.next (e,(iw (a+1)))) else some (Stp.done b))
def oderive(N:Nat)(s:OState)(g:(List Big))(uses:(List Use)):Option (OItem×Bool×Bool×OState):=(ogcd N g).bind fun r1=>(bSign N r1).bind fun r2=>((((if¬((r2:Int)≠0)then (bOf N 1).bind fun j=>some j else some r1)):Option Big)).bind fun ss=>match ss with
  |d6=>(bOf N 1).bind fun a=>((((if((List.length uses:Int):Int)>1 then some true else (idx uses 0).bind fun k=>(bCompare N k.N a).bind fun l=>(if(l:Int)≠0 then some true else (bCompare N d6 a).bind fun m=>some (decide ((m:Int)≠0))))):Option Bool)).bind fun ss=>match ss with
    |o=>((((if o=true then (apnd 56 s.steps [(Step.mk uses d6)]).bind fun f=>(osum N (OState.mk s.n s.known f s.u s.status s.value s.items s.stack) uses d6).bind fun p=>(apnd 56 s.known [p]).bind fun i=>some (i,f,[(Use.mk (iw ((List.length i:Int)-1)) a)]) else some (s.known,s.steps,uses))):Option ((List Ineq)×(List Step)×(List Use)))).bind fun ss=>match ss with
      |(b,c,q)=>(idx q 0).bind fun d=>(mk1 (α:=Big) 32 (Big.mk false ([]:(List Int))) s.n).bind fun v=>(loopM (oderive_b1 N g d6) N (v,0)).bind fun ss=>match ss with
        |e=>(if(r2:Int)≠0 then some ((OItem.mk d.Index e),(decide ((r2:Int)≠0)),true,(OState.mk s.n b c s.u s.status s.value s.items s.stack)) else (obound N (OState.mk s.n b c s.u s.status s.value s.items s.stack) (OItem.mk d.Index e)).bind fun y=>(bSign N y).bind fun a0=>some ((OItem.mk d.Index e),(decide ((r2:Int)≠0)),(decide ((a0:Int)≥0)),(OState.mk s.n b c s.u s.status s.value s.items s.stack)))
def oadd_b1(N:Nat)(s:OState)(x:OItem):Int→Option (Stp Int (Sum Unit OState))
 |a=>(if(a:Int)<(List.length s.items:Int)then (idx s.items a).bind fun b=>(equalBig N x.g b.g (fun y0 y1=>oadd1 N y0 y1)).bind fun c=>(if c=true then (obound N s x).bind fun d=>(obound N s b).bind fun e=>(bCompare N d e).bind fun f=>(if(f:Int)<0 then (idx s.items a).bind fun j=>(upd1 s.items a x).bind fun i=>some (Stp.done (Sum.inr (OState.mk s.n s.known s.steps s.u s.status s.value i s.stack))) else some (Stp.done (Sum.inr s))) else some (Stp.next (iw (a+1)))) else some (Stp.done (Sum.inl ())))
def oadd(N:Nat)(s:OState)(x:OItem):Option OState:=(loopM (oadd_b1 N s x) N 0).bind fun ss=>match ss with
  |(Sum.inl _)=>(apnd 32 s.items [x]).bind fun a=>some (OState.mk s.n s.known s.steps s.u s.status s.value a s.stack)
  |(Sum.inr z)=>some z
def oput(N:Nat)(s:OState)(g:(List Big))(uses:(List Use)):Option (Bool×OState):=(oderive N s g uses).bind fun r1=>((((if r1.2.1=true then (oadd N (OState.mk s.n r1.2.2.2.known r1.2.2.2.steps r1.2.2.2.u r1.2.2.2.status r1.2.2.2.value r1.2.2.2.items r1.2.2.2.stack) r1.1).bind fun a=>some (a.known,a.steps,a.u,a.status,a.value,a.items,a.stack) else some (r1.2.2.2.known,r1.2.2.2.steps,r1.2.2.2.u,r1.2.2.2.status,r1.2.2.2.value,r1.2.2.2.items,r1.2.2.2.stack))):Option ((List Ineq)×(List Step)×(List (List Big))×(List Int)×(List Big)×(List OItem)×(List OElim)))).bind fun ss=>match ss with
  |(known5,steps6,u7,status8,value9,b,c)=>some (r1.2.2.1,(OState.mk s.n known5 steps6 u7 status8 value9 b c))
def obegin_b1(N:Nat)(s:OState):((List Ineq)×(List Step)×(List (List Big))×(List Int)×(List Big)×(List OItem)×(List OElim)×Int)→Option (Stp ((List Ineq)×(List Step)×(List (List Big))×(List Int)×(List Big)×(List OItem)×(List OElim)×Int) (Sum ((List Ineq)×(List Step)×(List (List Big))×(List Int)×(List Big)×(List OItem)×(List OElim)) (Bool×OState)))
 |(c,d,e,f,g,i,j,b)=>(if(b:Int)<(List.length s.known:Int)then (idx c b).bind fun k=>(cloneBig N k.Coefs).bind fun l=>(bOf N 1).bind fun m=>(oput N (OState.mk s.n c d e f g i j) l [(Use.mk b m)]).bind fun a=>(if(!a.1)=true then some (Stp.done (Sum.inr (false,(OState.mk s.n a.2.known a.2.steps a.2.u a.2.status a.2.value a.2.items a.2.stack)))) else some (Stp.next (a.2.known,a.2.steps,a.2.u,a.2.status,a.2.value,a.2.items,a.2.stack,(iw (b+1))))) else some (Stp.done (Sum.inl (c,d,e,f,g,i,j))))
def obegin(N:Nat)(s:OState):Option (Bool×OState):=(loopM (obegin_b1 N s) N (s.known,s.steps,s.u,s.status,s.value,s.items,s.stack,0)).bind fun ss=>match ss with
  |(Sum.inl (a,b,c,d,e,f,g))=>some (true,(OState.mk s.n a b c d e f g))
  |(Sum.inr z)=>some z
def opair_b1(N:Nat)(s:OState):((List ((List UInt8)×Int))×Int)→Option (Stp ((List ((List UInt8)×Int))×Int) (List ((List UInt8)×Int)))
 |(b,a)=>(if(a:Int)<(List.length s.items:Int)then (idx s.items a).bind fun c=>(okey N c.g).bind fun d=>some (Stp.next ((mput b d a),(iw (a+1)))) else some (Stp.done b))
def opair_b2(N:Nat)(s:OState)(b:(List ((List UInt8)×Int))):Int→Option (Stp Int (Sum Unit (Int×Int×Bool×Bool×OState)))
 |c=>(if(c:Int)<(List.length s.items:Int)then ((((idx s.items c).bind fun e=>(onegative N e.g).bind fun i=>(okey N i).bind fun d=>((((if(!(mget b d 0).2)=true then some true else some (decide ((((mget b d 0).1):Int)<c)))):Option Bool)).bind fun ss=>match ss with
    |j=>(if j=true then some (Sum.inl ()) else (obound N s e).bind fun k=>(idx s.items ((mget b d 0).1)).bind fun l=>(obound N s l).bind fun m=>(bAdd N k m).bind fun o=>(bSign N o).bind fun f=>(if(f:Int)=(-1)then (mk1 (α:=Big) 32 (Big.mk false ([]:(List Int))) s.n).bind fun p=>(bOf N 1).bind fun q=>(idx s.items ((mget b d 0).1)).bind fun v=>(bOf N 1).bind fun y=>(oput N s p [(Use.mk e.pos q),(Use.mk v.pos y)]).bind fun a=>some (Sum.inr (0,0,false,false,(OState.mk s.n a.2.known a.2.steps a.2.u a.2.status a.2.value a.2.items a.2.stack))) else (if(f:Int)=0 then some (Sum.inr (c,(mget b d 0).1,true,true,s)) else some (Sum.inl ()))))):Option (Sum Unit (Int×Int×Bool×Bool×OState)))).bind fun ss=>match ss with
    |(Sum.inl _)=>some (Stp.next (iw (c+1)))
    |(Sum.inr z)=>some (Stp.done (Sum.inr z)) else some (Stp.done (Sum.inl ())))
def opair(N:Nat)(s:OState):Option (Int×Int×Bool×Bool×OState):=(loopM (opair_b1 N s) N (([]:(List ((List UInt8)×Int))),0)).bind fun ss=>match ss with
  |a=>(loopM (opair_b2 N s a) N 0).bind fun ss=>match ss with
    |(Sum.inl _)=>some (0,0,false,true,s)
    |(Sum.inr z)=>some z
def oshift1(N:Nat)(l:(List Big))(c0:Int)(c1:Big)(c2:Int):Option (List Big):=(cloneBig N l).bind fun r1=>(idx r1 c0).bind fun x2=>(idx r1 c2).bind fun x3=>(bMul N c1 x3).bind fun r4=>(bSub N x2 r4).bind fun r5=>(idx r1 c0).bind fun x6=>(upd1 r1 c0 r5).bind fun x7=>some x7
def oflip1(N:Nat)(l:(List Big))(c0:Int):Option (List Big):=(cloneBig N l).bind fun r1=>(idx r1 c0).bind fun x2=>(bNeg N x2).bind fun r3=>(idx r1 c0).bind fun x4=>(upd1 r1 c0 r3).bind fun x5=>some x5
def oshift_b1(N:Nat)(s:OState)(j:Int)(p:Int)(q:Big):((List (List Big))×Int)→Option (Stp ((List (List Big))×Int) (List (List Big)))
 |(b,a)=>(if(a:Int)<(List.length s.u:Int)then (idx b a).bind fun c=>((fun y0=>oshift1 N y0 j q p) c).bind fun d=>(idx b a).bind fun f=>(upd1 b a d).bind fun e=>some (Stp.next (e,(iw (a+1)))) else some (Stp.done b))
def oshift_b2(N:Nat)(s:OState)(j:Int)(p:Int)(q:Big):((List OItem)×Int)→Option (Stp ((List OItem)×Int) (List OItem))
 |(b,a)=>(if(a:Int)<(List.length s.items:Int)then (idx b a).bind fun c=>((fun y0=>oshift1 N y0 j q p) c.g).bind fun d=>(idx b a).bind fun e=>(upd1 b a (OItem.mk e.pos d)).bind fun f=>some (Stp.next (f,(iw (a+1)))) else some (Stp.done b))
def oshift(N:Nat)(s:OState)(j:Int)(p:Int)(q:Big):Option OState:=(loopM (oshift_b1 N s j p q) N (s.u,0)).bind fun ss=>match ss with
  |a=>(loopM (oshift_b2 N s j p q) N (s.items,0)).bind fun ss=>match ss with
    |b=>some (OState.mk s.n s.known s.steps a s.status s.value b s.stack)
def oflip_b1(N:Nat)(s:OState)(p:Int):((List (List Big))×Int)→Option (Stp ((List (List Big))×Int) (List (List Big)))
 |(b,a)=>(if(a:Int)<(List.length s.u:Int)then (idx b a).bind fun c=>((fun y0=>oflip1 N y0 p) c).bind fun d=>(idx b a).bind fun f=>(upd1 b a d).bind fun e=>some (Stp.next (e,(iw (a+1)))) else some (Stp.done b))
def oflip_b2(N:Nat)(s:OState)(p:Int):((List OItem)×Int)→Option (Stp ((List OItem)×Int) (List OItem))
 |(b,a)=>(if(a:Int)<(List.length s.items:Int)then (idx b a).bind fun c=>((fun y0=>oflip1 N y0 p) c.g).bind fun d=>(idx b a).bind fun e=>(upd1 b a (OItem.mk e.pos d)).bind fun f=>some (Stp.next (f,(iw (a+1)))) else some (Stp.done b))
def oflip(N:Nat)(s:OState)(p:Int):Option OState:=(loopM (oflip_b1 N s p) N (s.u,0)).bind fun ss=>match ss with
  |a=>(loopM (oflip_b2 N s p) N (s.items,0)).bind fun ss=>match ss with
    |b=>some (OState.mk s.n s.known s.steps a s.status s.value b s.stack)
def oisolate_b2(N:Nat)(b:OItem):(Int×Int)→Option (Stp (Int×Int) Int)
 |(c,a)=>(if(a:Int)<(List.length b.g:Int)then (((((((idx b.g a).bind fun d=>(bSign N d).bind fun e=>(if(e:Int)≠0 then (if(c:Int)<0 then some true else (idx b.g a).bind fun f=>((fun y0=>oisolate1 N y0) f).bind fun i=>(idx b.g c).bind fun j=>((fun y0=>oisolate1 N y0) j).bind fun k=>(bCompare N i k).bind fun l=>some (decide ((l:Int)<0))) else some false)):Option Bool)).bind fun ss=>match ss with
    |m=>(if m=true then some a else some c)):Option Int)).bind fun ss=>match ss with
    |n=>some (Stp.next (n,(iw (a+1)))) else some (Stp.done c))
def oisolate_b3(N:Nat)(s:OState)(i:Int)(d:OItem)(e:Int):((List Ineq)×(List Step)×(List (List Big))×(List Int)×(List Big)×(List OItem)×(List OElim)×Bool×Int)→Option (Stp ((List Ineq)×(List Step)×(List (List Big))×(List Int)×(List Big)×(List OItem)×(List OElim)×Bool×Int) ((List Ineq)×(List Step)×(List (List Big))×(List Int)×(List Big)×(List OItem)×(List OElim)×Bool))
 |(f,j,k,l,m,c,o,p,b)=>(if(b:Int)<(List.length d.g:Int)then (((((((if(b:Int)≠e then (idx c i).bind fun q=>(idx q.g b).bind fun v=>(bSign N v).bind fun y=>some (decide ((y:Int)≠0)) else some false)):Option Bool)).bind fun ss=>match ss with
    |a0=>(if a0=true then (idx d.g b).bind fun a1=>(idx d.g e).bind fun a2=>(bDivFloor N a1 a2).bind fun a3=>(oshift N (OState.mk s.n f j k l m c o) b e a3.1).bind fun a=>some (a.known,a.steps,a.u,a.status,a.value,a.items,a.stack,false) else some (f,j,k,l,m,c,o,p))):Option ((List Ineq)×(List Step)×(List (List Big))×(List Int)×(List Big)×(List OItem)×(List OElim)×Bool))).bind fun ss=>match ss with
    |(a4,a5,a6,a7,a8,a9,aa,ab)=>some (Stp.next (a4,a5,a6,a7,a8,a9,aa,ab,(iw (b+1)))) else some (Stp.done (f,j,k,l,m,c,o,p)))
def oisolate_b1(N:Nat)(s:OState)(i:Int):((List Ineq)×(List Step)×(List (List Big))×(List Int)×(List Big)×(List OItem)×(List OElim))→Option (Stp ((List Ineq)×(List Step)×(List (List Big))×(List Int)×(List Big)×(List OItem)×(List OElim)) (Int×OState))
 |(p,q,v,y,a0,o,a1)=>(idx o i).bind fun c=>(loopM (oisolate_b2 N c) N ((-1),0)).bind fun ss=>match ss with
   |b=>(loopM (oisolate_b3 N s i c b) N (p,q,v,y,a0,o,a1,true,0)).bind fun ss=>match ss with
     |(d,e,f,j,k,l,m,a2)=>(if a2=true then (idx c.g b).bind fun a3=>(bSign N a3).bind fun a4=>((((if(a4:Int)<0 then (oflip N (OState.mk s.n d e f j k l m) b).bind fun a=>some (a.known,a.steps,a.u,a.status,a.value,a.items,a.stack) else some (d,e,f,j,k,l,m))):Option ((List Ineq)×(List Step)×(List (List Big))×(List Int)×(List Big)×(List OItem)×(List OElim)))).bind fun ss=>match ss with
        |(a5,a6,a7,a8,a9,aa,ab)=>some (Stp.done (b,(OState.mk s.n a5 a6 a7 a8 a9 aa ab))) else some (Stp.next (d,e,f,j,k,l,m)))
def oisolate(N:Nat)(s:OState)(i:Int):Option (Int×OState):=(loopM (oisolate_b1 N s i) N (s.known,s.steps,s.u,s.status,s.value,s.items,s.stack)).bind fun ss=>match ss with
  |z=>some z
def oequal_b1(N:Nat)(s:OState)(i:Int)(j:Int)(r1:(Int×OState))(x2:OItem)(x3:OItem):((List Ineq)×(List Step)×(List (List Big))×(List Int)×(List Big)×(List OItem)×(List OElim)×Int)→Option (Stp ((List Ineq)×(List Step)×(List (List Big))×(List Int)×(List Big)×(List OItem)×(List OElim)×Int) (Sum ((List Ineq)×(List Step)×(List (List Big))×(List Int)×(List Big)×(List OItem)×(List OElim)) (Bool×OState)))
 |(d,e,f,k,l,m,o,c)=>(if(c:Int)<(List.length r1.2.items:Int)then ((((idx r1.2.items c).bind fun p=>((((if(c:Int)=i then some true else some (decide ((c:Int)=j)))):Option Bool)).bind fun ss=>match ss with
    |y=>(if y=true then some (Sum.inl (d,e,f,k,l,m,o)) else (idx p.g r1.1).bind fun q=>(bSign N q).bind fun a0=>(if(a0:Int)=0 then (oadd N (OState.mk s.n d e f k l m o) p).bind fun b=>some (Sum.inl (b.known,b.steps,b.u,b.status,b.value,b.items,b.stack)) else (cloneBig N p.g).bind fun v=>(idx v r1.1).bind fun ad=>(upd1 v r1.1 (Big.mk false ([]:(List Int)))).bind fun a1=>(bSign N q).bind fun a2=>((((if(a2:Int)<0 then (bNeg N q).bind fun a3=>some (Use.mk x2.pos a3) else some (Use.mk x3.pos q))):Option Use)).bind fun ss=>match ss with
        |a4=>(bOf N 1).bind fun a5=>(oput N (OState.mk s.n d e f k l m o) a1 [(Use.mk p.pos a5),a4]).bind fun a=>(if(!a.1)=true then some (Sum.inr (false,(OState.mk s.n a.2.known a.2.steps a.2.u a.2.status a.2.value a.2.items a.2.stack))) else some (Sum.inl (a.2.known,a.2.steps,a.2.u,a.2.status,a.2.value,a.2.items,a.2.stack)))))):Option (Sum ((List Ineq)×(List Step)×(List (List Big))×(List Int)×(List Big)×(List OItem)×(List OElim)) (Bool×OState)))).bind fun ss=>match ss with
    |(Sum.inl (a6,a7,a8,a9,aa,ab,ac))=>some (Stp.next (a6,a7,a8,a9,aa,ab,ac,(iw (c+1))))
    |(Sum.inr z)=>some (Stp.done (Sum.inr z)) else some (Stp.done (Sum.inl (d,e,f,k,l,m,o))))
def oequal(N:Nat)(s:OState)(i:Int)(j:Int):Option (Bool×OState):=(oisolate N s i).bind fun r1=>(idx r1.2.items i).bind fun x2=>(idx r1.2.items j).bind fun x3=>(obound N (OState.mk s.n r1.2.known r1.2.steps r1.2.u r1.2.status r1.2.value r1.2.items r1.2.stack) x2).bind fun r4=>(idx r1.2.status r1.1).bind fun x5=>(upd1 r1.2.status r1.1 1).bind fun x6=>(idx r1.2.value r1.1).bind fun x7=>(upd1 r1.2.value r1.1 r4).bind fun x8=>(loopM (oequal_b1 N s i j r1 x2 x3) N (r1.2.known,r1.2.steps,r1.2.u,x6,x8,([]:(List OItem)),r1.2.stack,0)).bind fun ss=>match ss with
  |(Sum.inl (a,b,c,d,e,f,g))=>some (true,(OState.mk s.n a b c d e f g))
  |(Sum.inr z)=>some z
def ooriginal_b2(N:Nat)(s:OState)(y:(List Big))(a:Int):((List Big)×Int)→Option (Stp ((List Big)×Int) (List Big))
 |(b,c)=>(if(c:Int)<(List.length y:Int)then (idx b a).bind fun d=>(idx s.u a).bind fun e=>(idx e c).bind fun f=>(idx y c).bind fun g=>(bMul N f g).bind fun i=>(bAdd N d i).bind fun j=>(idx b a).bind fun l=>(upd1 b a j).bind fun k=>some (Stp.next (k,(iw (c+1)))) else some (Stp.done b))
def ooriginal_b1(N:Nat)(s:OState)(y:(List Big))(x1:(List Big)):((List Big)×Int)→Option (Stp ((List Big)×Int) (List Big))
 |(b,a)=>(if(a:Int)<(List.length x1:Int)then (loopM (ooriginal_b2 N s y a) N (b,0)).bind fun ss=>match ss with
    |c=>some (Stp.next (c,(iw (a+1)))) else some (Stp.done b))
def ooriginal(N:Nat)(s:OState)(y:(List Big)):Option (List Big):=(mk1 (α:=Big) 32 (Big.mk false ([]:(List Int))) s.n).bind fun x1=>(loopM (ooriginal_b1 N s y x1) N (x1,0)).bind fun ss=>match ss with
  |a=>some a
open Go Go.X
def osides_b1(N:Nat)(s:OState)(v:Int):((List OItem)×(List OItem)×Int)→Option (Stp ((List OItem)×(List OItem)×Int) ((List OItem)×(List OItem)))
 |(a,b,c)=>(if(c:Int)<(List.length s.items:Int)then ((((idx s.items c).bind fun d=>(idx d.g v).bind fun f=>(bSign N f).bind fun e=>(if(e:Int)=1 then (apnd 32 a [d]).bind fun i=>some (i,b) else (if(e:Int)=(-1)then (apnd 32 b [d]).bind fun j=>some (a,j) else some (a,b)))):Option ((List OItem)×(List OItem)))).bind fun ss=>match ss with
    |(k,l)=>some (Stp.next (k,l,(iw (c+1)))) else some (Stp.done (a,b)))
def osides(N:Nat)(s:OState)(v:Int):Option ((List OItem)×(List OItem)):=(loopM (osides_b1 N s v) N (([]:(List OItem)),([]:(List OItem)),0)).bind fun ss=>match ss with
  |(a,b)=>some (a,b)
def osidesR_b1(N:Nat)(s:OState)(v:Int):((List OItem)×(List OItem)×Int)→Option (Stp ((List OItem)×(List OItem)×Int) ((List OItem)×(List OItem)))
 |(a,b,c)=>(if(c:Int)<(List.length s.items:Int)then ((((idx s.items c).bind fun d=>(idx d.g v).bind fun f=>(bSign N f).bind fun e=>(if(e:Int)=1 then (apnd 32 a [d]).bind fun i=>some (i,b) else (if(e:Int)=(-1)then (apnd 32 b [d]).bind fun j=>some (a,j) else some (a,b)))):Option ((List OItem)×(List OItem)))).bind fun ss=>match ss with
    |(k,l)=>some (Stp.next (k,l,(iw (c+1)))) else some (Stp.done (a,b)))
def osidesR(N:Nat)(s:OState)(v:Int):Option ((List OItem)×(List OItem)):=(loopM (osidesR_b1 N s v) N (([]:(List OItem)),([]:(List OItem)),0)).bind fun ss=>match ss with
  |(a,b)=>some (a,b)
def oprice_b1(N:Nat)(v:Int)(r1:((List OItem)×(List OItem))):(Big×Int)→Option (Stp (Big×Int) Big)
 |(a,b)=>(if(b:Int)<(List.length r1.2:Int)then ((((idx r1.2 b).bind fun d=>(oslack N v d r1.1).bind fun c=>(bSign N c).bind fun e=>(if(e:Int)≥0 then (bOf N 1000).bind fun f=>(bAdd N c f).bind fun g=>(bMul N a g).bind fun i=>some i else some a)):Option Big)).bind fun ss=>match ss with
    |j=>some (Stp.next (j,(iw (b+1)))) else some (Stp.done a))
def oprice(N:Nat)(s:OState)(v:Int):Option (Big×Bool):=(osides N s v).bind fun r1=>(if((iw ((List.length r1.1:Int)+(List.length r1.2:Int))):Int)=0 then some ((Big.mk false ([]:(List Int))),false) else ((((if((List.length r1.1:Int):Int)=0 then some true else some (decide (((List.length r1.2:Int):Int)=0)))):Option Bool)).bind fun ss=>match ss with
   |x7=>(if x7=true then some ((Big.mk false ([]:(List Int))),true) else (bOf N (iw ((List.length r1.1:Int)*(List.length r1.2:Int)))).bind fun a=>(loopM (oprice_b1 N v r1) N (a,0)).bind fun ss=>match ss with
      |b=>some (b,true)))
def ochoose_b1(N:Nat)(s:OState):(Int×Bool×Big×Int)→Option (Stp (Int×Bool×Big×Int) (Int×Bool))
 |(c,b,d,a)=>(if(a:Int)<s.n then ((((idx s.status a).bind fun f=>(if(f:Int)≠0 then some (c,b,d) else (oprice N s a).bind fun e=>((((if e.2=true then (if(!b)=true then some true else (bCompare N e.1 d).bind fun g=>some (decide ((g:Int)<0))) else some false)):Option Bool)).bind fun ss=>match ss with
     |i=>(if i=true then some (a,true,e.1) else some (c,b,d)))):Option (Int×Bool×Big))).bind fun ss=>match ss with
    |(j,k,l)=>some (Stp.next (j,k,l,(iw (a+1)))) else some (Stp.done (c,b)))
def ochoose(N:Nat)(s:OState):Option (Int×Bool):=(loopM (ochoose_b1 N s) N (0,false,(Big.mk false ([]:(List Int))),0)).bind fun ss=>match ss with
  |(a,b)=>some (a,b)
def oexact(N:Nat)(s:OState)(v:Int):Option Bool:=(osides N s v).bind fun r1=>(if((List.length r1.1:Int):Int)=0 then some true else (containsItem N r1.2 (fun y0=>oexact1 N y0 v r1.1)).bind fun r5=>some (!r5))
def odrop_b1(N:Nat)(r2:(List OItem)):((List Int)×Int)→Option (Stp ((List Int)×Int) (List Int))
 |(b,a)=>(if(a:Int)<(List.length r2:Int)then (idx r2 a).bind fun c=>(apnd 8 b [c.pos]).bind fun d=>some (Stp.next (d,(iw (a+1)))) else some (Stp.done b))
def odrop_b4(N:Nat)(c:(List Big))(d:OItem)(e:Big)(f:OItem)(i:Big):((List Big)×Int)→Option (Stp ((List Big)×Int) (List Big))
 |(b,a)=>(if(a:Int)<(List.length c:Int)then (idx d.g a).bind fun j=>(bMul N e j).bind fun k=>(idx f.g a).bind fun l=>(bMul N i l).bind fun m=>(bAdd N k m).bind fun n=>(idx b a).bind fun p=>(upd1 b a n).bind fun o=>some (Stp.next (o,(iw (a+1)))) else some (Stp.done b))
def odrop_b3(N:Nat)(s:OState)(v:Int)(r1:((List OItem)×(List OItem)))(b:OItem):((List Ineq)×(List Step)×(List (List Big))×(List Int)×(List Big)×(List OItem)×(List OElim)×Int)→Option (Stp ((List Ineq)×(List Step)×(List (List Big))×(List Int)×(List Big)×(List OItem)×(List OElim)×Int) (Sum ((List Ineq)×(List Step)×(List (List Big))×(List Int)×(List Big)×(List OItem)×(List OElim)) (Bool×OState)))
 |(e,f,i,j,k,l,m,c)=>(if(c:Int)<(List.length r1.2:Int)then (idx r1.2 c).bind fun d=>(idx b.g v).bind fun o=>(idx d.g v).bind fun y=>(bNeg N y).bind fun p=>(mk1 (α:=Big) 32 (Big.mk false ([]:(List Int))) s.n).bind fun q=>(loopM (odrop_b4 N q b p d o) N (q,0)).bind fun ss=>match ss with
    |a0=>(oput N (OState.mk s.n e f i j k l m) a0 [(Use.mk b.pos p),(Use.mk d.pos o)]).bind fun a=>(if(!a.1)=true then some (Stp.done (Sum.inr (false,(OState.mk s.n a.2.known a.2.steps a.2.u a.2.status a.2.value a.2.items a.2.stack)))) else some (Stp.next (a.2.known,a.2.steps,a.2.u,a.2.status,a.2.value,a.2.items,a.2.stack,(iw (c+1))))) else some (Stp.done (Sum.inl (e,f,i,j,k,l,m))))
def odrop_b2(N:Nat)(s:OState)(v:Int)(r1:((List OItem)×(List OItem))):((List Ineq)×(List Step)×(List (List Big))×(List Int)×(List Big)×(List OItem)×(List OElim)×Int)→Option (Stp ((List Ineq)×(List Step)×(List (List Big))×(List Int)×(List Big)×(List OItem)×(List OElim)×Int) (Sum ((List Ineq)×(List Step)×(List (List Big))×(List Int)×(List Big)×(List OItem)×(List OElim)) (Bool×OState)))
 |(b,c,d,e,f,g,i,a)=>(if(a:Int)<(List.length r1.1:Int)then (idx r1.1 a).bind fun j=>(loopM (odrop_b3 N s v r1 j) N (b,c,d,e,f,g,i,0)).bind fun ss=>match ss with
    |(Sum.inl (k,l,m,n,o,p,q))=>some (Stp.next (k,l,m,n,o,p,q,(iw (a+1))))
    |(Sum.inr z)=>some (Stp.done (Sum.inr z)) else some (Stp.done (Sum.inl (b,c,d,e,f,g,i))))
def odrop(N:Nat)(s:OState)(v:Int)(tried:Bool):Option (Bool×OState):=(osides N s v).bind fun r1=>(concatItem N [r1.1,r1.2]).bind fun r2=>(loopM (odrop_b1 N r2) N (([]:(List Int)),0)).bind fun ss=>match ss with
  |a=>(apnd 40 s.stack [(OElim.mk v a tried)]).bind fun b=>(idx s.status v).bind fun o=>(upd1 s.status v 2).bind fun c=>(cloneItem N s.items).bind fun d=>(deleteItem N d (fun y0=>odrop1 N y0 v)).bind fun e=>(loopM (odrop_b2 N s v r1) N (s.known,s.steps,s.u,c,s.value,e,b,0)).bind fun ss=>match ss with
    |(Sum.inl (f,g,i,j,k,l,m))=>some (true,(OState.mk s.n f g i j k l m))
    |(Sum.inr z)=>some z
def ocoef_b1(N:Nat)(s:OState)(j:Int)(x1:Ineq):(Big×Int)→Option (Stp (Big×Int) Big)
 |(b,a)=>(if(a:Int)<(List.length x1.Coefs:Int)then (idx x1.Coefs a).bind fun c=>(idx s.u a).bind fun d=>(idx d j).bind fun e=>(bMul N c e).bind fun f=>(bAdd N b f).bind fun g=>some (Stp.next (g,(iw (a+1)))) else some (Stp.done b))
def ocoef(N:Nat)(s:OState)(vat1:Int)(j:Int):Option Big:=(idx s.known vat1).bind fun x1=>(loopM (ocoef_b1 N s j x1) N ((Big.mk false ([]:(List Int))),0)).bind fun ss=>match ss with
  |a=>some a
def obetween_b2(N:Nat)(s:OState)(e:OElim)(y:(List Big))(c:Int):(Big×Int)→Option (Stp (Big×Int) Big)
 |(b,a)=>(if(a:Int)<(List.length y:Int)then ((((if(a:Int)≠e.v then (ocoef N s c a).bind fun d=>(idx y a).bind fun f=>(bMul N d f).bind fun g=>(bSub N b g).bind fun i=>some i else some b)):Option Big)).bind fun ss=>match ss with
    |j=>some (Stp.next (j,(iw (a+1)))) else some (Stp.done b))
def obetween_b1(N:Nat)(s:OState)(e:OElim)(y:(List Big)):(Big×Big×Bool×Bool×Int)→Option (Stp (Big×Big×Bool×Bool×Int) (Big×Big×Bool×Bool))
 |(a,b,c,d,f)=>(if(f:Int)<(List.length e.items:Int)then ((((idx e.items f).bind fun g=>(idx s.known g).bind fun m=>(loopM (obetween_b2 N s e y g) N (m.Bound,0)).bind fun ss=>match ss with
    |j=>(ocoef N s g e.v).bind fun i=>(bSign N i).bind fun n=>(if(n:Int)>0 then (bDivFloor N j i).bind fun k=>((((if(!d)=true then some true else (bCompare N k.1 b).bind fun o=>some (decide ((o:Int)<0)))):Option Bool)).bind fun ss=>match ss with
       |p=>(if p=true then some (a,k.1,c,true) else some (a,b,c,d)) else (bNeg N i).bind fun q=>(bDivFloor N j q).bind fun u=>(bNeg N u.1).bind fun l=>((((if(!c)=true then some true else (bCompare N l a).bind fun a0=>some (decide ((a0:Int)>0)))):Option Bool)).bind fun ss=>match ss with
       |a1=>(if a1=true then some (l,b,true,d) else some (a,b,c,d)))):Option (Big×Big×Bool×Bool))).bind fun ss=>match ss with
    |(a2,a3,a4,a5)=>some (Stp.next (a2,a3,a4,a5,(iw (f+1)))) else some (Stp.done (a,b,c,d)))
def obetween(N:Nat)(s:OState)(e:OElim)(y:(List Big)):Option (Big×Bool):=(loopM (obetween_b1 N s e y) N ((Big.mk false ([]:(List Int))),(Big.mk false ([]:(List Int))),false,false,0)).bind fun ss=>match ss with
  |(a,b,c,d)=>(if(!c)=true then some (b,true) else (if(!d)=true then some (a,true) else (bCompare N a b).bind fun f=>some (a,(decide ((f:Int)≤0)))))
def orefuted(N:Nat)(s:OState):Option OOut:= some (OOut.mk 1 ([]:(List Big)) (Proof.mk s.steps ([]:(List Big)) (Big.mk false ([]:(List Int))) ([]:(List Proof))) 0)
def onew_b1(N:Nat)(n:Int):((List (List Big))×Int)→Option (Stp ((List (List Big))×Int) (List (List Big)))
 |(b,a)=>(if(a:Int)<n then (mk1 (α:=Big) 32 (Big.mk false ([]:(List Int))) n).bind fun c=>(bOf N 1).bind fun d=>(idx c a).bind fun g=>(upd1 c a d).bind fun e=>(apnd 24 b [e]).bind fun f=>some (Stp.next (f,(iw (a+1)))) else some (Stp.done b))
def onew(N:Nat)(n:Int)(system:(List Ineq)):Option OState:=(cloneIneq N system).bind fun r1=>(mk1 (α:=Int) 8 0 n).bind fun x2=>(mk1 (α:=Big) 32 (Big.mk false ([]:(List Int))) n).bind fun x3=>(loopM (onew_b1 N n) N (([]:(List (List Big))),0)).bind fun ss=>match ss with
  |a=>some (OState.mk n r1 ([]:(List Step)) a x2 x3 ([]:(List OItem)) ([]:(List OElim)))
def ocopy(N:Nat)(s:OState):Option OState:=(clipIneq N s.known).bind fun r1=>(clipStep N s.steps).bind fun r2=>(cloneRows N s.u).bind fun r3=>(cloneInt N s.status).bind fun r4=>(cloneBig N s.value).bind fun r5=>(cloneItem N s.items).bind fun r6=>(clipElim N s.stack).bind fun r7=>some (OState.mk s.n r1 r2 r3 r4 r5 r6 r7)
def oassume(N:Nat)(s:OState)(q:Ineq):Option OState:=(ocopy N s).bind fun r1=>(apnd 56 r1.known [q]).bind fun x2=>some (OState.mk r1.n x2 ([]:(List Step)) r1.u r1.status r1.value r1.items r1.stack)
def ojoined(N:Nat)(s:OState)(form:(List Big))(bound:Big)(left:OOut)(right:OOut):Option OOut:= some (OOut.mk 1 ([]:(List Big)) (Proof.mk s.steps form bound [left.proof,right.proof]) 0)
def ototal_b1(N:Nat)(v:Int)(r1:((List OItem)×(List OItem))):(Big×Int)→Option (Stp (Big×Int) Big)
 |(a,b)=>(if(b:Int)<(List.length r1.2:Int)then ((((idx r1.2 b).bind fun d=>(oslack N v d r1.1).bind fun c=>(bSign N c).bind fun e=>(if(e:Int)≥0 then (bOf N 1).bind fun f=>(bAdd N c f).bind fun g=>(bAdd N a g).bind fun i=>some i else some a)):Option Big)).bind fun ss=>match ss with
    |j=>some (Stp.next (j,(iw (b+1)))) else some (Stp.done a))
def ototal(N:Nat)(s:OState)(v:Int):Option Big:=(osidesR N s v).bind fun r1=>(loopM (ototal_b1 N v r1) N ((Big.mk false ([]:(List Int))),0)).bind fun ss=>match ss with
  |a=>some a
def onarrow_b2(N:Nat)(s:OState)(e:(Int×Bool))(f:OItem):(OSpan×Bool×Int)→Option (Stp (OSpan×Bool×Int) (OSpan×Bool))
 |(a,b,c)=>(if(c:Int)<(List.length s.items:Int)then ((((idx s.items c).bind fun d=>(osingle N d).bind fun i=>((((if(!i.2)=true then some true else (if(i.1:Int)≠e.1 then some true else (idx d.g e.1).bind fun l=>(bSign N l).bind fun m=>some (decide ((m:Int)>0))))):Option Bool)).bind fun ss=>match ss with
    |n=>(if n=true then some (a,b) else (oboundR N s d).bind fun o=>(bNeg N o).bind fun j=>(oboundR N s f).bind fun k=>((((if(!b)=true then some true else (bSub N k j).bind fun p=>(bSub N a.high a.low).bind fun q=>(bCompare N p q).bind fun u=>some (decide ((u:Int)<0)))):Option Bool)).bind fun ss=>match ss with
       |v=>(if v=true then some ((OSpan.mk f j k),true) else some (a,b)))):Option (OSpan×Bool))).bind fun ss=>match ss with
    |(y,a0)=>some (Stp.next (y,a0,(iw (c+1)))) else some (Stp.done (a,b)))
def onarrow_b1(N:Nat)(s:OState):(OSpan×Bool×Int)→Option (Stp (OSpan×Bool×Int) (OSpan×Bool))
 |(a,b,c)=>(if(c:Int)<(List.length s.items:Int)then ((((idx s.items c).bind fun d=>(osingle N d).bind fun e=>((((if(!e.2)=true then some true else (idx d.g e.1).bind fun f=>(bSign N f).bind fun i=>some (decide ((i:Int)<0)))):Option Bool)).bind fun ss=>match ss with
    |j=>(if j=true then some (a,b) else (loopM (onarrow_b2 N s e d) N (a,b,0)).bind fun ss=>match ss with
       |(k,l)=>some (k,l))):Option (OSpan×Bool))).bind fun ss=>match ss with
    |(m,n)=>some (Stp.next (m,n,(iw (c+1)))) else some (Stp.done (a,b)))
def onarrow(N:Nat)(s:OState):Option (OSpan×Bool):=(loopM (onarrow_b1 N s) N ((OSpan.mk (OItem.mk 0 ([]:(List Big))) (Big.mk false ([]:(List Int))) (Big.mk false ([]:(List Int)))),false,0)).bind fun ss=>match ss with
  |(a,b)=>some (a,b)
open Go Go.X
def oback_b1(N:Nat)(s:OState)(x1:(List Big)):((List Big)×Int)→Option (Stp ((List Big)×Int) (List Big))
 |(b,a)=>(if(a:Int)<(List.length x1:Int)then ((((idx s.status a).bind fun c=>(if(c:Int)=1 then (idx s.value a).bind fun d=>(idx b a).bind fun g=>(upd1 b a d).bind fun e=>some e else some b)):Option (List Big))).bind fun ss=>match ss with
    |f=>some (Stp.next (f,(iw (a+1)))) else some (Stp.done b))
def oback_ok(N:Nat)(s:OState):Nat→List Big→Bool
 |0,_=>true
 |k+1,y=>s.stack.all fun e=>match obetween N s e y with
  |none=>false
  |some (n,ok)=>if ok then(match upd1 y e.v n with
   |none=>false
   |some y=>oback_ok N s k y)else true
def oback_l(N:Nat)(s:OState):List OElim→List Big→Option (Sum (List Big) Int)
 |[],y=>some (.inl y)
 |e::r,y=>(obetween N s e y).bind fun(n,ok)=>if ok then(upd1 y e.v n).bind (oback_l N s r)else some (.inr e.v)
def oback(N:Nat)(s:OState):Option OOut:=(mk1 (α:=Big) 32 (Big.mk false ([]:(List Int))) s.n).bind fun x1=>(loopM (oback_b1 N s x1) N (x1,0)).bind fun y=>if s.stack.length≤9223372036854775807∧oback_ok N s s.stack.length y=true then (oback_l N s s.stack.reverse y).bind fun
  |.inr v=>some (OOut.mk 2 [] (Proof.mk [] [] (Big.mk false []) []) v)
  |.inl y=>(ooriginal N s y).bind fun x=>some (OOut.mk 0 x (Proof.mk [] [] (Big.mk false []) []) 0) else none
def ochain_step(N:Nat)(run:OState→Option OOut)(self:OState→OItem→Big→Big→Option OOut)(s:OState)(low:OItem)(k:Big)(most:Big):Option OOut:=(bCompare N k most).bind fun r1=>(if(r1:Int)=0 then (ocopy N s).bind fun r7=>(run r7).bind fun r8=>some r8 else (idx s.known low.pos).bind fun x9=>(onegative N x9.Coefs).bind fun f=>(bNeg N x9.Bound).bind fun i=>(oassume N s (Ineq.mk f i)).bind fun c=>(onegative N low.g).bind fun j=>(oadd N c (OItem.mk (iw ((List.length c.known:Int)-1)) j)).bind fun b=>(run (OState.mk c.n b.known b.steps b.u b.status b.value b.items b.stack)).bind fun d=>(if(d.kind:Int)≠1 then some d else (bOf N 1).bind fun l=>(bSub N x9.Bound l).bind fun m=>(oassume N s (Ineq.mk x9.Coefs m)).bind fun a=>(oreplaced N a.items low.pos (iw ((List.length a.known:Int)-1))).bind fun o=>(bOf N 1).bind fun p=>(bAdd N k p).bind fun q=>(self (OState.mk a.n a.known a.steps a.u a.status a.value o a.stack) (OItem.mk (iw ((List.length a.known:Int)-1)) low.g) q most).bind fun e=>(if(e.kind:Int)≠1 then some e else (ojoined N s f i d e).bind fun v=>some v)))
def ochain:Nat→(OState→Option OOut)→OState→OItem→Big→Big→Option OOut
 |0=>fun _ _ _ _ _=>none
 |N+1=>fun run=>ochain_step N run (ochain N run)
def osplit_b1(N:Nat)(run:OState→Option OOut)(self:OState→Int→(List OItem)→(List Int)→Option OOut)(v:Int)(r1:((List OItem)×(List OItem))):(List OItem)→Option (Stp (List OItem) (List OItem))
 |a=>((((if((List.length a:Int):Int)>0 then (idx a 0).bind fun b=>(oslack N v b r1.1).bind fun c=>(bSign N c).bind fun d=>some (decide ((d:Int)<0)) else some false)):Option Bool)).bind fun ss=>match ss with
   |e=>(if e=true then (cut a 1 (List.length a:Int)).bind fun f=>some (Stp.next f) else some (Stp.done a))
def osplit_step(N:Nat)(run:OState→Option OOut)(self:OState→Int→(List OItem)→(List Int)→Option OOut)(s:OState)(v:Int)(lows:(List OItem))(vat3:(List Int)):Option OOut:=(osidesR N s v).bind fun r1=>(loopM (osplit_b1 N run self v r1) N lows).bind fun ss=>match ss with
  |d=>(if((List.length d:Int):Int)=0 then (ocopy N s).bind fun i=>(odrop N i v false).bind fun a=>(idx a.2.stack (iw ((List.length a.2.stack:Int)-1))).bind fun o=>(upd1 a.2.stack (iw ((List.length a.2.stack:Int)-1)) (OElim.mk o.v vat3 o.tried)).bind fun p=>(if(!a.1)=true then (orefuted N (OState.mk i.n a.2.known a.2.steps a.2.u a.2.status a.2.value a.2.items p)).bind fun a0=>some a0 else (run (OState.mk i.n a.2.known a.2.steps a.2.u a.2.status a.2.value a.2.items p)).bind fun a1=>some a1) else (idx d 0).bind fun e=>(idx d 0).bind fun a2=>(oslack N v a2 r1.1).bind fun j=>(idx s.known e.pos).bind fun f=>(onegative N f.Coefs).bind fun q=>(bSub N f.Bound j).bind fun a3=>(bOf N 1).bind fun a4=>(bSub N a3 a4).bind fun a5=>(oassume N s (Ineq.mk f.Coefs a5)).bind fun b=>(oreplaced N b.items e.pos (iw ((List.length b.known:Int)-1))).bind fun a6=>(cut d 1 (List.length d:Int)).bind fun a7=>(self (OState.mk b.n b.known b.steps b.u b.status b.value a6 b.stack) v a7 vat3).bind fun k=>(if(k.kind:Int)≠1 then some k else (bSub N j f.Bound).bind fun y=>(oassume N s (Ineq.mk q y)).bind fun l=>(onegative N e.g).bind fun a8=>(oadd N l (OItem.mk (iw ((List.length l.known:Int)-1)) a8)).bind fun c=>(ochain N run (OState.mk l.n c.known c.steps c.u c.status c.value c.items c.stack) e (Big.mk false ([]:(List Int))) j).bind fun m=>(if(m.kind:Int)≠1 then some m else (ojoined N s q y m k).bind fun a9=>some a9)))
def osplit:Nat→(OState→Option OOut)→OState→Int→(List OItem)→(List Int)→Option OOut
 |0=>fun _ _ _ _ _=>none
 |N+1=>fun run=>osplit_step N run (osplit N run)
def ohalve(N:Nat)(run:OState→Option OOut)(s:OState)(c:OSpan):Option OOut:=(bAdd N c.low c.high).bind fun r1=>(bOf N 2).bind fun r2=>(bDivFloor N r1 r2).bind fun r3=>(idx s.known c.up.pos).bind fun x4=>(oassume N s (Ineq.mk x4.Coefs r3.1)).bind fun r5=>(oadd N r5 (OItem.mk (iw ((List.length r5.known:Int)-1)) c.up.g)).bind fun r6=>(run (OState.mk r5.n r6.known r6.steps r6.u r6.status r6.value r6.items r6.stack)).bind fun r7=>(if(r7.kind:Int)≠1 then some r7 else (onegative N x4.Coefs).bind fun e=>(bNeg N r3.1).bind fun f=>(bOf N 1).bind fun i=>(bSub N f i).bind fun j=>(oassume N s (Ineq.mk e j)).bind fun b=>(onegative N c.up.g).bind fun k=>(oadd N b (OItem.mk (iw ((List.length b.known:Int)-1)) k)).bind fun a=>(run (OState.mk b.n a.known a.steps a.u a.status a.value a.items a.stack)).bind fun d=>(if(d.kind:Int)≠1 then some d else (ojoined N s x4.Coefs r3.1 r7 d).bind fun l=>some l))
def obranch_b1(N:Nat)(run:OState→Option OOut)(b:(List OItem)):((List Int)×Int)→Option (Stp ((List Int)×Int) (List Int))
 |(c,a)=>(if(a:Int)<(List.length b:Int)then (idx b a).bind fun d=>(apnd 8 c [d.pos]).bind fun e=>some (Stp.next (e,(iw (a+1)))) else some (Stp.done c))
def obranch(N:Nat)(run:OState→Option OOut)(s:OState)(v:Int):Option OOut:=(onarrow N s).bind fun r1=>((((if r1.2=true then (bSub N r1.1.high r1.1.low).bind fun e=>((((bOf N 64).bind fun f=>(bCompare N e f).bind fun g=>(if(g:Int)≤0 then (ototal N s v).bind fun i=>(bCompare N e i).bind fun j=>some (decide ((j:Int)<0)) else some false)):Option Bool)).bind fun ss=>match ss with
   |k=>(if k=true then (ohalve N run s r1.1).bind fun l=>some (Sum.inr l) else some (Sum.inl ())) else some (Sum.inl ()))):Option (Sum Unit OOut))).bind fun ss=>match ss with
  |(Sum.inl _)=>(ocopy N s).bind fun b=>(odrop N b v true).bind fun a=>(if(!a.1)=true then (orefuted N (OState.mk b.n a.2.known a.2.steps a.2.u a.2.status a.2.value a.2.items a.2.stack)).bind fun m=>some m else (run (OState.mk b.n a.2.known a.2.steps a.2.u a.2.status a.2.value a.2.items a.2.stack)).bind fun c=>((((if(c.kind:Int)≠2 then some true else some (decide ((c.v:Int)≠v)))):Option Bool)).bind fun ss=>match ss with
     |o=>(if o=true then some c else (osidesR N s v).bind fun d=>(concatItem N [d.1,d.2]).bind fun p=>(loopM (obranch_b1 N run p) N (([]:(List Int)),0)).bind fun ss=>match ss with
        |q=>(osplit N run s v d.2 q).bind fun y=>some y))
  |(Sum.inr z)=>some z
def orun_b1(N:Nat)(self:OState→Option OOut)(s:OState):((List Ineq)×(List Step)×(List (List Big))×(List Int)×(List Big)×(List OItem)×(List OElim))→Option (Stp ((List Ineq)×(List Step)×(List (List Big))×(List Int)×(List Big)×(List OItem)×(List OElim)) OOut)
 |(e,f,g,i,j,k,l)=>(opair N (OState.mk s.n e f g i j k l)).bind fun a=>(if(!a.2.2.2.1)=true then (orefuted N (OState.mk s.n a.2.2.2.2.known a.2.2.2.2.steps a.2.2.2.2.u a.2.2.2.2.status a.2.2.2.2.value a.2.2.2.2.items a.2.2.2.2.stack)).bind fun m=>some (Stp.done m) else (if a.2.2.1=true then (oequal N (OState.mk s.n a.2.2.2.2.known a.2.2.2.2.steps a.2.2.2.2.u a.2.2.2.2.status a.2.2.2.2.value a.2.2.2.2.items a.2.2.2.2.stack) a.1 a.2.1).bind fun b=>(if(!b.1)=true then (orefuted N (OState.mk s.n b.2.known b.2.steps b.2.u b.2.status b.2.value b.2.items b.2.stack)).bind fun o=>some (Stp.done o) else some (Stp.next (b.2.known,b.2.steps,b.2.u,b.2.status,b.2.value,b.2.items,b.2.stack))) else (ochoose N (OState.mk s.n a.2.2.2.2.known a.2.2.2.2.steps a.2.2.2.2.u a.2.2.2.2.status a.2.2.2.2.value a.2.2.2.2.items a.2.2.2.2.stack)).bind fun d=>(if(!d.2)=true then (oback N (OState.mk s.n a.2.2.2.2.known a.2.2.2.2.steps a.2.2.2.2.u a.2.2.2.2.status a.2.2.2.2.value a.2.2.2.2.items a.2.2.2.2.stack)).bind fun p=>some (Stp.done p) else (oexact N (OState.mk s.n a.2.2.2.2.known a.2.2.2.2.steps a.2.2.2.2.u a.2.2.2.2.status a.2.2.2.2.value a.2.2.2.2.items a.2.2.2.2.stack) d.1).bind fun q=>(if(!q)=true then (obranch N self (OState.mk s.n a.2.2.2.2.known a.2.2.2.2.steps a.2.2.2.2.u a.2.2.2.2.status a.2.2.2.2.value a.2.2.2.2.items a.2.2.2.2.stack) d.1).bind fun v=>some (Stp.done v) else (odrop N (OState.mk s.n a.2.2.2.2.known a.2.2.2.2.steps a.2.2.2.2.u a.2.2.2.2.status a.2.2.2.2.value a.2.2.2.2.items a.2.2.2.2.stack) d.1 false).bind fun c=>(if(!c.1)=true then (orefuted N (OState.mk s.n c.2.known c.2.steps c.2.u c.2.status c.2.value c.2.items c.2.stack)).bind fun y=>some (Stp.done y) else some (Stp.next (c.2.known,c.2.steps,c.2.u,c.2.status,c.2.value,c.2.items,c.2.stack)))))))
def orun_step(N:Nat)(self:OState→Option OOut)(s:OState):Option OOut:=(loopM (orun_b1 N self s) N (s.known,s.steps,s.u,s.status,s.value,s.items,s.stack)).bind fun ss=>match ss with
  |z=>some z
def orun:Nat→OState→Option OOut
 |0=>fun _=>none
 |N+1=>orun_step N (orun N)
def odecide(N:Nat)(n:Int)(system:(List Ineq)):Option OOut:=(onew N n system).bind fun r1=>(obegin N r1).bind fun r2=>(if(!r2.1)=true then (orefuted N (OState.mk r1.n r2.2.known r2.2.steps r2.2.u r2.2.status r2.2.value r2.2.items r2.2.stack)).bind fun r7=>some r7 else (orun N (OState.mk r1.n r2.2.known r2.2.steps r2.2.u r2.2.status r2.2.value r2.2.items r2.2.stack)).bind fun r8=>some r8)
def omSolve(N:Nat)(n:Int)(l:(List Constraint)):Option ((List Big)×Proof×Bool):=(cSystem N l n).bind fun r1=>(odecide N n r1).bind fun r2=>(if(r2.kind:Int)=0 then some (r2.x,(Proof.mk ([]:(List Step)) ([]:(List Big)) (Big.mk false ([]:(List Int))) ([]:(List Proof))),true) else some (([]:(List Big)),r2.proof,false))
def ofalls_b1(N:Nat)(system:(List Ineq)):((List Ineq)×Int)→Option (Stp ((List Ineq)×Int) (List Ineq))
 |(b,a)=>(if(a:Int)<(List.length system:Int)then (idx system a).bind fun c=>(apnd 56 b [(Ineq.mk c.Coefs (Big.mk false ([]:(List Int))))]).bind fun d=>some (Stp.next (d,(iw (a+1)))) else some (Stp.done b))
def ofalls(N:Nat)(n:Int)(system:(List Ineq))(v:Int):Option Bool:=(loopM (ofalls_b1 N system) N (([]:(List Ineq)),0)).bind fun ss=>match ss with
  |a=>(bOf N (-1)).bind fun b=>(ounit N n v 1 b).bind fun c=>(apnd 56 a [c]).bind fun d=>(odecide N n d).bind fun e=>some (decide ((e.kind:Int)=0))
def omLeast_b1(N:Nat)(n:Int)(v:Int)(g:Big)(r1:(List Ineq)):(Big×Big×Bool×Big)→Option (Stp (Big×Big×Bool×Big) (Big×Bool))
 |(a,c,d,b)=>((((bSub N a b).bind fun i=>((((if d=true then (bAdd N c a).bind fun j=>(bOf N 2).bind fun k=>(bDivFloor N j k).bind fun l=>(bSub N a c).bind fun m=>(bCompare N m g).bind fun o=>(if(o:Int)≤0 then some (Sum.inr (a,true)) else some (Sum.inl l.1)) else some (Sum.inl i))):Option (Sum Big (Big×Bool)))).bind fun ss=>match ss with
   |(Sum.inl e)=>(clipIneq N r1).bind fun p=>(ounit N n v 1 e).bind fun q=>(apnd 56 p [q]).bind fun s=>(odecide N n s).bind fun f=>(if(f.kind:Int)=0 then (idx f.x v).bind fun u=>(bAdd N b b).bind fun y=>some (Sum.inl (u,c,d,y)) else some (Sum.inl (a,e,true,b)))
   |(Sum.inr z)=>some (Sum.inr z)):Option (Sum (Big×Big×Bool×Big) (Big×Bool)))).bind fun ss=>match ss with
   |(Sum.inl (a0,a1,a2,a3))=>some (Stp.next (a0,a1,a2,a3))
   |(Sum.inr z)=>some (Stp.done z)
def omLeast(N:Nat)(n:Int)(l:(List Constraint))(v:Int):Option (Big×Bool):=(cSystem N l n).bind fun r1=>(odecide N n r1).bind fun r2=>((((if(r2.kind:Int)≠0 then some true else (ofalls N n r1 v).bind fun b=>some b)):Option Bool)).bind fun ss=>match ss with
  |x6=>(if x6=true then some ((Big.mk false ([]:(List Int))),false) else (bOf N 1).bind fun a=>(idx r2.x v).bind fun c=>(loopM (omLeast_b1 N n v a r1) N (c,(Big.mk false ([]:(List Int))),false,a)).bind fun ss=>match ss with
     |z=>some z)
open Go Go.X
def lform(N:Nat)(x:Int)(y:Int)(c:Int)(equal:Bool):Option Constraint:= some (Constraint.mk (Linear.mk c [(Coef.mk 0 x),(Coef.mk 1 y)]) equal)
def awake(N:Nat):Option Bool:=(lform N 3 (-5) (-1) true).bind fun r1=>(lform N 1 0 (-10) false).bind fun r2=>(lform N (-1) 0 3 false).bind fun r3=>(omSolve N 2 [r1,r2,r3]).bind fun r4=>(omLeast N 2 [r1,r2,r3] 0).bind fun r5=>(lform N 4 (-3) 2 false).bind fun r6=>(lform N (-4) 3 (-1) false).bind fun r7=>(omSolve N 2 [r6,r7]).bind fun r8=>(lform N 2 (-2) (-1) true).bind fun r9=>(omSolve N 2 [r9]).bind fun a=>(if r4.2.2=true then (if((List.length r4.1:Int):Int)=2 then (idx r4.1 0).bind fun b=>(rOf N 7).bind fun c=>(rSame N b c).bind fun d=>(if d=true then (idx r4.1 1).bind fun e=>(rOf N 4).bind fun f=>(rSame N e f).bind fun g=>(if g=true then (if r5.2=true then (rOf N 7).bind fun i=>(rSame N r5.1 i).bind fun j=>(if j=true then (if(!r8.2.2)=true then (oRefutes N 2 [r6,r7] r8.2.1).bind fun k=>(if k=true then (if(!a.2.2)=true then (lform N 2 (-2) (-1) true).bind fun l=>(oRefutes N 2 [l] a.2.1).bind fun m=>some m else some false) else some false) else some false) else some false) else some false) else some false) else some false) else some false) else some false)
def lawSatisfies_b1(N:Nat)(l:(List Constraint)):Int→Option (Stp Int (Sum Unit Bool))
 |a=>(if(a:Int)<(List.length l:Int)then (idx l a).bind fun b=>(if((List.length b.Linear.Coefs:Int):Int)>12 then some (Stp.done (Sum.inr true)) else some (Stp.next (iw (a+1)))) else some (Stp.done (Sum.inl ())))
def lawSatisfies_b2(N:Nat)(x:(List Big)):Int→Option (Stp Int (Sum Unit Bool))
 |a=>(if(a:Int)<(List.length x:Int)then (idx x a).bind fun b=>(rSmall N b).bind fun c=>(if(!c)=true then some (Stp.done (Sum.inr true)) else some (Stp.next (iw (a+1)))) else some (Stp.done (Sum.inl ())))
def lawSatisfies(N:Nat)(n:Int)(l:(List Constraint))(x:(List Big)):Option Bool:=((((awake N).bind fun r9=>(if(!r9)=true then some true else (if(n:Int)>600 then some true else (if((List.length l:Int):Int)>10 then some true else some (decide (((List.length x:Int):Int)>10)))))):Option Bool)).bind fun ss=>match ss with
  |x6=>(if x6=true then (awake N).bind fun b=>some b else (loopM (lawSatisfies_b1 N l) N 0).bind fun ss=>match ss with
     |(Sum.inl _)=>(loopM (lawSatisfies_b2 N x) N 0).bind fun ss=>match ss with
       |(Sum.inl _)=>(oRight N n l).bind fun a=>(oValid N n l).bind fun c=>(if(c==a)=true then (if(!a)=true then some true else (if((List.length x:Int):Int)≠n then some true else (omSatisfies N l x).bind fun d=>(oSatisfies N l x).bind fun e=>some (d==e))) else some false)
       |(Sum.inr z)=>some z
     |(Sum.inr z)=>some z)
end Go.D
set_option maxRecDepth 1000000
set_option maxHeartbeats 4000000
namespace Go.D
theorem awake_true(N:Nat):awake (N+100)=some true:=by kernel_rfl
open Go Go.X
theorem awake_tm:Tm (fun N=>awake N) (fun r=>r=true):=⟨true,100,rfl,fun N hN=>by rw[show N=(N-100)+100 by omega];exact awake_true _⟩
def AllR(l:List Constraint)(n:Int):Prop:=(∀c∈l,RightP c n)∧0≤n∧n≤512
theorem oRight_tm{n:Int}{l:List Constraint}(hl:l.length≤9223372036854775807)(hc:∀c∈l,c.Linear.Coefs.length≤9223372036854775807):
 Tm (fun N=>oRight N n l) (fun r=>r=true↔AllR l n):=by
 unfold oRight;refine Tm.bind (Tm.each (body:=fun N=>oRight_b1 N l n) l (fun c=>RightP c n) (Q:=fun r=>(r=.inr false∧¬AllR l n)∨(r=.inl ()∧∀c∈l,RightP c n)) hl ?_ ?_) ?_
 · intro k hk _;dsimp only[oRight_b1];refine Tm.pos (by omega) (Tm.step (idx_ok hk) (Tm.bind (rRight_tm (hc _ (List.getElem_mem hk))) fun r hr=>Tm.ite (fun h=>Tm.pure (.inr ⟨_,rfl,.inl ⟨rfl,fun ha=>?_⟩⟩)) (fun h=>Tm.pure (.inl ⟨rfl,hr.1 (by simpa using h)⟩))));have:=hr.2 (ha.1 _ (List.getElem_mem hk));simp[this]at h
 · intro h;dsimp only[oRight_b1];exact Tm.neg (by omega) (Tm.pure ⟨_,rfl,.inr ⟨rfl,h⟩⟩)
 · rintro _ (⟨rfl,h⟩|⟨rfl,h⟩)
   · exact Tm.pure ⟨fun e=>(by cases e),fun e=>absurd e h⟩
   · refine Tm.ite (fun h1=>Tm.pure ?_) (fun h1=>Tm.pure ?_)
     · simp only[decide_eq_true_eq];exact⟨fun h2=>⟨h,h1,h2⟩,fun h2=>h2.2.2⟩
     · exact⟨fun e=>(by cases e),fun e=>absurd e.2.1 h1⟩
theorem oValid_b2_tm{c:Constraint}{n:Int}(hn:0≤n∧n≤512)(hl:c.Linear.Coefs.length≤9223372036854775807):
    Tm (fun N=>loopM (oValid_b2 N n c) N ((-1),0)) (fun r=>(r=.inl ()∧RightP c n)∨(r=.inr false∧¬RightP c n)):=by
  have e:∀N,oValid_b2 N n c=cvalid_b1 N c n:=fun N=>rfl;obtain⟨a,K,h,hK⟩:=cvalid_tm (c:=c) (n:=n) hl;have hx:∀N,K≤N→loopM (oValid_b2 N n c) N ((-1),0)=some (.inl ())∨∃z,loopM (oValid_b2 N n c) N ((-1),0)=some (.inr z):=fun N hN=>by
    have:=hK N hN;dsimp only[cvalid]at this;rw[←e]at this;cases hq:loopM (oValid_b2 N n c) N ((-1),0)with
    |none=>rw[hq]at this;cases this
    | some s => rcases s with s | z
                · exact .inl rfl
                · exact .inr ⟨z,rfl⟩
  have hy:∀N,K≤N→loopM (oValid_b2 N n c) N ((-1),0)=some (if a then .inl ()else .inr a)∨(a=true∧loopM (oValid_b2 N n c) N ((-1),0)=some (.inr true)):=fun N hN=>by
    have:=hK N hN;dsimp only[cvalid]at this;rw[←e]at this;rcases hx N hN with hq|⟨z,hq⟩
    · rw[hq]at this;rw[Option.bind_some,if_pos hn.1]at this;rw[decide_eq_true hn.2]at this;cases this;exact .inl hq
    · rw[hq]at this;cases this;cases a with
      |true=>exact .inr ⟨rfl,hq⟩
      |false=>exact .inl hq
  have hz:Tm (fun N=>loopM (oValid_b2 N n c) N ((-1),0)) (fun r=>r≠.inr true):=by
    refine Tm.loop (fun s:Int×Int=>∃k:Nat,s.2=k∧k≤c.Linear.Coefs.length) (fun s=>c.Linear.Coefs.length-s.2.toNat) ⟨0,rfl,Nat.zero_le _⟩ ?_;rintro⟨last,i⟩ ⟨k,rfl,hk⟩;dsimp only[oValid_b2]at*;refine Tm.ite (fun h=>?_) (fun h=>Tm.pure (by show _≠_;simp));have hkl:k<c.Linear.Coefs.length:=by omega
    refine Tm.step (idx_ok hkl) (Tm.bind (Q:=fun _=>True) (Tm.ite (fun h=>Tm.pure trivial) (fun h=>Tm.pure trivial)) ?_);intro b _;refine Tm.ite (fun h=>Tm.pure (by show _≠_;simp)) (fun h=>Tm.pure ⟨⟨k+1,by dsimp only;rw[iw_eq]<;>omega,by omega⟩,?_⟩);show c.Linear.Coefs.length-(iw ((k:Int)+1)).toNat<c.Linear.Coefs.length-((k:Int)).toNat;rw[iw_eq]<;>omega
  obtain⟨b,K',hb,hK'⟩:=hz;refine⟨b,max K K',?_,fun N hN=>hK' N (by omega)⟩;have h1:loopM (oValid_b2 (max K K') n c) (max K K') ((-1),0)=some b:=hK' (max K K') (by omega);rcases hy (max K K') (by omega)with h2|⟨-,h2⟩
  · rw[h1]at h2;cases h2;cases a with
    |true=>exact .inl ⟨rfl,h.1 rfl⟩
    |false=>exact .inr ⟨rfl,fun hr=>by have:=h.2 hr;cases this⟩
  · rw[h1]at h2;cases h2;exact absurd rfl hb
theorem oValid_tm{n:Int}{l:List Constraint}(hl:l.length≤9223372036854775807)(hc:∀c∈l,c.Linear.Coefs.length≤9223372036854775807):
 Tm (fun N=>oValid N n l) (fun r=>r=true↔AllR l n):=by
 unfold oValid;refine Tm.bind (Q:=(·=decide (¬(0≤n∧n≤512)))) (Tm.ite (fun h=>Tm.pure (by symm;simp;omega)) (fun h=>Tm.pure ?_)) ?_
 · by_cases h2:n>512
   · simp[h2]
   · simp[h2];omega
 rintro _ rfl;refine Tm.ite (fun h=>Tm.pure ⟨fun e=>(by cases e),fun e=>absurd e.2 (of_decide_eq_true h)⟩) (fun h=>?_);have hn:0≤n∧n≤512:=by simpa using h
 refine Tm.bind (Tm.each (body:=fun N=>oValid_b1 N l n) l (fun c=>RightP c n) (Q:=fun r=>(r=.inr false∧¬AllR l n)∨(r=.inl ()∧∀c∈l,RightP c n)) hl ?_ ?_) ?_
 · intro k hk _;dsimp only[oValid_b1];refine Tm.pos (by omega) (Tm.step (idx_ok hk) (Tm.bind (oValid_b2_tm hn (hc _ (List.getElem_mem hk))) ?_));rintro _ (⟨rfl,h⟩|⟨rfl,h⟩)
   · exact Tm.pure (.inl ⟨rfl,h⟩)
   · exact Tm.pure (.inr ⟨_,rfl,.inl ⟨rfl,fun ha=>h (ha.1 _ (List.getElem_mem hk))⟩⟩)
 · intro h;dsimp only[oValid_b1];exact Tm.neg (by omega) (Tm.pure ⟨_,rfl,.inr ⟨rfl,h⟩⟩)
 · rintro _ (⟨rfl,h⟩|⟨rfl,h⟩)
   · exact Tm.pure ⟨fun e=>(by cases e),fun e=>absurd e h⟩
   · exact Tm.pure ⟨fun _=>⟨h,hn⟩,fun _=>rfl⟩
def ovl(f:Linear)(x:List Big):Nat→Int
 |0=>f.Const
 |k+1=>ovl f x k+(f.Coefs.getD k ⟨0,0⟩).N*bv (x.getD (f.Coefs.getD k ⟨0,0⟩).Var.toNat big0)
def viol(c:Constraint)(x:List Big):Bool:=decide (0<ovl c.Linear x c.Linear.Coefs.length)||(decide (ovl c.Linear x c.Linear.Coefs.length<0)&&c.Equal)
theorem getDk{l:List Coef}{n:Nat}(h:n<l.length):l.getD n ⟨0,0⟩=l[n]:=by rw[List.getD_eq_getElem?_getD,List.getElem?_eq_getElem h];rfl
structure SumOk (f:Linear)(x:List Big):Prop where
 len:f.Coefs.length≤1073741824
 const:I64 f.Const
 coef:∀k∈f.Coefs,I64 k.N∧0≤k.Var∧k.Var<x.length
 x:∀b∈x,OkB 1073741824 b
theorem sgn_pos{a:Int}:sgn a 0>0↔0<a:=by unfold sgn;(repeat' split)<;>omega
theorem oSat1_tm{c:Constraint}{x:List Big}(h:SumOk c.Linear x):Tm (fun N=>oSat1 N c x) (·=viol c x):=by
 unfold oSat1;refine Tm.bind (bOf_tm h.const.1 h.const.2) ?_;rintro b ⟨hb,hbl⟩;refine Tm.bind (Q:=fun r=>InB W32 r.Digits∧r.Digits.length≤4294967296∧bv r=ovl c.Linear x c.Linear.Coefs.length) (Tm.up c.Linear.Coefs.length (fun k s=>s.2=(k:Int)∧InB W32 s.1.Digits∧s.1.Digits.length≤1073741828+k∧bv s.1=ovl c.Linear x k) ⟨rfl,hb.dg.inB,by dsimp only;omega,hb.bv⟩ ?_) ?_
 · rintro k hk ⟨s,i⟩ ⟨rfl,h1,h2,h3⟩;dsimp only at h1 h2 h3;dsimp only[oSat1_b1];have hL:=h.len;refine Tm.ite (fun hlt=>?_) (fun hge=>Tm.some ?_)
   · have hlt:k<c.Linear.Coefs.length:=by omega
     obtain⟨g1,g2,g3⟩:=h.coef _ (List.getElem_mem hlt);refine Tm.step (idx_ok hlt) (Tm.bind (bOf_tm g1.1 g1.2) ?_);rintro e ⟨he,hel⟩;have hv:(c.Linear.Coefs[k].Var).toNat<x.length:=by omega
     obtain⟨x1,x2⟩:=h.x _ (List.getElem_mem hv);refine Tm.step (idx_i (n:=(c.Linear.Coefs[k].Var).toNat) (by omega) hv) (Tm.bind (bMul_tm he.dg.inB x1 (by omega) (by omega)) ?_);rintro p ⟨hp,hpl⟩;refine Tm.bind (bAdd_tm h1 hp.dg.inB (by omega) (by omega)) ?_;rintro q ⟨hq,hql⟩;refine Tm.some ⟨hlt,iw_n (by omega),hq.dg.inB,by dsimp only;omega,?_⟩;dsimp only;rw[hq.bv,hp.bv,he.bv,h3,ovl,getDk hlt,getDb hv]
   · have:k=c.Linear.Coefs.length:=by omega
     subst this;exact⟨h1,by omega,h3⟩
 · rintro r ⟨h1,h2,h3⟩;refine Tm.bind (bSign_tm h1 (by omega)) ?_;rintro _ rfl;rw[h3];refine Tm.ite (fun hp=>Tm.some ?_) (fun hp=>Tm.ite (fun hq=>Tm.some ?_) (fun hq=>Tm.some ?_))
   · rw[sgn_pos]at hp;simp[viol,hp]
   · rw[sgn_neg]at hq;simp[viol,hq];omega
   · rw[sgn_pos]at hp;rw[sgn_neg]at hq;simp[viol,hp,hq]
theorem oValue_tm{f:Linear}{x:List Big}(h:SumOk f x):Tm (fun N=>oValue N f x) (fun r=>InB W32 r.Digits∧r.Digits.length≤4294967296∧bv r=ovl f x f.Coefs.length):=by
 unfold oValue;refine Tm.bind (rOf_tm h.const.1 h.const.2) ?_;rintro b ⟨hb,hbl⟩;refine Tm.bind (Q:=fun r=>InB W32 r.Digits∧r.Digits.length≤4294967296∧bv r=ovl f x f.Coefs.length) (Tm.up f.Coefs.length (fun k s=>s.2=(k:Int)∧InB W32 s.1.Digits∧s.1.Digits.length≤1073741828+k∧bv s.1=ovl f x k) ⟨rfl,hb.dg.inB,by dsimp only;omega,hb.bv⟩ ?_) fun r hr=>Tm.some hr;rintro k hk ⟨s,i⟩ ⟨rfl,h1,h2,h3⟩;dsimp only at h1 h2 h3;dsimp only[oValue_b1];have hL:=h.len;refine Tm.ite (fun hlt=>?_) (fun hge=>Tm.some ?_)
 · have hlt:k<f.Coefs.length:=by omega
   obtain⟨g1,g2,g3⟩:=h.coef _ (List.getElem_mem hlt);refine Tm.step (idx_ok hlt) (Tm.bind (rOf_tm g1.1 g1.2) ?_);rintro e ⟨he,hel⟩;have hv:(f.Coefs[k].Var).toNat<x.length:=by omega
   obtain⟨x1,x2⟩:=h.x _ (List.getElem_mem hv);refine Tm.step (idx_ok hlt) (Tm.step (idx_i (n:=(f.Coefs[k].Var).toNat) (by omega) hv) (Tm.bind (rMul_tm he.dg.inB x1 (by omega) (by omega)) ?_));rintro p ⟨hp,hpl⟩;refine Tm.bind (rAdd_tm h1 hp.dg.inB (by omega) (by omega)) ?_;rintro q ⟨hq,hql⟩;refine Tm.some ⟨hlt,iw_n (by omega),hq.dg.inB,by dsimp only;omega,?_⟩;dsimp only;rw[hq.bv,hp.bv,he.bv,h3,ovl,getDk hlt,getDb hv]
 · have:k=f.Coefs.length:=by omega
   subst this;exact⟨h1,by omega,h3⟩
theorem oSatisfies_tm{l:List Constraint}{x:List Big}(hl:l.length≤9223372036854775807)(h:∀c∈l,SumOk c.Linear x):Tm (fun N=>oSatisfies N l x) (·=l.all (fun c=>!viol c x)):=by
 unfold oSatisfies;refine Tm.eq (Tm.allL (b:=fun N=>oSatisfies_b1 N l x) l (fun c=>!viol c x) hl ?_ ?_) ?_
 · intro k hk;dsimp only[oSatisfies_b1];refine Tm.pos (by omega) (Tm.step (idx_ok hk) (Tm.bind (oValue_tm (h _ (List.getElem_mem hk))) ?_));rintro r ⟨h1,h2,h3⟩;refine Tm.bind (rSign_tm h1 (by omega)) ?_;rintro _ rfl;rw[h3];refine Tm.bind (Q:=(·=viol l[k] x)) (Tm.ite (fun hp=>Tm.some ?_) (fun hp=>Tm.ite (fun hq=>Tm.step (idx_ok hk) (Tm.some ?_)) (fun hq=>Tm.some ?_))) ?_
   · rw[sgn_pos]at hp;simp[viol,hp]
   · rw[sgn_neg]at hq;simp[viol,hq];omega
   · rw[sgn_pos]at hp;rw[sgn_neg]at hq;simp[viol,hp,hq]
   rintro _ rfl;refine Tm.ite (fun h=>Tm.some ?_) (fun h=>Tm.some ?_)
   · simp[h]
   · simp[h]
 · dsimp only[oSatisfies_b1];exact Tm.neg (by omega) (Tm.some rfl)
 · cases l.all (fun c=>!viol c x)with
   |true=>exact Tm.some rfl
   |false=>exact Tm.some rfl
theorem indexCons_tm{l:List Constraint}{f:Nat→Constraint→Option Bool}{g:Constraint→Bool}(hl:l.length≤9223372036854775807)(h:∀c∈l,Tm (fun N=>f N c) (·=g c)):
 Tm (fun N=>containsCons N l (f N)) (·=l.any g):=by
 unfold containsCons indexCons;refine Tm.bind (Q:=fun r=>decide (r≥0)=l.any g) (Tm.bind (Tm.findL (b:=fun N=>indexCons_b1 N (f N) l) l g (fun k=>(k:Int)) hl ?_ ?_) ?_) ?_
 · intro k hk;dsimp only[indexCons_b1];refine Tm.pos (by omega) (Tm.step (idx_ok hk) (Tm.eq (h _ (List.getElem_mem hk)) ?_));refine Tm.ite (fun h=>Tm.some ?_) (fun h=>Tm.some ?_)
   · simp[h]
   · simp[h]
 · dsimp only[indexCons_b1];exact Tm.neg (by omega) (Tm.some rfl)
 · rintro _ (⟨h,rfl⟩|⟨k,hk,hg,-,rfl⟩)
   · exact Tm.some (by rw[h];rfl)
   · refine Tm.some ?_;rw[List.any_eq_true.2 ⟨_,List.getElem_mem hk,hg⟩];simp
 · intro r hr;exact Tm.some hr
theorem omSatisfies_tm{l:List Constraint}{x:List Big}(hl:l.length≤9223372036854775807)(h:∀c∈l,SumOk c.Linear x):Tm (fun N=>omSatisfies N l x) (·=l.all (fun c=>!viol c x)):=by
 unfold omSatisfies;refine Tm.eq (indexCons_tm (f:=fun N c=>oSat1 N c x) hl fun c hc=>oSat1_tm (h c hc)) (Tm.some ?_);simp[List.not_any_eq_all_not]
theorem lawSatisfies_tm{n:Int}{l:List Constraint}{x:List Big}(hl:l.length≤9223372036854775807)
 (hc:∀c∈l,c.Linear.Coefs.length≤9223372036854775807∧I64 c.Linear.Const∧∀k∈c.Linear.Coefs,I64 k.N)
 (hx:x.length≤9223372036854775807)(hb:∀b∈x,InB W32 b.Digits):Tm (fun N=>lawSatisfies N n l x) (·=true):=by
 unfold lawSatisfies;refine Tm.bind (Q:=fun r=>r=false→n≤600∧l.length≤10∧x.length≤10) ?_ ?_
 · refine Tm.bind awake_tm ?_;rintro _ rfl;refine Tm.neg (by simp) (Tm.ite (fun h=>Tm.some (fun e=>by cases e)) (fun h1=>Tm.ite (fun h=>Tm.some (fun e=>by cases e)) (fun h2=>Tm.some (fun e=>?_))));have:=of_decide_eq_false e;exact⟨by omega,by omega,by omega⟩
 · intro r hr;refine Tm.ite (fun h=>Tm.bind awake_tm fun r hr=>Tm.some hr) (fun h=>?_);obtain⟨hn,hl10,hx10⟩:=hr (by simpa using h);refine Tm.bind (Tm.each (body:=fun N=>lawSatisfies_b1 N l) l (fun c=>c.Linear.Coefs.length≤12) (Q:=fun r=>r=.inr true∨(r=.inl ()∧∀c∈l,c.Linear.Coefs.length≤12)) hl ?_ ?_) ?_
   · intro k hk _;dsimp only[lawSatisfies_b1];refine Tm.pos (by omega) (Tm.step (idx_ok hk) (Tm.ite (fun h=>Tm.some (.inr ⟨_,rfl,.inl rfl⟩)) (fun h=>Tm.some (.inl ⟨rfl,by omega⟩))))
   · intro h;dsimp only[lawSatisfies_b1];exact Tm.neg (by omega) (Tm.some ⟨_,rfl,.inr ⟨rfl,h⟩⟩)
   rintro _ (rfl|⟨rfl,h12⟩)
   · exact Tm.some rfl
   refine Tm.bind (Tm.each (body:=fun N=>lawSatisfies_b2 N x) x (fun b=>b.Digits.length≤8) (Q:=fun r=>r=.inr true∨(r=.inl ()∧∀b∈x,b.Digits.length≤8)) hx ?_ ?_) ?_
   · intro k hk _;dsimp only[lawSatisfies_b2,rSmall];refine Tm.pos (by omega) (Tm.step (idx_ok hk) (Tm.ite (fun h=>Tm.some (.inr ⟨_,rfl,.inl rfl⟩)) (fun h=>Tm.some (.inl ⟨rfl,?_⟩))));have:(x[k].Digits.length:Int)≤8:=by simpa using h
     omega
   · intro h;dsimp only[lawSatisfies_b2];exact Tm.neg (by omega) (Tm.some ⟨_,rfl,.inr ⟨rfl,h⟩⟩)
   rintro _ (rfl|⟨rfl,h8⟩)
   · exact Tm.some rfl
   refine Tm.bind (oRight_tm hl fun c h=>(hc c h).1) fun r1 h1=>Tm.bind (oValid_tm hl fun c h=>(hc c h).1) fun r2 h2=>?_;have e:r2=r1:=by
    cases r1<;>cases r2<;>simp_all
   refine Tm.pos (by simp[e]) (Tm.ite (fun h=>Tm.some rfl) (fun h=>Tm.ite (fun h=>Tm.some rfl) (fun hn2=>?_)));have ha:=h1.1 (by simpa using h);have hlen:(x.length:Int)=n:=by simpa using hn2
   have hs:∀c∈l,SumOk c.Linear x:=fun c hcl=>by
    refine⟨by have:=h12 c hcl;omega,(hc c hcl).2.1,fun k hk=>?_,fun b hbx=>⟨hb b hbx,by have:=h8 b hbx;omega⟩⟩;obtain⟨i,hi,rfl⟩:=List.getElem_of_mem hk;have:=(ha.1 c hcl).1 i hi;exact⟨(hc c hcl).2.2 _ hk,this.1,by rw[hlen];exact this.2.1⟩
   refine Tm.eq (omSatisfies_tm hl hs) (Tm.eq (oSatisfies_tm hl hs) (Tm.some ?_));simp
end Go.D
namespace Go.Proofs
open Go.Shelf
def Tryz.lays156_ren:Go.Shelf.Ren:=⟨fun|156=>122|165=>153|166=>154|169=>155|240=>176|241=>177|276=>185|277=>186|n=>n,fun|31=>158|9=>9|3=>3|4=>4|0=>0|20=>20|72=>196|76=>199|70=>193|37=>194|75=>198|127=>219|164=>230|5=>5|80=>201|n=>n,fun|n=>n⟩
theorem Tryz.lays156:Go.Proofs.Lays.n156 Tryz.prog Tryz.lays156_ren:={
 mixed:=by kernel_rfl
 f156:=Tryz.func122.trans (congrArg some (by kernel_rfl))
 f165:=Tryz.func153.trans (congrArg some (by kernel_rfl))
 f166:=Tryz.func154.trans (congrArg some (by kernel_rfl))
 f169:=Tryz.func155.trans (congrArg some (by kernel_rfl))
 f240:=Tryz.func176.trans (congrArg some (by kernel_rfl))
 f241:=Tryz.func177.trans (congrArg some (by kernel_rfl))
 f276:=Tryz.func185.trans (congrArg some (by kernel_rfl))
 f277:=Tryz.func186.trans (congrArg some (by kernel_rfl))
 t0:=Tryz.underlying0
 a0:=Tryz.isAgg0
 z0:=Tryz.sizeOf0
 v0:=Tryz.zeroValue0
 t3:=Tryz.underlying3
 a3:=Tryz.isAgg3
 z3:=Tryz.sizeOf3
 v3:=Tryz.zeroValue3
 t4:=Tryz.underlying4
 a4:=Tryz.isAgg4
 z4:=Tryz.sizeOf4
 v4:=Tryz.zeroValue4
 t9:=Tryz.underlying9
 a9:=Tryz.isAgg9
 z9:=Tryz.sizeOf9
 v9:=Tryz.zeroValue9
 t20:=Tryz.underlying20
 a20:=Tryz.isAgg20
 z20:=Tryz.sizeOf20
 v20:=Tryz.zeroValue20
 t31:=Tryz.underlying158
 a31:=Tryz.isAgg158
 z31:=Tryz.sizeOf158
 v31:=Tryz.zeroValue158
 t37:=Tryz.underlying194
 a37:=Tryz.isAgg194
 z37:=Tryz.sizeOf194
 v37:=Tryz.zeroValue194
 t70:=Tryz.underlying193
 a70:=Tryz.isAgg193
 z70:=Tryz.sizeOf193
 v70:=Tryz.zeroValue193
 t72:=Tryz.underlying196
 a72:=Tryz.isAgg196
 z72:=Tryz.sizeOf196
 v72:=Tryz.zeroValue196
 t75:=Tryz.underlying198
 a75:=Tryz.isAgg198
 z75:=Tryz.sizeOf198
 v75:=Tryz.zeroValue198
 t76:=Tryz.underlying199
 a76:=Tryz.isAgg199
 z76:=Tryz.sizeOf199
 v76:=Tryz.zeroValue199
 t127:=Tryz.underlying219
 a127:=Tryz.isAgg219
 z127:=Tryz.sizeOf219
 v127:=Tryz.zeroValue219
 t164:=Tryz.underlying230
 a164:=Tryz.isAgg230
 z164:=Tryz.sizeOf230
 v164:=Tryz.zeroValue230}
theorem Tryz.Builder_Extra_156:Builder.Extra Tryz.prog Tryz.lays156_ren:={
 sizeBuilder:=by kernel_rfl
 liesBuilder:=by kernel_rfl
 t5:=Tryz.underlying5
 a5:=Tryz.isAgg5
 z5:=Tryz.sizeOf5
 v5:=Tryz.zeroValue5
 infoByte:=by kernel_rfl
 cellsByte:=by kernel_rfl
 sizeByte:=by kernel_rfl
 neB5:=by decide}
open Go.RowKit in
theorem Tryz.strings_Join_none(a:Option Addr)(c:Nat)(sep:ByteArray)(w:World):
 Calls Tryz.prog 122 #[.slice a 0 c,.string sep] w fun e w'=>e=.returned (.string ⟨#[]⟩)∧w'=w:=Any.strings_Join_none Tryz.lays156 Tryz.Builder_Extra_156 a c sep w
open Go.RowKit in
theorem Tryz.strings_Join(bk o c:Nat)(xs:List ByteArray)(sep:ByteArray)(w:World)(hcells:∀(j:Nat) x,xs[j]?=some x→w.cell? ⟨bk,o+j,none⟩=some (.string x))(hbk:bk<w.heap.size)(hN:xs.length≤140737488355328)(hcap:xs.length≤c)(hlen:(Lib.join (xs.map (·.data.toList)) sep.data.toList).length≤140737488355328):
 Calls Tryz.prog 122 #[.slice (some ⟨bk,o,none⟩) xs.length c,.string sep] w fun e w'=>e=.returned (.string ⟨(Lib.join (xs.map (·.data.toList)) sep.data.toList).toArray⟩)∧Below w.heap.size w w':=Any.strings_Join Tryz.lays156 Tryz.Builder_Extra_156 bk o c xs sep w hcells hbk hN hcap hlen
def Tryz.lays283_ren:Go.Shelf.Ren:=⟨fun|283=>178|n=>n,fun|3=>3|9=>9|4=>4|n=>n,fun|n=>n⟩
theorem Tryz.lays283:Go.Proofs.Lays.n283 Tryz.prog Tryz.lays283_ren:={
 mixed:=by kernel_rfl
 f283:=Tryz.func178.trans (congrArg some (by kernel_rfl))
 t3:=Tryz.underlying3
 a3:=Tryz.isAgg3
 z3:=Tryz.sizeOf3
 v3:=Tryz.zeroValue3
 t4:=Tryz.underlying4
 a4:=Tryz.isAgg4
 z4:=Tryz.sizeOf4
 v4:=Tryz.zeroValue4
 t9:=Tryz.underlying9
 a9:=Tryz.isAgg9
 z9:=Tryz.sizeOf9
 v9:=Tryz.zeroValue9}
open Go.Lib in
theorem Tryz.internal_strconv_small(i:Nat)(h:i<100)(w:World):
 Calls Tryz.prog 178 #[.int .i64 i] w fun e w'=>e=.returned (.string ⟨(Lib.decDigits i).toArray⟩)∧w'=w:=Any.internal_strconv_small Tryz.lays283 i h w
def Tryz.laysM284_ren:Go.Shelf.Ren:=⟨fun|284=>179|129=>188|317=>187|318=>189|n=>n,fun|53=>87|3=>3|212=>234|0=>0|4=>4|46=>112|5=>5|9=>9|n=>n,fun|17=>0|n=>n⟩
theorem Tryz.laysM284:Go.Proofs.LaysM.n284 Tryz.prog Tryz.laysM284_ren:={
 mixed:=by kernel_rfl
 f129:=Tryz.func188.trans (congrArg some (by kernel_rfl))
 f284:=Tryz.func179.trans (congrArg some (by kernel_rfl))
 f317:=Tryz.func187.trans (congrArg some (by kernel_rfl))
 f318:=Tryz.func189.trans (congrArg some (by kernel_rfl))
 t0:=Tryz.underlying0
 a0:=Tryz.isAgg0
 z0:=Tryz.sizeOf0
 v0:=Tryz.zeroValue0
 t3:=Tryz.underlying3
 a3:=Tryz.isAgg3
 z3:=Tryz.sizeOf3
 v3:=Tryz.zeroValue3
 t4:=Tryz.underlying4
 a4:=Tryz.isAgg4
 z4:=Tryz.sizeOf4
 v4:=Tryz.zeroValue4
 t5:=Tryz.underlying5
 a5:=Tryz.isAgg5
 z5:=Tryz.sizeOf5
 v5:=Tryz.zeroValue5
 t9:=Tryz.underlying9
 a9:=Tryz.isAgg9
 z9:=Tryz.sizeOf9
 v9:=Tryz.zeroValue9
 t46:=Tryz.underlying112
 a46:=Tryz.isAgg112
 z46:=Tryz.sizeOf112
 v46:=Tryz.zeroValue112
 t53:=Tryz.underlying87
 a53:=Tryz.isAgg87
 z53:=Tryz.sizeOf87
 v53:=Tryz.zeroValue87
 t212:=Tryz.underlying234
 a212:=Tryz.isAgg234
 z212:=Tryz.sizeOf234
 v212:=Tryz.zeroValue234
 g17:=by kernel_rfl
 i0:=by kernel_rfl
 i3:=by kernel_rfl
 i4:=by kernel_rfl
 i5:=by kernel_rfl
 i9:=by kernel_rfl
 i46:=by kernel_rfl
 i53:=by kernel_rfl
 i212:=by kernel_rfl
 m17:=by kernel_rfl}
open Go.Lib in
theorem Tryz.internal_strconv_numDigits(u:Nat)(h1:1≤u)(h2:u<18446744073709551616)(w:World)(htab:Lib.TabIs Tryz.prog w "internal/strconv.uint64pow10" .u64 Lib.pow10Tab):
 Calls Tryz.prog 179 #[.int .u64 u] w fun e w'=>e=.returned (.int .i64 (Lib.nDigits u))∧w'=w:=Any.internal_strconv_numDigits Tryz.laysM284 u h1 h2 w htab
def Tryz.lays285_ren:Go.Shelf.Ren:=⟨fun|285=>180|n=>n,fun|37=>194|53=>87|3=>3|4=>4|51=>86|9=>9|5=>5|0=>0|n=>n,fun|n=>n⟩
theorem Tryz.lays285:Go.Proofs.Lays.n285 Tryz.prog Tryz.lays285_ren:={
 mixed:=by kernel_rfl
 f285:=Tryz.func180.trans (congrArg some (by kernel_rfl))
 t0:=Tryz.underlying0
 a0:=Tryz.isAgg0
 z0:=Tryz.sizeOf0
 v0:=Tryz.zeroValue0
 t3:=Tryz.underlying3
 a3:=Tryz.isAgg3
 z3:=Tryz.sizeOf3
 v3:=Tryz.zeroValue3
 t4:=Tryz.underlying4
 a4:=Tryz.isAgg4
 z4:=Tryz.sizeOf4
 v4:=Tryz.zeroValue4
 t5:=Tryz.underlying5
 a5:=Tryz.isAgg5
 z5:=Tryz.sizeOf5
 v5:=Tryz.zeroValue5
 t9:=Tryz.underlying9
 a9:=Tryz.isAgg9
 z9:=Tryz.sizeOf9
 v9:=Tryz.zeroValue9
 t37:=Tryz.underlying194
 a37:=Tryz.isAgg194
 z37:=Tryz.sizeOf194
 v37:=Tryz.zeroValue194
 t51:=Tryz.underlying86
 a51:=Tryz.isAgg86
 z51:=Tryz.sizeOf86
 v51:=Tryz.zeroValue86
 t53:=Tryz.underlying87
 a53:=Tryz.isAgg87
 z53:=Tryz.sizeOf87
 v53:=Tryz.zeroValue87}
open Go.RowKit Go.Sort Go.Lib in
theorem Tryz.internal_strconv_formatBase10(blk off cap:Nat)(u:Nat)(d:Array UInt8)(w:World)(hH:Holds (fun(b:UInt8)=>Value.int .u8 (b.toNat:Int)) w blk off d)(hu:u<10^d.size)(hu64:u<18446744073709551616)(hsz:d.size<4611686018427387904):
 Calls Tryz.prog 180 #[.slice (some ⟨blk,off,none⟩) d.size cap,.int .u64 u] w fun e w'=>
  e=.returned (.tuple #[])∧∃(n v':Nat) (dk:Array UInt8),w'=(putRow (fun(b:UInt8)=>Value.int .u8 (b.toNat:Int)) w blk off dk).drewN n∧FmtInv d.size u 0 v' dk:=Any.internal_strconv_formatBase10 Tryz.lays285 blk off cap u d w hH hu hu64 hsz
def Tryz.lays105_ren:Go.Shelf.Ren:=⟨fun|105=>151|212=>173|99=>174|165=>153|166=>154|170=>175|169=>155|263=>182|264=>183|206=>184|240=>176|241=>177|276=>185|277=>186|n=>n,fun|9=>9|3=>3|4=>4|20=>20|0=>0|46=>112|109=>215|5=>5|72=>196|76=>199|51=>86|146=>226|53=>87|148=>228|70=>193|37=>194|75=>198|127=>219|164=>230|80=>201|n=>n,fun|n=>n⟩
theorem Tryz.lays105:Go.Proofs.Lays.n105 Tryz.prog Tryz.lays105_ren:={
 mixed:=by kernel_rfl
 f99:=Tryz.func174.trans (congrArg some (by kernel_rfl))
 f105:=Tryz.func151.trans (congrArg some (by kernel_rfl))
 f165:=Tryz.func153.trans (congrArg some (by kernel_rfl))
 f166:=Tryz.func154.trans (congrArg some (by kernel_rfl))
 f169:=Tryz.func155.trans (congrArg some (by kernel_rfl))
 f170:=Tryz.func175.trans (congrArg some (by kernel_rfl))
 f206:=Tryz.func184.trans (congrArg some (by kernel_rfl))
 f212:=Tryz.func173.trans (congrArg some (by kernel_rfl))
 f240:=Tryz.func176.trans (congrArg some (by kernel_rfl))
 f241:=Tryz.func177.trans (congrArg some (by kernel_rfl))
 f263:=Tryz.func182.trans (congrArg some (by kernel_rfl))
 f264:=Tryz.func183.trans (congrArg some (by kernel_rfl))
 f276:=Tryz.func185.trans (congrArg some (by kernel_rfl))
 f277:=Tryz.func186.trans (congrArg some (by kernel_rfl))
 t0:=Tryz.underlying0
 a0:=Tryz.isAgg0
 z0:=Tryz.sizeOf0
 v0:=Tryz.zeroValue0
 t3:=Tryz.underlying3
 a3:=Tryz.isAgg3
 z3:=Tryz.sizeOf3
 v3:=Tryz.zeroValue3
 t4:=Tryz.underlying4
 a4:=Tryz.isAgg4
 z4:=Tryz.sizeOf4
 v4:=Tryz.zeroValue4
 t5:=Tryz.underlying5
 a5:=Tryz.isAgg5
 z5:=Tryz.sizeOf5
 v5:=Tryz.zeroValue5
 t9:=Tryz.underlying9
 a9:=Tryz.isAgg9
 z9:=Tryz.sizeOf9
 v9:=Tryz.zeroValue9
 t20:=Tryz.underlying20
 a20:=Tryz.isAgg20
 z20:=Tryz.sizeOf20
 v20:=Tryz.zeroValue20
 t37:=Tryz.underlying194
 a37:=Tryz.isAgg194
 z37:=Tryz.sizeOf194
 v37:=Tryz.zeroValue194
 t46:=Tryz.underlying112
 a46:=Tryz.isAgg112
 z46:=Tryz.sizeOf112
 v46:=Tryz.zeroValue112
 t51:=Tryz.underlying86
 a51:=Tryz.isAgg86
 z51:=Tryz.sizeOf86
 v51:=Tryz.zeroValue86
 t53:=Tryz.underlying87
 a53:=Tryz.isAgg87
 z53:=Tryz.sizeOf87
 v53:=Tryz.zeroValue87
 t70:=Tryz.underlying193
 a70:=Tryz.isAgg193
 z70:=Tryz.sizeOf193
 v70:=Tryz.zeroValue193
 t72:=Tryz.underlying196
 a72:=Tryz.isAgg196
 z72:=Tryz.sizeOf196
 v72:=Tryz.zeroValue196
 t75:=Tryz.underlying198
 a75:=Tryz.isAgg198
 z75:=Tryz.sizeOf198
 v75:=Tryz.zeroValue198
 t76:=Tryz.underlying199
 a76:=Tryz.isAgg199
 z76:=Tryz.sizeOf199
 v76:=Tryz.zeroValue199
 t109:=Tryz.underlying215
 a109:=Tryz.isAgg215
 z109:=Tryz.sizeOf215
 v109:=Tryz.zeroValue215
 t127:=Tryz.underlying219
 a127:=Tryz.isAgg219
 z127:=Tryz.sizeOf219
 v127:=Tryz.zeroValue219
 t146:=Tryz.underlying226
 a146:=Tryz.isAgg226
 z146:=Tryz.sizeOf226
 v146:=Tryz.zeroValue226
 t148:=Tryz.underlying228
 a148:=Tryz.isAgg228
 z148:=Tryz.sizeOf228
 v148:=Tryz.zeroValue228
 t164:=Tryz.underlying230
 a164:=Tryz.isAgg230
 z164:=Tryz.sizeOf230
 v164:=Tryz.zeroValue230}
theorem Tryz.Builder_Extra_105:Builder.Extra Tryz.prog Tryz.lays105_ren:={
 sizeBuilder:=by kernel_rfl
 liesBuilder:=by kernel_rfl
 t5:=Tryz.underlying5
 a5:=Tryz.isAgg5
 z5:=Tryz.sizeOf5
 v5:=Tryz.zeroValue5
 infoByte:=by kernel_rfl
 cellsByte:=by kernel_rfl
 sizeByte:=by kernel_rfl
 neB5:=by decide}
open Go.RowKit Go.Lib in
theorem Tryz.strings_Repeat(s:ByteArray)(c:Nat)(w:World)(hc:c≤9223372036854775807)(hlen:s.size*c≤140737488355328):
 Calls Tryz.prog 151 #[.string s,.int .i64 c] w fun e w'=>e=.returned (.string ⟨(Lib.repeatL s.data.toList c).toArray⟩)∧Below w.heap.size w w':=Any.strings_Repeat Tryz.lays105 Tryz.Builder_Extra_105 s c w hc hlen
def Tryz.laysNm217_ren:Go.Shelf.Ren:=⟨fun|17=>152|n=>n,fun|24=>158|9=>9|3=>3|4=>4|0=>0|n=>n,fun|n=>n⟩
theorem Tryz.laysNm217:Go.Proofs.Lays2.n17 Tryz.prog Tryz.laysNm217_ren:={
 mixed:=by kernel_rfl
 f17:=Tryz.func152.trans (congrArg some (by kernel_rfl))
 t0:=Tryz.underlying0
 a0:=Tryz.isAgg0
 z0:=Tryz.sizeOf0
 v0:=Tryz.zeroValue0
 t3:=Tryz.underlying3
 a3:=Tryz.isAgg3
 z3:=Tryz.sizeOf3
 v3:=Tryz.zeroValue3
 t4:=Tryz.underlying4
 a4:=Tryz.isAgg4
 z4:=Tryz.sizeOf4
 v4:=Tryz.zeroValue4
 t9:=Tryz.underlying9
 a9:=Tryz.isAgg9
 z9:=Tryz.sizeOf9
 v9:=Tryz.zeroValue9
 t24:=Tryz.underlying158
 a24:=Tryz.isAgg158
 z24:=Tryz.sizeOf158
 v24:=Tryz.zeroValue158}
open Go.RowKit Go.Lib Go.Sort in
theorem Tryz.slices_Reverse_string(blk off cap:Nat)(zs:List (List UInt8))(w:World)(hH:Holds encStr w blk off zs.toArray)(hsz:zs.length≤9223372036854775807):
 Calls Tryz.prog 152 #[.slice (some ⟨blk,off,none⟩) zs.length cap] w fun e w'=>e=.returned (.tuple #[])∧∃n,w'=putRow encStr (Sort.ahead w n) blk off zs.reverse.toArray:=Any.slices_Reverse_string Tryz.laysNm217 blk off cap zs w hH hsz
open Go.RowKit Go.Lib Go.Sort in
theorem Tryz.slices_Reverse_string_empty(a:Option Addr)(cap:Nat)(w:World):
 Calls Tryz.prog 152 #[.slice a 0 cap] w fun e w'=>e=.returned (.tuple #[])∧w'=w:=Any.slices_Reverse_string_empty Tryz.laysNm217 a cap w
end Go.Proofs
namespace Go.Proofs.YtipdkfmhfakbnaaGreatDoor.F
open Go Go.Shelf Go.RowKit Go.Sort Go.Lib Go.Proofs
set_option maxHeartbeats 6400000 in
set_option maxRecDepth 100000 in
theorem fmtU(u:Nat)(hu64:u<18446744073709551616)(w:World)
 (htab:Lib.TabIs Tryz.prog w "internal/strconv.uint64pow10" .u64 Lib.pow10Tab):
 Calls Tryz.prog 172 #[.int .u64 u,.int .i64 10] w fun e w'=>e=.returned (.string ⟨(Lib.decDigits u).toArray⟩)∧∃k os,w'=grow (w.drewN k) os:=by
 by_cases hs:u<100
 · go_enter Tryz.func172,Tryz.ntmps172
   go_wp2_with (refine(Tryz.internal_strconv_small u hs _).mono ?_;rintro e w' ⟨rfl,rfl⟩)
   go_ret
   exact⟨rfl,0,#[],by simp[World.drewN_zero]⟩
 · have hu1:1≤u:=by omega
   have hnd20:Lib.nDigits u≤20:=by have:=Lib.numDigits_eq u hu1 hu64;split at this<;>omega
   have hal:Tryz.prog.arrayLen 221=24:=by simp[Program.arrayLen,Tryz.underlying221]
   have hsl1:∀W,(Instr.sliceAt 221 (.pointer (some ⟨w.heap.size,0,none⟩)) none (some (.int .i64 (Lib.nDigits u:Int))) none).run Tryz.prog W=.ok (.slice (some ⟨w.heap.size,0,none⟩) (Lib.nDigits u) 24) W:=fun W=>by
    rw[run_sliceAt_array_h W 221 ⟨w.heap.size,0,none⟩ (by simp[Program.arrayLen,Program.elem,Tryz.underlying221]) .i64 (Lib.nDigits u:Int) (by omega) (by rw[hal];omega)]
    go_simp
   have hH0:=Lib.holds_zero0 w 221 (Lib.nDigits u) (by omega);have hfmt:=Tryz.internal_strconv_formatBase10 w.heap.size 0 24 u (Array.replicate (Lib.nDigits u) 0) (w.alloc (.cells Lib.zeros24 221)) hH0 (by rw[Array.size_replicate];exact Lib.lt_pow_nDigits u) hu64 (by rw[Array.size_replicate];omega);rw[Array.size_replicate]at hfmt;have HH0:=Lib.hid hH0;clear hH0 hal
   go_enter Tryz.func172,Tryz.ntmps172
   go_wp2_with (first
    |(refine(Tryz.internal_strconv_numDigits u hu1 hu64 _ (Lib.tabIs_alloc htab _)).mono ?_;rintro e w' ⟨rfl,rfl⟩))
   refine hfmt.mono ?_;rintro e w' ⟨rfl,k,v',dk,rfl,hF⟩;have hcv:(convert 194 9 (.slice (some ⟨w.heap.size,0,none⟩) (Lib.nDigits u) 24)).run Tryz.prog ((putRow (fun(b:UInt8)=>Value.int .u8 (b.toNat:Int)) (w.alloc (.cells Lib.zeros24 221)) w.heap.size 0 dk).drewN k)=.ok (.string ⟨(Lib.decDigits u).toArray⟩) ((putRow (fun(b:UInt8)=>Value.int .u8 (b.toNat:Int)) (w.alloc (.cells Lib.zeros24 221)) w.heap.size 0 dk).drewN k):=by
    have h:=run_convert_bytes_back (P:=Tryz.prog) ((putRow (fun(b:UInt8)=>Value.int .u8 (b.toNat:Int)) (w.alloc (.cells Lib.zeros24 221)) w.heap.size 0 dk).drewN k) 194 9 5 ⟨w.heap.size,0,none⟩ 24 (Lib.decDigits u) Tryz.underlying194 Tryz.underlying5 Tryz.underlying9 (fun j hj=>by
     rw[Lib.row_is_numeral hF j hj,Lib.add_plain,World.cell?_drewN];exact cell?_putRow (fun(b:UInt8)=>Value.int .u8 (b.toNat:Int)) _ w.heap.size 0 _ dk HH0.out (by rw[hF.size,Array.size_replicate]) j (by rw[hF.size];rw[Lib.decDigits_length]at hj;exact hj))
    rw[Lib.decDigits_length]at h;exact h
   go_wp2
   go_ret
   obtain⟨os,eo⟩:=Lib.fin_at w (.cells Lib.zeros24 221) dk k 0;exact⟨rfl,k,os,eo⟩
theorem fmtUint(u:Nat)(hu64:u<18446744073709551616)(w:World)
 (htab:Lib.TabIs Tryz.prog w "internal/strconv.uint64pow10" .u64 Lib.pow10Tab):
 Calls Tryz.prog 150 #[.int .u64 u,.int .i64 10] w fun e w'=>e=.returned (.string ⟨(Lib.decDigits u).toArray⟩)∧∃k os,w'=grow (w.drewN k) os:=by
 go_enter Tryz.func150,Tryz.ntmps150
 go_wp2_with (refine(fmtU u hu64 _ htab).mono ?_;rintro e w' ⟨rfl,k,os,rfl⟩)
 go_ret
 exact⟨rfl,k,os,rfl⟩
end Go.Proofs.YtipdkfmhfakbnaaGreatDoor.F
set_option maxRecDepth 100000
namespace Go.X
open Go Go.RowKit Go.Sort Go.Lib Go.Proofs
theorem Els.strs{H:Hp}:∀{cs:List Value} {xs:List (List UInt8)},Els rStr H cs xs→cs=xs.map (fun x=>Value.string (s8 x))
 |_,[],h=>h
 |_,x::xs,⟨a,b,h1,h2,h3⟩=>by rw[h1,show a=[.string (s8 x)] from h2,h3.strs];rfl
theorem Els.ofStrs{H:Hp}:∀(xs:List (List UInt8)),Els rStr H (xs.map (fun x=>Value.string (s8 x))) xs
 |[]=>rfl
 |x::xs=>⟨[.string (s8 x)],_,rfl,rfl,Els.ofStrs xs⟩
theorem ext_grow(w:World)(k:Nat)(os:Array Obj):Ext w (grow (w.drewN k) os):=
 ⟨rfl,rfl,rfl,by simp[grow,World.drewN],fun g hg=>Lib.heap_grow_old w k os g hg⟩
theorem putCells_own{xs ys:List (List UInt8)}{sp:List Value}(hl:ys.length=xs.length):
 putCells encStr 0 ys.toArray ((xs.map (fun x=>Value.string (s8 x))++sp).toArray)=(ys.map (fun x=>Value.string (s8 x))++sp).toArray:=by
 apply Array.ext_getElem?;intro k;simp only[putCells,Array.getElem?_mapIdx,List.getElem?_toArray,Nat.zero_le,true_and,Nat.zero_add,Nat.sub_zero,List.size_toArray];rcases Nat.lt_or_ge k ys.length with h|h
 · rw[List.getElem?_append_left (by simp;omega),List.getElem?_append_left (by simpa using h)];have h2:k<xs.length:=by omega
   simp only[List.getElem?_map,List.getElem?_eq_getElem h2,List.getElem?_eq_getElem h,Option.map_some,if_pos h,Option.some.injEq];rw[getElem!_pos _ k (by simpa using h)];simp[encStr,s8]
 · rw[List.getElem?_append_right (by simp;omega),List.getElem?_append_right (by simpa using h)];simp only[List.length_map,hl];cases hs:sp[k-xs.length]?with
   |none=>rfl
   |some v=>simp only[Option.map_some];rw[if_neg (by omega)]
end Go.X
namespace Go.Proofs.YtipdkfmhfakbnaaGreatDoor.FS
open Go Go.RowKit Go.Sort Go.Lib Go.Proofs Go.X Go.D Go.Q Go.Proofs.YtipdkfmhfakbnaaGreatDoor.TB
theorem en150:Go.X.Enters Tryz.prog 150:=⟨Tryz.f150,Tryz.func150,by kernel_rfl,by kernel_rfl⟩
theorem en151:Go.X.Enters Tryz.prog 151:=⟨Tryz.f151,Tryz.func151,by kernel_rfl,by kernel_rfl⟩
theorem en122:Go.X.Enters Tryz.prog 122:=⟨Tryz.f122,Tryz.func122,by kernel_rfl,by kernel_rfl⟩
theorem en152:Go.X.Enters Tryz.prog 152:=⟨Tryz.f152,Tryz.func152,by kernel_rfl,by kernel_rfl⟩
theorem formatUint_c(N:Nat)(i b:Int)(r:List UInt8)(h:formatUint N i b=some r):Cn Tryz.prog 150 [sI .u64 i,sI .i64 b] [] [sT r]:=by
 refine in_callsT en150 fun ν H w l ht hl=>?_;obtain⟨a,_,rfl,⟨h1,h2⟩,a2,_,rfl,⟨h3,h4⟩,rfl⟩:=hl;subst h1 h3;unfold formatUint at h;split at h
 · rename_i hc;obtain⟨h0,h1,rfl⟩:=hc;obtain⟨u,rfl⟩:=Int.eq_ofNat_of_zero_le h0;cases h;refine(F.fmtUint u (by omega) w (tab_is ht)).mono ?_;rintro e w' ⟨rfl,k,os,rfl⟩;exact⟨[_],rfl,ext_grow w k os,fun ν' H'=>⟨_,[],rfl,⟨rfl,rfl⟩,rfl⟩⟩
 · cases h
theorem repeatStr_c(N:Nat)(s:List UInt8)(c:Int)(r:List UInt8)(h:repeatStr N s c=some r):Cn Tryz.prog 151 [sT s,sI .i64 c] [] [sT r]:=by
 refine in_calls en151 fun ν H w l hl=>?_;obtain⟨a,_,rfl,⟨h1,h2⟩,a2,_,rfl,⟨h3,h4⟩,rfl⟩:=hl;subst h1 h3;unfold repeatStr at h;split at h
 · rename_i hc;obtain⟨h0,h1,h2⟩:=hc;obtain⟨u,rfl⟩:=Int.eq_ofNat_of_zero_le h0;cases h;refine(Tryz.strings_Repeat (s8 s) u w (by omega) (by rw[s8_size];exact Int.ofNat_le.1 (by rw[Int.natCast_mul];exact h2))).mono ?_;rintro e w' ⟨rfl,hB⟩;exact⟨[_],rfl,hB,fun ν' H'=>⟨_,[],rfl,⟨rfl,rfl⟩,rfl⟩⟩
 · cases h
theorem joinStr_c(N:Nat)(xs:List (List UInt8))(s r:List UInt8)(h:joinStr N xs s=some r):Cn Tryz.prog 122 [sR rStr false xs,sT s] [] [sT r]:=by
 refine in_callsV en122 fun ν H w l hv hl=>?_;obtain⟨v,_,rfl,hs,a2,_,rfl,⟨h3,h4⟩,rfl⟩:=hl;subst h3;unfold joinStr at h;split at h
 · rename_i hc;obtain⟨h0,h1⟩:=hc;cases h;have hx:∀l:List (List UInt8),(l.map s8).map (·.data.toList)=l:=fun l=>by rw[List.map_map];exact(List.map_congr_left fun x _=>by simp[s8]).trans (List.map_id l)
   have hj0:Calls Tryz.prog 122 #[v,.string (s8 s)] w fun e w'=>e=.returned (.string (s8 (Lib.join xs s)))∧Ext w w':=by
    have hs:Rs rStr (H false) v xs:=hs;rcases hs with⟨⟨oa,rfl⟩,rfl⟩|⟨b,o,cap,rfl,hcap,hxs⟩
    · refine(Tryz.strings_Join_none oa 0 (s8 s) w).mono ?_;rintro e w' ⟨rfl,rfl⟩;exact⟨by simp[Lib.join,s8],Ext.refl _⟩
    · have hcell:∀(j:Nat) x,(xs.map s8)[j]?=some x→w.cell? ⟨b,o+j,none⟩=some (.string x):=by
       intro j x hj;rw[List.getElem?_map]at hj;cases hx1:xs[j]?with
       |none=>rw[hx1]at hj;cases hj
       |some y=>
        rw[hx1]at hj;cases hj;obtain⟨vs,-,hA,hv'⟩:=hxs j y hx1;have hv':vs=[.string (s8 y)]:=hv';have h3:=hA.get 0 (v:=.string (s8 y)) (by rw[hv'];rfl);have h4:=cellH_view (A:=[]) (cellH_le (hv false) h3);rw[show o+j*rStr.sz+0=o+j from by show o+j*1+0=o+j;omega]at h4;exact h4
      cases xs with
      |nil=>
       refine(Tryz.strings_Join_none (some ⟨b,o,none⟩) cap (s8 s) w).mono ?_;rintro e w' ⟨rfl,rfl⟩;exact⟨by simp[Lib.join,s8],Ext.refl _⟩
      |cons y ys=>
       have hb:b<w.heap.size:=by
        have h5:=hcell 0 (s8 y) rfl;rcases Nat.lt_or_ge b w.heap.size with h6|h6
        · exact h6
        · simp[World.cell?,Array.getElem?_eq_none h6]at h5
       have h7:=Tryz.strings_Join b o cap ((y::ys).map s8) (s8 s) w hcell hb (by simpa using h0) (by simpa using hcap) (by rw[hx];exact h1);rw[hx,List.length_map]at h7;exact h7
   exact hj0.mono fun e w' ⟨he,hE⟩=>⟨[_],he,hE,fun ν' H'=>⟨_,[],rfl,⟨rfl,rfl⟩,rfl⟩⟩
 · cases h
theorem revStr_c(N:Nat)(xs r:List (List UInt8))(h:revStr N xs=some r):Cx Tryz.prog 152 [sO 0] [.row rStr true xs] [(0,some (.row rStr true r))] []:=by
  obtain⟨hs,rfl⟩:=revStr_some h;refine⟨en152,fun X w H ν l hν hS hl=>?_⟩;obtain⟨v,_,rfl,⟨b,c,n,p1,rfl⟩,rfl⟩:=hl;obtain⟨b',c',n',k,q1,q2,q3⟩:=hS.obs 0 _ rfl;rw[p1]at q1;cases q1;obtain⟨rfl,e0,cs,sp,rfl,e3,e4⟩:=q3;have hcs:=e3.strs;have fin:∀w',Go.X.Loc [b] [] w w' [b] [.cells ([]++(xs.reverse.map (fun x=>Value.string (s8 x))++sp))]→EndR X w H ν 1 [(0,some (.row rStr true xs.reverse))] [] [] w':=by
    intro w' hL;obtain⟨g1,g2⟩:=hS.mod (ob:=.row rStr true xs.reverse) rfl rfl p1 hL (fun H' hH=>⟨by simp,e0,xs.reverse.map (fun x=>Value.string (s8 x)),sp,rfl,Els.ofStrs _,by rw[←e4,hcs];simp⟩);refine⟨ν,fun _ _=>rfl,?_,rfl⟩;have:aget [(0,some (Ob.row rStr true xs.reverse))]=apF [(0,some (Ob.row rStr true xs.reverse))] (aget (numO 0 [Ob.row rStr true xs])):=by
      funext t;show(bif Nat.beq t 0 then _ else none)=(bif Nat.beq t 0 then _ else(bif Nat.beq t 0 then _ else none));cases Nat.beq t 0<;>rfl
    rw[this];exact g1
  cases b with
  |none=>
    have h0:[]++(cs++sp)=[]:=q2;have hcs0:cs=[]:=by simp at h0;exact h0.1
    have hx0:xs=[]:=by rw[hcs0]at hcs;cases xs with|nil=>rfl|cons _ _=>cases hcs
    subst hx0;refine(Tryz.slices_Reverse_string_empty none 0 w).mono ?_;rintro e w' ⟨rfl,rfl⟩;refine⟨[],rfl,fin _ ?_⟩;have:=loc1 q2;rw[hcs0]at this;exact this
  |some b=>
    have hH:Holds encStr w b 0 xs.toArray:=by
      intro j hj;have hj':j<xs.length:=by simpa using hj
      have hcell:([]++(cs++sp))[0+j]?=some (Value.string (s8 xs[j])):=by
        rw[List.nil_append,hcs,Nat.zero_add,List.getElem?_append_left (by simpa using hj'),List.getElem?_map,List.getElem?_eq_getElem hj'];rfl
      refine⟨?_,?_⟩
      · rw[cell_own q2 hcell,getElem!_pos _ j hj];rfl
      · obtain⟨t,lo,hi,h1,h2,h3⟩:=q2
        have := h3 (0 + j) (by rcases Nat.lt_or_ge (0 + j) ([] ++ (cs ++ sp)).length with h | h; · exact h
                               · rw[List.getElem?_eq_none h]at hcell;cases hcell)
        simp[World.frozen?,h1];omega
    refine(Tryz.slices_Reverse_string b 0 c xs w hH hs).mono ?_;rintro e w' ⟨rfl,n,rfl⟩;refine⟨[],rfl,fin _ ?_⟩;have hL:=loc1 q2;obtain⟨t,lo,hi,h1,h2,h3⟩:=q2;have hlen:(xs.reverse.map (fun x=>Value.string (s8 x))++sp).length=(cs++sp).length:=by rw[hcs];simp
    exact(hL.put (w':=putRow encStr (Sort.ahead w n) b 0 xs.reverse.toArray) 0 rfl (c':=.cells ([]++(xs.reverse.map (fun x=>Value.string (s8 x))++sp)))
      ⟨t,lo,hi,by
        simp only[putRow,mapBlock,Sort.ahead,Array.getElem?_modify,if_true,h1,Option.map_some,onCells,List.nil_append];rw[hcs,putCells_own (by simp)],h2,fun j hj=>h3 j (by rw[List.nil_append]at hj⊢;rw[←hlen];exact hj)⟩
      (fun k hk=>by simp[putRow,mapBlock,Sort.ahead,Array.getElem?_modify,Ne.symm hk]) (by simp[putRow,mapBlock,Sort.ahead]) rfl rfl rfl).1
end Go.Proofs.YtipdkfmhfakbnaaGreatDoor.FS
namespace Go.X
open Go Go.RowKit
def wideR(rd:Option Nat):Fence:={fn:=fun _=>True,depth:=none,alive:=false,round:=rd}
theorem wpInR{rd:Option Nat}{m:Nat}{P:Program}{o:Oper}{a:Act}{w:World}{K:Act→World→Prop}{Q:Exit→Act→World→Prop}{R:Value→World→Prop}
 (hd:∀c,o.op≠.defer c)(h:OpY P o.op o.type (ev (envOf a)) w R)(hk:∀v w',R v w'→K (a.put o.dst v) w'):o.wpIn (wideR rd) m P a w K Q:=by
 refine⟨fun _ _=>trivial,?_⟩;rw[Oper.semAt_eq _ _ _ hd];unfold OpY at h;rw[execOp_bare,←ev_envOf];generalize(execOp (ev (envOf a)) (bareOp o.op o.type)).run P w=r at*;cases r with
 |ok n w'=>
  cases n<;>simp only[upon,Oper.uponIn]at h⊢<;>first|exact hk _ _ h|exact h.elim|skip
  · exact⟨fun hh=>(by cases hh),CallsIn.mono (callsIn_wide.2 h:CallsIn Fence.wide (m-1) P _ _ _ _) fun e w'' he=>by cases e<;>first|exact hk _ _ he|exact he.elim⟩
  · refine⟨fun hh=>(by cases hh),fun c cs _=>?_⟩;obtain⟨v,w'',r1,r2⟩:=h c cs;exact⟨v,w'',hk _ _ r1,stepsIn_wide.2 r2⟩
 |halt x w'=>cases x<;>simp only[upon]at h
def Cw(rd:Option Nat)(ds:List Deferred)(P:Program)(n:Nat)(c:Code)(Q:Exit→Env→World→Prop)(e:Env)(w:World):Prop:= ∀(m:Nat) (a:Act),a.tmps.size=n→a.defers=ds→envOf a=e→c.wpIn (wideR rd) m P (fun x a' w'=>a'.tmps.size=n∧a'.defers=ds∧Q x (envOf a') w') a w
section
variable {rd:Option Nat} {ds:List Deferred} {P:Program} {n:Nat} {Q Q':Exit→Env→World→Prop} {e:Env} {w:World}
theorem Cw.mono{c:Code}(h:Cw rd ds P n c Q e w)(hq:∀x e w,Q x e w→Q' x e w):Cw rd ds P n c Q' e w:=
 fun m a h1 h2 h3=>wpIn_mono (h m a h1 h2 h3) fun x a' w' g=>⟨g.1,g.2.1,hq _ _ _ g.2.2⟩
theorem Cw.skip(h:Q .normal e w):Cw rd ds P n .skip Q e w:=fun m a h1 h2 h3=>wpIn_skip ⟨h1,h2,h3▸h⟩
theorem Cw.ret(h:Q .ret e w):Cw rd ds P n .ret Q e w:=fun m a h1 h2 h3=>wpIn_ret ⟨h1,h2,h3▸h⟩
def thenQ(K:Env→World→Prop)(Q:Exit→Env→World→Prop):Exit→Env→World→Prop
 |.normal=>K
 |x=>Q x
theorem Cw.seq{x y:Code}{K:Env→World→Prop}(h:Cw rd ds P n x (thenQ K Q) e w)(h2:∀e w,K e w→Cw rd ds P n y Q e w):Cw rd ds P n (.seq x y) Q e w:=by
 intro m a g1 g2 g3;refine wpIn_seq (wpIn_mono (h m a g1 g2 g3) ?_);rintro x a' w' ⟨k1,k2,k3⟩;cases x with
 |normal=>exact h2 _ _ k3 m a' k1 k2 rfl
 |_=>exact⟨k1,k2,k3⟩
theorem Cw.cond{c:Operand}{x y:Code}{b:Bool}(hc:ev e c=.bool b)(h:Cw rd ds P n (bif b then x else y) Q e w):Cw rd ds P n (.cond c x y) Q e w:=by
 intro m a g1 g2 g3;have:=h m a g1 g2 g3;cases b
 · exact wpIn_cond_false (by rw[←ev_envOf,g3];exact hc) this
 · exact wpIn_cond_true (by rw[←ev_envOf,g3];exact hc) this
theorem Cw.block{id:Nat}{c:Code}(h:Cw rd ds P n c Q e w)(hx:∀j e w,¬Q (.exit j) e w):Cw rd ds P n (.block id c) Q e w:=by
 intro m a g1 g2 g3;refine wpIn_block (wpIn_mono (h m a g1 g2 g3) ?_);rintro x a' w' ⟨k1,k2,k3⟩;cases x with
 |exit j=>exact absurd k3 (hx j _ _)
 |_=>exact⟨k1,k2,k3⟩
def noDef:List Oper→Bool
 |[]=>true
 |o::r=>(match o.op with|.defer _=>false|_=>true)&&noDef r
theorem noDef_spec{l:List Oper}(h:noDef l=true):∀o,o∈l→∀c,o.op≠.defer c:=by
 induction l with
 |nil=>intro o ho;cases ho
 |cons x r ih=>
  simp only[noDef,Bool.and_eq_true]at h;intro o ho c;cases ho with
  |head=>have h1:=h.1;intro hc;rw[hc]at h1;cases h1
  |tail _ hm=>exact ih h.2 o hm c
theorem wpListIn_of_Rl{all:List Oper}(hall:∀o,o∈all→∀d,o.dst=some d→d<n)(hnd:∀o,o∈all→∀c,o.op≠.defer c){m:Nat}{K:Env→World→Prop}{Q':Exit→Act→World→Prop}
 (hK:∀a w,a.tmps.size=n→a.defers=ds→K (envOf a) w→Q' .normal a w):
 ∀(l:List Oper),(∀o,o∈l→o∈all)→∀(a:Act) (w:World),a.tmps.size=n→a.defers=ds→Rl P all l K (envOf a) w→wpListIn (wideR rd) m P all.toArray Q' l a w:=by
 intro l
 induction l with
 |nil=>intro _ a w h1 h2 h;exact hK a w h1 h2 h
 |cons o r ih=>
  intro hsub a w h1 h2 h;have hin:=hsub o List.mem_cons_self;have hd:∀d,o.dst=some d→d<n:=hall o hin;have hall':∀o,o∈all→∀d,o.dst=some d→d<a.tmps.size:=by rw[h1];exact hall
  refine wpListIn_step fun K' hK'=>?_;rw[wanted_eq hall' o];simp only[Rl]at h;cases hw:wantedE all o (envOf a)with
  |true=>
   rw[hw]at h;rw[if_pos rfl];refine wpInR (hnd o hin) h fun v w' hv=>hK' _ _ ?_;refine ih (fun o ho=>hsub o (List.mem_cons_of_mem _ ho)) _ _ (by rw[put_size];exact h1) (by rw[put_defers'];exact h2) ?_;rw[envOf_puto a h1 hd];exact hv
  |false=>
   rw[hw]at h;rw[if_neg (by simp)];refine⟨fun _ _=>trivial,hK' _ _ ?_⟩;refine ih (fun o ho=>hsub o (List.mem_cons_of_mem _ ho)) _ _ (by rw[put_size];exact h1) (by rw[put_defers'];exact h2) ?_;rw[envOf_puto a h1 hd];exact h
theorem Cw.region{id:Nat}{l:List Oper}{K:Env→World→Prop}(h:Rl P l l K e w)(hK:∀e w,K e w→Q .normal e w)(hok:dstsOk n l=true:=by rfl)(hnd:noDef l=true:=by rfl):Cw rd ds P n (.region id l.toArray false) Q e w:=by
 intro m a g1 g2 g3;subst g3;exact wpIn_region_lit (wpListIn_of_Rl (dstsOk_spec hok) (noDef_spec hnd) (K:=K) (fun a' w' k1 k2 k3=>⟨k1,k2,hK _ _ k3⟩) l (fun _ h=>h) a w g1 g2 h)
theorem Cw.blockX{id:Nat}{c:Code}(h:Cw rd ds P n c (fun x=>match x with|.exit j=>if j=id then Q .normal else Q (.exit j)|x=>Q x) e w):Cw rd ds P n (.block id c) Q e w:=by
 intro m a g1 g2 g3;refine wpIn_block (wpIn_mono (h m a g1 g2 g3) ?_);rintro x a' w' ⟨k1,k2,k3⟩;cases x with
 |exit j=>
  simp only[Exit.inBlock];by_cases hj:j=id
  · rw[if_pos hj];simp only[if_pos hj]at k3;exact⟨k1,k2,k3⟩
  · rw[if_neg hj];simp only[if_neg hj]at k3;exact⟨k1,k2,k3⟩
 |_=>exact⟨k1,k2,k3⟩
theorem Cw.exit{id:Nat}(h:Q (.exit id) e w):Cw rd ds P n (.exit id) Q e w:=fun m a h1 h2 h3=>wpIn_exit ⟨h1,h2,h3▸h⟩
theorem Cw.loop{c:Code}(I:Nat→Env→World→Prop)(k:Nat)(h0:I k e w)(round:∀k e w,I k e w→Cw rd ds P n c (thenQ (fun e w=>∃j,j<k∧I j e w) Q) e w):Cw rd ds P n (.loop c) Q e w:=by
 intro m a g1 g2 g3;have key:∀M k,k≤M→∀a w,a.tmps.size=n→a.defers=ds→I k (envOf a) w→Code.roundsIn (wideR rd) m P c (fun x a' w'=>a'.tmps.size=n∧a'.defers=ds∧Q x (envOf a') w') (M+1) a w:=by
  intro M
  induction M with
  |zero=>
   intro k hk a w h1 h2 hI;refine wpIn_mono (round k _ _ hI m a h1 h2 rfl) ?_;rintro x a' w' ⟨k1,k2,k3⟩;cases x with
   |normal=>obtain⟨j,hj,_⟩:=k3;omega
   |_=>exact⟨k1,k2,k3⟩
  |succ M ih=>
   intro k hk a w h1 h2 hI;refine wpIn_mono (round k _ _ hI m a h1 h2 rfl) ?_;rintro x a' w' ⟨k1,k2,k3⟩;cases x with
   |normal=>obtain⟨j,hj,h⟩:=k3;exact ih j (by omega) a' w' k1 k2 h
   |_=>exact⟨k1,k2,k3⟩
 exact wpIn_loop_rounds (k+1) (key k k (Nat.le_refl _) a w g1 g2 (g3▸h0))
theorem Rl_step{all r:List Oper}{o:Oper}{m:Nat}{Q':Exit→Act→World→Prop}{a:Act}(h1:a.tmps.size=n)(h2:a.defers=ds)
 (h:OpY P o.op o.type (ev (envOf a)) w fun v w'=>∀a':Act,a'.tmps.size=n→a'.defers=ds→envOf a'=updo (envOf a) o.dst v→wpListIn (wideR rd) m P all.toArray Q' r a' w')(hg:o.guard=none:=by rfl)(hd:dstsOk n [o]=true:=by rfl)(hn:noDef [o]=true:=by rfl):wpListIn (wideR rd) m P all.toArray Q' (o::r) a w:=
 wpListIn_plain hg fun K hK=>wpInR (noDef_spec hn o List.mem_cons_self) h fun v w' hv=>hK _ _ (hv _ (by rw[put_size];exact h1) (by rw[put_defers'];exact h2) (envOf_puto a h1 (dstsOk_spec hd o List.mem_cons_self) v))
theorem wpIn_yield{o:Oper}{m l:Nat}{a:Act}{g:Operand}{args:List Operand}{ats:Array TypeId}{az:List Value}{R:Ending→World→Prop}{K:Act→World→Prop}{Q':Exit→Act→World→Prop}
 (ho:o.op=.call {callee:=.value g,args:=args.toArray,argTypes:=ats})(hf:envOf a=e)(hv:ev e g=.func (.yield l) #[] #[]) (ha:args.map (ev e)=az) (hy:YieldAt (wideR rd) (m-1) P l az.toArray w R)
 (hR:∀x w',R x w'→∃v,x=.returned v∧K (a.put o.dst v) w'):o.wpIn (wideR rd) m P a w K Q':=by
 obtain⟨fn,tmps,assign,body,h1,h2⟩:=hy;refine⟨fun _ _=>trivial,?_⟩;rw[Oper.semAt_eq _ _ _ (by rw[ho];intro c h;cases h),execOp_bare,←ev_envOf,hf,ho];have hr:(execOp (ev e) (bareOp (.call {callee:=.value g,args:=args.toArray,argTypes:=ats}) o.type)).run P w=.ok (.round l fn tmps assign body) w:=by
  simp only[bareOp,execOp,resolve,hv];simp[Deferred.ofValue,invoke,ha,h1]
 rw[hr];refine⟨fun hh=>(by cases hh),RoundIn.mono h2 fun x w' hx=>?_⟩;obtain⟨v,rfl,hk⟩:=hR x w' hx;exact hk
theorem yield_any{k k' l:Nat}{az:Array Value}{R:Ending→World→Prop}(h:YieldAt Fence.wide k P l az w R):YieldAt (wideR none) k' P l az w R:=by
 obtain⟨fn,tmps,assign,body,h1,h2,h3⟩:=h;exact⟨fn,tmps,assign,body,h1,h2,fun c cs _=>h3 c cs (room_wide _)⟩
theorem envOf_args{l:List Value}:envOf {tmps:=l.toArray++Array.replicate (n-l.toArray.size) undef,defers:=ds}=ofArgs l:=by
 funext i;simp only[envOf,ofArgs,Array.getD_eq_getD_getElem?,List.getD_eq_getElem?_getD];by_cases hi:i<l.length
 · rw[Array.getElem?_append_left (by simpa using hi)];simp
 · rw[Array.getElem?_append_right (by simpa using hi),List.getElem?_eq_none (by omega)];by_cases hj:i-l.toArray.size<n-l.toArray.size
   · rw[Array.getElem?_eq_getElem (by simpa using hj)];simp
   · rw[Array.getElem?_eq_none (by simpa using hj)]
theorem callsIn_of_Cw{f:FuncId}{fn:Func}{c:Code}{l:List Value}{m:Nat}{R:Ending→World→Prop}(hf:P.funcs[f]?=some fn)(hb:fn.body=some c)(hn:fn.ntmps=n)(hl:l.length≤n)
 (h:Cw none [] P n c (fun x e w'=>(x=.normal∨x=.ret)∧∀tmps:Array Value,(∀i,tmps.getD i undef=e i)→∃v,(results fn tmps).run P w'=.ok v w'∧R (.returned v) w') (ofArgs l) w):CallsIn Fence.wide m P f l.toArray w R:=by
 subst hn;refine callsIn_of_wp hf hb trivial (wpIn_mono (h m _ (by simp;omega) rfl envOf_args) ?_);rintro x a' w' ⟨h1,h2,h3,h4⟩;obtain⟨v,hv,hR⟩:=h4 a'.tmps (fun _=>rfl);rcases h3 with rfl|rfl<;>exact⟨h2,v,hv,hR⟩
end
end Go.X
namespace Go.Q
open Go Go.RowKit Go.X
variable [Tabs]
def plainO:Ob→Bool
 |.row .. =>true
 |.box .. =>true
 |.arow .. =>true
 |_=>false
theorem plain_cells{ob:Ob}(h:plainO ob=true){ν:Nu}{H:Bool→Hp}{c n:Nat}{k:Cont}(hr:ob.R ν H c n k):∃l,k=.cells l:=by
 cases ob with
 |row r κ xs=>obtain⟨_,_,cs,sp,rfl,_⟩:=hr;exact⟨_,rfl⟩
 |box l=>obtain⟨vs,rfl,_⟩:=hr;exact⟨_,rfl⟩
 |arow r κ xs=>obtain⟨_,⟨_,cs,sp,rfl,_⟩|⟨_,rfl⟩⟩:=hr<;>exact⟨_,rfl⟩
 |map _ _ _ _=>cases h
 |deep _ _ _ _=>cases h
 |hd _ _ _ _ _ _=>cases h
theorem plain_tid{ob:Ob}(h:plainO ob=true):ob.tid=none:=by cases ob<;>first|rfl|cases h
theorem StX.on{X:Nat→Prop}{w0 w w':World}{H0:Bool→Hp}{ν:Nu}{oF:OF}(hS:StX X w0 H0 ν oF w)(hp:∀i ob,oF i=some ob→plainO ob=true)
 (h1:w'.os=w.os)(h2:w'.tape=w.tape)(h3:w'.output=w.output)(h4:w.heap.size≤w'.heap.size)(h5:∀k,k<w0.heap.size→¬X k→w'.heap[k]?=w.heap[k]?)(h6:∀(k:Nat) (o:Obj),cely (w.heap[k]?)=some o→w'.heap[k]?=some o):
 StX X w0 H0 ν oF w'∧∀κ,Le (HF X w0 H0 ν oF w κ) (HF X w0 H0 ν oF w' κ):=by
 have le:∀κ,Le (HF X w0 H0 ν oF w κ) (HF X w0 H0 ν oF w' κ):=fun κ b o h=>by
  rcases HF_some h with⟨g1,g2,g3⟩|⟨g1,g2,g3⟩
  · rw[HF_old g1 g2];exact g3
  · refine HF_new g1 g2 ?_;rw[h6 b o g3];have:=cely_some g3;rw[this]at g3;exact g3
 refine⟨⟨h1.trans hS.os,h2.trans hS.tape,h3.trans hS.output,Nat.le_trans hS.size h4,fun k hk hx=>(h5 k hk hx).trans (hS.keep k hk hx),hS.h0,hS.h0w,hS.tbs,fun i ob h=>?_,hS.fresh,hS.dist,fun i ob h=>⟨fun t ht=>?_,(hS.parts i ob h).2⟩⟩,le⟩
 · obtain⟨b,c,n,k,q1,q2,q3⟩:=hS.obs i ob h;obtain⟨l,rfl⟩:=plain_cells (hp i ob h) q3;refine⟨b,c,n,_,q1,?_,q3.mono (NuLe.refl ν) le fun j b c n hj _=>absurd hj (by rw[plain_tid (hp i ob h)];simp)⟩;cases b with
   |none=>exact q2
   |some b=>
    obtain⟨t,lo,hi,k1,k2,k3⟩:=q2;exact⟨t,lo,hi,h6 b _ (by rw[k1];rfl),k2,k3⟩
 · rw[tdn_none (plain_tid (hp i ob h))]at ht;cases ht
end Go.Q
namespace Go.X
open Go Go.RowKit
def Aw(P:Program)(n:Nat)(c:Code)(QQ:Exit→Act→World→Prop)(e:Env)(w:World):Prop:=∀a:Act,a.tmps.size=n→a.defers=[]→envOf a=e→c.wpIn Fence.wide 5 P QQ a w
section
variable {P:Program} {n:Nat} {QQ:Exit→Act→World→Prop} {e:Env} {w:World}
theorem Aw.seqS{x y:Code}{k:List It}(h:Swp P n (.code x::k) (fun _ _=>False) e w)(hx:∀ex e w,ex≠Exit.normal→¬Kwp P n k (fun _ _=>False) ex e w)(h2:∀e w,Swp P n k (fun _ _=>False) e w→Aw P n y QQ e w):Aw P n (.seq x y) QQ e w:=by
 intro a g1 g2 g3;refine wpIn_seq (wpIn_mono (wpIn_wide.2 (h a g1 g2 g3)) ?_);rintro x a' w' ⟨k1,k2,k3⟩;cases x with
 |normal=>exact h2 _ _ k3 a' k1 k2 rfl
 |_=>exact absurd k3 (hx _ _ _ (by simp))
theorem Aw.seq3{x1 x2 x3 y:Code}{J:Env→World→Prop}(h:Swp P n [.code x1,.code x2,.code x3,.back J] (fun _ _=>False) e w)(h2:∀e w,J e w→Aw P n y QQ e w):Aw P n (.seq x1 (.seq x2 (.seq x3 y))) QQ e w:=
 Aw.seqS h (fun x e w hx h=>by cases x<;>first|exact hx rfl|exact h) fun _ _ g=>Aw.seqS g (fun x e w hx h=>by cases x<;>first|exact hx rfl|exact h) fun _ _ g=>Aw.seqS g (fun x e w hx h=>by cases x<;>first|exact hx rfl|exact h) h2
def markD(D:Nat):Deferred:={target:=.collected D,args:=#[]}
theorem calls_of_Aw{f:FuncId}{fn:Func}{c:Code}{l:List Value}{R:Ending→World→Prop}(hf:P.funcs[f]?=some fn)(hb:fn.body=some c)(hn:fn.ntmps=n)(hl:l.length≤n)
 (h:Aw P n c (fun x a' w'=>(x=.normal∨x=.ret)∧∃D,a'.defers=[markD D]∧w'.heap[D]?=some (.deferred (some []))∧∃v,(results fn a'.tmps).run P (w'.putObj D (.deferred none))=.ok v (w'.putObj D (.deferred none))∧R (.returned v) (w'.putObj D (.deferred none))) (ofArgs l) w):
 Calls P f l.toArray w R:=by
 subst hn;refine(callsIn_wide (n:=5)).1 (callsIn_of_wp_marks hf hb trivial (wpIn_mono (h _ (by simp;omega) rfl envOf_args) ?_));rintro x a' w' ⟨h1,D,h2,h3,v,hv,hR⟩;rcases h1 with rfl|rfl<;>(show LeavesInM _ _ _ _ _ _ a'.defers _ _;rw[h2];exact⟨by simp,.inl ⟨D,_,rfl,run_takeDeferred h3,v,hv,hR⟩⟩)
theorem results_of{fn:Func}{rl:List ResultVar}{vs:List Value}{tmps:Array Value}(hr:fn.results=rl.toArray)(he:∀i,tmps.getD i undef=e i)(h1:ResOk P e w rl vs):(results fn tmps).run P w=.ok (packV vs) w:=by
 unfold results;rw[hr];simp only[List.mapM_toArray,Sem.run_bind,Sem.run_map];rw[run_results_list he _ (fun _=>rfl) (fun _ _=>rfl) h1];simp only[Result.andThen_ok];cases vs with
 |nil=>rfl
 |cons v vs=>cases vs<;>simp[packV]
end
theorem At_on{W W':World}(hc:∀(k:Nat) (o:Obj),Go.Q.cely (W.heap[k]?)=some o→W'.heap[k]?=some o){b o:Nat}{vs:List Value}(h:At (view [] W) b o vs):At (view [] W') b o vs:=by
 intro i hi;have h1:=h i hi;rw[List.getElem?_eq_getElem hi]at h1⊢;unfold cellH at h1⊢;cases hb:view [] W b with
 |none=>rw[hb]at h1;cases h1
 |some ob=>
  rw[hb]at h1;cases ob with
  |cells cs t fr=>
   have:=hc b _ (show Go.Q.cely (W.heap[b]?)=some (.cells cs t fr) by rw[view_some hb];rfl);rw[view_mk this (by simp)];exact h1
  |_=>cases h1
end Go.X
namespace Go.Q
open Go Go.RowKit Go.X
variable [Tabs]
theorem toB{P:Program}{tb:List (TyE P)}{F:Fx}{L:SS}(L':SS)(ren:List Nat){obs:List (Nat×Option Ob)}{slots:List (Nat×Option Sv)}(hI:L'=⟨ren.length,obs,slots⟩:=by rfl)(h1:cvOut (aget L.objs) ren obs=some obs:=by rfl)(h2:nodupB ren=true:=by rfl)(h3:cvSl L ren slots=some slots:=by rfl)(h4:preOk F.m ren=true:=by rfl):
 BkN tb F (fun e w=>St F L' e w) L:=⟨fun e w hs=>by rw[hI];exact hs.weak ren h1 h2 h3 h4⟩
theorem Cw_rg{P:Program}{tb:List (TyE P)}{F:Fx}{ops:List Oper}{L:SS}{J:Env→World→Prop}{rd:Option Nat}{ds:List Deferred}{i:Nat}{Q:Exit→Env→World→Prop}{e:Env}{w:World}
 (h:Gr tb F ops ops [.back J] L)(hs:St F L e w)(hJ:∀e w,J e w→Q .normal e w)(hok:dstsOk F.n ops=true:=by rfl)(hnd:noDef ops=true:=by rfl):Cw rd ds P F.n (.region i ops.toArray false) Q e w:=
 Cw.region ((Gr.ok h).ok e w hs) hJ hok hnd
theorem ow_same{ν ν':Nu}{oF oF':OF}(hp:∀i ob,oF' i=some ob→plainO ob=true∧∃ob0,oF i=some ob0)(hν:∀k,ν' k=ν k){b:Nat}(h:Ow ν' oF' b):Ow ν oF b:=by
 obtain⟨i,ob,h1,h2⟩:=h;obtain⟨h3,ob0,h4⟩:=hp i ob h1;refine⟨i,ob0,h4,.inl ?_⟩;have:=(owb_of (plain_tid h3)).1 h2;unfold blk at this⊢;rw[←hν i];exact this
end Go.Q

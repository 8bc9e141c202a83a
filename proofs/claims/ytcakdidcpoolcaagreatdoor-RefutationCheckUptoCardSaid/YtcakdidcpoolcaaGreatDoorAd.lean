/- Plain theorems and definitions of this seat, several texts in one. -/
import Derived.Test.YtcakdidcpoolcaaGreatDoorAa
import Derived.Lib.ItoaNum
set_option linter.unusedVariables false
set_option linter.unusedSimpArgs false
set_option linter.unusedSectionVars false
namespace Go.D
open Go Go.X
structure Big where
 Negative:Bool
 Digits:(List Int)
 deriving DecidableEq
def rBig:Rep Big:=⟨2,fun H vs x=>∃v0,vs=[Value.bool x.Negative,v0]∧Rs (rInt .u32) H v0 x.Digits∧True,
 fun H H' vs x hle h=>by obtain⟨v0,h0,k0,-⟩:=h;exact⟨v0,h0,k0.mono hle,trivial⟩,
 fun H vs x h=>by obtain⟨v0,h0,k0,-⟩:=h;rw[h0];rfl,
 fun H vs x h=>by obtain⟨v0,h0,k0,-⟩:=h;rw[h0];exact(ones_cons rfl (ones_cons k0.one ones_nil))⟩
theorem rBig_open{H:Hp}{vs:List Value}{x:Big}(h:rBig.R H vs x):∃v0,vs=[Value.bool x.Negative,v0]∧Rs (rInt .u32) H v0 x.Digits∧True:=h
theorem rBig_close{H:Hp}{vs:List Value}{x:Big}(h:∃v0,vs=[Value.bool x.Negative,v0]∧Rs (rInt .u32) H v0 x.Digits∧True):rBig.R H vs x:=h
structure Coef where
 Var:Int
 N:Int
 deriving DecidableEq
def rCoef:Rep Coef:=⟨2,fun H vs x=>vs=[Value.int .i64 x.Var,Value.int .i64 x.N]∧True,
 fun H H' vs x hle h=>by obtain⟨h0,-⟩:=h;exact⟨h0,trivial⟩,
 fun H vs x h=>by obtain⟨h0,-⟩:=h;rw[h0];rfl,
 fun H vs x h=>by obtain⟨h0,-⟩:=h;rw[h0];exact(ones_cons rfl (ones_cons rfl ones_nil))⟩
theorem rCoef_open{H:Hp}{vs:List Value}{x:Coef}(h:rCoef.R H vs x):vs=[Value.int .i64 x.Var,Value.int .i64 x.N]∧True:=h
theorem rCoef_close{H:Hp}{vs:List Value}{x:Coef}(h:vs=[Value.int .i64 x.Var,Value.int .i64 x.N]∧True):rCoef.R H vs x:=h
structure Linear where
 Const:Int
 Coefs:(List Coef)
 deriving DecidableEq
def rLinear:Rep Linear:=⟨2,fun H vs x=>∃v0,vs=[Value.int .i64 x.Const,v0]∧Rs rCoef H v0 x.Coefs∧True,
 fun H H' vs x hle h=>by obtain⟨v0,h0,k0,-⟩:=h;exact⟨v0,h0,k0.mono hle,trivial⟩,
 fun H vs x h=>by obtain⟨v0,h0,k0,-⟩:=h;rw[h0];rfl,
 fun H vs x h=>by obtain⟨v0,h0,k0,-⟩:=h;rw[h0];exact(ones_cons rfl (ones_cons k0.one ones_nil))⟩
theorem rLinear_open{H:Hp}{vs:List Value}{x:Linear}(h:rLinear.R H vs x):∃v0,vs=[Value.int .i64 x.Const,v0]∧Rs rCoef H v0 x.Coefs∧True:=h
theorem rLinear_close{H:Hp}{vs:List Value}{x:Linear}(h:∃v0,vs=[Value.int .i64 x.Const,v0]∧Rs rCoef H v0 x.Coefs∧True):rLinear.R H vs x:=h
structure Constraint where
 Linear:Linear
 Equal:Bool
 deriving DecidableEq
def rConstraint:Rep Constraint:=⟨3,fun H vs x=>∃v0,vs=[Value.int .i64 x.Linear.Const,v0,Value.bool x.Equal]∧Rs rCoef H v0 x.Linear.Coefs∧True,
 fun H H' vs x hle h=>by obtain⟨v0,h0,k0,-⟩:=h;exact⟨v0,h0,k0.mono hle,trivial⟩,
 fun H vs x h=>by obtain⟨v0,h0,k0,-⟩:=h;rw[h0];rfl,
 fun H vs x h=>by obtain⟨v0,h0,k0,-⟩:=h;rw[h0];exact(ones_cons rfl (ones_cons k0.one (ones_cons rfl ones_nil)))⟩
theorem rConstraint_open{H:Hp}{vs:List Value}{x:Constraint}(h:rConstraint.R H vs x):∃v0,vs=[Value.int .i64 x.Linear.Const,v0,Value.bool x.Equal]∧Rs rCoef H v0 x.Linear.Coefs∧True:=h
theorem rConstraint_close{H:Hp}{vs:List Value}{x:Constraint}(h:∃v0,vs=[Value.int .i64 x.Linear.Const,v0,Value.bool x.Equal]∧Rs rCoef H v0 x.Linear.Coefs∧True):rConstraint.R H vs x:=h
structure Ineq where
 Coefs:(List Big)
 Bound:Big
 deriving DecidableEq
def rIneq:Rep Ineq:=⟨3,fun H vs x=>∃v0 v1,vs=[v0,Value.bool x.Bound.Negative,v1]∧Rs rBig H v0 x.Coefs∧Rs (rInt .u32) H v1 x.Bound.Digits∧True,
 fun H H' vs x hle h=>by obtain⟨v0,v1,h0,k0,k1,-⟩:=h;exact⟨v0,v1,h0,k0.mono hle,k1.mono hle,trivial⟩,
 fun H vs x h=>by obtain⟨v0,v1,h0,k0,k1,-⟩:=h;rw[h0];rfl,
 fun H vs x h=>by obtain⟨v0,v1,h0,k0,k1,-⟩:=h;rw[h0];exact(ones_cons k0.one (ones_cons rfl (ones_cons k1.one ones_nil)))⟩
theorem rIneq_open{H:Hp}{vs:List Value}{x:Ineq}(h:rIneq.R H vs x):∃v0 v1,vs=[v0,Value.bool x.Bound.Negative,v1]∧Rs rBig H v0 x.Coefs∧Rs (rInt .u32) H v1 x.Bound.Digits∧True:=h
theorem rIneq_close{H:Hp}{vs:List Value}{x:Ineq}(h:∃v0 v1,vs=[v0,Value.bool x.Bound.Negative,v1]∧Rs rBig H v0 x.Coefs∧Rs (rInt .u32) H v1 x.Bound.Digits∧True):rIneq.R H vs x:=h
structure Use where
 Index:Int
 N:Big
 deriving DecidableEq
def rUse:Rep Use:=⟨3,fun H vs x=>∃v0,vs=[Value.int .i64 x.Index,Value.bool x.N.Negative,v0]∧Rs (rInt .u32) H v0 x.N.Digits∧True,
 fun H H' vs x hle h=>by obtain⟨v0,h0,k0,-⟩:=h;exact⟨v0,h0,k0.mono hle,trivial⟩,
 fun H vs x h=>by obtain⟨v0,h0,k0,-⟩:=h;rw[h0];rfl,
 fun H vs x h=>by obtain⟨v0,h0,k0,-⟩:=h;rw[h0];exact(ones_cons rfl (ones_cons rfl (ones_cons k0.one ones_nil)))⟩
theorem rUse_open{H:Hp}{vs:List Value}{x:Use}(h:rUse.R H vs x):∃v0,vs=[Value.int .i64 x.Index,Value.bool x.N.Negative,v0]∧Rs (rInt .u32) H v0 x.N.Digits∧True:=h
theorem rUse_close{H:Hp}{vs:List Value}{x:Use}(h:∃v0,vs=[Value.int .i64 x.Index,Value.bool x.N.Negative,v0]∧Rs (rInt .u32) H v0 x.N.Digits∧True):rUse.R H vs x:=h
structure Step where
 Uses:(List Use)
 Divisor:Big
 deriving DecidableEq
def rStep:Rep Step:=⟨3,fun H vs x=>∃v0 v1,vs=[v0,Value.bool x.Divisor.Negative,v1]∧Rs rUse H v0 x.Uses∧Rs (rInt .u32) H v1 x.Divisor.Digits∧True,
 fun H H' vs x hle h=>by obtain⟨v0,v1,h0,k0,k1,-⟩:=h;exact⟨v0,v1,h0,k0.mono hle,k1.mono hle,trivial⟩,
 fun H vs x h=>by obtain⟨v0,v1,h0,k0,k1,-⟩:=h;rw[h0];rfl,
 fun H vs x h=>by obtain⟨v0,v1,h0,k0,k1,-⟩:=h;rw[h0];exact(ones_cons k0.one (ones_cons rfl (ones_cons k1.one ones_nil)))⟩
theorem rStep_open{H:Hp}{vs:List Value}{x:Step}(h:rStep.R H vs x):∃v0 v1,vs=[v0,Value.bool x.Divisor.Negative,v1]∧Rs rUse H v0 x.Uses∧Rs (rInt .u32) H v1 x.Divisor.Digits∧True:=h
theorem rStep_close{H:Hp}{vs:List Value}{x:Step}(h:∃v0 v1,vs=[v0,Value.bool x.Divisor.Negative,v1]∧Rs rUse H v0 x.Uses∧Rs (rInt .u32) H v1 x.Divisor.Digits∧True):rStep.R H vs x:=h
structure Proof where
 Steps:(List Step)
 Form:(List Big)
 Bound:Big
 Children:(List Proof)
def RProof:Nat→Hp→List Value→Proof→Prop
 |0,_,_,_=>False
 |n+1,H,vs,x=>∃v0 v1 v2 v3,vs=[v0,v1,Value.bool x.Bound.Negative,v2,v3]∧Rs rStep H v0 x.Steps∧Rs rBig H v1 x.Form∧Rs (rInt .u32) H v2 x.Bound.Digits∧Sl 5 (RProof n) H v3 x.Children∧True
theorem RProof_mono:∀(n:Nat) {H H':Hp} {vs:List Value} {x:Proof},Le H H'→RProof n H vs x→RProof n H' vs x
 |0,_,_,_,_,_,h=>h.elim
 |n+1,_,_,_,_,hle,h=>by obtain⟨v0,v1,v2,v3,h0,k0,k1,k2,k3,-⟩:=h;exact⟨v0,v1,v2,v3,h0,k0.mono hle,k1.mono hle,k2.mono hle,Sl.mono (R:=RProof n) (fun _ _ _ _ a b=>RProof_mono n a b) hle k3,trivial⟩
theorem RProof_up:∀{n m:Nat} {H:Hp} {vs:List Value} {x:Proof},n≤m→RProof n H vs x→RProof m H vs x
 |0,_,_,_,_,_,h=>h.elim
 |n+1,0,_,_,_,hm,_=>by omega
 |n+1,m+1,_,_,_,hm,h=>by have hm:n≤m:=(by omega);obtain⟨v0,v1,v2,v3,h0,k0,k1,k2,k3,-⟩:=h;exact⟨v0,v1,v2,v3,h0,k0,k1,k2,sl_imp (fun _ _=>RProof_up hm) k3,trivial⟩
def rProof:Rep Proof:=⟨5,fun H vs x=>∃n,RProof n H vs x,fun _ _ _ _ hle ⟨n,h⟩=>⟨n,RProof_mono n hle h⟩,
 fun H vs x h=>by obtain⟨n,h⟩:=h;cases n with|zero=>exact h.elim|succ n=>obtain⟨v0,v1,v2,v3,h0,k0,k1,k2,k3,-⟩:=h;rw[h0];rfl,
 fun H vs x h=>by obtain⟨n,h⟩:=h;cases n with|zero=>exact h.elim|succ n=>obtain⟨v0,v1,v2,v3,h0,k0,k1,k2,k3,-⟩:=h;rw[h0];exact(ones_cons k0.one (ones_cons k1.one (ones_cons rfl (ones_cons k2.one (ones_cons (Sl.one k3) ones_nil)))))⟩
theorem rProof_open{H:Hp}{vs:List Value}{x:Proof}(h:rProof.R H vs x):∃v0 v1 v2 v3,vs=[v0,v1,Value.bool x.Bound.Negative,v2,v3]∧Rs rStep H v0 x.Steps∧Rs rBig H v1 x.Form∧Rs (rInt .u32) H v2 x.Bound.Digits∧Rs rProof H v3 x.Children∧True:=by
 obtain⟨n,h⟩:=h;cases n with|zero=>exact h.elim|succ n=>obtain⟨v0,v1,v2,v3,h0,k0,k1,k2,k3,-⟩:=h;exact⟨v0,v1,v2,v3,h0,k0,k1,k2,sl_imp (fun _ _ h=>⟨n,h⟩) k3,trivial⟩
theorem rProof_close{H:Hp}{vs:List Value}{x:Proof}(h:∃v0 v1 v2 v3,vs=[v0,v1,Value.bool x.Bound.Negative,v2,v3]∧Rs rStep H v0 x.Steps∧Rs rBig H v1 x.Form∧Rs (rInt .u32) H v2 x.Bound.Digits∧Rs rProof H v3 x.Children∧True):rProof.R H vs x:=by
 obtain⟨v0,v1,v2,v3,h0,k0,k1,k2,k3,-⟩:=h;obtain⟨n,hn⟩:=sl_bound (Rn:=RProof) (fun _ _ _ _ hm h=>RProof_up hm h) k3;exact⟨n+1,v0,v1,v2,v3,h0,k0,k1,k2,hn,trivial⟩
structure TTest where
 Var:Int
 Kind:Int
 Negated:Bool
 Text:(List UInt8)
 deriving DecidableEq
def rTTest:Rep TTest:=⟨4,fun H vs x=>vs=[Value.int .i64 x.Var,Value.int .i64 x.Kind,Value.bool x.Negated,Value.string (s8 x.Text)]∧True,
 fun H H' vs x hle h=>by obtain⟨h0,-⟩:=h;exact⟨h0,trivial⟩,
 fun H vs x h=>by obtain⟨h0,-⟩:=h;rw[h0];rfl,
 fun H vs x h=>by obtain⟨h0,-⟩:=h;rw[h0];exact(ones_cons rfl (ones_cons rfl (ones_cons rfl (ones_cons rfl ones_nil))))⟩
theorem rTTest_open{H:Hp}{vs:List Value}{x:TTest}(h:rTTest.R H vs x):vs=[Value.int .i64 x.Var,Value.int .i64 x.Kind,Value.bool x.Negated,Value.string (s8 x.Text)]∧True:=h
theorem rTTest_close{H:Hp}{vs:List Value}{x:TTest}(h:vs=[Value.int .i64 x.Var,Value.int .i64 x.Kind,Value.bool x.Negated,Value.string (s8 x.Text)]∧True):rTTest.R H vs x:=h
structure TFinder where
 tests:(List TTest)
 most:Int
 out:(List (List UInt8))
 dead:(List ((List UInt8)×Bool))
structure Arr2Int where
 e0:Int
 e1:Int
 deriving DecidableEq
def rArr2Int:Rep Arr2Int:=⟨2,fun H vs x=>vs=[Value.int .i64 x.e0,Value.int .i64 x.e1]∧True,
 fun H H' vs x hle h=>by obtain⟨h0,-⟩:=h;exact⟨h0,trivial⟩,
 fun H vs x h=>by obtain⟨h0,-⟩:=h;rw[h0];rfl,
 fun H vs x h=>by obtain⟨h0,-⟩:=h;rw[h0];exact(ones_cons rfl (ones_cons rfl ones_nil))⟩
theorem rArr2Int_open{H:Hp}{vs:List Value}{x:Arr2Int}(h:rArr2Int.R H vs x):vs=[Value.int .i64 x.e0,Value.int .i64 x.e1]∧True:=h
theorem rArr2Int_close{H:Hp}{vs:List Value}{x:Arr2Int}(h:vs=[Value.int .i64 x.e0,Value.int .i64 x.e1]∧True):rArr2Int.R H vs x:=h
structure TProb where
 Min:(List Int)
 Max:(List Int)
 Tests:(List TTest)
 Same:(List Arr2Int)
 Different:(List Arr2Int)
 deriving DecidableEq
def rTProb:Rep TProb:=⟨5,fun H vs x=>∃v0 v1 v2 v3 v4,vs=[v0,v1,v2,v3,v4]∧Rs (rInt .i64) H v0 x.Min∧Rs (rInt .i64) H v1 x.Max∧Rs rTTest H v2 x.Tests∧Rs rArr2Int H v3 x.Same∧Rs rArr2Int H v4 x.Different∧True,
 fun H H' vs x hle h=>by obtain⟨v0,v1,v2,v3,v4,h0,k0,k1,k2,k3,k4,-⟩:=h;exact⟨v0,v1,v2,v3,v4,h0,k0.mono hle,k1.mono hle,k2.mono hle,k3.mono hle,k4.mono hle,trivial⟩,
 fun H vs x h=>by obtain⟨v0,v1,v2,v3,v4,h0,k0,k1,k2,k3,k4,-⟩:=h;rw[h0];rfl,
 fun H vs x h=>by obtain⟨v0,v1,v2,v3,v4,h0,k0,k1,k2,k3,k4,-⟩:=h;rw[h0];exact(ones_cons k0.one (ones_cons k1.one (ones_cons k2.one (ones_cons k3.one (ones_cons k4.one ones_nil)))))⟩
theorem rTProb_open{H:Hp}{vs:List Value}{x:TProb}(h:rTProb.R H vs x):∃v0 v1 v2 v3 v4,vs=[v0,v1,v2,v3,v4]∧Rs (rInt .i64) H v0 x.Min∧Rs (rInt .i64) H v1 x.Max∧Rs rTTest H v2 x.Tests∧Rs rArr2Int H v3 x.Same∧Rs rArr2Int H v4 x.Different∧True:=h
theorem rTProb_close{H:Hp}{vs:List Value}{x:TProb}(h:∃v0 v1 v2 v3 v4,vs=[v0,v1,v2,v3,v4]∧Rs (rInt .i64) H v0 x.Min∧Rs (rInt .i64) H v1 x.Max∧Rs rTTest H v2 x.Tests∧Rs rArr2Int H v3 x.Same∧Rs rArr2Int H v4 x.Different∧True):rTProb.R H vs x:=h
structure TClass where
 low:Int
 high:Int
 tests:(List TTest)
 words:(List (List UInt8))
 apart:(List Int)
 deriving DecidableEq
def rTClass:Rep TClass:=⟨5,fun H vs x=>∃v0 v1 v2,vs=[Value.int .i64 x.low,Value.int .i64 x.high,v0,v1,v2]∧Rs rTTest H v0 x.tests∧Rs rStr H v1 x.words∧Rs (rInt .i64) H v2 x.apart∧True,
 fun H H' vs x hle h=>by obtain⟨v0,v1,v2,h0,k0,k1,k2,-⟩:=h;exact⟨v0,v1,v2,h0,k0.mono hle,k1.mono hle,k2.mono hle,trivial⟩,
 fun H vs x h=>by obtain⟨v0,v1,v2,h0,k0,k1,k2,-⟩:=h;rw[h0];rfl,
 fun H vs x h=>by obtain⟨v0,v1,v2,h0,k0,k1,k2,-⟩:=h;rw[h0];exact(ones_cons rfl (ones_cons rfl (ones_cons k0.one (ones_cons k1.one (ones_cons k2.one ones_nil)))))⟩
theorem rTClass_open{H:Hp}{vs:List Value}{x:TClass}(h:rTClass.R H vs x):∃v0 v1 v2,vs=[Value.int .i64 x.low,Value.int .i64 x.high,v0,v1,v2]∧Rs rTTest H v0 x.tests∧Rs rStr H v1 x.words∧Rs (rInt .i64) H v2 x.apart∧True:=h
theorem rTClass_close{H:Hp}{vs:List Value}{x:TClass}(h:∃v0 v1 v2,vs=[Value.int .i64 x.low,Value.int .i64 x.high,v0,v1,v2]∧Rs rTTest H v0 x.tests∧Rs rStr H v1 x.words∧Rs (rInt .i64) H v2 x.apart∧True):rTClass.R H vs x:=h
structure RAux where
 Of:Linear
 By:Int
 Text:Int
 deriving DecidableEq
def rRAux:Rep RAux:=⟨4,fun H vs x=>∃v0,vs=[Value.int .i64 x.Of.Const,v0,Value.int .i64 x.By,Value.int .i64 x.Text]∧Rs rCoef H v0 x.Of.Coefs∧True,
 fun H H' vs x hle h=>by obtain⟨v0,h0,k0,-⟩:=h;exact⟨v0,h0,k0.mono hle,trivial⟩,
 fun H vs x h=>by obtain⟨v0,h0,k0,-⟩:=h;rw[h0];rfl,
 fun H vs x h=>by obtain⟨v0,h0,k0,-⟩:=h;rw[h0];exact(ones_cons rfl (ones_cons k0.one (ones_cons rfl (ones_cons rfl ones_nil))))⟩
theorem rRAux_open{H:Hp}{vs:List Value}{x:RAux}(h:rRAux.R H vs x):∃v0,vs=[Value.int .i64 x.Of.Const,v0,Value.int .i64 x.By,Value.int .i64 x.Text]∧Rs rCoef H v0 x.Of.Coefs∧True:=h
theorem rRAux_close{H:Hp}{vs:List Value}{x:RAux}(h:∃v0,vs=[Value.int .i64 x.Of.Const,v0,Value.int .i64 x.By,Value.int .i64 x.Text]∧Rs rCoef H v0 x.Of.Coefs∧True):rRAux.R H vs x:=h
structure RClause where
 Null:(List Int)
 NotNull:(List Int)
 Auxiliary:(List RAux)
 Ints:(List Constraint)
 Tests:(List TTest)
 Same:(List Arr2Int)
 Different:(List Arr2Int)
 deriving DecidableEq
def rRClause:Rep RClause:=⟨7,fun H vs x=>∃v0 v1 v2 v3 v4 v5 v6,vs=[v0,v1,v2,v3,v4,v5,v6]∧Rs (rInt .i64) H v0 x.Null∧Rs (rInt .i64) H v1 x.NotNull∧Rs rRAux H v2 x.Auxiliary∧Rs rConstraint H v3 x.Ints∧Rs rTTest H v4 x.Tests∧Rs rArr2Int H v5 x.Same∧Rs rArr2Int H v6 x.Different∧True,
 fun H H' vs x hle h=>by obtain⟨v0,v1,v2,v3,v4,v5,v6,h0,k0,k1,k2,k3,k4,k5,k6,-⟩:=h;exact⟨v0,v1,v2,v3,v4,v5,v6,h0,k0.mono hle,k1.mono hle,k2.mono hle,k3.mono hle,k4.mono hle,k5.mono hle,k6.mono hle,trivial⟩,
 fun H vs x h=>by obtain⟨v0,v1,v2,v3,v4,v5,v6,h0,k0,k1,k2,k3,k4,k5,k6,-⟩:=h;rw[h0];rfl,
 fun H vs x h=>by obtain⟨v0,v1,v2,v3,v4,v5,v6,h0,k0,k1,k2,k3,k4,k5,k6,-⟩:=h;rw[h0];exact(ones_cons k0.one (ones_cons k1.one (ones_cons k2.one (ones_cons k3.one (ones_cons k4.one (ones_cons k5.one (ones_cons k6.one ones_nil)))))))⟩
theorem rRClause_open{H:Hp}{vs:List Value}{x:RClause}(h:rRClause.R H vs x):∃v0 v1 v2 v3 v4 v5 v6,vs=[v0,v1,v2,v3,v4,v5,v6]∧Rs (rInt .i64) H v0 x.Null∧Rs (rInt .i64) H v1 x.NotNull∧Rs rRAux H v2 x.Auxiliary∧Rs rConstraint H v3 x.Ints∧Rs rTTest H v4 x.Tests∧Rs rArr2Int H v5 x.Same∧Rs rArr2Int H v6 x.Different∧True:=h
theorem rRClause_close{H:Hp}{vs:List Value}{x:RClause}(h:∃v0 v1 v2 v3 v4 v5 v6,vs=[v0,v1,v2,v3,v4,v5,v6]∧Rs (rInt .i64) H v0 x.Null∧Rs (rInt .i64) H v1 x.NotNull∧Rs rRAux H v2 x.Auxiliary∧Rs rConstraint H v3 x.Ints∧Rs rTTest H v4 x.Tests∧Rs rArr2Int H v5 x.Same∧Rs rArr2Int H v6 x.Different∧True):rRClause.R H vs x:=h
structure RVar where
 Ty:Int
 Low:Int
 High:Int
 Max:Int
 Nullable:Bool
 deriving DecidableEq
def rRVar:Rep RVar:=⟨5,fun H vs x=>vs=[Value.int .i64 x.Ty,Value.int .i64 x.Low,Value.int .i64 x.High,Value.int .i64 x.Max,Value.bool x.Nullable]∧True,
 fun H H' vs x hle h=>by obtain⟨h0,-⟩:=h;exact⟨h0,trivial⟩,
 fun H vs x h=>by obtain⟨h0,-⟩:=h;rw[h0];rfl,
 fun H vs x h=>by obtain⟨h0,-⟩:=h;rw[h0];exact(ones_cons rfl (ones_cons rfl (ones_cons rfl (ones_cons rfl (ones_cons rfl ones_nil)))))⟩
theorem rRVar_open{H:Hp}{vs:List Value}{x:RVar}(h:rRVar.R H vs x):vs=[Value.int .i64 x.Ty,Value.int .i64 x.Low,Value.int .i64 x.High,Value.int .i64 x.Max,Value.bool x.Nullable]∧True:=h
theorem rRVar_close{H:Hp}{vs:List Value}{x:RVar}(h:vs=[Value.int .i64 x.Ty,Value.int .i64 x.Low,Value.int .i64 x.High,Value.int .i64 x.Max,Value.bool x.Nullable]∧True):rRVar.R H vs x:=h
structure RVal where
 Kind:Int
 Int:Int
 Text:(List UInt8)
 deriving DecidableEq
def rRVal:Rep RVal:=⟨3,fun H vs x=>vs=[Value.int .i64 x.Kind,Value.int .i64 x.Int,Value.string (s8 x.Text)]∧True,
 fun H H' vs x hle h=>by obtain⟨h0,-⟩:=h;exact⟨h0,trivial⟩,
 fun H vs x h=>by obtain⟨h0,-⟩:=h;rw[h0];rfl,
 fun H vs x h=>by obtain⟨h0,-⟩:=h;rw[h0];exact(ones_cons rfl (ones_cons rfl (ones_cons rfl ones_nil)))⟩
theorem rRVal_open{H:Hp}{vs:List Value}{x:RVal}(h:rRVal.R H vs x):vs=[Value.int .i64 x.Kind,Value.int .i64 x.Int,Value.string (s8 x.Text)]∧True:=h
theorem rRVal_close{H:Hp}{vs:List Value}{x:RVal}(h:vs=[Value.int .i64 x.Kind,Value.int .i64 x.Int,Value.string (s8 x.Text)]∧True):rRVal.R H vs x:=h
structure Refut where
 Kind:Int
 Var:Int
 At:Int
 Proof:Proof
 Children:(List Refut)
def RRefut:Nat→Hp→List Value→Refut→Prop
 |0,_,_,_=>False
 |n+1,H,vs,x=>∃v0 v1 v2 v3 v4,vs=[Value.int .i64 x.Kind,Value.int .i64 x.Var,Value.int .i64 x.At,v0,v1,Value.bool x.Proof.Bound.Negative,v2,v3,v4]∧Rs rStep H v0 x.Proof.Steps∧Rs rBig H v1 x.Proof.Form∧Rs (rInt .u32) H v2 x.Proof.Bound.Digits∧Rs rProof H v3 x.Proof.Children∧Sl 9 (RRefut n) H v4 x.Children∧True
theorem RRefut_mono:∀(n:Nat) {H H':Hp} {vs:List Value} {x:Refut},Le H H'→RRefut n H vs x→RRefut n H' vs x
 |0,_,_,_,_,_,h=>h.elim
 |n+1,_,_,_,_,hle,h=>by obtain⟨v0,v1,v2,v3,v4,h0,k0,k1,k2,k3,k4,-⟩:=h;exact⟨v0,v1,v2,v3,v4,h0,k0.mono hle,k1.mono hle,k2.mono hle,k3.mono hle,Sl.mono (R:=RRefut n) (fun _ _ _ _ a b=>RRefut_mono n a b) hle k4,trivial⟩
theorem RRefut_up:∀{n m:Nat} {H:Hp} {vs:List Value} {x:Refut},n≤m→RRefut n H vs x→RRefut m H vs x
 |0,_,_,_,_,_,h=>h.elim
 |n+1,0,_,_,_,hm,_=>by omega
 |n+1,m+1,_,_,_,hm,h=>by have hm:n≤m:=(by omega);obtain⟨v0,v1,v2,v3,v4,h0,k0,k1,k2,k3,k4,-⟩:=h;exact⟨v0,v1,v2,v3,v4,h0,k0,k1,k2,k3,sl_imp (fun _ _=>RRefut_up hm) k4,trivial⟩
def rRefut:Rep Refut:=⟨9,fun H vs x=>∃n,RRefut n H vs x,fun _ _ _ _ hle ⟨n,h⟩=>⟨n,RRefut_mono n hle h⟩,
 fun H vs x h=>by obtain⟨n,h⟩:=h;cases n with|zero=>exact h.elim|succ n=>obtain⟨v0,v1,v2,v3,v4,h0,k0,k1,k2,k3,k4,-⟩:=h;rw[h0];rfl,
 fun H vs x h=>by obtain⟨n,h⟩:=h;cases n with|zero=>exact h.elim|succ n=>obtain⟨v0,v1,v2,v3,v4,h0,k0,k1,k2,k3,k4,-⟩:=h;rw[h0];exact(ones_cons rfl (ones_cons rfl (ones_cons rfl (ones_cons k0.one (ones_cons k1.one (ones_cons rfl (ones_cons k2.one (ones_cons k3.one (ones_cons (Sl.one k4) ones_nil)))))))))⟩
theorem rRefut_open{H:Hp}{vs:List Value}{x:Refut}(h:rRefut.R H vs x):∃v0 v1 v2 v3 v4,vs=[Value.int .i64 x.Kind,Value.int .i64 x.Var,Value.int .i64 x.At,v0,v1,Value.bool x.Proof.Bound.Negative,v2,v3,v4]∧Rs rStep H v0 x.Proof.Steps∧Rs rBig H v1 x.Proof.Form∧Rs (rInt .u32) H v2 x.Proof.Bound.Digits∧Rs rProof H v3 x.Proof.Children∧Rs rRefut H v4 x.Children∧True:=by
 obtain⟨n,h⟩:=h;cases n with|zero=>exact h.elim|succ n=>obtain⟨v0,v1,v2,v3,v4,h0,k0,k1,k2,k3,k4,-⟩:=h;exact⟨v0,v1,v2,v3,v4,h0,k0,k1,k2,k3,sl_imp (fun _ _ h=>⟨n,h⟩) k4,trivial⟩
theorem rRefut_close{H:Hp}{vs:List Value}{x:Refut}(h:∃v0 v1 v2 v3 v4,vs=[Value.int .i64 x.Kind,Value.int .i64 x.Var,Value.int .i64 x.At,v0,v1,Value.bool x.Proof.Bound.Negative,v2,v3,v4]∧Rs rStep H v0 x.Proof.Steps∧Rs rBig H v1 x.Proof.Form∧Rs (rInt .u32) H v2 x.Proof.Bound.Digits∧Rs rProof H v3 x.Proof.Children∧Rs rRefut H v4 x.Children∧True):rRefut.R H vs x:=by
 obtain⟨v0,v1,v2,v3,v4,h0,k0,k1,k2,k3,k4,-⟩:=h;obtain⟨n,hn⟩:=sl_bound (Rn:=RRefut) (fun _ _ _ _ hm h=>RRefut_up hm h) k4;exact⟨n+1,v0,v1,v2,v3,v4,h0,k0,k1,k2,k3,hn,trivial⟩
structure RCase where
 L:(List RVar)
 C:RClause
 Ranges:(List Arr2Int)
 R:(List RVal)
 deriving DecidableEq
def rRCase:Rep RCase:=⟨10,fun H vs x=>∃v0 v1 v2 v3 v4 v5 v6 v7 v8 v9,vs=[v0,v1,v2,v3,v4,v5,v6,v7,v8,v9]∧Rs rRVar H v0 x.L∧Rs (rInt .i64) H v1 x.C.Null∧Rs (rInt .i64) H v2 x.C.NotNull∧Rs rRAux H v3 x.C.Auxiliary∧Rs rConstraint H v4 x.C.Ints∧Rs rTTest H v5 x.C.Tests∧Rs rArr2Int H v6 x.C.Same∧Rs rArr2Int H v7 x.C.Different∧Rs rArr2Int H v8 x.Ranges∧Rs rRVal H v9 x.R∧True,
 fun H H' vs x hle h=>by obtain⟨v0,v1,v2,v3,v4,v5,v6,v7,v8,v9,h0,k0,k1,k2,k3,k4,k5,k6,k7,k8,k9,-⟩:=h;exact⟨v0,v1,v2,v3,v4,v5,v6,v7,v8,v9,h0,k0.mono hle,k1.mono hle,k2.mono hle,k3.mono hle,k4.mono hle,k5.mono hle,k6.mono hle,k7.mono hle,k8.mono hle,k9.mono hle,trivial⟩,
 fun H vs x h=>by obtain⟨v0,v1,v2,v3,v4,v5,v6,v7,v8,v9,h0,k0,k1,k2,k3,k4,k5,k6,k7,k8,k9,-⟩:=h;rw[h0];rfl,
 fun H vs x h=>by obtain⟨v0,v1,v2,v3,v4,v5,v6,v7,v8,v9,h0,k0,k1,k2,k3,k4,k5,k6,k7,k8,k9,-⟩:=h;rw[h0];exact(ones_cons k0.one (ones_cons k1.one (ones_cons k2.one (ones_cons k3.one (ones_cons k4.one (ones_cons k5.one (ones_cons k6.one (ones_cons k7.one (ones_cons k8.one (ones_cons k9.one ones_nil))))))))))⟩
theorem rRCase_open{H:Hp}{vs:List Value}{x:RCase}(h:rRCase.R H vs x):∃v0 v1 v2 v3 v4 v5 v6 v7 v8 v9,vs=[v0,v1,v2,v3,v4,v5,v6,v7,v8,v9]∧Rs rRVar H v0 x.L∧Rs (rInt .i64) H v1 x.C.Null∧Rs (rInt .i64) H v2 x.C.NotNull∧Rs rRAux H v3 x.C.Auxiliary∧Rs rConstraint H v4 x.C.Ints∧Rs rTTest H v5 x.C.Tests∧Rs rArr2Int H v6 x.C.Same∧Rs rArr2Int H v7 x.C.Different∧Rs rArr2Int H v8 x.Ranges∧Rs rRVal H v9 x.R∧True:=h
theorem rRCase_close{H:Hp}{vs:List Value}{x:RCase}(h:∃v0 v1 v2 v3 v4 v5 v6 v7 v8 v9,vs=[v0,v1,v2,v3,v4,v5,v6,v7,v8,v9]∧Rs rRVar H v0 x.L∧Rs (rInt .i64) H v1 x.C.Null∧Rs (rInt .i64) H v2 x.C.NotNull∧Rs rRAux H v3 x.C.Auxiliary∧Rs rConstraint H v4 x.C.Ints∧Rs rTTest H v5 x.C.Tests∧Rs rArr2Int H v6 x.C.Same∧Rs rArr2Int H v7 x.C.Different∧Rs rArr2Int H v8 x.Ranges∧Rs rRVal H v9 x.R∧True):rRCase.R H vs x:=h
structure RClaim where
 L:(List RVar)
 C:RClause
 F:Refut
 R:(List RVal)
def rRClaim:Rep RClaim:=⟨18,fun H vs x=>∃v0 v1 v2 v3 v4 v5 v6 v7 v8 v9 v10 v11 v12 v13,vs=[v0,v1,v2,v3,v4,v5,v6,v7,Value.int .i64 x.F.Kind,Value.int .i64 x.F.Var,Value.int .i64 x.F.At,v8,v9,Value.bool x.F.Proof.Bound.Negative,v10,v11,v12,v13]∧Rs rRVar H v0 x.L∧Rs (rInt .i64) H v1 x.C.Null∧Rs (rInt .i64) H v2 x.C.NotNull∧Rs rRAux H v3 x.C.Auxiliary∧Rs rConstraint H v4 x.C.Ints∧Rs rTTest H v5 x.C.Tests∧Rs rArr2Int H v6 x.C.Same∧Rs rArr2Int H v7 x.C.Different∧Rs rStep H v8 x.F.Proof.Steps∧Rs rBig H v9 x.F.Proof.Form∧Rs (rInt .u32) H v10 x.F.Proof.Bound.Digits∧Rs rProof H v11 x.F.Proof.Children∧Rs rRefut H v12 x.F.Children∧Rs rRVal H v13 x.R∧True,
 fun H H' vs x hle h=>by obtain⟨v0,v1,v2,v3,v4,v5,v6,v7,v8,v9,v10,v11,v12,v13,h0,k0,k1,k2,k3,k4,k5,k6,k7,k8,k9,k10,k11,k12,k13,-⟩:=h;exact⟨v0,v1,v2,v3,v4,v5,v6,v7,v8,v9,v10,v11,v12,v13,h0,k0.mono hle,k1.mono hle,k2.mono hle,k3.mono hle,k4.mono hle,k5.mono hle,k6.mono hle,k7.mono hle,k8.mono hle,k9.mono hle,k10.mono hle,k11.mono hle,k12.mono hle,k13.mono hle,trivial⟩,
 fun H vs x h=>by obtain⟨v0,v1,v2,v3,v4,v5,v6,v7,v8,v9,v10,v11,v12,v13,h0,k0,k1,k2,k3,k4,k5,k6,k7,k8,k9,k10,k11,k12,k13,-⟩:=h;rw[h0];rfl,
 fun H vs x h=>by obtain⟨v0,v1,v2,v3,v4,v5,v6,v7,v8,v9,v10,v11,v12,v13,h0,k0,k1,k2,k3,k4,k5,k6,k7,k8,k9,k10,k11,k12,k13,-⟩:=h;rw[h0];exact(ones_cons k0.one (ones_cons k1.one (ones_cons k2.one (ones_cons k3.one (ones_cons k4.one (ones_cons k5.one (ones_cons k6.one (ones_cons k7.one (ones_cons rfl (ones_cons rfl (ones_cons rfl (ones_cons k8.one (ones_cons k9.one (ones_cons rfl (ones_cons k10.one (ones_cons k11.one (ones_cons k12.one (ones_cons k13.one ones_nil))))))))))))))))))⟩
theorem rRClaim_open{H:Hp}{vs:List Value}{x:RClaim}(h:rRClaim.R H vs x):∃v0 v1 v2 v3 v4 v5 v6 v7 v8 v9 v10 v11 v12 v13,vs=[v0,v1,v2,v3,v4,v5,v6,v7,Value.int .i64 x.F.Kind,Value.int .i64 x.F.Var,Value.int .i64 x.F.At,v8,v9,Value.bool x.F.Proof.Bound.Negative,v10,v11,v12,v13]∧Rs rRVar H v0 x.L∧Rs (rInt .i64) H v1 x.C.Null∧Rs (rInt .i64) H v2 x.C.NotNull∧Rs rRAux H v3 x.C.Auxiliary∧Rs rConstraint H v4 x.C.Ints∧Rs rTTest H v5 x.C.Tests∧Rs rArr2Int H v6 x.C.Same∧Rs rArr2Int H v7 x.C.Different∧Rs rStep H v8 x.F.Proof.Steps∧Rs rBig H v9 x.F.Proof.Form∧Rs (rInt .u32) H v10 x.F.Proof.Bound.Digits∧Rs rProof H v11 x.F.Proof.Children∧Rs rRefut H v12 x.F.Children∧Rs rRVal H v13 x.R∧True:=h
theorem rRClaim_close{H:Hp}{vs:List Value}{x:RClaim}(h:∃v0 v1 v2 v3 v4 v5 v6 v7 v8 v9 v10 v11 v12 v13,vs=[v0,v1,v2,v3,v4,v5,v6,v7,Value.int .i64 x.F.Kind,Value.int .i64 x.F.Var,Value.int .i64 x.F.At,v8,v9,Value.bool x.F.Proof.Bound.Negative,v10,v11,v12,v13]∧Rs rRVar H v0 x.L∧Rs (rInt .i64) H v1 x.C.Null∧Rs (rInt .i64) H v2 x.C.NotNull∧Rs rRAux H v3 x.C.Auxiliary∧Rs rConstraint H v4 x.C.Ints∧Rs rTTest H v5 x.C.Tests∧Rs rArr2Int H v6 x.C.Same∧Rs rArr2Int H v7 x.C.Different∧Rs rStep H v8 x.F.Proof.Steps∧Rs rBig H v9 x.F.Proof.Form∧Rs (rInt .u32) H v10 x.F.Proof.Bound.Digits∧Rs rProof H v11 x.F.Proof.Children∧Rs rRefut H v12 x.F.Children∧Rs rRVal H v13 x.R∧True):rRClaim.R H vs x:=h
def dkTClass:DRep TClass where
 r:=rTClass
 nf:=2
 R vs bs c x:=∃v0 b0 k0 v1 b1 k1,vs=[Value.int .i64 x.low,Value.int .i64 x.high,v0,Value.slice none 0 0,v1]∧bs=[b0,b1]∧c=[k0,k1]∧DS rTTest v0 b0 k0 x.tests∧DS (rInt .i64) v1 b1 k1 x.apart∧x.words=[]
 len:=by
  rintro _ _ _ x ⟨v0,b0,k0,v1,b1,k1,rfl,rfl,rfl,d0,d1,w0⟩;exact⟨rfl,rfl,rfl⟩
 toR:=by
  rintro _ _ _ x H ⟨v0,b0,k0,v1,b1,k1,rfl,rfl,rfl,d0,d1,w0⟩ ho
  exact rTClass_close ⟨v0,Value.slice none 0 0,v1,rfl,d0.rs rfl (fun _ _ _ _ h=>h) (ho 0 _ _ rfl rfl),w0▸Rs.nil,d1.rs rfl (fun _ _ _ _ h=>h) (ho 1 _ _ rfl rfl),trivial⟩
def fmtI(N:Nat)(n:Int):Option (List UInt8):=if 0≤n∧n<100 then some (Go.Lib.decDigits n.toNat)else none
open Go Go.X
def cloneU32(N:Nat)(s:(List Int)):Option (List Int):=(apnd 4 ([]:(List Int)) s).bind fun a=>some a
def digit(N:Nat)(d:(List Int))(i:Int):Option Int:=(if(i:Int)<(List.length d:Int)then (idx d i).bind fun x2=>some (uw x2) else some 0)
def bsign(N:Nat)(n:Int):Option Int:= some (imin (imax n (-1)) 1)
def btrim_b1(N:Nat)(d:(List Int)):Int→Option (Stp Int Int)
 |a=>(((if(a:Int)>0 then (idx d (iw (a-1))).bind fun b=>some (decide ((b:Int)=0)) else some false):Option Bool)).bind fun ss=>match ss with
   |c=>(if c=true then some (Stp.next (iw (a-1))) else some (Stp.done a))
def btrim(N:Nat)(d:(List Int)):Option (List Int):=(loopM (btrim_b1 N d) N (List.length d:Int)).bind fun ss=>match ss with
  |a=>(cut d 0 a).bind fun b=>(cloneU32 N b).bind fun c=>some c
def bnormal(N:Nat)(negative:Bool)(d:(List Int)):Option Big:=(btrim N d).bind fun r6=>(if((List.length r6:Int):Int)=0 then some (Big.mk false []) else some (Big.mk negative r6))
def bcompare_b1(N:Nat)(a:(List Int))(b:(List Int)):Int→Option (Stp Int (Sum Unit Int))
 |c=>(if(c:Int)≥0 then (idx a c).bind fun d=>(idx b c).bind fun e=>(if(d:Int)<e then some (Stp.done (Sum.inr (-1))) else (idx a c).bind fun f=>(idx b c).bind fun g=>(if(f:Int)>g then some (Stp.done (Sum.inr 1)) else some (Stp.next (iw (c-1))))) else some (Stp.done (Sum.inl ())))
def bcompare(N:Nat)(a:(List Int))(b:(List Int)):Option Int:=(if((List.length a:Int):Int)≠(List.length b:Int)then (bsign N (iw ((List.length a:Int)-(List.length b:Int)))).bind fun r2=>some r2 else (loopM (bcompare_b1 N a b) N (iw ((List.length a:Int)-1))).bind fun ss=>match ss with
   |(Sum.inl _)=>some 0
   |(Sum.inr c)=>some c)
def bplus_b1(N:Nat)(a:(List Int))(b:(List Int))(x2:(List Int)):((List Int)×Int×Int)→Option (Stp ((List Int)×Int×Int) (List Int))
 |(d,e,c)=>(if(c:Int)<(List.length x2:Int)then (digit N a c).bind fun f=>(digit N b c).bind fun g=>(idx d c).bind fun j=>(upd1 d c (uw32 (uw (e+(uw (f+g)))))).bind fun i=>some (Stp.next (i,(bshr .u64 (uw (e+(uw (f+g)))) 32),(iw (c+1)))) else some (Stp.done d))
def bplus(N:Nat)(a:(List Int))(b:(List Int)):Option (List Int):=(mk1 (α:=Int) 4 0 (iw ((imax (List.length a:Int) (List.length b:Int))+1))).bind fun x2=>(loopM (bplus_b1 N a b x2) N (x2,0,0)).bind fun ss=>match ss with
  |c=>some c
def bminus_b1(N:Nat)(a:(List Int))(b:(List Int)):((List Int)×Int×Int)→Option (Stp ((List Int)×Int×Int) (List Int))
 |(d,e,c)=>(if(c:Int)<(List.length a:Int)then (idx a c).bind fun f=>(digit N b c).bind fun g=>(idx d c).bind fun j=>(upd1 d c (uw32 (uw ((uw ((uw f)-g))-e)))).bind fun i=>some (Stp.next (i,(bshr .u64 (uw ((uw ((uw f)-g))-e)) 63),(iw (c+1)))) else some (Stp.done d))
def bminus(N:Nat)(a:(List Int))(b:(List Int)):Option (List Int):=(mk1 (α:=Int) 4 0 (List.length a:Int)).bind fun x2=>(loopM (bminus_b1 N a b) N (x2,0,0)).bind fun ss=>match ss with
  |c=>some c
def btimes_b2(N:Nat)(b:(List Int))(d:Int)(f:Int):((List Int)×Int×Int)→Option (Stp ((List Int)×Int×Int) ((List Int)×Int))
 |(c,e,a)=>(if(a:Int)<(List.length b:Int)then (idx b a).bind fun g=>(idx c (iw (d+a))).bind fun i=>(idx c (iw (d+a))).bind fun k=>(upd1 c (iw (d+a)) (uw32 (uw (e+(uw ((uw ((uw f)*(uw g)))+(uw i))))))).bind fun j=>some (Stp.next (j,(bshr .u64 (uw (e+(uw ((uw ((uw f)*(uw g)))+(uw i))))) 32),(iw (a+1)))) else some (Stp.done (c,e)))
def btimes_b1(N:Nat)(a:(List Int))(b:(List Int)):((List Int)×Int)→Option (Stp ((List Int)×Int) (List Int))
 |(d,c)=>(if(c:Int)<(List.length a:Int)then (idx a c).bind fun f=>(loopM (btimes_b2 N b c f) N (d,0,0)).bind fun ss=>match ss with
    |(e,g)=>(idx e (iw (c+(List.length b:Int)))).bind fun j=>(upd1 e (iw (c+(List.length b:Int))) (uw32 g)).bind fun i=>some (Stp.next (i,(iw (c+1)))) else some (Stp.done d))
def btimes(N:Nat)(a:(List Int))(b:(List Int)):Option (List Int):=(mk1 (α:=Int) 4 0 (iw ((List.length a:Int)+(List.length b:Int)))).bind fun x2=>(loopM (btimes_b1 N a b) N (x2,0)).bind fun ss=>match ss with
  |c=>some c
def bshort_b1(N:Nat)(a:(List Int))(pb:Int):((List Int)×Int×Int)→Option (Stp ((List Int)×Int×Int) ((List Int)×Int))
 |(d,c,b)=>(if(b:Int)≥0 then (idx a b).bind fun e=>(sdiv .u64 (bor .u64 (bshl .u64 c 32) (uw e)) (uw pb)).bind fun f=>(idx d b).bind fun i=>(upd1 d b (uw32 f)).bind fun g=>(srem (bor .u64 (bshl .u64 c 32) (uw e)) (uw pb)).bind fun j=>some (Stp.next (g,(Int.tmod (bor .u64 (bshl .u64 c 32) (uw e)) (uw pb)),(iw (b-1)))) else some (Stp.done (d,c)))
def bshort(N:Nat)(a:(List Int))(pb:Int):Option ((List Int)×Int):=(mk1 (α:=Int) 4 0 (List.length a:Int)).bind fun x2=>(loopM (bshort_b1 N a pb) N (x2,0,(iw ((List.length a:Int)-1)))).bind fun ss=>match ss with
  |(b,c)=>some (b,(uw32 c))
def bshift_b1(N:Nat)(a:(List Int))(n:Int):((List Int)×Int)→Option (Stp ((List Int)×Int) (List Int))
 |(c,b)=>(if(b:Int)<(List.length a:Int)then (idx a b).bind fun d=>(chk (¬(n:Int)<0)).bind fun _=>(idx c b).bind fun f=>(idx c b).bind fun i=>(upd1 c b (bor .u32 f (uw32 (bshl .u64 (uw d) n)))).bind fun e=>(idx e (iw (b+1))).bind fun j=>(upd1 e (iw (b+1)) (uw32 (bshr .u64 (bshl .u64 (uw d) n) 32))).bind fun g=>some (Stp.next (g,(iw (b+1)))) else some (Stp.done c))
def bshift(N:Nat)(a:(List Int))(n:Int):Option (List Int):=(mk1 (α:=Int) 4 0 (iw ((List.length a:Int)+1))).bind fun x2=>(loopM (bshift_b1 N a n) N (x2,0)).bind fun ss=>match ss with
  |b=>some b
open Go Go.X
def rtrim_b1(N:Nat):(List Int)→Option (Stp (List Int) (List Int))
 |a=>(((if((List.length a:Int):Int)>0 then (idx a (iw ((List.length a:Int)-1))).bind fun b=>some (decide ((b:Int)=0)) else some false):Option Bool)).bind fun ss=>match ss with
   |c=>(if c=true then (cut a 0 (iw ((List.length a:Int)-1))).bind fun d=>some (Stp.next d) else some (Stp.done a))
def rtrim(N:Nat)(l:(List Int)):Option (List Int):=(loopM (rtrim_b1 N) N l).bind fun ss=>match ss with
  |a=>some a
def halves_b1(N:Nat)(x:Big):((List Int)×Int)→Option (Stp ((List Int)×Int) (List Int))
 |(b,a)=>(if(a:Int)<(List.length x.Digits:Int)then (idx x.Digits a).bind fun c=>(idx x.Digits a).bind fun d=>(apnd 8 b [(iw (Int.tmod c 65536)),(iw (uw32 (Int.tdiv d 65536)))]).bind fun e=>some (Stp.next (e,(iw (a+1)))) else some (Stp.done b))
def halves(N:Nat)(x:Big):Option (List Int):=(loopM (halves_b1 N x) N (([]:(List Int)),0)).bind fun ss=>match ss with
  |a=>(rtrim N a).bind fun b=>some b
def rbig_b1(N:Nat)(r6:(List Int)):((List Int)×Int)→Option (Stp ((List Int)×Int) (List Int))
 |(b,a)=>(if(a:Int)<(List.length r6:Int)then (idx r6 a).bind fun c=>(((if((iw (a+1)):Int)<(List.length r6:Int)then (idx r6 (iw (a+1))).bind fun d=>some (uw32 ((uw32 c)+(uw32 (65536*(uw32 d))))) else some (uw32 c)):Option Int)).bind fun ss=>match ss with
    |e=>(apnd 4 b [e]).bind fun f=>some (Stp.next (f,(iw (a+2)))) else some (Stp.done b))
def rbig(N:Nat)(negative:Bool)(l:(List Int)):Option Big:=(rtrim N l).bind fun r6=>(((if negative=true then some (decide (((List.length r6:Int):Int)>0)) else some false):Option Bool)).bind fun ss=>match ss with
  |a=>(loopM (rbig_b1 N r6) N (([]:(List Int)),0)).bind fun ss=>match ss with
    |b=>some (Big.mk a b)
def rNormal(N:Nat)(x:Big):Option Big:=(halves N x).bind fun a=>(rbig N x.Negative a).bind fun b=>some b
def rorder_b1(N:Nat)(a:(List Int))(b:(List Int)):Int→Option (Stp Int (Sum Unit Int))
 |c=>(if(c:Int)≥0 then (idx a c).bind fun d=>(idx b c).bind fun e=>(if(d:Int)<e then some (Stp.done (Sum.inr (-1))) else (idx a c).bind fun f=>(idx b c).bind fun g=>(if(f:Int)>g then some (Stp.done (Sum.inr 1)) else some (Stp.next (iw (c-1))))) else some (Stp.done (Sum.inl ())))
def rorder(N:Nat)(a:(List Int))(b:(List Int)):Option Int:=(if((List.length a:Int):Int)≠(List.length b:Int)then (if((List.length a:Int):Int)<(List.length b:Int)then some (-1) else some 1) else (loopM (rorder_b1 N a b) N (iw ((List.length a:Int)-1))).bind fun ss=>match ss with
   |(Sum.inl _)=>some 0
   |(Sum.inr c)=>some c)
def rplus_b1(N:Nat)(a:(List Int))(b:(List Int)):((List Int)×Int×Int)→Option (Stp ((List Int)×Int×Int) (List Int))
 |(e,d,c)=>(((if(c:Int)<(List.length a:Int)then some true else (if(c:Int)<(List.length b:Int)then some true else some (decide ((d:Int)>0)))):Option Bool)).bind fun ss=>match ss with
   |i=>(if i=true then (((if(c:Int)<(List.length a:Int)then (idx a c).bind fun j=>some (iw (d+j)) else some d):Option Int)).bind fun ss=>match ss with
      |f=>(((if(c:Int)<(List.length b:Int)then (idx b c).bind fun k=>some (iw (f+k)) else some f):Option Int)).bind fun ss=>match ss with
        |g=>(apnd 8 e [(Int.tmod g 65536)]).bind fun l=>some (Stp.next (l,(iw (Int.tdiv g 65536)),(iw (c+1)))) else some (Stp.done e))
def rplus(N:Nat)(a:(List Int))(b:(List Int)):Option (List Int):=(loopM (rplus_b1 N a b) N (([]:(List Int)),0,0)).bind fun ss=>match ss with
  |c=>(rtrim N c).bind fun d=>some d
def rminus_b1(N:Nat)(a:(List Int))(b:(List Int)):((List Int)×Int×Int)→Option (Stp ((List Int)×Int×Int) (List Int))
 |(e,f,c)=>(if(c:Int)<(List.length a:Int)then (idx a c).bind fun g=>(((if(c:Int)<(List.length b:Int)then (idx b c).bind fun i=>some (iw ((iw (g-f))-i)) else some (iw (g-f))):Option Int)).bind fun ss=>match ss with
    |d=>(((if(d:Int)<0 then some (1,(iw (d+65536))) else some (0,d)):Option (Int×Int))).bind fun ss=>match ss with
      |(j,k)=>(apnd 8 e [k]).bind fun l=>some (Stp.next (l,j,(iw (c+1)))) else some (Stp.done e))
def rminus(N:Nat)(a:(List Int))(b:(List Int)):Option (List Int):=(loopM (rminus_b1 N a b) N (([]:(List Int)),0,0)).bind fun ss=>match ss with
  |c=>(rtrim N c).bind fun d=>some d
def rSign(N:Nat)(x:Big):Option Int:=(halves N x).bind fun r6=>(if((List.length r6:Int):Int)=0 then some 0 else (if x.Negative=true then some (-1) else some 1))
def rNeg(N:Nat)(x:Big):Option Big:=(halves N x).bind fun a=>(rbig N (!x.Negative) a).bind fun b=>some b
def rAdd(N:Nat)(a:Big)(b:Big):Option Big:=(halves N a).bind fun c=>(halves N b).bind fun d=>(if(a.Negative==b.Negative)=true then (rplus N c d).bind fun e=>(rbig N a.Negative e).bind fun f=>some f else (rorder N c d).bind fun g=>(if(g:Int)≥0 then (rminus N c d).bind fun i=>(rbig N a.Negative i).bind fun j=>some j else (rminus N d c).bind fun k=>(rbig N b.Negative k).bind fun l=>some l))
def rSub(N:Nat)(a:Big)(b:Big):Option Big:=(rNeg N b).bind fun c=>(rAdd N a c).bind fun d=>some d
def rtimes_b1(N:Nat)(a:(List Int))(d:Int):((List Int)×Int×Int)→Option (Stp ((List Int)×Int×Int) (List Int))
 |(e,c,b)=>(((if(b:Int)<(List.length a:Int)then some true else some (decide ((c:Int)>0))):Option Bool)).bind fun ss=>match ss with
   |g=>(if g=true then (((if(b:Int)<(List.length a:Int)then (idx a b).bind fun i=>some (iw (c+(iw (i*d)))) else some c):Option Int)).bind fun ss=>match ss with
      |f=>(apnd 8 e [(Int.tmod f 65536)]).bind fun j=>some (Stp.next (j,(iw (Int.tdiv f 65536)),(iw (b+1)))) else some (Stp.done e))
def rtimes(N:Nat)(a:(List Int))(d:Int):Option (List Int):=(loopM (rtimes_b1 N a d) N (([]:(List Int)),0,0)).bind fun ss=>match ss with
  |b=>(rtrim N b).bind fun c=>some c
def rMul_b1(N:Nat)(c:(List Int))(d:(List Int)):((List Int)×Int)→Option (Stp ((List Int)×Int) (List Int))
 |(b,a)=>(if(a:Int)≥0 then (apnd 8 [0] b).bind fun e=>(idx d a).bind fun f=>(rtimes N c f).bind fun g=>(rplus N e g).bind fun i=>some (Stp.next (i,(iw (a-1)))) else some (Stp.done b))
def rMul(N:Nat)(a:Big)(b:Big):Option Big:=(halves N a).bind fun d=>(halves N b).bind fun c=>(loopM (rMul_b1 N d c) N (([]:(List Int)),(iw ((List.length c:Int)-1)))).bind fun ss=>match ss with
  |e=>(rbig N (!(a.Negative==b.Negative)) e).bind fun f=>some f
def rsplit_b2(N:Nat)(a:(List Int))(b:(List Int))(e:Int):((List Int)×(List Int)×Int)→Option (Stp ((List Int)×(List Int)×Int) ((List Int)×(List Int)))
 |(c,f,d)=>(if(d:Int)>0 then (rplus N f f).bind fun i=>(idx a e).bind fun j=>(sdiv .i64 j d).bind fun k=>(((if((Int.tmod k 2):Int)=1 then (rplus N i [1]).bind fun l=>some l else some i):Option (List Int))).bind fun ss=>match ss with
    |g=>(rorder N g b).bind fun m=>(if(m:Int)≥0 then (rminus N g b).bind fun n=>(idx c e).bind fun o=>(idx c e).bind fun q=>(upd1 c e (iw (o+d))).bind fun p=>some (Stp.next (p,n,(iw (Int.tdiv d 2)))) else some (Stp.next (c,g,(iw (Int.tdiv d 2))))) else some (Stp.done (c,f)))
def rsplit_b1(N:Nat)(a:(List Int))(b:(List Int)):((List Int)×(List Int)×Int)→Option (Stp ((List Int)×(List Int)×Int) ((List Int)×(List Int)))
 |(d,e,c)=>(if(c:Int)≥0 then (loopM (rsplit_b2 N a b c) N (d,e,32768)).bind fun ss=>match ss with
    |(f,g)=>some (Stp.next (f,g,(iw (c-1)))) else some (Stp.done (d,e)))
def rsplit(N:Nat)(a:(List Int))(b:(List Int)):Option ((List Int)×(List Int)):=(mk1 (α:=Int) 8 0 (List.length a:Int)).bind fun x2=>(loopM (rsplit_b1 N a b) N (x2,([]:(List Int)),(iw ((List.length a:Int)-1)))).bind fun ss=>match ss with
  |(c,d)=>(rtrim N c).bind fun e=>some (e,d)
def rOf_b1(N:Nat):(Int×(List Int))→Option (Stp (Int×(List Int)) (List Int))
 |(a,b)=>(if(a:Int)>0 then (apnd 8 b [(iw (Int.tmod a 65536))]).bind fun c=>some (Stp.next ((uw (Int.tdiv a 65536)),c)) else some (Stp.done b))
def rOf(N:Nat)(n:Int):Option Big:=(((if(n:Int)<0 then some (uw ((uw (iw (0-(iw (n+1)))))+1)) else some (uw n)):Option Int)).bind fun ss=>match ss with
  |u8=>(loopM (rOf_b1 N) N (u8,([]:(List Int)))).bind fun ss=>match ss with
    |a=>(rbig N (decide ((n:Int)<0)) a).bind fun b=>some b
def rDivFloor(N:Nat)(a:Big)(b:Big):Option (Big×Big×Bool):=(rSign N b).bind fun f=>(if(f:Int)=0 then some ((Big.mk false []),(Big.mk false []),false) else (halves N a).bind fun g=>(halves N b).bind fun i=>(rsplit N g i).bind fun d=>(rbig N (!(a.Negative==b.Negative)) d.1).bind fun e=>(rbig N a.Negative d.2).bind fun c=>(((rSign N c).bind fun j=>(if(j:Int)≠0 then (rSign N c).bind fun k=>(rSign N b).bind fun l=>some (decide ((k:Int)≠l)) else some false):Option Bool)).bind fun ss=>match ss with
   |m=>(((if m=true then (rOf N 1).bind fun n=>(rSub N e n).bind fun o=>(rAdd N c b).bind fun p=>some (o,p) else some (e,c)):Option (Big×Big))).bind fun ss=>match ss with
     |(q,s)=>some (q,s,true))
open Go Go.X
def len32_lit256:List UInt8:=[0,1,2,2,3,3,3,3,4,4,4,4,4,4,4,4,5,5,5,5,5,5,5,5,5,5,5,5,5,5,5,5,6,6,6,6,6,6,6,6,6,6,6,6,6,6,6,6,6,6,6,6,6,6,6,6,6,6,6,6,6,6,6,6,7,7,7,7,7,7,7,7,7,7,7,7,7,7,7,7,7,7,7,7,7,7,7,7,7,7,7,7,7,7,7,7,7,7,7,7,7,7,7,7,7,7,7,7,7,7,7,7,7,7,7,7,7,7,7,7,7,7,7,7,7,7,7,7,8,8,8,8,8,8,8,8,8,8,8,8,8,8,8,8,8,8,8,8,8,8,8,8,8,8,8,8,8,8,8,8,8,8,8,8,8,8,8,8,8,8,8,8,8,8,8,8,8,8,8,8,8,8,8,8,8,8,8,8,8,8,8,8,8,8,8,8,8,8,8,8,8,8,8,8,8,8,8,8,8,8,8,8,8,8,8,8,8,8,8,8,8,8,8,8,8,8,8,8,8,8,8,8,8,8,8,8,8,8,8,8,8,8,8,8,8,8,8,8,8,8,8,8,8,8,8,8]
def len32(N:Nat)(x:Int):Option Int:=(((if(x:Int)≥65536 then some ((bshr .u32 x 16),16) else some (x,0)):Option (Int×Int))).bind fun ss=>match ss with
  |(x2,n3)=>(((if(x2:Int)≥256 then some ((bshr .u32 x2 8),(iw (n3+8))) else some (x2,n3)):Option (Int×Int))).bind fun ss=>match ss with
    |(a,b)=>(idx len32_lit256 (uw8 a)).bind fun c=>some (iw (b+(iw (UInt8.toNat c:Int))))
def lz32(N:Nat)(x:Int):Option Int:=(len32 N x).bind fun r1=>some (iw (32-r1))
def bbelow_b1(N:Nat)(n:Int)(pa_hi:Int)(pa_lo:Int)(pb:(List Int)):((List Int)×Int×Int×Int)→Option (Stp ((List Int)×Int×Int×Int) ((List Int)×Int))
 |(b,c,d,a)=>(if(a:Int)<(pa_hi-pa_lo)then (digit N pb a).bind fun e=>(chk (0≤a∧a<pa_hi-pa_lo)).bind fun _=>(idx b (pa_lo+a)).bind fun f=>(chk (0≤a∧a<pa_hi-pa_lo)).bind fun _=>(idx b (pa_lo+a)).bind fun i=>(upd1 b (pa_lo+a) (uw32 (uw ((uw ((uw f)-(band .u64 (uw (c+(uw (n*e)))) 4294967295)))-d)))).bind fun g=>some (Stp.next (g,(bshr .u64 (uw (c+(uw (n*e)))) 32),(bshr .u64 (uw ((uw ((uw f)-(band .u64 (uw (c+(uw (n*e)))) 4294967295)))-d)) 63),(iw (a+1)))) else some (Stp.done (b,d)))
def bbelow(N:Nat)(pa:(List Int))(pa_lo:Int)(pa_hi:Int)(pb:(List Int))(n:Int):Option (Bool×(List Int)):=(loopM (bbelow_b1 N n pa_hi pa_lo pb) N (pa,0,0,0)).bind fun ss=>match ss with
  |(a,b)=>some ((decide ((b:Int)≠0)),a)
def bdivide_b2(N:Nat)(b:(List Int))(d:(List Int))(f:(List Int))(g:Int):(Int×Int)→Option (Stp (Int×Int) Int)
 |(a,c)=>(((if(a:Int)>4294967295 then some true else (idx d (iw ((List.length b:Int)-2))).bind fun i=>(idx f (iw ((iw (g+(List.length b:Int)))-2))).bind fun j=>some (decide (((uw (a*(uw i))):Int)>(bor .u64 (bshl .u64 c 32) (uw j))))):Option Bool)).bind fun ss=>match ss with
   |k=>(if k=true then (idx d (iw ((List.length b:Int)-1))).bind fun e=>(if((uw (c+(uw e))):Int)>4294967295 then some (Stp.done (uw (a-1))) else some (Stp.next ((uw (a-1)),(uw (c+(uw e)))))) else some (Stp.done a))
def bdivide_b3(N:Nat)(e:(List Int))(c:Int):((List Int)×Int×Int)→Option (Stp ((List Int)×Int×Int) ((List Int)×Int))
 |(b,d,a)=>(if(a:Int)<(List.length e:Int)then (idx b (iw (c+a))).bind fun f=>(idx e a).bind fun g=>(idx b (iw (c+a))).bind fun j=>(upd1 b (iw (c+a)) (uw32 (uw (d+(uw ((uw f)+(uw g))))))).bind fun i=>some (Stp.next (i,(bshr .u64 (uw (d+(uw ((uw f)+(uw g))))) 32),(iw (a+1)))) else some (Stp.done (b,d)))
def bdivide_b1(N:Nat)(b:(List Int))(d:(List Int)):((List Int)×(List Int)×Int)→Option (Stp ((List Int)×(List Int)×Int) ((List Int)×(List Int)))
 |(c,e,a)=>(if(a:Int)≥0 then (idx c (iw (a+(List.length b:Int)))).bind fun f=>(idx c (iw ((iw (a+(List.length b:Int)))-1))).bind fun g=>(idx d (iw ((List.length b:Int)-1))).bind fun m=>(sdiv .u64 (bor .u64 (bshl .u64 (uw f) 32) (uw g)) (uw m)).bind fun n=>(idx d (iw ((List.length b:Int)-1))).bind fun l=>(srem (bor .u64 (bshl .u64 (uw f) 32) (uw g)) (uw l)).bind fun y=>(loopM (bdivide_b2 N b d c a) N (n,(Int.tmod (bor .u64 (bshl .u64 (uw f) 32) (uw g)) (uw l)))).bind fun ss=>match ss with
    |i=>(seg c a (iw ((iw (a+(List.length b:Int)))+1))).bind fun _=>(bbelow N c a (iw ((iw (a+(List.length b:Int)))+1)) d i).bind fun j=>(((if j.1=true then (loopM (bdivide_b3 N d a) N (j.2,0,0)).bind fun ss=>match ss with
       |(k,o)=>(idx k (iw (a+(List.length b:Int)))).bind fun p=>(idx k (iw (a+(List.length b:Int)))).bind fun a0=>(upd1 k (iw (a+(List.length b:Int))) (uw32 (p+(uw32 o)))).bind fun q=>some (q,(uw (i-1))) else some (j.2,i)):Option ((List Int)×Int))).bind fun ss=>match ss with
      |(s,u)=>(idx e a).bind fun a1=>(upd1 e a (uw32 u)).bind fun v=>some (Stp.next (s,v,(iw (a-1)))) else some (Stp.done (c,e)))
def bdivide_b4(N:Nat)(c:Int)(d:(List Int))(e:(List Int)):((List Int)×Int)→Option (Stp ((List Int)×Int) (List Int))
 |(b,a)=>(if(a:Int)<(List.length e:Int)then (idx d (iw (a+1))).bind fun f=>(idx d a).bind fun g=>(chk (¬((uw c):Int)<0)).bind fun _=>(idx b a).bind fun j=>(upd1 b a (uw32 (bshr .u64 (bor .u64 (bshl .u64 (uw f) 32) (uw g)) (uw c)))).bind fun i=>some (Stp.next (i,(iw (a+1)))) else some (Stp.done b))
def bdivide(N:Nat)(a:(List Int))(b:(List Int)):Option ((List Int)×(List Int)):=(bcompare N a b).bind fun r1=>(if(r1:Int)<0 then (btrim N a).bind fun r9=>some (([]:(List Int)),r9) else (if((List.length b:Int):Int)=1 then (idx b 0).bind fun i=>(bshort N a i).bind fun d=>(btrim N d.1).bind fun j=>(btrim N [d.2]).bind fun k=>some (j,k) else (idx b (iw ((List.length b:Int)-1))).bind fun l=>(lz32 N l).bind fun c=>(bshift N a (uw c)).bind fun e=>(bshift N b (uw c)).bind fun m=>(cut m 0 (List.length b:Int)).bind fun n=>(mk1 (α:=Int) 4 0 (iw ((List.length e:Int)-(List.length b:Int)))).bind fun f=>(loopM (bdivide_b1 N b n) N (e,f,(iw ((List.length f:Int)-1)))).bind fun ss=>match ss with
    |(o,p)=>(mk1 (α:=Int) 4 0 (List.length b:Int)).bind fun g=>(loopM (bdivide_b4 N c o g) N (g,0)).bind fun ss=>match ss with
      |q=>(btrim N p).bind fun s=>(btrim N q).bind fun u=>some (s,u)))
def bOf(N:Nat)(n:Int):Option Big:=(((if(n:Int)<0 then some (uw (0-(uw n))) else some (uw n)):Option Int)).bind fun ss=>match ss with
  |u8=>(bnormal N (decide ((n:Int)<0)) [(uw32 u8),(uw32 (bshr .u64 u8 32))]).bind fun a=>some a
def bNormal(N:Nat)(x:Big):Option Big:=(bnormal N x.Negative x.Digits).bind fun a=>some a
def bSign(N:Nat)(x:Big):Option Int:=(bNormal N x).bind fun r6=>(if((List.length r6.Digits:Int):Int)=0 then some 0 else (if r6.Negative=true then some (-1) else some 1))
def bNeg(N:Nat)(x:Big):Option Big:=(bnormal N (!x.Negative) x.Digits).bind fun a=>some a
def bAdd(N:Nat)(a:Big)(b:Big):Option Big:=(bNormal N a).bind fun c=>(bNormal N b).bind fun d=>(if(c.Negative==d.Negative)=true then (bplus N c.Digits d.Digits).bind fun e=>(bnormal N c.Negative e).bind fun f=>some f else (bcompare N c.Digits d.Digits).bind fun g=>(if(g:Int)<0 then (bminus N d.Digits c.Digits).bind fun i=>(bnormal N d.Negative i).bind fun j=>some j else (bminus N c.Digits d.Digits).bind fun k=>(bnormal N c.Negative k).bind fun l=>some l))
def bSub(N:Nat)(a:Big)(b:Big):Option Big:=(bNeg N b).bind fun c=>(bAdd N a c).bind fun d=>some d
def bMul(N:Nat)(a:Big)(b:Big):Option Big:=(btimes N a.Digits b.Digits).bind fun c=>(bnormal N (!(a.Negative==b.Negative)) c).bind fun d=>some d
def bDivFloor(N:Nat)(a:Big)(b:Big):Option (Big×Big×Bool):=(bNormal N a).bind fun e=>(bNormal N b).bind fun d=>(if((List.length d.Digits:Int):Int)=0 then some ((Big.mk false []),(Big.mk false []),false) else (bdivide N e.Digits d.Digits).bind fun c=>(if(!(e.Negative==d.Negative))=true then (((if((List.length c.2:Int):Int)>0 then (bplus N c.1 [1]).bind fun f=>(bminus N d.Digits c.2).bind fun g=>some (f,g) else some (c.1,c.2)):Option ((List Int)×(List Int)))).bind fun ss=>match ss with
    |(i,j)=>(bnormal N true i).bind fun k=>(bnormal N d.Negative j).bind fun l=>some (k,l,true) else (bnormal N false c.1).bind fun m=>(bnormal N d.Negative c.2).bind fun n=>some (m,n,true)))
open Go Go.X
def cvalid_b1(N:Nat)(c:Constraint)(n:Int):(Int×Int)→Option (Stp (Int×Int) (Sum Unit Bool))
 |(d,a)=>(if(a:Int)<(List.length c.Linear.Coefs:Int)then (idx c.Linear.Coefs a).bind fun b=>(((if(b.Var:Int)≤d then some true else some (decide ((b.Var:Int)≥n))):Option Bool)).bind fun ss=>match ss with
    |e=>(if e=true then some (Stp.done (Sum.inr false)) else some (Stp.next (b.Var,(iw (a+1))))) else some (Stp.done (Sum.inl ())))
def cvalid(N:Nat)(c:Constraint)(n:Int):Option Bool:=(loopM (cvalid_b1 N c n) N ((-1),0)).bind fun ss=>match ss with
  |(Sum.inl _)=>(if(n:Int)≥0 then some (decide ((n:Int)≤512)) else some false)
  |(Sum.inr a)=>some a
def negated_b1(N:Nat)(l:(List Big)):((List Big)×Int)→Option (Stp ((List Big)×Int) (List Big))
 |(b,a)=>(if(a:Int)<(List.length l:Int)then (idx l a).bind fun c=>(bNeg N c).bind fun d=>(apnd 32 b [d]).bind fun e=>some (Stp.next (e,(iw (a+1)))) else some (Stp.done b))
def negated(N:Nat)(l:(List Big))(bound:Big):Option Ineq:=(bNormal N bound).bind fun a=>(loopM (negated_b1 N l) N (([]:(List Big)),0)).bind fun ss=>match ss with
  |b=>some (Ineq.mk b a)
def cOf_b1(N:Nat)(c:Constraint):((List Big)×Int)→Option (Stp ((List Big)×Int) (List Big))
 |(a,b)=>(if(b:Int)<(List.length c.Linear.Coefs:Int)then (idx c.Linear.Coefs b).bind fun d=>(bOf N d.N).bind fun e=>(idx a d.Var).bind fun g=>(upd1 a d.Var e).bind fun f=>some (Stp.next (f,(iw (b+1)))) else some (Stp.done a))
def cOf(N:Nat)(c:Constraint)(n:Int):Option (List Ineq):=(cvalid N c n).bind fun r6=>(if(!r6)=true then some ([]:(List Ineq)) else (mk1 (α:=Big) 32 (Big.mk false []) n).bind fun d=>(bOf N c.Linear.Const).bind fun e=>(bNeg N e).bind fun b=>(loopM (cOf_b1 N c) N (d,0)).bind fun ss=>match ss with
   |a=>(if(!c.Equal)=true then some [(Ineq.mk a b)] else (bOf N c.Linear.Const).bind fun f=>(negated N a f).bind fun g=>some [(Ineq.mk a b),g]))
def cSystem_b1(N:Nat)(l:(List Constraint))(n:Int):((List Ineq)×Int)→Option (Stp ((List Ineq)×Int) (Sum (List Ineq) (List Ineq)))
 |(b,a)=>(if(a:Int)<(List.length l:Int)then (idx l a).bind fun c=>(cvalid N c n).bind fun d=>(if(!d)=true then some (Stp.done (Sum.inr ([]:(List Ineq)))) else (cOf N c n).bind fun e=>(apnd 56 b e).bind fun f=>some (Stp.next (f,(iw (a+1))))) else some (Stp.done (Sum.inl b)))
def cSystem(N:Nat)(l:(List Constraint))(n:Int):Option (List Ineq):=(loopM (cSystem_b1 N l n) N (([]:(List Ineq)),0)).bind fun ss=>match ss with
  |(Sum.inl a)=>some a
  |(Sum.inr b)=>some b
def cloneIneq(N:Nat)(s:(List Ineq)):Option (List Ineq):=(apnd 56 ([]:(List Ineq)) s).bind fun a=>some a
def clipIneq(N:Nat)(s:(List Ineq)):Option (List Ineq):= some s
def indexIneq_b1(N:Nat)(f:(Ineq→Option Bool))(s:(List Ineq)):Int→Option (Stp Int (Sum Unit Int))
 |a=>(if(a:Int)<(List.length s:Int)then (idx s a).bind fun b=>(f b).bind fun c=>(if c=true then some (Stp.done (Sum.inr a)) else some (Stp.next (iw (a+1)))) else some (Stp.done (Sum.inl ())))
def indexIneq(N:Nat)(s:(List Ineq))(f:(Ineq→Option Bool)):Option Int:=(loopM (indexIneq_b1 N f s) N 0).bind fun ss=>match ss with
  |(Sum.inl _)=>some (-1)
  |(Sum.inr a)=>some a
def containsIneq(N:Nat)(s:(List Ineq))(f:(Ineq→Option Bool)):Option Bool:=(indexIneq N s f).bind fun r1=>some (decide ((r1:Int)≥0))
def width1(N:Nat)(q:Ineq)(ca:Int):Option Bool:= some (decide (((List.length q.Coefs:Int):Int)≠ca))
def cwidth(N:Nat)(l:(List Ineq)):Option (Int×Bool):=(if((List.length l:Int):Int)=0 then some (0,true) else (idx l 0).bind fun x2=>(containsIneq N l (fun a=>width1 N a (List.length x2.Coefs:Int))).bind fun b=>some ((List.length x2.Coefs:Int),(!b)))
def cApply_b2(N:Nat)(d:Use)(c:Ineq):((List Big)×Int)→Option (Stp ((List Big)×Int) (List Big))
 |(b,a)=>(if(a:Int)<(List.length c.Coefs:Int)then (idx c.Coefs a).bind fun e=>(idx b a).bind fun f=>(bMul N d.N e).bind fun g=>(bAdd N f g).bind fun i=>(idx b a).bind fun k=>(upd1 b a i).bind fun j=>some (Stp.next (j,(iw (a+1)))) else some (Stp.done b))
def cApply_b1(N:Nat)(l:(List Ineq))(s:Step):((List Big)×Bool×(List Int)×Int)→Option (Stp ((List Big)×Bool×(List Int)×Int) (Sum ((List Big)×Bool×(List Int)) (Ineq×Bool)))
 |(c,d,e,b)=>(if(b:Int)<(List.length s.Uses:Int)then (idx s.Uses b).bind fun a=>(((if(a.Index:Int)<0 then some true else (if(a.Index:Int)≥(List.length l:Int)then some true else (bSign N a.N).bind fun i=>some (decide ((i:Int)<0)))):Option Bool)).bind fun ss=>match ss with
    |j=>(if j=true then some (Stp.done (Sum.inr ((Ineq.mk [] (Big.mk false [])),false))) else (idx l a.Index).bind fun f=>(loopM (cApply_b2 N a f) N (c,0)).bind fun ss=>match ss with
       |k=>(bMul N a.N f.Bound).bind fun m=>(bAdd N (Big.mk d e) m).bind fun g=>some (Stp.next (k,g.Negative,g.Digits,(iw (b+1))))) else some (Stp.done (Sum.inl (c,d,e))))
def cApply_b3(N:Nat)(s:Step)(d:(List Big)):((List Big)×Int)→Option (Stp ((List Big)×Int) (Sum (List Big) (Ineq×Bool)))
 |(b,a)=>(if(a:Int)<(List.length d:Int)then (idx b a).bind fun e=>(bDivFloor N e s.Divisor).bind fun c=>(bSign N c.2.1).bind fun f=>(if(f:Int)≠0 then some (Stp.done (Sum.inr ((Ineq.mk [] (Big.mk false [])),false))) else (idx b a).bind fun i=>(upd1 b a c.1).bind fun g=>some (Stp.next (g,(iw (a+1))))) else some (Stp.done (Sum.inl b)))
def cApply(N:Nat)(l:(List Ineq))(s:Step):Option (Ineq×Bool):=(cwidth N l).bind fun a=>(((if(!a.2)=true then some true else (bSign N s.Divisor).bind fun c=>some (decide ((c:Int)<1))):Option Bool)).bind fun ss=>match ss with
  |d=>(if d=true then some ((Ineq.mk [] (Big.mk false [])),false) else (mk1 (α:=Big) 32 (Big.mk false []) a.1).bind fun e=>(loopM (cApply_b1 N l s) N (e,false,[],0)).bind fun ss=>match ss with
     |(Sum.inl (b,f,g))=>(loopM (cApply_b3 N s b) N (b,0)).bind fun ss=>match ss with
       |(Sum.inl i)=>(bDivFloor N (Big.mk f g) s.Divisor).bind fun j=>some ((Ineq.mk i j.1),true)
       |(Sum.inr k)=>some k
     |(Sum.inr m)=>some m)
def cContradictory_b1(N:Nat)(q:Ineq):Int→Option (Stp Int (Sum Unit Bool))
 |a=>(if(a:Int)<(List.length q.Coefs:Int)then (idx q.Coefs a).bind fun b=>(bSign N b).bind fun c=>(if(c:Int)≠0 then some (Stp.done (Sum.inr false)) else some (Stp.next (iw (a+1)))) else some (Stp.done (Sum.inl ())))
def cContradictory(N:Nat)(q:Ineq):Option Bool:=(loopM (cContradictory_b1 N q) N 0).bind fun ss=>match ss with
  |(Sum.inl _)=>(bSign N q.Bound).bind fun a=>some (decide ((a:Int)<0))
  |(Sum.inr b)=>some b
def cCheck_b1(N:Nat)(p:Proof):((List Ineq)×Int)→Option (Stp ((List Ineq)×Int) (Sum (List Ineq) Bool))
 |(a,b)=>(if(b:Int)<(List.length p.Steps:Int)then (idx p.Steps b).bind fun d=>(cApply N a d).bind fun c=>(if(!c.2)=true then some (Stp.done (Sum.inr false)) else (apnd 56 a [c.1]).bind fun e=>some (Stp.next (e,(iw (b+1))))) else some (Stp.done (Sum.inl a)))
def cCheck_step(N:Nat)(self:(List Ineq)→Proof→Option Bool)(l:(List Ineq))(p:Proof):Option Bool:=(cwidth N l).bind fun r6=>(if(!r6.2)=true then some false else (cloneIneq N l).bind fun c=>(loopM (cCheck_b1 N p) N (c,0)).bind fun ss=>match ss with
   |(Sum.inl a)=>(if((List.length p.Children:Int):Int)=0 then (containsIneq N a (fun d=>cContradictory N d)).bind fun e=>some e else (if((List.length p.Children:Int):Int)=2 then (cwidth N a).bind fun f=>(((if((List.length a:Int):Int)>0 then some (decide (((List.length p.Form:Int):Int)≠f.1)) else some false):Option Bool)).bind fun ss=>match ss with
       |g=>(if g=true then some false else (bNeg N p.Bound).bind fun i=>(bOf N 1).bind fun j=>(bSub N i j).bind fun k=>(negated N p.Form k).bind fun m=>(clipIneq N a).bind fun b=>(apnd 56 b [(Ineq.mk p.Form p.Bound)]).bind fun n=>(idx p.Children 0).bind fun o=>(self n o).bind fun q=>(if q=true then (apnd 56 b [m]).bind fun s=>(idx p.Children 1).bind fun u=>(self s u).bind fun v=>some v else some false)) else some false))
   |(Sum.inr y)=>some y)
def cCheck:Nat→(List Ineq)→Proof→Option Bool
 |0=>fun _ _=>none
 |N+1=>cCheck_step N (cCheck N)
def cSize_b1(N:Nat)(self:Proof→Option Int)(p:Proof):(Int×Int)→Option (Stp (Int×Int) Int)
 |(b,a)=>(if(a:Int)<(List.length p.Children:Int)then (idx p.Children a).bind fun c=>(self c).bind fun d=>some (Stp.next ((iw (b+d)),(iw (a+1)))) else some (Stp.done b))
def cSize_step(N:Nat)(self:Proof→Option Int)(p:Proof):Option Int:=(((if((List.length p.Children:Int):Int)>0 then some (iw ((List.length p.Steps:Int)+1)) else some (List.length p.Steps:Int)):Option Int)).bind fun ss=>match ss with
  |a=>(loopM (cSize_b1 N self p) N (a,0)).bind fun ss=>match ss with
    |b=>some b
def cSize:Nat→Proof→Option Int
 |0=>fun _=>none
 |N+1=>cSize_step N (cSize N)
open Go Go.X
def rzero(N:Nat)(n:Int):Option Ineq:=(mk1 (α:=Big) 32 (Big.mk false []) n).bind fun x7=>some (Ineq.mk x7 (Big.mk false ([]:(List Int))))
def rRight_b1(N:Nat)(c:Constraint)(n:Int):Int→Option (Stp Int (Sum Unit Bool))
 |a=>(if(a:Int)<(List.length c.Linear.Coefs:Int)then (idx c.Linear.Coefs a).bind fun b=>(((if(b.Var:Int)<0 then some true else (if(b.Var:Int)≥n then some true else (if(a:Int)>0 then (idx c.Linear.Coefs (iw (a-1))).bind fun d=>some (decide ((b.Var:Int)≤d.Var)) else some false))):Option Bool)).bind fun ss=>match ss with
    |e=>(if e=true then some (Stp.done (Sum.inr false)) else some (Stp.next (iw (a+1)))) else some (Stp.done (Sum.inl ())))
def rRight(N:Nat)(c:Constraint)(n:Int):Option Bool:=(loopM (rRight_b1 N c n) N 0).bind fun ss=>match ss with
  |(Sum.inl _)=>(if(n:Int)≥0 then some (decide ((n:Int)≤512)) else some false)
  |(Sum.inr a)=>some a
def rflip_b1(N:Nat)(q:Ineq):((List Big)×Int)→Option (Stp ((List Big)×Int) (List Big))
 |(b,a)=>(if(a:Int)<(List.length q.Coefs:Int)then (idx q.Coefs a).bind fun c=>(rNeg N c).bind fun d=>(apnd 32 b [d]).bind fun e=>some (Stp.next (e,(iw (a+1)))) else some (Stp.done b))
def rflip(N:Nat)(q:Ineq)(bound:Big):Option Ineq:=(rNormal N bound).bind fun a=>(loopM (rflip_b1 N q) N (([]:(List Big)),0)).bind fun ss=>match ss with
  |b=>some (Ineq.mk b a)
def rIOf_b1(N:Nat)(c:Constraint):((List Big)×Int)→Option (Stp ((List Big)×Int) (List Big))
 |(b,a)=>(if(a:Int)<(List.length c.Linear.Coefs:Int)then (idx c.Linear.Coefs a).bind fun d=>(idx c.Linear.Coefs a).bind fun e=>(rOf N e.N).bind fun f=>(idx b d.Var).bind fun i=>(upd1 b d.Var f).bind fun g=>some (Stp.next (g,(iw (a+1)))) else some (Stp.done b))
def rIOf(N:Nat)(c:Constraint)(n:Int):Option (List Ineq):=(rRight N c n).bind fun r6=>(if(!r6)=true then some ([]:(List Ineq)) else (rzero N n).bind fun e=>(loopM (rIOf_b1 N c) N (e.Coefs,0)).bind fun ss=>match ss with
   |a=>(rOf N c.Linear.Const).bind fun d=>(rNeg N d).bind fun b=>(if(!c.Equal)=true then some [(Ineq.mk a b)] else (rflip N (Ineq.mk a b) d).bind fun f=>some [(Ineq.mk a b),f]))
def rSystem_b1(N:Nat)(l:(List Constraint))(n:Int):((List Ineq)×Int)→Option (Stp ((List Ineq)×Int) (Sum (List Ineq) (List Ineq)))
 |(b,a)=>(if(a:Int)<(List.length l:Int)then (idx l a).bind fun c=>(rRight N c n).bind fun d=>(if(!d)=true then some (Stp.done (Sum.inr ([]:(List Ineq)))) else (idx l a).bind fun e=>(rIOf N e n).bind fun f=>(apnd 56 b f).bind fun g=>some (Stp.next (g,(iw (a+1))))) else some (Stp.done (Sum.inl b)))
def rSystem(N:Nat)(l:(List Constraint))(n:Int):Option (List Ineq):=(loopM (rSystem_b1 N l n) N (([]:(List Ineq)),0)).bind fun ss=>match ss with
  |(Sum.inl a)=>some a
  |(Sum.inr b)=>some b
def rEven_b1(N:Nat)(l:(List Ineq)):Int→Option (Stp Int (Sum Unit Bool))
 |a=>(if(a:Int)<(List.length l:Int)then (idx l a).bind fun b=>(idx l 0).bind fun c=>(if((List.length b.Coefs:Int):Int)≠(List.length c.Coefs:Int)then some (Stp.done (Sum.inr false)) else some (Stp.next (iw (a+1)))) else some (Stp.done (Sum.inl ())))
def rEven(N:Nat)(l:(List Ineq)):Option Bool:=(loopM (rEven_b1 N l) N 0).bind fun ss=>match ss with
  |(Sum.inl _)=>some true
  |(Sum.inr a)=>some a
def rApply_b2(N:Nat)(c:Int)(d:Use)(e:Ineq):((List Big)×Int)→Option (Stp ((List Big)×Int) (List Big))
 |(b,a)=>(if(a:Int)<c then (idx b a).bind fun f=>(idx e.Coefs a).bind fun g=>(rMul N g d.N).bind fun i=>(rAdd N f i).bind fun j=>(idx b a).bind fun l=>(upd1 b a j).bind fun k=>some (Stp.next (k,(iw (a+1)))) else some (Stp.done b))
def rApply_b1(N:Nat)(l:(List Ineq))(s:Step)(i:Int):((List Big)×Bool×(List Int)×Int)→Option (Stp ((List Big)×Bool×(List Int)×Int) (Sum ((List Big)×Bool×(List Int)) (Ineq×Bool)))
 |(c,d,e,b)=>(if(b:Int)<(List.length s.Uses:Int)then (idx s.Uses b).bind fun a=>(((if(a.Index:Int)<0 then some true else (if(a.Index:Int)≥(List.length l:Int)then some true else (rSign N a.N).bind fun j=>some (decide ((j:Int)<0)))):Option Bool)).bind fun ss=>match ss with
    |k=>(if k=true then some (Stp.done (Sum.inr ((Ineq.mk [] (Big.mk false [])),false))) else (idx l a.Index).bind fun f=>(loopM (rApply_b2 N i a f) N (c,0)).bind fun ss=>match ss with
       |m=>(rMul N f.Bound a.N).bind fun n=>(rAdd N (Big.mk d e) n).bind fun g=>some (Stp.next (m,g.Negative,g.Digits,(iw (b+1))))) else some (Stp.done (Sum.inl (c,d,e))))
def rApply_b3(N:Nat)(s:Step)(d:Int):((List Big)×Int)→Option (Stp ((List Big)×Int) (Sum (List Big) (Ineq×Bool)))
 |(b,a)=>(if(a:Int)<d then (idx b a).bind fun e=>(rDivFloor N e s.Divisor).bind fun c=>(rSign N c.2.1).bind fun f=>(if(f:Int)≠0 then some (Stp.done (Sum.inr ((Ineq.mk [] (Big.mk false [])),false))) else (idx b a).bind fun i=>(upd1 b a c.1).bind fun g=>some (Stp.next (g,(iw (a+1))))) else some (Stp.done (Sum.inl b)))
def rApply(N:Nat)(l:(List Ineq))(s:Step):Option (Ineq×Bool):=(((rEven N l).bind fun c=>(if(!c)=true then some true else (rSign N s.Divisor).bind fun d=>some (decide ((d:Int)≤0))):Option Bool)).bind fun ss=>match ss with
  |e=>(if e=true then some ((Ineq.mk [] (Big.mk false [])),false) else (((if((List.length l:Int):Int)>0 then (idx l 0).bind fun f=>some (List.length f.Coefs:Int) else some 0):Option Int)).bind fun ss=>match ss with
     |a=>(rzero N a).bind fun b=>(loopM (rApply_b1 N l s a) N (b.Coefs,b.Bound.Negative,b.Bound.Digits,0)).bind fun ss=>match ss with
       |(Sum.inl (g,i,j))=>(loopM (rApply_b3 N s a) N (g,0)).bind fun ss=>match ss with
         |(Sum.inl k)=>(rDivFloor N (Big.mk i j) s.Divisor).bind fun m=>some ((Ineq.mk k m.1),true)
         |(Sum.inr n)=>some n
       |(Sum.inr o)=>some o)
def rBad_b1(N:Nat)(q:Ineq):Int→Option (Stp Int (Sum Unit Bool))
 |a=>(if(a:Int)<(List.length q.Coefs:Int)then (idx q.Coefs a).bind fun b=>(rSign N b).bind fun c=>(if(c:Int)≠0 then some (Stp.done (Sum.inr false)) else some (Stp.next (iw (a+1)))) else some (Stp.done (Sum.inl ())))
def rBad(N:Nat)(q:Ineq):Option Bool:=(loopM (rBad_b1 N q) N 0).bind fun ss=>match ss with
  |(Sum.inl _)=>(rSign N q.Bound).bind fun a=>some (decide ((a:Int)<0))
  |(Sum.inr b)=>some b
def rCheck_b1(N:Nat)(p:Proof):((List Ineq)×Int)→Option (Stp ((List Ineq)×Int) (Sum (List Ineq) Bool))
 |(a,b)=>(if(b:Int)<(List.length p.Steps:Int)then (idx p.Steps b).bind fun d=>(rApply N a d).bind fun c=>(if(!c.2)=true then some (Stp.done (Sum.inr false)) else (apnd 56 a [c.1]).bind fun e=>some (Stp.next (e,(iw (b+1))))) else some (Stp.done (Sum.inl a)))
def rCheck_b2(N:Nat)(b:(List Ineq)):Int→Option (Stp Int (Sum Unit Bool))
 |a=>(if(a:Int)<(List.length b:Int)then (idx b a).bind fun c=>(rBad N c).bind fun d=>(if d=true then some (Stp.done (Sum.inr true)) else some (Stp.next (iw (a+1)))) else some (Stp.done (Sum.inl ())))
def rCheck_step(N:Nat)(self:(List Ineq)→Proof→Option Bool)(l:(List Ineq))(p:Proof):Option Bool:=(rEven N l).bind fun r6=>(if(!r6)=true then some false else (apnd 56 ([]:(List Ineq)) l).bind fun b=>(loopM (rCheck_b1 N p) N (b,0)).bind fun ss=>match ss with
   |(Sum.inl a)=>(if((List.length p.Children:Int):Int)=0 then (loopM (rCheck_b2 N a) N 0).bind fun ss=>match ss with
      |(Sum.inl _)=>some false
      |(Sum.inr c)=>some c else (((if((List.length p.Children:Int):Int)≠2 then some true else (if((List.length a:Int):Int)>0 then (idx a 0).bind fun d=>some (decide (((List.length p.Form:Int):Int)≠(List.length d.Coefs:Int))) else some false)):Option Bool)).bind fun ss=>match ss with
      |e=>(if e=true then some false else (rNeg N p.Bound).bind fun f=>(rOf N 1).bind fun g=>(rSub N f g).bind fun i=>(rflip N (Ineq.mk p.Form p.Bound) i).bind fun j=>(apnd 56 ([]:(List Ineq)) a).bind fun k=>(apnd 56 k [(Ineq.mk p.Form p.Bound)]).bind fun m=>(apnd 56 ([]:(List Ineq)) a).bind fun n=>(apnd 56 n [j]).bind fun o=>(idx p.Children 0).bind fun q=>(self m q).bind fun s=>(if s=true then (idx p.Children 1).bind fun u=>(self o u).bind fun v=>some v else some false)))
   |(Sum.inr y)=>some y)
def rCheck:Nat→(List Ineq)→Proof→Option Bool
 |0=>fun _ _=>none
 |N+1=>rCheck_step N (rCheck N)
def rbigs_b1(N:Nat)(l:(List Big)):Int→Option (Stp Int (Sum Unit Bool))
 |a=>(if(a:Int)<(List.length l:Int)then (idx l a).bind fun b=>(if((List.length b.Digits:Int):Int)>4 then some (Stp.done (Sum.inr false)) else some (Stp.next (iw (a+1)))) else some (Stp.done (Sum.inl ())))
def rbigs(N:Nat)(l:(List Big)):Option Bool:=(loopM (rbigs_b1 N l) N 0).bind fun ss=>match ss with
  |(Sum.inl _)=>some (decide (((List.length l:Int):Int)≤6))
  |(Sum.inr a)=>some a
def rSmallStep_b1(N:Nat)(s:Step):Int→Option (Stp Int (Sum Unit Bool))
 |a=>(if(a:Int)<(List.length s.Uses:Int)then (idx s.Uses a).bind fun b=>(if((List.length b.N.Digits:Int):Int)>4 then some (Stp.done (Sum.inr false)) else some (Stp.next (iw (a+1)))) else some (Stp.done (Sum.inl ())))
def rSmallStep(N:Nat)(s:Step):Option Bool:=(loopM (rSmallStep_b1 N s) N 0).bind fun ss=>match ss with
  |(Sum.inl _)=>(if((List.length s.Uses:Int):Int)≤12 then some (decide (((List.length s.Divisor.Digits:Int):Int)≤4)) else some false)
  |(Sum.inr a)=>some a
def rweight_b1(N:Nat)(p:Proof):Int→Option (Stp Int (Sum Unit Int))
 |a=>(((if(a:Int)<(List.length p.Steps:Int)then some (decide (((iw (1+(List.length p.Steps:Int))):Int)≤100)) else some false):Option Bool)).bind fun ss=>match ss with
   |b=>(if b=true then (idx p.Steps a).bind fun c=>(rSmallStep N c).bind fun d=>(if(!d)=true then some (Stp.done (Sum.inr 101)) else some (Stp.next (iw (a+1)))) else some (Stp.done (Sum.inl ())))
def rweight_b2(N:Nat)(self:Proof→Option Int)(p:Proof):(Int×Int)→Option (Stp (Int×Int) Int)
 |(a,b)=>(((if(b:Int)<(List.length p.Children:Int)then some (decide ((a:Int)≤100)) else some false):Option Bool)).bind fun ss=>match ss with
   |c=>(if c=true then (idx p.Children b).bind fun d=>(self d).bind fun e=>some (Stp.next ((iw (a+e)),(iw (b+1)))) else some (Stp.done a))
def rweight_step(N:Nat)(self:Proof→Option Int)(p:Proof):Option Int:=(((rbigs N p.Form).bind fun a=>(if(!a)=true then some true else some (decide (((List.length p.Bound.Digits:Int):Int)>4))):Option Bool)).bind fun ss=>match ss with
  |b=>(if b=true then some 101 else (loopM (rweight_b1 N p) N 0).bind fun ss=>match ss with
     |(Sum.inl _)=>(loopM (rweight_b2 N self p) N ((iw (1+(List.length p.Steps:Int))),0)).bind fun ss=>match ss with
       |c=>some c
     |(Sum.inr d)=>some d)
def rweight:Nat→Proof→Option Int
 |0=>fun _=>none
 |N+1=>rweight_step N (rweight N)
def rSmallProof(N:Nat)(p:Proof):Option Bool:=(rweight N p).bind fun r6=>some (decide ((r6:Int)≤40))
open Go Go.X
def indexOf_b1(N:Nat)(pb:Int)(s:(List Int)):Int→Option (Stp Int (Sum Unit Int))
 |a=>(if(a:Int)<(List.length s:Int)then (idx s a).bind fun b=>(if(pb:Int)=b then some (Stp.done (Sum.inr a)) else some (Stp.next (iw (a+1)))) else some (Stp.done (Sum.inl ())))
def indexOf(N:Nat)(s:(List Int))(pb:Int):Option Int:=(loopM (indexOf_b1 N pb s) N 0).bind fun ss=>match ss with
  |(Sum.inl _)=>some (-1)
  |(Sum.inr a)=>some a
def containsOf(N:Nat)(s:(List Int))(pb:Int):Option Bool:=(indexOf N s pb).bind fun r1=>some (decide ((r1:Int)≥0))
open Go Go.X
def pClosure_b1(N:Nat)(pattern:(List UInt8)):(Int×Int)→Option (Stp (Int×Int) Int)
 |(b,a)=>(if(a:Int)<(List.length pattern:Int)then (((idx pattern a).bind fun c=>(if((UInt8.toNat c:Int):Int)=37 then (chk (¬(a:Int)<0)).bind fun _=>some (decide (((band .u32 (bshr .u32 b a) 1):Int)=1)) else some false):Option Bool)).bind fun ss=>match ss with
    |d=>(if d=true then (chk (¬((iw (a+1)):Int)<0)).bind fun _=>some (Stp.next ((bor .u32 b (bshl .u32 1 (iw (a+1)))),(iw (a+1)))) else some (Stp.next (b,(iw (a+1))))) else some (Stp.done b))
def pClosure(N:Nat)(pattern:(List UInt8))(vset:Int):Option Int:=(loopM (pClosure_b1 N pattern) N (vset,0)).bind fun ss=>match ss with
  |a=>some a
def pBegin(N:Nat)(t:TTest):Option Int:=(if(t.Kind:Int)=1 then (pClosure N t.Text 1).bind fun r7=>some r7 else some 0)
def pNext_b1(N:Nat)(c:Int)(s:Int)(t:TTest):(Int×Int)→Option (Stp (Int×Int) Int)
 |(b,a)=>(if(a:Int)<(List.length t.Text:Int)then (chk (¬(a:Int)<0)).bind fun _=>(if((band .u32 (bshr .u32 s a) 1):Int)=0 then some (Stp.next (b,(iw (a+1)))) else (idx t.Text a).bind fun d=>(if((UInt8.toNat d:Int):Int)=37 then (chk (¬(a:Int)<0)).bind fun _=>some (Stp.next ((bor .u32 b (bshl .u32 1 a)),(iw (a+1)))) else (((if((UInt8.toNat d:Int):Int)=95 then some true else some (decide (((UInt8.toNat d:Int):Int)=c))):Option Bool)).bind fun ss=>match ss with
      |e=>(if e=true then (chk (¬((iw (a+1)):Int)<0)).bind fun _=>some (Stp.next ((bor .u32 b (bshl .u32 1 (iw (a+1)))),(iw (a+1)))) else some (Stp.next (b,(iw (a+1))))))) else some (Stp.done b))
def pNext(N:Nat)(t:TTest)(s:Int)(c:Int):Option Int:=(if(t.Kind:Int)=1 then (loopM (pNext_b1 N c s t) N (0,0)).bind fun ss=>match ss with
   |a=>(pClosure N t.Text a).bind fun b=>some b else (if(s:Int)≥100 then some s else (((if((iw s):Int)=(List.length t.Text:Int)then some true else (idx t.Text s).bind fun d=>some (decide ((c:Int)>(UInt8.toNat d:Int)))):Option Bool)).bind fun ss=>match ss with
    |e=>(if e=true then some 101 else (idx t.Text s).bind fun f=>(if(c:Int)<(UInt8.toNat f:Int)then some 100 else some (uw32 (s+1))))))
def pPassed(N:Nat)(t:TTest)(s:Int):Option Bool:=(((if(t.Kind:Int)=1 then (chk (¬((List.length t.Text:Int):Int)<0)).bind fun _=>some (decide (((band .u32 (bshr .u32 s (List.length t.Text:Int)) 1):Int)=1)) else (if(t.Kind:Int)=0 then some (decide (((iw s):Int)=(List.length t.Text:Int))) else (if(t.Kind:Int)=2 then (if(s:Int)=100 then some true else some (decide (((iw s):Int)<(List.length t.Text:Int)))) else (if(s:Int)=100 then some true else some (decide (((iw s):Int)≤(List.length t.Text:Int))))))):Option Bool)).bind fun ss=>match ss with
  |a=>some (!(a==t.Negated))
def pKey_b1(N:Nat)(l:(List Int)):((List Int)×Int)→Option (Stp ((List Int)×Int) (List Int))
 |(c,a)=>(if(a:Int)<(List.length l:Int)then (idx l a).bind fun b=>(apnd 1 c [(uw8 b),(uw8 (bshr .u32 b 8)),(uw8 (bshr .u32 b 16))]).bind fun d=>some (Stp.next (d,(iw (a+1)))) else some (Stp.done c))
def pKey(N:Nat)(l:(List Int))(left:Int):Option (List UInt8):=(loopM (pKey_b1 N l) N ([(uw8 left)],0)).bind fun ss=>match ss with
  |a=>some (bstr a)
def pFind_b1(N:Nat)(f:TFinder)(l:(List Int)):Int→Option (Stp Int (Sum Unit (Bool×(List (List UInt8))×(List ((List UInt8)×Bool)))))
 |a=>(if(a:Int)<(List.length f.tests:Int)then (idx f.tests a).bind fun b=>(idx l a).bind fun c=>(pPassed N b c).bind fun d=>(if(!d)=true then some (Stp.done (Sum.inr (false,f.out,f.dead))) else some (Stp.next (iw (a+1)))) else some (Stp.done (Sum.inl ())))
def pFind_b3(N:Nat)(f:TFinder)(l:(List Int))(c:Int):((List Int)×Int)→Option (Stp ((List Int)×Int) (List Int))
 |(b,a)=>(if(a:Int)<(List.length f.tests:Int)then (idx f.tests a).bind fun d=>(idx l a).bind fun e=>(pNext N d e (uw8 c)).bind fun g=>(idx b a).bind fun j=>(upd1 b a g).bind fun i=>some (Stp.next (i,(iw (a+1)))) else some (Stp.done b))
def pFind_b2(N:Nat)(self:TFinder→(List Int)→(List Int)→Int→Option (Bool×(List (List UInt8))×(List ((List UInt8)×Bool))))(f:TFinder)(l:(List Int))(left:Int)(text:(List Int)):((List (List UInt8))×(List ((List UInt8)×Bool))×Bool×Int)→Option (Stp ((List (List UInt8))×(List ((List UInt8)×Bool))×Bool×Int) ((List (List UInt8))×(List ((List UInt8)×Bool))×Bool))
 |(c,d,e,a)=>(((if(a:Int)≤126 then some (decide (((List.length c:Int):Int)<f.most)) else some false):Option Bool)).bind fun ss=>match ss with
   |g=>(if g=true then (mk1 (α:=Int) 4 0 (List.length l:Int)).bind fun i=>(loopM (pFind_b3 N f l a) N (i,0)).bind fun ss=>match ss with
      |j=>(apnd 1 text [(uw8 a)]).bind fun k=>(self (TFinder.mk f.tests f.most c d) j k (iw (left-1))).bind fun b=>(if b.1=true then some (Stp.next (b.2.1,b.2.2,true,(iw32 (a+1)))) else some (Stp.next (b.2.1,b.2.2,e,(iw32 (a+1))))) else some (Stp.done (c,d,e)))
def pFind_step(N:Nat)(self:TFinder→(List Int)→(List Int)→Int→Option (Bool×(List (List UInt8))×(List ((List UInt8)×Bool))))(f:TFinder)(l:(List Int))(text:(List Int))(left:Int):Option (Bool×(List (List UInt8))×(List ((List UInt8)×Bool))):=(if(left:Int)=0 then (loopM (pFind_b1 N f l) N 0).bind fun ss=>match ss with
   |(Sum.inl _)=>(apnd 16 f.out [(bstr text)]).bind fun e=>some (true,e,f.dead)
   |(Sum.inr g)=>some g else (pKey N l left).bind fun b=>(if(mget f.dead b false).1=true then some (false,f.out,f.dead) else (loopM (pFind_b2 N self f l left text) N (f.out,f.dead,false,32)).bind fun ss=>match ss with
    |(c,d,a)=>(if(!a)=true then some (a,c,(mput d b true)) else some (a,c,d))))
def pFind:Nat→TFinder→(List Int)→(List Int)→Int→Option (Bool×(List (List UInt8))×(List ((List UInt8)×Bool)))
 |0=>fun _ _ _ _=>none
 |N+1=>pFind_step N (pFind N)
def pFBegin_b1(N:Nat)(f:TFinder):((List Int)×Int)→Option (Stp ((List Int)×Int) (List Int))
 |(b,a)=>(if(a:Int)<(List.length f.tests:Int)then (idx f.tests a).bind fun c=>(pBegin N c).bind fun d=>(apnd 4 b [d]).bind fun e=>some (Stp.next (e,(iw (a+1)))) else some (Stp.done b))
def pFBegin(N:Nat)(f:TFinder):Option ((List Int)×(List (List UInt8))×(List ((List UInt8)×Bool))):=(loopM (pFBegin_b1 N f) N (([]:(List Int)),0)).bind fun ss=>match ss with
  |a=>some (a,f.out,f.dead)
def pWords(N:Nat)(l:(List TTest))(length:Int)(most:Int):Option (List (List UInt8)):=(((if(length:Int)<0 then some true else some (decide ((most:Int)≤0))):Option Bool)).bind fun ss=>match ss with
  |x2=>(if x2=true then some ([]:(List (List UInt8))) else (pFBegin N (TFinder.mk l most ([]:(List (List UInt8))) ([]:(List ((List UInt8)×Bool))))).bind fun a=>(pFind N (TFinder.mk l most a.2.1 a.2.2) a.1 ([]:(List Int)) length).bind fun b=>some b.2.1)
open Go Go.X
def indexInt_b1(N:Nat)(f:(Int→Option Bool))(s:(List Int)):Int→Option (Stp Int (Sum Unit Int))
 |a=>(if(a:Int)<(List.length s:Int)then (idx s a).bind fun b=>(f b).bind fun c=>(if c=true then some (Stp.done (Sum.inr a)) else some (Stp.next (iw (a+1)))) else some (Stp.done (Sum.inl ())))
def indexInt(N:Nat)(s:(List Int))(f:(Int→Option Bool)):Option Int:=(loopM (indexInt_b1 N f s) N 0).bind fun ss=>match ss with
  |(Sum.inl _)=>some (-1)
  |(Sum.inr a)=>some a
def containsInt(N:Nat)(s:(List Int))(f:(Int→Option Bool)):Option Bool:=(indexInt N s f).bind fun r1=>some (decide ((r1:Int)≥0))
def tclasses_b1(N:Nat)(x8:(List Int)):((List Int)×Int)→Option (Stp ((List Int)×Int) (List Int))
 |(b,a)=>(if(a:Int)<(List.length x8:Int)then (idx b a).bind fun d=>(upd1 b a a).bind fun c=>some (Stp.next (c,(iw (a+1)))) else some (Stp.done b))
def tclasses_b3(N:Nat)(p:TProb):((List Int)×Bool×Int)→Option (Stp ((List Int)×Bool×Int) ((List Int)×Bool))
 |(a,f,c)=>(if(c:Int)<(List.length p.Same:Int)then (idx p.Same c).bind fun b=>(idx a b.e0).bind fun d=>(idx a b.e1).bind fun e=>(if(d:Int)≠e then (idx a b.e0).bind fun j=>(upd1 a b.e0 (imin d e)).bind fun g=>(idx g b.e1).bind fun k=>(upd1 g b.e1 (imin d e)).bind fun i=>some (Stp.next (i,true,(iw (c+1)))) else some (Stp.next (a,f,(iw (c+1))))) else some (Stp.done (a,f)))
def tclasses_b2(N:Nat)(p:TProb):((List Int)×Bool)→Option (Stp ((List Int)×Bool) (List Int))
 |(a,b)=>(if b=true then (loopM (tclasses_b3 N p) N (a,false,0)).bind fun ss=>match ss with
    |(c,d)=>some (Stp.next (c,d)) else some (Stp.done a))
def tclasses_b4(N:Nat)(d:(List Int)):((List Int)×Int×Int)→Option (Stp ((List Int)×Int×Int) ((List Int)×Int))
 |(b,c,a)=>(if(a:Int)<(List.length d:Int)then (idx d a).bind fun e=>(if(e:Int)=a then (idx b a).bind fun j=>(upd1 b a c).bind fun f=>some (Stp.next (f,(iw (c+1)),(iw (a+1)))) else (idx b e).bind fun g=>(idx b a).bind fun k=>(upd1 b a g).bind fun i=>some (Stp.next (i,c,(iw (a+1))))) else some (Stp.done (b,c)))
def tclasses(N:Nat)(p:TProb):Option ((List Int)×Int):=(mk1 (α:=Int) 8 0 (List.length p.Min:Int)).bind fun x8=>(loopM (tclasses_b1 N x8) N (x8,0)).bind fun ss=>match ss with
  |b=>(loopM (tclasses_b2 N p) N (b,true)).bind fun ss=>match ss with
    |a=>(mk1 (α:=Int) 8 0 (List.length a:Int)).bind fun c=>(loopM (tclasses_b4 N a) N (c,0,0)).bind fun ss=>match ss with
      |(d,e)=>some (d,e)
def cloneTest(N:Nat)(s:(List TTest)):Option (List TTest):=(apnd 40 ([]:(List TTest)) s).bind fun a=>some a
def tgathered_b1(N:Nat)(d:(List TClass)):((List TClass)×Int)→Option (Stp ((List TClass)×Int) (List TClass))
 |(c,a)=>(if(a:Int)<(List.length d:Int)then (idx c a).bind fun b=>(upd1 c a (TClass.mk b.low 16 b.tests b.words b.apart)).bind fun e=>some (Stp.next (e,(iw (a+1)))) else some (Stp.done c))
def tgathered_b2(N:Nat)(p:TProb)(r6:((List Int)×Int)):((List TClass)×Int)→Option (Stp ((List TClass)×Int) (List TClass))
 |(b,c)=>(if(c:Int)<(List.length r6.1:Int)then (idx r6.1 c).bind fun a=>(idx b a).bind fun g=>(idx p.Min c).bind fun i=>(idx b a).bind fun j=>(idx p.Max c).bind fun k=>(idx b a).bind fun d=>(upd1 b a (TClass.mk (imax g.low i) d.high d.tests d.words d.apart)).bind fun f=>(idx f a).bind fun e=>(upd1 f a (TClass.mk e.low (imin j.high k) e.tests e.words e.apart)).bind fun l=>some (Stp.next (l,(iw (c+1)))) else some (Stp.done b))
def tgathered_b3(N:Nat)(p:TProb)(r6:((List Int)×Int)):((List TClass)×Int)→Option (Stp ((List TClass)×Int) (List TClass))
 |(a,d)=>(if(d:Int)<(List.length p.Tests:Int)then (idx p.Tests d).bind fun e=>(idx r6.1 e.Var).bind fun b=>(idx a b).bind fun f=>(idx a b).bind fun j=>(apnd 40 f.tests [e]).bind fun g=>(idx a b).bind fun c=>(upd1 a b (TClass.mk c.low c.high g c.words c.apart)).bind fun i=>some (Stp.next (i,(iw (d+1)))) else some (Stp.done a))
def tgathered_b4(N:Nat)(p:TProb)(r6:((List Int)×Int)):((List TClass)×Int)→Option (Stp ((List TClass)×Int) (Sum (List TClass) ((List TClass)×(List Int)×Bool)))
 |(a,d)=>(if(d:Int)<(List.length p.Different:Int)then (idx p.Different d).bind fun g=>(idx r6.1 g.e0).bind fun b=>(idx r6.1 g.e1).bind fun c=>(if(b:Int)=c then some (Stp.done (Sum.inr (a,r6.1,false))) else (idx a b).bind fun j=>(idx a b).bind fun s=>(containsOf N j.apart c).bind fun k=>(if(!k)=true then (idx a b).bind fun l=>(idx a c).bind fun m=>(idx a b).bind fun u=>(apnd 8 l.apart [c]).bind fun n=>(idx a c).bind fun v=>(apnd 8 m.apart [b]).bind fun o=>(idx a b).bind fun e=>(upd1 a b (TClass.mk e.low e.high e.tests e.words n)).bind fun i=>(idx i c).bind fun f=>(upd1 i c (TClass.mk f.low f.high f.tests f.words o)).bind fun q=>some (Stp.next (q,(iw (d+1)))) else some (Stp.next (a,(iw (d+1)))))) else some (Stp.done (Sum.inl a)))
def tgathered(N:Nat)(p:TProb):Option ((List TClass)×(List Int)×Bool):=(tclasses N p).bind fun r6=>(mk1 (α:=TClass) 88 (TClass.mk 0 0 [] [] []) r6.2).bind fun a=>(loopM (tgathered_b1 N a) N (a,0)).bind fun ss=>match ss with
  |b=>(loopM (tgathered_b2 N p r6) N (b,0)).bind fun ss=>match ss with
    |c=>(loopM (tgathered_b3 N p r6) N (c,0)).bind fun ss=>match ss with
      |d=>(loopM (tgathered_b4 N p r6) N (d,0)).bind fun ss=>match ss with
        |(Sum.inl e)=>some (e,r6.1,true)
        |(Sum.inr f)=>some f
def tfirst_b2(N:Nat)(c:TClass)(most:Int)(e:Int):((List (List UInt8))×(List TTest))→Option (Stp ((List (List UInt8))×(List TTest)) (List (List UInt8)))
 |(a,f)=>(if((List.length a:Int):Int)<most then (pWords N f e (imin 100 (iw (most-(List.length a:Int))))).bind fun b=>(apnd 16 a b).bind fun d=>(if((List.length b:Int):Int)<100 then some (Stp.done d) else (cloneTest N c.tests).bind fun g=>(idx b (iw ((List.length b:Int)-1))).bind fun i=>(apnd 40 g [(TTest.mk 0 3 true i)]).bind fun j=>some (Stp.next (d,j))) else some (Stp.done a))
def tfirst_b1(N:Nat)(c:TClass)(most:Int):((List (List UInt8))×Int)→Option (Stp ((List (List UInt8))×Int) (List (List UInt8)))
 |(a,b)=>(((if(b:Int)≤c.high then some (decide (((List.length a:Int):Int)<most)) else some false):Option Bool)).bind fun ss=>match ss with
   |d=>(if d=true then (cloneTest N c.tests).bind fun e=>(loopM (tfirst_b2 N c most b) N (a,e)).bind fun ss=>match ss with
      |f=>some (Stp.next (f,(iw (b+1)))) else some (Stp.done a))
def tfirst(N:Nat)(c:TClass)(most:Int):Option (List (List UInt8)):=(loopM (tfirst_b1 N c most) N (([]:(List (List UInt8))),c.low)).bind fun ss=>match ss with
  |a=>some a
def revInt_b1(N:Nat):((List Int)×Int×Int)→Option (Stp ((List Int)×Int×Int) (List Int))
 |(a,b,c)=>(if(b:Int)<c then (idx a c).bind fun e=>(idx a b).bind fun f=>(idx a b).bind fun i=>(upd1 a b e).bind fun d=>(idx d c).bind fun j=>(upd1 d c f).bind fun g=>some (Stp.next (g,(iw (b+1)),(iw (c-1)))) else some (Stp.done a))
def revInt(N:Nat)(s:(List Int)):Option (List Int):=(loopM (revInt_b1 N) N (s,0,(iw ((List.length s:Int)-1)))).bind fun ss=>match ss with
  |a=>some a
def tchoose1(N:Nat)(other:Int)(ca:(List Bool))(cb:(List (List UInt8)))(cc:(List UInt8)):Option Bool:=(idx ca other).bind fun x1=>(if x1=true then (idx cb other).bind fun a=>some (decide (a=cc)) else some false)
def tchoose_b1(N:Nat)(self:(List TClass)→(List Int)→(List (List UInt8))→(List Bool)→Option (Bool×Bool×(List (List UInt8))×(List Bool)))(l:(List TClass))(order:(List Int))(words:(List (List UInt8)))(e:Int)(f:TClass):((List (List UInt8))×(List Bool)×Int)→Option (Stp ((List (List UInt8))×(List Bool)×Int) (Sum ((List (List UInt8))×(List Bool)) (Bool×Bool×(List (List UInt8))×(List Bool))))
 |(b,c,d)=>(if(d:Int)<(List.length f.words:Int)then (idx f.words d).bind fun g=>(idx l e).bind fun i=>(containsInt N i.apart (fun j=>tchoose1 N j c b g)).bind fun k=>(if k=true then some (Stp.next (b,c,(iw (d+1)))) else (idx b e).bind fun o=>(upd1 b e g).bind fun m=>(cut order 1 (List.length order:Int)).bind fun n=>(self l n m c).bind fun a=>(if a.2.1=true then some (Stp.done (Sum.inr (a.1,true,a.2.2.1,a.2.2.2))) else some (Stp.next (a.2.2.1,a.2.2.2,(iw (d+1)))))) else some (Stp.done (Sum.inl (b,c))))
def tchoose_step(N:Nat)(self:(List TClass)→(List Int)→(List (List UInt8))→(List Bool)→Option (Bool×Bool×(List (List UInt8))×(List Bool)))(l:(List TClass))(order:(List Int))(words:(List (List UInt8)))(known:(List Bool)):Option (Bool×Bool×(List (List UInt8))×(List Bool)):=(if((List.length order:Int):Int)=0 then some (true,true,words,known) else (idx order 0).bind fun a=>(idx known a).bind fun i=>(upd1 known a true).bind fun c=>(idx l a).bind fun d=>(loopM (tchoose_b1 N self l order words a d) N (words,c,0)).bind fun ss=>match ss with
   |(Sum.inl (e,b))=>(idx b a).bind fun j=>(upd1 b a false).bind fun f=>some (false,false,e,f)
   |(Sum.inr g)=>some g)
def tchoose:Nat→(List TClass)→(List Int)→(List (List UInt8))→(List Bool)→Option (Bool×Bool×(List (List UInt8))×(List Bool))
 |0=>fun _ _ _ _=>none
 |N+1=>tchoose_step N (tchoose N)
def insSort_b2(N:Nat)(a:Int)(cmp:(Int→Int→Option Int)):((List Int)×Int)→Option (Stp ((List Int)×Int) (List Int))
 |(c,b)=>(((if(b:Int)>a then (idx c b).bind fun e=>(idx c (iw (b-1))).bind fun f=>(cmp e f).bind fun g=>some (decide ((g:Int)<0)) else some false):Option Bool)).bind fun ss=>match ss with
   |i=>(if i=true then (idx c (iw (b-1))).bind fun j=>(idx c b).bind fun k=>(idx c b).bind fun m=>(upd1 c b j).bind fun d=>(idx d (iw (b-1))).bind fun n=>(upd1 d (iw (b-1)) k).bind fun l=>some (Stp.next (l,(iw (b-1)))) else some (Stp.done c))
def insSort_b1(N:Nat)(a:Int)(b:Int)(cmp:(Int→Int→Option Int)):((List Int)×Int)→Option (Stp ((List Int)×Int) (List Int))
 |(d,c)=>(if(c:Int)<b then (loopM (insSort_b2 N a cmp) N (d,c)).bind fun ss=>match ss with
    |e=>some (Stp.next (e,(iw (c+1)))) else some (Stp.done d))
def insSort(N:Nat)(data:(List Int))(a:Int)(b:Int)(cmp:(Int→Int→Option Int)):Option (List Int):=(loopM (insSort_b1 N a b cmp) N (data,(iw (a+1)))).bind fun ss=>match ss with
  |c=>some c
def stableSort_b1(N:Nat)(cmp:(Int→Int→Option Int))(n:Int):((List Int)×Int×Int)→Option (Stp ((List Int)×Int×Int) ((List Int)×Int))
 |(b,c,a)=>(if(a:Int)≤n then (insSort N b c a cmp).bind fun d=>some (Stp.next (d,a,(iw (a+20)))) else some (Stp.done (b,c)))
def stableSort_b3(N:Nat)(n:Int)(a:Int):Unit→Option (Stp Unit Unit)
 |_=>(if((iw (2*a)):Int)≤n then none else some (Stp.done ()))
def stableSort_b2(N:Nat)(n:Int):Int→Option (Stp Int Unit)
 |a=>(if(a:Int)<n then (loopM (stableSort_b3 N n a) N ()).bind fun ss=>match ss with
    |_=>(if((iw (0+a)):Int)<n then none else some (Stp.next (iw (a*2)))) else some (Stp.done ()))
def stableSort(N:Nat)(data:(List Int))(n:Int)(cmp:(Int→Int→Option Int)):Option (List Int):=(loopM (stableSort_b1 N cmp n) N (data,0,20)).bind fun ss=>match ss with
  |(a,b)=>(insSort N a b n cmp).bind fun c=>(loopM (stableSort_b2 N n) N 20).bind fun ss=>match ss with
    |_=>some c
def sortStable(N:Nat)(x:(List Int))(cmp:(Int→Int→Option Int)):Option (List Int):=(stableSort N x (List.length x:Int) cmp).bind fun r2=>some r2
def tSolve1(N:Nat)(a:Int)(b:Int)(ca:(List TClass)):Option Int:=(idx ca a).bind fun x1=>(idx ca b).bind fun c=>some (iw ((List.length x1.words:Int)-(List.length c.words:Int)))
def tSolve_b1(N:Nat)(r6:((List TClass)×(List Int)×Bool)):((List TClass)×Int)→Option (Stp ((List TClass)×Int) (Sum (List TClass) ((List (List UInt8))×Bool)))
 |(b,a)=>(if(a:Int)<(List.length r6.1:Int)then (idx b a).bind fun e=>(idx b a).bind fun f=>(tfirst N e (iw ((List.length f.apart:Int)+1))).bind fun g=>(idx b a).bind fun c=>(upd1 b a (TClass.mk c.low c.high c.tests g c.apart)).bind fun d=>(idx d a).bind fun i=>(if((List.length i.words:Int):Int)=0 then some (Stp.done (Sum.inr (([]:(List (List UInt8))),false))) else some (Stp.next (d,(iw (a+1))))) else some (Stp.done (Sum.inl b)))
def tSolve_b2(N:Nat)(c:(List TClass)):((List Int)×Int)→Option (Stp ((List Int)×Int) (List Int))
 |(b,a)=>(if(a:Int)<(List.length c:Int)then (idx c a).bind fun d=>(idx b a).bind fun f=>(upd1 b a (List.length d.apart:Int)).bind fun e=>some (Stp.next (e,(iw (a+1)))) else some (Stp.done b))
def tSolve_b5(N:Nat)(d:TClass):((List Int)×Int)→Option (Stp ((List Int)×Int) (List Int))
 |(a,b)=>(if(b:Int)<(List.length d.apart:Int)then (idx d.apart b).bind fun c=>(idx a c).bind fun e=>(idx a c).bind fun g=>(upd1 a c (iw (e-1))).bind fun f=>some (Stp.next (f,(iw (b+1)))) else some (Stp.done a))
def tSolve_b4(N:Nat)(d:(List TClass)):((List Int)×(List Int)×(List Bool)×Bool×Int)→Option (Stp ((List Int)×(List Int)×(List Bool)×Bool×Int) ((List Int)×(List Int)×(List Bool)×Bool))
 |(e,c,b,f,a)=>(if(a:Int)<(List.length d:Int)then (((idx b a).bind fun g=>(if(!g)=true then (idx d a).bind fun i=>(idx c a).bind fun j=>some (decide (((List.length i.words:Int):Int)>j)) else some false):Option Bool)).bind fun ss=>match ss with
    |k=>(if k=true then (idx b a).bind fun p=>(upd1 b a true).bind fun l=>(apnd 8 e [a]).bind fun m=>(idx d a).bind fun n=>(loopM (tSolve_b5 N n) N (c,0)).bind fun ss=>match ss with
       |o=>some (Stp.next (m,o,l,true,(iw (a+1)))) else some (Stp.next (e,c,b,f,(iw (a+1))))) else some (Stp.done (e,c,b,f)))
def tSolve_b3(N:Nat)(c:(List TClass)):((List Int)×(List Int)×(List Bool)×Bool)→Option (Stp ((List Int)×(List Int)×(List Bool)×Bool) ((List Int)×(List Bool)))
 |(a,d,b,e)=>(if e=true then (loopM (tSolve_b4 N c) N (a,d,b,false,0)).bind fun ss=>match ss with
    |(f,g,i,j)=>some (Stp.next (f,g,i,j)) else some (Stp.done (a,b)))
def tSolve_b6(N:Nat)(c:(List TClass))(d:(List Bool)):((List Int)×Int)→Option (Stp ((List Int)×Int) (List Int))
 |(b,a)=>(if(a:Int)<(List.length c:Int)then (idx d a).bind fun e=>(if(!e)=true then (apnd 8 b [a]).bind fun f=>some (Stp.next (f,(iw (a+1)))) else some (Stp.next (b,(iw (a+1))))) else some (Stp.done b))
def tSolve_b7(N:Nat)(r6:((List TClass)×(List Int)×Bool))(c:(Bool×Bool×(List (List UInt8))×(List Bool))):((List (List UInt8))×Int)→Option (Stp ((List (List UInt8))×Int) (List (List UInt8)))
 |(b,a)=>(if(a:Int)<(List.length r6.2.1:Int)then (idx r6.2.1 a).bind fun d=>(idx c.2.2.1 d).bind fun e=>(idx b a).bind fun g=>(upd1 b a e).bind fun f=>some (Stp.next (f,(iw (a+1)))) else some (Stp.done b))
def tSolve(N:Nat)(p:TProb):Option ((List (List UInt8))×Bool):=(tgathered N p).bind fun r6=>(if(!r6.2.2)=true then some (([]:(List (List UInt8))),false) else (loopM (tSolve_b1 N r6) N (r6.1,0)).bind fun ss=>match ss with
   |(Sum.inl a)=>(mk1 (α:=Int) 8 0 (List.length a:Int)).bind fun c=>(mk1 (α:=Bool) 1 false (List.length a:Int)).bind fun d=>(loopM (tSolve_b2 N a) N (c,0)).bind fun ss=>match ss with
     |e=>(loopM (tSolve_b3 N a) N (([]:(List Int)),e,d,true)).bind fun ss=>match ss with
       |(f,g)=>(loopM (tSolve_b6 N a g) N (([]:(List Int)),0)).bind fun ss=>match ss with
         |i=>(sortStable N i (fun j k=>tSolve1 N j k a)).bind fun l=>(revInt N f).bind fun m=>(apnd 8 l m).bind fun n=>(mk1 (α:=(List UInt8)) 16 [] (List.length a:Int)).bind fun o=>(mk1 (α:=Bool) 1 false (List.length a:Int)).bind fun q=>(tchoose N a n o q).bind fun b=>(if(!b.2.1)=true then some (([]:(List (List UInt8))),false) else (chk (b.1=true)).bind fun _=>(mk1 (α:=(List UInt8)) 16 [] (List.length r6.2.1:Int)).bind fun s=>(loopM (tSolve_b7 N r6 b) N (s,0)).bind fun ss=>match ss with
            |u=>some (u,true))
   |(Sum.inr v)=>some v)
open Go Go.X
def qPrintable_b1(N:Nat)(s:(List UInt8)):Int→Option (Stp Int (Sum Unit Bool))
 |a=>(if(a:Int)<(List.length s:Int)then (((idx s a).bind fun b=>(if((UInt8.toNat b:Int):Int)<32 then some true else (idx s a).bind fun c=>some (decide (((UInt8.toNat c:Int):Int)>126))):Option Bool)).bind fun ss=>match ss with
    |d=>(if d=true then some (Stp.done (Sum.inr false)) else some (Stp.next (iw (a+1)))) else some (Stp.done (Sum.inl ())))
def qPrintable(N:Nat)(s:(List UInt8)):Option Bool:=(loopM (qPrintable_b1 N s) N 0).bind fun ss=>match ss with
  |(Sum.inl _)=>some true
  |(Sum.inr a)=>some a
def qClosed_b1(N:Nat)(p:(List UInt8)):((List Int)×Int)→Option (Stp ((List Int)×Int) (List Int))
 |(b,a)=>(if(a:Int)<(List.length p:Int)then (((idx b a).bind fun c=>(if(c:Int)=1 then (idx p a).bind fun d=>some (decide (((UInt8.toNat d:Int):Int)=37)) else some false):Option Bool)).bind fun ss=>match ss with
    |e=>(if e=true then (idx b (iw (a+1))).bind fun g=>(upd1 b (iw (a+1)) 1).bind fun f=>some (Stp.next (f,(iw (a+1)))) else some (Stp.next (b,(iw (a+1))))) else some (Stp.done b))
def qClosed(N:Nat)(p:(List UInt8))(vset:(List Int)):Option ((List UInt8)×(List Int)):=(loopM (qClosed_b1 N p) N (vset,0)).bind fun ss=>match ss with
  |a=>some ((bstr a),a)
def qStart(N:Nat)(t:TTest):Option (List UInt8):=(if(t.Kind:Int)≠1 then (chk ((List.length ([61]:List UInt8):Int)+List.length (bstr [0])≤9223372036854775807)).bind fun _=>some (([61]:List UInt8)++(bstr [0])) else (mk1 (α:=Int) 1 0 (iw ((List.length t.Text:Int)+1))).bind fun a=>(idx a 0).bind fun d=>(upd1 a 0 1).bind fun b=>(qClosed N t.Text b).bind fun c=>some c.1)
def qStep_b1(N:Nat)(c:Int)(s:(List UInt8))(t:TTest):((List Int)×Int)→Option (Stp ((List Int)×Int) (List Int))
 |(b,a)=>(if(a:Int)<(List.length t.Text:Int)then (((idx s a).bind fun e=>(if((UInt8.toNat e:Int):Int)=1 then (idx t.Text a).bind fun f=>some (decide (((UInt8.toNat f:Int):Int)=37)) else some false):Option Bool)).bind fun ss=>match ss with
    |g=>(((if g=true then (idx b a).bind fun o=>(upd1 b a 1).bind fun i=>some i else some b):Option (List Int))).bind fun ss=>match ss with
      |d=>(((idx s a).bind fun j=>(if((UInt8.toNat j:Int):Int)=1 then (idx t.Text a).bind fun k=>(if((UInt8.toNat k:Int):Int)=95 then some true else (idx t.Text a).bind fun l=>(if((UInt8.toNat l:Int):Int)=c then some (decide ((c:Int)≠37)) else some false)) else some false):Option Bool)).bind fun ss=>match ss with
        |m=>(if m=true then (idx d (iw (a+1))).bind fun p=>(upd1 d (iw (a+1)) 1).bind fun n=>some (Stp.next (n,(iw (a+1)))) else some (Stp.next (d,(iw (a+1))))) else some (Stp.done b))
def qStep(N:Nat)(t:TTest)(s:(List UInt8))(c:Int):Option (List UInt8):=(if(t.Kind:Int)=1 then (mk1 (α:=Int) 1 0 (iw ((List.length t.Text:Int)+1))).bind fun x8=>(loopM (qStep_b1 N c s t) N (x8,0)).bind fun ss=>match ss with
   |b=>(qClosed N t.Text b).bind fun d=>some d.1 else (idx s 0).bind fun e=>(if((UInt8.toNat e:Int):Int)≠61 then some s else (idx s 1).bind fun a=>(((if((iw (UInt8.toNat a:Int)):Int)=(List.length t.Text:Int)then some true else (idx t.Text (iw (UInt8.toNat a:Int))).bind fun f=>some (decide ((c:Int)>(UInt8.toNat f:Int)))):Option Bool)).bind fun ss=>match ss with
    |g=>(if g=true then some ([62]:List UInt8) else (idx t.Text (iw (UInt8.toNat a:Int))).bind fun i=>(if(c:Int)<(UInt8.toNat i:Int)then some ([60]:List UInt8) else (chk ((List.length ([61]:List UInt8):Int)+List.length (bstr [(uw8 (iw ((iw (UInt8.toNat a:Int))+1)))])≤9223372036854775807)).bind fun _=>some (([61]:List UInt8)++(bstr [(uw8 (iw ((iw (UInt8.toNat a:Int))+1)))]))))))
def qFinal(N:Nat)(t:TTest)(s:(List UInt8)):Option Bool:=(((if(t.Kind:Int)=1 then (idx s (List.length t.Text:Int)).bind fun c=>some (decide (((UInt8.toNat c:Int):Int)=1)) else (((idx s 0).bind fun d=>(if((UInt8.toNat d:Int):Int)=61 then (idx s 1).bind fun e=>some (decide (((iw (UInt8.toNat e:Int)):Int)=(List.length t.Text:Int))) else some false):Option Bool)).bind fun ss=>match ss with
   |a=>(((idx s 0).bind fun f=>(if((UInt8.toNat f:Int):Int)=60 then some true else (idx s 0).bind fun g=>(if((UInt8.toNat g:Int):Int)=61 then some (!a) else some false)):Option Bool)).bind fun ss=>match ss with
     |b=>(if(t.Kind:Int)=0 then (if a=true then some true else (if(t.Kind:Int)=2 then (if b=true then some true else (if(t.Kind:Int)=3 then some a else some false)) else (if(t.Kind:Int)=3 then (if b=true then some true else some a) else some false))) else (if(t.Kind:Int)=2 then (if b=true then some true else (if(t.Kind:Int)=3 then some a else some false)) else (if(t.Kind:Int)=3 then (if b=true then some true else some a) else some false)))):Option Bool)).bind fun ss=>match ss with
  |i=>some (!(i==t.Negated))
def qPasses_b1(N:Nat)(t:TTest)(text:(List UInt8)):((List UInt8)×Int)→Option (Stp ((List UInt8)×Int) (List UInt8))
 |(b,a)=>(if(a:Int)<(List.length text:Int)then (idx text a).bind fun c=>(qStep N t b (UInt8.toNat c:Int)).bind fun d=>some (Stp.next (d,(iw (a+1)))) else some (Stp.done b))
def qPasses(N:Nat)(t:TTest)(text:(List UInt8)):Option Bool:=(qStart N t).bind fun r6=>(loopM (qPasses_b1 N t text) N (r6,0)).bind fun ss=>match ss with
  |a=>(qFinal N t a).bind fun b=>some b
def rSatisfies_b1(N:Nat)(p:TProb)(texts:(List (List UInt8))):Int→Option (Stp Int (Sum Unit Bool))
 |a=>(if(a:Int)<(List.length texts:Int)then (((idx texts a).bind fun b=>(idx p.Min a).bind fun c=>(if((List.length b:Int):Int)<c then some true else (idx texts a).bind fun d=>(idx p.Max a).bind fun e=>(if((List.length d:Int):Int)>e then some true else (idx texts a).bind fun f=>(qPrintable N f).bind fun g=>some (!g))):Option Bool)).bind fun ss=>match ss with
    |i=>(if i=true then some (Stp.done (Sum.inr false)) else some (Stp.next (iw (a+1)))) else some (Stp.done (Sum.inl ())))
def rSatisfies_b2(N:Nat)(p:TProb)(texts:(List (List UInt8))):Int→Option (Stp Int (Sum Unit Bool))
 |a=>(if(a:Int)<(List.length p.Tests:Int)then (idx p.Tests a).bind fun b=>(idx p.Tests a).bind fun c=>(idx texts c.Var).bind fun d=>(qPasses N b d).bind fun e=>(if(!e)=true then some (Stp.done (Sum.inr false)) else some (Stp.next (iw (a+1)))) else some (Stp.done (Sum.inl ())))
def rSatisfies_b3(N:Nat)(p:TProb)(texts:(List (List UInt8))):Int→Option (Stp Int (Sum Unit Bool))
 |a=>(if(a:Int)<(List.length p.Same:Int)then (idx p.Same a).bind fun b=>(idx texts b.e0).bind fun c=>(idx p.Same a).bind fun d=>(idx texts d.e1).bind fun e=>(if¬c=e then some (Stp.done (Sum.inr false)) else some (Stp.next (iw (a+1)))) else some (Stp.done (Sum.inl ())))
def rSatisfies_b4(N:Nat)(p:TProb)(texts:(List (List UInt8))):Int→Option (Stp Int (Sum Unit Bool))
 |a=>(if(a:Int)<(List.length p.Different:Int)then (idx p.Different a).bind fun b=>(idx texts b.e0).bind fun c=>(idx p.Different a).bind fun d=>(idx texts d.e1).bind fun e=>(if c=e then some (Stp.done (Sum.inr false)) else some (Stp.next (iw (a+1)))) else some (Stp.done (Sum.inl ())))
def rSatisfies(N:Nat)(p:TProb)(texts:(List (List UInt8))):Option Bool:=(if((List.length texts:Int):Int)≠(List.length p.Max:Int)then some false else (loopM (rSatisfies_b1 N p texts) N 0).bind fun ss=>match ss with
   |(Sum.inl _)=>(loopM (rSatisfies_b2 N p texts) N 0).bind fun ss=>match ss with
     |(Sum.inl _)=>(loopM (rSatisfies_b3 N p texts) N 0).bind fun ss=>match ss with
       |(Sum.inl _)=>(loopM (rSatisfies_b4 N p texts) N 0).bind fun ss=>match ss with
         |(Sum.inl _)=>some true
         |(Sum.inr a)=>some a
       |(Sum.inr b)=>some b
     |(Sum.inr c)=>some c
   |(Sum.inr d)=>some d)
def rLeaders_b1(N:Nat)(p:TProb):((List Int)×Int)→Option (Stp ((List Int)×Int) (List Int))
 |(b,a)=>(if(a:Int)<(List.length p.Max:Int)then (apnd 8 b [a]).bind fun c=>some (Stp.next (c,(iw (a+1)))) else some (Stp.done b))
def rLeaders_b3(N:Nat)(p:TProb):((List Int)×Int)→Option (Stp ((List Int)×Int) (List Int))
 |(a,b)=>(if(b:Int)<(List.length p.Same:Int)then (idx p.Same b).bind fun c=>(idx p.Same b).bind fun d=>(idx a c.e0).bind fun e=>(idx a d.e1).bind fun f=>(idx a c.e0).bind fun j=>(upd1 a c.e0 (imin e f)).bind fun g=>(idx g d.e1).bind fun k=>(upd1 g d.e1 (imin e f)).bind fun i=>some (Stp.next (i,(iw (b+1)))) else some (Stp.done a))
def rLeaders_b2(N:Nat)(p:TProb):((List Int)×Int)→Option (Stp ((List Int)×Int) (List Int))
 |(a,b)=>(if(b:Int)<(List.length a:Int)then (loopM (rLeaders_b3 N p) N (a,0)).bind fun ss=>match ss with
    |c=>some (Stp.next (c,(iw (b+1)))) else some (Stp.done a))
def rLeaders(N:Nat)(p:TProb):Option (List Int):=(loopM (rLeaders_b1 N p) N (([]:(List Int)),0)).bind fun ss=>match ss with
  |a=>(loopM (rLeaders_b2 N p) N (a,0)).bind fun ss=>match ss with
    |b=>some b
def rClasses_b2(N:Nat)(c:(List Int))(d:Int):((List Int)×Int)→Option (Stp ((List Int)×Int) (List Int))
 |(b,a)=>(if(a:Int)<(List.length c:Int)then (idx c a).bind fun e=>(if(e:Int)=d then (apnd 8 b [a]).bind fun f=>some (Stp.next (f,(iw (a+1)))) else some (Stp.next (b,(iw (a+1))))) else some (Stp.done b))
def rClasses_b1(N:Nat)(b:(List Int)):((List (List Int))×Int)→Option (Stp ((List (List Int))×Int) (List (List Int)))
 |(c,a)=>(if(a:Int)<(List.length b:Int)then (idx b a).bind fun d=>(if(d:Int)≠a then some (Stp.next (c,(iw (a+1)))) else (loopM (rClasses_b2 N b a) N (([]:(List Int)),0)).bind fun ss=>match ss with
     |e=>(apnd 24 c [e]).bind fun f=>some (Stp.next (f,(iw (a+1))))) else some (Stp.done c))
def rClasses(N:Nat)(p:TProb):Option (List (List Int)):=(rLeaders N p).bind fun a=>(loopM (rClasses_b1 N a) N (([]:(List (List Int))),0)).bind fun ss=>match ss with
  |b=>some b
def rWord_b2(N:Nat)(p:TProb)(s:(List UInt8))(b:Int):Int→Option (Stp Int (Sum Unit Bool))
 |a=>(if(a:Int)<(List.length p.Tests:Int)then (((idx p.Tests a).bind fun c=>(if(c.Var:Int)=b then (idx p.Tests a).bind fun d=>(qPasses N d s).bind fun e=>some (!e) else some false):Option Bool)).bind fun ss=>match ss with
    |f=>(if f=true then some (Stp.done (Sum.inr false)) else some (Stp.next (iw (a+1)))) else some (Stp.done (Sum.inl ())))
def rWord_b1(N:Nat)(p:TProb)(s:(List UInt8))(vclass:(List Int)):Int→Option (Stp Int (Sum Unit Bool))
 |a=>(if(a:Int)<(List.length vclass:Int)then (idx vclass a).bind fun b=>(((idx p.Min b).bind fun c=>(if((List.length s:Int):Int)<c then some true else (idx p.Max b).bind fun d=>some (decide (((List.length s:Int):Int)>d))):Option Bool)).bind fun ss=>match ss with
    |e=>(if e=true then some (Stp.done (Sum.inr false)) else (loopM (rWord_b2 N p s b) N 0).bind fun ss=>match ss with
       |(Sum.inl _)=>some (Stp.next (iw (a+1)))
       |(Sum.inr f)=>some (Stp.done (Sum.inr f))) else some (Stp.done (Sum.inl ())))
def rWord(N:Nat)(p:TProb)(vclass:(List Int))(s:(List UInt8)):Option Bool:=(loopM (rWord_b1 N p s vclass) N 0).bind fun ss=>match ss with
  |(Sum.inl _)=>some true
  |(Sum.inr a)=>some a
def rWords_b3(N:Nat)(d:(List (List UInt8)))(e:Int)(f:Int):((List (List UInt8))×Int)→Option (Stp ((List (List UInt8))×Int) (List (List UInt8)))
 |(b,a)=>(((if(a:Int)≤126 then some (decide ((e:Int)<2)) else some false):Option Bool)).bind fun ss=>match ss with
   |g=>(if g=true then (idx d f).bind fun c=>(chk ((List.length c:Int)+List.length (bstr [(uw8 a)])≤9223372036854775807)).bind fun _=>(apnd 16 b [(c++(bstr [(uw8 a)]))]).bind fun i=>some (Stp.next (i,(iw (a+1)))) else some (Stp.done b))
def rWords_b2(N:Nat)(most:Int)(p:TProb)(vclass:(List Int))(c:(List (List UInt8)))(f:Int):((List (List UInt8))×(List (List UInt8))×Bool×Int)→Option (Stp ((List (List UInt8))×(List (List UInt8))×Bool×Int) ((List (List UInt8))×(List (List UInt8))×Bool))
 |(a,d,e,b)=>(if(b:Int)<(List.length c:Int)then (idx c b).bind fun g=>(rWord N p vclass g).bind fun i=>(((if i=true then (if((List.length a:Int):Int)<most then (idx c b).bind fun j=>(apnd 16 a [j]).bind fun k=>some (k,true) else some (a,true)) else some (a,e)):Option ((List (List UInt8))×Bool))).bind fun ss=>match ss with
    |(l,m)=>(loopM (rWords_b3 N c f b) N (d,32)).bind fun ss=>match ss with
      |n=>some (Stp.next (l,n,m,(iw (b+1)))) else some (Stp.done (a,d,e)))
def rWords_b1(N:Nat)(most:Int)(p:TProb)(vclass:(List Int)):((List (List UInt8))×(List Int)×(List (List UInt8))×Int)→Option (Stp ((List (List UInt8))×(List Int)×(List (List UInt8))×Int) ((List (List UInt8))×(List Int)))
 |(c,b,f,a)=>(if(a:Int)≤2 then (loopM (rWords_b2 N most p vclass f a) N (c,([]:(List (List UInt8))),false,0)).bind fun ss=>match ss with
    |(d,e,g)=>(if g=true then (apnd 8 b [a]).bind fun i=>some (Stp.next (d,i,e,(iw (a+1)))) else some (Stp.next (d,b,e,(iw (a+1))))) else some (Stp.done (c,b)))
def rWords(N:Nat)(p:TProb)(vclass:(List Int))(most:Int):Option ((List (List UInt8))×(List Int)):=(loopM (rWords_b1 N most p vclass) N (([]:(List (List UInt8))),([]:(List Int)),[([]:List UInt8)],0)).bind fun ss=>match ss with
  |(a,b)=>some (a,b)
def rTry_b2(N:Nat)(chosen:(List (List UInt8)))(l:(List (List Int)))(a:Int):((List (List UInt8))×Int)→Option (Stp ((List (List UInt8))×Int) (List (List UInt8)))
 |(b,c)=>(idx l a).bind fun e=>(if(c:Int)<(List.length e:Int)then (idx l a).bind fun f=>(idx f c).bind fun d=>(idx chosen a).bind fun g=>(idx b d).bind fun j=>(upd1 b d g).bind fun i=>some (Stp.next (i,(iw (c+1)))) else some (Stp.done b))
def rTry_b1(N:Nat)(chosen:(List (List UInt8)))(l:(List (List Int))):((List (List UInt8))×Int)→Option (Stp ((List (List UInt8))×Int) (List (List UInt8)))
 |(b,a)=>(if(a:Int)<(List.length l:Int)then (loopM (rTry_b2 N chosen l a) N (b,0)).bind fun ss=>match ss with
    |c=>some (Stp.next (c,(iw (a+1)))) else some (Stp.done b))
def rTry_b3(N:Nat)(self:TProb→(List (List Int))→(List (List (List UInt8)))→(List (List UInt8))→Option Bool)(choices:(List (List (List UInt8))))(chosen:(List (List UInt8)))(l:(List (List Int)))(p:TProb)(b:(List (List UInt8))):Int→Option (Stp Int (Sum Unit Bool))
 |a=>(if(a:Int)<(List.length b:Int)then (apnd 16 ([]:(List (List UInt8))) chosen).bind fun c=>(idx b a).bind fun d=>(apnd 16 c [d]).bind fun e=>(self p l choices e).bind fun f=>(if f=true then some (Stp.done (Sum.inr true)) else some (Stp.next (iw (a+1)))) else some (Stp.done (Sum.inl ())))
def rTry_step(N:Nat)(self:TProb→(List (List Int))→(List (List (List UInt8)))→(List (List UInt8))→Option Bool)(p:TProb)(l:(List (List Int)))(choices:(List (List (List UInt8))))(chosen:(List (List UInt8))):Option Bool:=(if((List.length chosen:Int):Int)=(List.length l:Int)then (mk1 (α:=(List UInt8)) 16 [] (List.length p.Max:Int)).bind fun a=>(loopM (rTry_b1 N chosen l) N (a,0)).bind fun ss=>match ss with
   |b=>(rSatisfies N p b).bind fun c=>some c else (idx choices (List.length chosen:Int)).bind fun d=>(loopM (rTry_b3 N self choices chosen l p d) N 0).bind fun ss=>match ss with
   |(Sum.inl _)=>some false
   |(Sum.inr e)=>some e)
def rTry:Nat→TProb→(List (List Int))→(List (List (List UInt8)))→(List (List UInt8))→Option Bool
 |0=>fun _ _ _ _=>none
 |N+1=>rTry_step N (rTry N)
def rSolvable_b1(N:Nat)(p:TProb)(r6:(List (List Int))):((List (List (List UInt8)))×Int)→Option (Stp ((List (List (List UInt8)))×Int) (List (List (List UInt8))))
 |(b,a)=>(if(a:Int)<(List.length r6:Int)then (idx r6 a).bind fun c=>(rWords N p c (List.length r6:Int)).bind fun d=>(apnd 24 b [d.1]).bind fun e=>some (Stp.next (e,(iw (a+1)))) else some (Stp.done b))
def rSolvable(N:Nat)(p:TProb):Option Bool:=(rClasses N p).bind fun r6=>(loopM (rSolvable_b1 N p r6) N (([]:(List (List (List UInt8)))),0)).bind fun ss=>match ss with
  |a=>(rTry N p r6 a []).bind fun b=>some b
open Go Go.X
def sAbs(N:Nat)(n:Int):Option Int:=(if(n:Int)<0 then some (iw (0-n)) else some n)
def sWithin(N:Nat)(n:Int)(low:Int)(high:Int):Option Bool:=(if(n:Int)≥low then some (decide ((n:Int)≤high)) else some false)
def sHas_b1(N:Nat)(l:(List Int))(n:Int):Int→Option (Stp Int (Sum Unit Bool))
 |a=>(if(a:Int)<(List.length l:Int)then (idx l a).bind fun b=>(if(b:Int)=n then some (Stp.done (Sum.inr true)) else some (Stp.next (iw (a+1)))) else some (Stp.done (Sum.inl ())))
def sHas(N:Nat)(l:(List Int))(n:Int):Option Bool:=(loopM (sHas_b1 N l n) N 0).bind fun ss=>match ss with
  |(Sum.inl _)=>some false
  |(Sum.inr a)=>some a
def sForm_b1(N:Nat)(bounds:(List Int))(c:RClause)(f:Linear)(l:(List RVar)):(Int×Int)→Option (Stp (Int×Int) (Sum Int Int))
 |(d,b)=>(if(b:Int)<(List.length f.Coefs:Int)then (idx f.Coefs b).bind fun a=>(((if(a.Var:Int)<0 then some true else (if(a.Var:Int)≥(iw ((List.length l:Int)+(List.length bounds:Int)))then some true else (if(b:Int)>0 then (idx f.Coefs (iw (b-1))).bind fun i=>(if(i.Var:Int)≥a.Var then some true else (if(a.N:Int)=0 then some true else (sWithin N a.N (-1048576) 1048576).bind fun j=>some (!j))) else (if(a.N:Int)=0 then some true else (sWithin N a.N (-1048576) 1048576).bind fun k=>some (!k))))):Option Bool)).bind fun ss=>match ss with
    |m=>(if m=true then some (Stp.done (Sum.inr (-1))) else (((if(a.Var:Int)≥(List.length l:Int)then (idx bounds (iw (a.Var-(List.length l:Int)))).bind fun n=>some (Sum.inl n) else (((idx l a.Var).bind fun o=>(if(o.Ty:Int)≠1 then some true else (sHas N c.NotNull a.Var).bind fun p=>some (!p)):Option Bool)).bind fun ss=>match ss with
        |q=>(if q=true then some (Sum.inr (-1)) else some (Sum.inl 2147483648))):Option (Sum Int Int))).bind fun ss=>match ss with
       |(Sum.inl e)=>(sAbs N a.N).bind fun s=>(sdiv .i64 1152921504606846977 s).bind fun u=>(if(e:Int)>u then some (Stp.done (Sum.inr (-1))) else (sAbs N a.N).bind fun g=>(if((iw (d+(iw (g*e)))):Int)>1152921504606846977 then some (Stp.done (Sum.inr (-1))) else some (Stp.next ((iw (d+(iw (g*e)))),(iw (b+1))))))
       |(Sum.inr v)=>some (Stp.done (Sum.inr v))) else some (Stp.done (Sum.inl d)))
def sForm(N:Nat)(f:Linear)(c:RClause)(l:(List RVar))(bounds:(List Int)):Option Int:=(sWithin N f.Const (-1099511627777) 1099511627777).bind fun a=>(if(!a)=true then some (-1) else (sAbs N f.Const).bind fun b=>(loopM (sForm_b1 N bounds c f l) N (b,0)).bind fun ss=>match ss with
   |(Sum.inl d)=>some d
   |(Sum.inr e)=>some e)
def sAscending_b1(N:Nat)(l:(List Int))(n:Int):Int→Option (Stp Int (Sum Unit Bool))
 |a=>(if(a:Int)<(List.length l:Int)then (((idx l a).bind fun b=>(if(b:Int)<0 then some true else (idx l a).bind fun c=>(if(c:Int)≥n then some true else (if(a:Int)>0 then (idx l (iw (a-1))).bind fun d=>(idx l a).bind fun e=>some (decide ((d:Int)≥e)) else some false))):Option Bool)).bind fun ss=>match ss with
    |f=>(if f=true then some (Stp.done (Sum.inr false)) else some (Stp.next (iw (a+1)))) else some (Stp.done (Sum.inl ())))
def sAscending(N:Nat)(l:(List Int))(n:Int):Option Bool:=(loopM (sAscending_b1 N l n) N 0).bind fun ss=>match ss with
  |(Sum.inl _)=>some true
  |(Sum.inr a)=>some a
def sText(N:Nat)(pa:Int)(c:RClause)(l:(List RVar)):Option Bool:=(if(pa:Int)≥0 then (if(pa:Int)<(List.length l:Int)then (idx l pa).bind fun x9=>(if(x9.Ty:Int)=2 then (sHas N c.NotNull pa).bind fun a=>some a else some false) else some false) else some false)
def sPairs_b1(N:Nat)(c:RClause)(l:(List RVar))(p:(List Arr2Int)):Int→Option (Stp Int (Sum Unit Bool))
 |a=>(if(a:Int)<(List.length p:Int)then (((idx p a).bind fun b=>(sText N b.e0 c l).bind fun d=>(if(!d)=true then some true else (idx p a).bind fun e=>(sText N e.e1 c l).bind fun f=>(if(!f)=true then some true else (idx p a).bind fun g=>(idx p a).bind fun i=>some (decide ((g.e0:Int)≥i.e1)))):Option Bool)).bind fun ss=>match ss with
    |j=>(if j=true then some (Stp.done (Sum.inr false)) else some (Stp.next (iw (a+1)))) else some (Stp.done (Sum.inl ())))
def sPairs(N:Nat)(p:(List Arr2Int))(c:RClause)(l:(List RVar)):Option Bool:=(loopM (sPairs_b1 N c l p) N 0).bind fun ss=>match ss with
  |(Sum.inl _)=>some true
  |(Sum.inr a)=>some a
def sTested_b1(N:Nat)(t:TTest):Int→Option (Stp Int (Sum Unit Bool))
 |a=>(if(a:Int)<(List.length t.Text:Int)then (((idx t.Text a).bind fun b=>(if((UInt8.toNat b:Int):Int)<32 then some true else (idx t.Text a).bind fun c=>some (decide (((UInt8.toNat c:Int):Int)>126))):Option Bool)).bind fun ss=>match ss with
    |d=>(if d=true then some (Stp.done (Sum.inr false)) else some (Stp.next (iw (a+1)))) else some (Stp.done (Sum.inl ())))
def sTested(N:Nat)(t:TTest):Option Bool:=(loopM (sTested_b1 N t) N 0).bind fun ss=>match ss with
  |(Sum.inl _)=>(if(t.Kind:Int)≥0 then (if(t.Kind:Int)≤3 then some (decide (((List.length t.Text:Int):Int)≤16)) else some false) else some false)
  |(Sum.inr a)=>some a
def sValid_b1(N:Nat)(c:RClause)(l:(List RVar)):((List Int)×Int)→Option (Stp ((List Int)×Int) (Sum (List Int) Bool))
 |(b,d)=>(if(d:Int)<(List.length c.Auxiliary:Int)then (idx c.Auxiliary d).bind fun a=>(if(a.By:Int)=0 then (((if((List.length a.Of.Coefs:Int):Int)>0 then some true else (if(a.Of.Const:Int)≠0 then some true else (sText N a.Text c l).bind fun f=>some (!f))):Option Bool)).bind fun ss=>match ss with
     |g=>(if g=true then some (Stp.done (Sum.inr false)) else (apnd 8 b [16]).bind fun i=>some (Stp.next (i,(iw (d+1))))) else (sForm N a.Of c l b).bind fun e=>(((sWithin N a.By 1 1000).bind fun j=>(if(!j)=true then some true else (if(a.Text:Int)≠0 then some true else some (decide ((e:Int)<0)))):Option Bool)).bind fun ss=>match ss with
     |k=>(if k=true then some (Stp.done (Sum.inr false)) else (sdiv .i64 e a.By).bind fun m=>(apnd 8 b [(iw (m+1))]).bind fun n=>some (Stp.next (n,(iw (d+1)))))) else some (Stp.done (Sum.inl b)))
def sValid_b2(N:Nat)(c:RClause)(l:(List RVar))(b:(List Int)):Int→Option (Stp Int (Sum Unit Bool))
 |a=>(if(a:Int)<(List.length c.Ints:Int)then (idx c.Ints a).bind fun d=>(sForm N d.Linear c l b).bind fun e=>(if(e:Int)<0 then some (Stp.done (Sum.inr false)) else some (Stp.next (iw (a+1)))) else some (Stp.done (Sum.inl ())))
def sValid_b3(N:Nat)(c:RClause)(l:(List RVar)):Int→Option (Stp Int (Sum Unit Bool))
 |a=>(if(a:Int)<(List.length c.Tests:Int)then (((idx c.Tests a).bind fun b=>(sTested N b).bind fun d=>(if(!d)=true then some true else (idx c.Tests a).bind fun e=>(sText N e.Var c l).bind fun f=>some (!f)):Option Bool)).bind fun ss=>match ss with
    |g=>(if g=true then some (Stp.done (Sum.inr false)) else some (Stp.next (iw (a+1)))) else some (Stp.done (Sum.inl ())))
def sValid(N:Nat)(c:RClause)(l:(List RVar)):Option Bool:=(((sAscending N c.Null (List.length l:Int)).bind fun a=>(if(!a)=true then some true else (sAscending N c.NotNull (List.length l:Int)).bind fun b=>some (!b)):Option Bool)).bind fun ss=>match ss with
  |d=>(if d=true then some false else (loopM (sValid_b1 N c l) N (([]:(List Int)),0)).bind fun ss=>match ss with
     |(Sum.inl e)=>(loopM (sValid_b2 N c l e) N 0).bind fun ss=>match ss with
       |(Sum.inl _)=>(loopM (sValid_b3 N c l) N 0).bind fun ss=>match ss with
         |(Sum.inl _)=>(sPairs N c.Same c l).bind fun f=>(if f=true then (sPairs N c.Different c l).bind fun g=>some g else some false)
         |(Sum.inr i)=>some i
       |(Sum.inr j)=>some j
     |(Sum.inr k)=>some k)
def sFew_b1(N:Nat)(c:RClause):(Int×Int)→Option (Stp (Int×Int) Int)
 |(a,i64)=>(if(i64:Int)<(List.length c.Auxiliary:Int)then (idx c.Auxiliary i64).bind fun b=>some (Stp.next ((iw (a+(List.length b.Of.Coefs:Int))),(iw (i64+1)))) else some (Stp.done a))
def sFew_b2(N:Nat)(c:RClause):(Int×Int)→Option (Stp (Int×Int) Int)
 |(b,a)=>(if(a:Int)<(List.length c.Ints:Int)then (idx c.Ints a).bind fun d=>some (Stp.next ((iw (b+(List.length d.Linear.Coefs:Int))),(iw (a+1)))) else some (Stp.done b))
def sFew_b3(N:Nat)(c:RClause):Int→Option (Stp Int (Sum Unit Bool))
 |a=>(if(a:Int)<(List.length c.Tests:Int)then (idx c.Tests a).bind fun b=>(if((List.length b.Text:Int):Int)>40 then some (Stp.done (Sum.inr false)) else some (Stp.next (iw (a+1)))) else some (Stp.done (Sum.inl ())))
def sFew(N:Nat)(c:RClause):Option Bool:=(if((iw ((iw ((iw ((iw ((iw ((iw ((List.length c.Null:Int)+(List.length c.NotNull:Int)))+(List.length c.Auxiliary:Int)))+(List.length c.Ints:Int)))+(List.length c.Tests:Int)))+(List.length c.Same:Int)))+(List.length c.Different:Int))):Int)>80 then some false else (loopM (sFew_b1 N c) N ((iw ((iw ((iw ((iw ((iw ((iw ((List.length c.Null:Int)+(List.length c.NotNull:Int)))+(List.length c.Auxiliary:Int)))+(List.length c.Ints:Int)))+(List.length c.Tests:Int)))+(List.length c.Same:Int)))+(List.length c.Different:Int))),0)).bind fun ss=>match ss with
   |a=>(loopM (sFew_b2 N c) N (a,0)).bind fun ss=>match ss with
     |b=>(loopM (sFew_b3 N c) N 0).bind fun ss=>match ss with
       |(Sum.inl _)=>some (decide ((b:Int)≤400))
       |(Sum.inr d)=>some d)
open Go Go.X
def cloneCoef(N:Nat)(s:(List Coef)):Option (List Coef):=(apnd 16 ([]:(List Coef)) s).bind fun a=>some a
def clonePair(N:Nat)(s:(List Arr2Int)):Option (List Arr2Int):=(apnd 16 ([]:(List Arr2Int)) s).bind fun a=>some a
def vfirst_b1(N:Nat)(l:(List RVar)):((List Arr2Int)×Int)→Option (Stp ((List Arr2Int)×Int) (List Arr2Int))
 |(b,a)=>(if(a:Int)<(List.length l:Int)then (idx l a).bind fun c=>(if(c.Ty:Int)=2 then (idx b a).bind fun d=>(upd1 b a (Arr2Int.mk d.e0 c.Max)).bind fun e=>some (Stp.next (e,(iw (a+1)))) else some (Stp.next (b,(iw (a+1))))) else some (Stp.done b))
def vfirst(N:Nat)(l:(List RVar)):Option (List Arr2Int):=(mk1 (α:=Arr2Int) 16 (Arr2Int.mk 0 0) (List.length l:Int)).bind fun x2=>(loopM (vfirst_b1 N l) N (x2,0)).bind fun ss=>match ss with
  |a=>some a
def vhigh(N:Nat)(l:(List RVar))(ranges:(List Arr2Int))(pc:Int):Option Int:=(idx ranges pc).bind fun x1=>(idx l pc).bind fun a=>some (imin x1.e1 a.Max)
def vbounds(N:Nat)(pa:Int)(low:Int)(high:Int):Option (List Constraint):= some [(Constraint.mk (Linear.mk low [(Coef.mk pa (-1))]) false),(Constraint.mk (Linear.mk (iw (0-high)) [(Coef.mk pa 1)]) false)]
def vquotient_b1(N:Nat)(pb:Linear):((List Coef)×(List Coef)×Int)→Option (Stp ((List Coef)×(List Coef)×Int) ((List Coef)×(List Coef)))
 |(c,d,a)=>(if(a:Int)<(List.length pb.Coefs:Int)then (idx pb.Coefs a).bind fun b=>(apnd 16 c [(Coef.mk b.Var (iw (0-b.N)))]).bind fun e=>(apnd 16 d [b]).bind fun f=>some (Stp.next (e,f,(iw (a+1)))) else some (Stp.done (c,d)))
def vquotient(N:Nat)(q:Int)(pb:Linear)(pc:Int):Option (List Constraint):=(loopM (vquotient_b1 N pb) N (([]:(List Coef)),([]:(List Coef)),0)).bind fun ss=>match ss with
  |(a,b)=>(apnd 16 a [(Coef.mk q pc)]).bind fun c=>(apnd 16 b [(Coef.mk q (iw (0-pc)))]).bind fun d=>some [(Constraint.mk (Linear.mk (iw (0-pb.Const)) c) false),(Constraint.mk (Linear.mk (iw (pb.Const-(iw (pc-1)))) d) false)]
def vInts_b1(N:Nat)(c:RClause)(l:(List RVar)):((List Constraint)×Int)→Option (Stp ((List Constraint)×Int) (List Constraint))
 |(d,a)=>(if(a:Int)<(List.length c.NotNull:Int)then (idx c.NotNull a).bind fun b=>(idx l b).bind fun e=>(if(e.Ty:Int)=1 then (idx l b).bind fun f=>(idx l b).bind fun g=>(vbounds N b f.Low g.High).bind fun i=>(apnd 40 d i).bind fun j=>some (Stp.next (j,(iw (a+1)))) else some (Stp.next (d,(iw (a+1))))) else some (Stp.done d))
def vInts_b2(N:Nat)(c:RClause)(l:(List RVar))(ranges:(List Arr2Int)):((List Constraint)×Int)→Option (Stp ((List Constraint)×Int) (List Constraint))
 |(d,a)=>(if(a:Int)<(List.length c.Auxiliary:Int)then (idx c.Auxiliary a).bind fun b=>(if(b.By:Int)=0 then (idx ranges b.Text).bind fun e=>(vhigh N l ranges b.Text).bind fun f=>(vbounds N (iw ((List.length l:Int)+a)) e.e0 f).bind fun g=>(apnd 40 d g).bind fun i=>some (Stp.next (i,(iw (a+1)))) else (vquotient N (iw ((List.length l:Int)+a)) b.Of b.By).bind fun j=>(apnd 40 d j).bind fun k=>some (Stp.next (k,(iw (a+1))))) else some (Stp.done d))
def vInts_b3(N:Nat)(c:RClause):((List Constraint)×Int)→Option (Stp ((List Constraint)×Int) (List Constraint))
 |(d,a)=>(if(a:Int)<(List.length c.Ints:Int)then (idx c.Ints a).bind fun b=>(cloneCoef N b.Linear.Coefs).bind fun e=>(apnd 40 d [(Constraint.mk (Linear.mk b.Linear.Const e) b.Equal)]).bind fun f=>some (Stp.next (f,(iw (a+1)))) else some (Stp.done d))
def vInts(N:Nat)(l:(List RVar))(c:RClause)(ranges:(List Arr2Int)):Option (Int×(List Constraint)):=(loopM (vInts_b1 N c l) N (([]:(List Constraint)),0)).bind fun ss=>match ss with
  |a=>(loopM (vInts_b2 N c l ranges) N (a,0)).bind fun ss=>match ss with
    |b=>(loopM (vInts_b3 N c) N (b,0)).bind fun ss=>match ss with
      |d=>some ((iw ((List.length l:Int)+(List.length c.Auxiliary:Int))),d)
def vTexts_b1(N:Nat)(c:RClause)(l:(List RVar))(ranges:(List Arr2Int)):((List Int)×(List Int)×(List Int)×(List (Int×Int))×Int)→Option (Stp ((List Int)×(List Int)×(List Int)×(List (Int×Int))×Int) ((List Int)×(List Int)×(List Int)×(List (Int×Int))))
 |(e,f,b,g,d)=>(if(d:Int)<(List.length c.NotNull:Int)then (idx c.NotNull d).bind fun a=>(idx l a).bind fun i=>(if(i.Ty:Int)=2 then (apnd 8 b [a]).bind fun j=>(idx ranges a).bind fun k=>(apnd 8 e [k.e0]).bind fun m=>(vhigh N l ranges a).bind fun n=>(apnd 8 f [n]).bind fun o=>some (Stp.next (m,o,j,(mput g a (List.length b:Int)),(iw (d+1)))) else some (Stp.next (e,f,b,g,(iw (d+1))))) else some (Stp.done (e,f,b,g)))
def vTexts_b2(N:Nat)(c:RClause)(e:(List (Int×Int))):((List TTest)×Int)→Option (Stp ((List TTest)×Int) (List TTest))
 |(d,b)=>(if(b:Int)<(List.length c.Tests:Int)then (idx c.Tests b).bind fun a=>(apnd 40 d [(TTest.mk ((mget e a.Var 0).1) a.Kind a.Negated a.Text)]).bind fun f=>some (Stp.next (f,(iw (b+1)))) else some (Stp.done d))
def vTexts_b3(N:Nat)(c:RClause)(b:(List (Int×Int))):((List Arr2Int)×Int)→Option (Stp ((List Arr2Int)×Int) (List Arr2Int))
 |(d,a)=>(if(a:Int)<(List.length c.Same:Int)then (idx c.Same a).bind fun e=>(apnd 16 d [(Arr2Int.mk ((mget b e.e0 0).1) ((mget b e.e1 0).1))]).bind fun f=>some (Stp.next (f,(iw (a+1)))) else some (Stp.done d))
def vTexts_b4(N:Nat)(c:RClause)(b:(List (Int×Int))):((List Arr2Int)×Int)→Option (Stp ((List Arr2Int)×Int) (List Arr2Int))
 |(d,a)=>(if(a:Int)<(List.length c.Different:Int)then (idx c.Different a).bind fun e=>(apnd 16 d [(Arr2Int.mk ((mget b e.e0 0).1) ((mget b e.e1 0).1))]).bind fun f=>some (Stp.next (f,(iw (a+1)))) else some (Stp.done d))
def vTexts(N:Nat)(l:(List RVar))(c:RClause)(ranges:(List Arr2Int)):Option (TProb×(List Int)):=(loopM (vTexts_b1 N c l ranges) N (([]:(List Int)),([]:(List Int)),([]:(List Int)),([]:(List (Int×Int))),0)).bind fun ss=>match ss with
  |(b,d,e,a)=>(loopM (vTexts_b2 N c a) N (([]:(List TTest)),0)).bind fun ss=>match ss with
    |f=>(loopM (vTexts_b3 N c a) N (([]:(List Arr2Int)),0)).bind fun ss=>match ss with
      |g=>(loopM (vTexts_b4 N c a) N (([]:(List Arr2Int)),0)).bind fun ss=>match ss with
        |i=>some ((TProb.mk b d f g i),e)
def vcheck_step(N:Nat)(self:(List RVar)→RClause→Refut→(List Arr2Int)→Option Bool)(l:(List RVar))(c:RClause)(pc:Refut)(ranges:(List Arr2Int)):Option Bool:=(if(pc.Kind:Int)=0 then (containsOf N c.Null pc.Var).bind fun e=>(if e=true then (containsOf N c.NotNull pc.Var).bind fun f=>(if f=true then some true else (idx l pc.Var).bind fun g=>some (!g.Nullable)) else some false) else (if(pc.Kind:Int)=1 then (vTexts N l c ranges).bind fun i=>(tSolve N i.1).bind fun j=>some (!j.2) else (if(pc.Kind:Int)=2 then (vInts N l c ranges).bind fun a=>(cSystem N a.2 a.1).bind fun k=>(cCheck N k pc.Proof).bind fun m=>some m else (if(pc.Kind:Int)=3 then (((containsOf N c.NotNull pc.Var).bind fun n=>(if(!n)=true then some true else (idx l pc.Var).bind fun o=>(if(o.Ty:Int)≠2 then some true else (idx ranges pc.Var).bind fun p=>(if(pc.At:Int)<p.e0 then some true else (idx ranges pc.Var).bind fun q=>(if(pc.At:Int)≥q.e1 then some true else some (decide (((List.length pc.Children:Int):Int)≠2)))))):Option Bool)).bind fun ss=>match ss with
      |s=>(if s=true then some false else (clonePair N ranges).bind fun b=>(clonePair N ranges).bind fun d=>(idx b pc.Var).bind fun u=>(upd1 b pc.Var (Arr2Int.mk u.e0 pc.At)).bind fun v=>(idx d pc.Var).bind fun y=>(upd1 d pc.Var (Arr2Int.mk (iw (pc.At+1)) y.e1)).bind fun a0=>(idx pc.Children 0).bind fun a1=>(self l c a1 v).bind fun a2=>(if a2=true then (idx pc.Children 1).bind fun a3=>(self l c a3 a0).bind fun a4=>some a4 else some false)) else some false))))
def vcheck:Nat→(List RVar)→RClause→Refut→(List Arr2Int)→Option Bool
 |0=>fun _ _ _ _=>none
 |N+1=>vcheck_step N (vcheck N)
def vCheck(N:Nat)(l:(List RVar))(c:RClause)(pc:Refut):Option Bool:=(vfirst N l).bind fun a=>(vcheck N l c pc a).bind fun b=>some b
def vFormat_step(N:Nat)(self:Refut→Option (List UInt8))(pa:Refut):Option (List UInt8):=(if(pa.Kind:Int)=0 then (fmtI N pa.Var).bind fun r7=>(chk ((List.length ([110,117,108,108,32,120]:List UInt8):Int)+List.length r7≤9223372036854775807)).bind fun _=>some (([110,117,108,108,32,120]:List UInt8)++r7) else (if(pa.Kind:Int)=1 then some ([116,101,120,116]:List UInt8) else (if(pa.Kind:Int)=2 then (cSize N pa.Proof).bind fun c=>(fmtI N c).bind fun b=>(chk ((List.length ([105,110,116,101,103,101,114,115,32]:List UInt8):Int)+List.length b≤9223372036854775807)).bind fun _=>some (([105,110,116,101,103,101,114,115,32]:List UInt8)++b) else (if(pa.Kind:Int)=3 then (fmtI N pa.Var).bind fun a=>(chk ((List.length ([108,101,110,103,116,104,32,120]:List UInt8):Int)+List.length a≤9223372036854775807)).bind fun _=>(chk ((List.length (([108,101,110,103,116,104,32,120]:List UInt8)++a):Int)+List.length ([32,60,61,32]:List UInt8)≤9223372036854775807)).bind fun _=>(fmtI N pa.At).bind fun d=>(chk ((List.length ((([108,101,110,103,116,104,32,120]:List UInt8)++a)++([32,60,61,32]:List UInt8)):Int)+List.length d≤9223372036854775807)).bind fun _=>none else some ([105,110,118,97,108,105,100]:List UInt8)))))
def vFormat:Nat→Refut→Option (List UInt8)
 |0=>fun _=>none
 |N+1=>vFormat_step N (vFormat N)
open Go Go.X
def wRanges_b1(N:Nat)(l:(List RVar)):((List Arr2Int)×Int)→Option (Stp ((List Arr2Int)×Int) (List Arr2Int))
 |(b,a)=>(if(a:Int)<(List.length l:Int)then (idx l a).bind fun c=>(((if(c.Ty:Int)=2 then (idx l a).bind fun d=>some (Arr2Int.mk 0 d.Max) else some (Arr2Int.mk 0 0)):Option Arr2Int)).bind fun ss=>match ss with
    |e=>(apnd 16 b [e]).bind fun f=>some (Stp.next (f,(iw (a+1)))) else some (Stp.done b))
def wRanges(N:Nat)(l:(List RVar)):Option (List Arr2Int):=(loopM (wRanges_b1 N l) N (([]:(List Arr2Int)),0)).bind fun ss=>match ss with
  |a=>some a
def whas_b1(N:Nat)(l:(List Int))(n:Int):Int→Option (Stp Int (Sum Unit Bool))
 |a=>(if(a:Int)<(List.length l:Int)then (idx l a).bind fun b=>(if(b:Int)=n then some (Stp.done (Sum.inr true)) else some (Stp.next (iw (a+1)))) else some (Stp.done (Sum.inl ())))
def whas(N:Nat)(l:(List Int))(n:Int):Option Bool:=(loopM (whas_b1 N l n) N 0).bind fun ss=>match ss with
  |(Sum.inl _)=>some false
  |(Sum.inr a)=>some a
def watMost(N:Nat)(pa:Int)(n:Int)(c:Int):Option Constraint:= some (Constraint.mk (Linear.mk c [(Coef.mk pa n)]) false)
def wscaled_b1(N:Nat)(f:Linear)(n:Int):((List Coef)×Int)→Option (Stp ((List Coef)×Int) (List Coef))
 |(b,a)=>(if(a:Int)<(List.length f.Coefs:Int)then (idx f.Coefs a).bind fun c=>(idx f.Coefs a).bind fun d=>(apnd 16 b [(Coef.mk c.Var (iw (n*d.N)))]).bind fun e=>some (Stp.next (e,(iw (a+1)))) else some (Stp.done b))
def wscaled(N:Nat)(f:Linear)(n:Int)(more:Coef):Option (List Coef):=(loopM (wscaled_b1 N f n) N (([]:(List Coef)),0)).bind fun ss=>match ss with
  |a=>(apnd 16 a [more]).bind fun b=>some b
def whigh(N:Nat)(l:(List RVar))(ranges:(List Arr2Int))(pc:Int):Option Int:=(idx ranges pc).bind fun x1=>(idx l pc).bind fun a=>(if(x1.e1:Int)<a.Max then (idx ranges pc).bind fun b=>some b.e1 else (idx l pc).bind fun c=>some c.Max)
def wInts_b1(N:Nat)(c:RClause)(l:(List RVar)):((List Constraint)×Int)→Option (Stp ((List Constraint)×Int) (List Constraint))
 |(d,b)=>(if(b:Int)<(List.length c.NotNull:Int)then (idx c.NotNull b).bind fun a=>(idx l a).bind fun e=>(if(e.Ty:Int)=1 then (idx l a).bind fun f=>(watMost N a (-1) f.Low).bind fun g=>(idx l a).bind fun i=>(watMost N a 1 (iw (0-i.High))).bind fun j=>(apnd 40 d [g,j]).bind fun k=>some (Stp.next (k,(iw (b+1)))) else some (Stp.next (d,(iw (b+1))))) else some (Stp.done d))
def wInts_b2(N:Nat)(c:RClause)(l:(List RVar))(ranges:(List Arr2Int)):((List Constraint)×Int)→Option (Stp ((List Constraint)×Int) (List Constraint))
 |(d,b)=>(if(b:Int)<(List.length c.Auxiliary:Int)then (idx c.Auxiliary b).bind fun a=>(if(a.By:Int)=0 then (idx ranges a.Text).bind fun e=>(watMost N (iw ((List.length l:Int)+b)) (-1) e.e0).bind fun f=>(whigh N l ranges a.Text).bind fun g=>(watMost N (iw ((List.length l:Int)+b)) 1 (iw (0-g))).bind fun i=>(apnd 40 d [f,i]).bind fun j=>some (Stp.next (j,(iw (b+1)))) else (wscaled N a.Of (-1) (Coef.mk (iw ((List.length l:Int)+b)) a.By)).bind fun k=>(apnd 40 d [(Constraint.mk (Linear.mk (iw (0-a.Of.Const)) k) false)]).bind fun m=>(wscaled N a.Of 1 (Coef.mk (iw ((List.length l:Int)+b)) (iw (0-a.By)))).bind fun n=>(apnd 40 m [(Constraint.mk (Linear.mk (iw ((iw (a.Of.Const-a.By))+1)) n) false)]).bind fun o=>some (Stp.next (o,(iw (b+1))))) else some (Stp.done d))
def wInts(N:Nat)(l:(List RVar))(c:RClause)(ranges:(List Arr2Int)):Option (List Constraint):=(loopM (wInts_b1 N c l) N (([]:(List Constraint)),0)).bind fun ss=>match ss with
  |a=>(loopM (wInts_b2 N c l ranges) N (a,0)).bind fun ss=>match ss with
    |b=>(apnd 40 b c.Ints).bind fun d=>some d
def wplace_b1(N:Nat)(l:(List Int))(n:Int):Int→Option (Stp Int (Sum Unit Int))
 |a=>(if(a:Int)<(List.length l:Int)then (idx l a).bind fun b=>(if(b:Int)=n then some (Stp.done (Sum.inr a)) else some (Stp.next (iw (a+1)))) else some (Stp.done (Sum.inl ())))
def wplace(N:Nat)(l:(List Int))(n:Int):Option Int:=(loopM (wplace_b1 N l n) N 0).bind fun ss=>match ss with
  |(Sum.inl _)=>some (-1)
  |(Sum.inr a)=>some a
def wpairs_b1(N:Nat)(p:(List Arr2Int))(vars:(List Int)):((List Arr2Int)×Int)→Option (Stp ((List Arr2Int)×Int) (List Arr2Int))
 |(b,a)=>(if(a:Int)<(List.length p:Int)then (idx p a).bind fun c=>(wplace N vars c.e0).bind fun d=>(idx p a).bind fun e=>(wplace N vars e.e1).bind fun f=>(apnd 16 b [(Arr2Int.mk d f)]).bind fun g=>some (Stp.next (g,(iw (a+1)))) else some (Stp.done b))
def wpairs(N:Nat)(p:(List Arr2Int))(vars:(List Int)):Option (List Arr2Int):=(loopM (wpairs_b1 N p vars) N (([]:(List Arr2Int)),0)).bind fun ss=>match ss with
  |a=>some a
def wTexts_b1(N:Nat)(c:RClause)(l:(List RVar))(ranges:(List Arr2Int)):((List Int)×(List Int)×(List Int)×Int)→Option (Stp ((List Int)×(List Int)×(List Int)×Int) ((List Int)×(List Int)×(List Int)))
 |(d,e,f,a)=>(if(a:Int)<(List.length c.NotNull:Int)then (idx c.NotNull a).bind fun b=>(idx l b).bind fun g=>(if(g.Ty:Int)=2 then (apnd 8 f [b]).bind fun i=>(idx ranges b).bind fun j=>(apnd 8 d [j.e0]).bind fun k=>(whigh N l ranges b).bind fun m=>(apnd 8 e [m]).bind fun n=>some (Stp.next (k,n,i,(iw (a+1)))) else some (Stp.next (d,e,f,(iw (a+1))))) else some (Stp.done (d,e,f)))
def wTexts_b2(N:Nat)(c:RClause)(e:(List Int)):((List TTest)×Int)→Option (Stp ((List TTest)×Int) (List TTest))
 |(d,b)=>(if(b:Int)<(List.length c.Tests:Int)then (idx c.Tests b).bind fun a=>(wplace N e a.Var).bind fun f=>(apnd 40 d [(TTest.mk f a.Kind a.Negated a.Text)]).bind fun g=>some (Stp.next (g,(iw (b+1)))) else some (Stp.done d))
def wTexts(N:Nat)(l:(List RVar))(c:RClause)(ranges:(List Arr2Int)):Option (TProb×(List Int)):=(loopM (wTexts_b1 N c l ranges) N (([]:(List Int)),([]:(List Int)),([]:(List Int)),0)).bind fun ss=>match ss with
  |(b,d,a)=>(loopM (wTexts_b2 N c a) N (([]:(List TTest)),0)).bind fun ss=>match ss with
    |e=>(wpairs N c.Same a).bind fun f=>(wpairs N c.Different a).bind fun g=>some ((TProb.mk b d e f g),a)
def wCheck_step(N:Nat)(self:(List RVar)→RClause→Refut→(List Arr2Int)→Option Bool)(l:(List RVar))(c:RClause)(pc:Refut)(ranges:(List Arr2Int)):Option Bool:=(if(pc.Kind:Int)=0 then (whas N c.Null pc.Var).bind fun d=>(if d=true then (whas N c.NotNull pc.Var).bind fun e=>(if e=true then some true else (idx l pc.Var).bind fun f=>some (!f.Nullable)) else some false) else (if(pc.Kind:Int)=1 then (wTexts N l c ranges).bind fun g=>(rSolvable N g.1).bind fun i=>some (!i) else (if(pc.Kind:Int)=2 then (wInts N l c ranges).bind fun j=>(rSystem N j (iw ((List.length l:Int)+(List.length c.Auxiliary:Int)))).bind fun k=>(rCheck N k pc.Proof).bind fun m=>some m else (if(pc.Kind:Int)=3 then (((whas N c.NotNull pc.Var).bind fun n=>(if(!n)=true then some true else (idx l pc.Var).bind fun o=>(if(o.Ty:Int)≠2 then some true else (idx ranges pc.Var).bind fun p=>(if(pc.At:Int)<p.e0 then some true else (idx ranges pc.Var).bind fun q=>(if(pc.At:Int)≥q.e1 then some true else some (decide (((List.length pc.Children:Int):Int)≠2)))))):Option Bool)).bind fun ss=>match ss with
      |s=>(if s=true then some false else (apnd 16 ([]:(List Arr2Int)) ranges).bind fun a=>(apnd 16 ([]:(List Arr2Int)) ranges).bind fun b=>(idx a pc.Var).bind fun u=>(upd1 a pc.Var (Arr2Int.mk u.e0 pc.At)).bind fun v=>(idx b pc.Var).bind fun y=>(upd1 b pc.Var (Arr2Int.mk (iw (pc.At+1)) y.e1)).bind fun a0=>(idx pc.Children 0).bind fun a1=>(self l c a1 v).bind fun a2=>(if a2=true then (idx pc.Children 1).bind fun a3=>(self l c a3 a0).bind fun a4=>some a4 else some false)) else some false))))
def wCheck:Nat→(List RVar)→RClause→Refut→(List Arr2Int)→Option Bool
 |0=>fun _ _ _ _=>none
 |N+1=>wCheck_step N (wCheck N)
def wparts_b1(N:Nat)(self:Refut→Option Int)(pa:Refut):(Int×Int)→Option (Stp (Int×Int) Int)
 |(a,b)=>(((if(b:Int)<(List.length pa.Children:Int)then some (decide ((a:Int)≤100)) else some false):Option Bool)).bind fun ss=>match ss with
   |c=>(if c=true then (idx pa.Children b).bind fun d=>(self d).bind fun e=>some (Stp.next ((iw (a+e)),(iw (b+1)))) else some (Stp.done a))
def wparts_step(N:Nat)(self:Refut→Option Int)(pa:Refut):Option Int:=(rSmallProof N pa.Proof).bind fun r6=>(if(!r6)=true then some 101 else (loopM (wparts_b1 N self pa) N (1,0)).bind fun ss=>match ss with
   |a=>some a)
def wparts:Nat→Refut→Option Int
 |0=>fun _=>none
 |N+1=>wparts_step N (wparts N)
def wSmall(N:Nat)(pa:Refut):Option Bool:=(wparts N pa).bind fun r6=>some (decide ((r6:Int)≤30))
def wRight_b1(N:Nat)(ranges:(List Arr2Int)):Int→Option (Stp Int (Sum Unit Bool))
 |a=>(if(a:Int)<(List.length ranges:Int)then (((idx ranges a).bind fun b=>(if(b.e0:Int)<0 then some true else (idx ranges a).bind fun c=>(if(c.e0:Int)>16 then some true else (idx ranges a).bind fun d=>(if(d.e1:Int)<0 then some true else (idx ranges a).bind fun e=>some (decide ((e.e1:Int)>16))))):Option Bool)).bind fun ss=>match ss with
    |f=>(if f=true then some (Stp.done (Sum.inr false)) else some (Stp.next (iw (a+1)))) else some (Stp.done (Sum.inl ())))
def wRight(N:Nat)(l:(List RVar))(ranges:(List Arr2Int)):Option Bool:=(if((List.length ranges:Int):Int)≠(List.length l:Int)then some false else (loopM (wRight_b1 N ranges) N 0).bind fun ss=>match ss with
   |(Sum.inl _)=>some true
   |(Sum.inr a)=>some a)
def wShort_b1(N:Nat)(l:(List RVar)):(Int×Int)→Option (Stp (Int×Int) (Sum Int Bool))
 |(b,a)=>(if(a:Int)<(List.length l:Int)then (idx l a).bind fun c=>(if(c.Ty:Int)=2 then (idx l a).bind fun d=>(if(d.Max:Int)>2 then some (Stp.done (Sum.inr false)) else some (Stp.next ((iw (b+1)),(iw (a+1))))) else some (Stp.next (b,(iw (a+1))))) else some (Stp.done (Sum.inl b)))
def wShort(N:Nat)(l:(List RVar))(c:RClause):Option Bool:=(loopM (wShort_b1 N l) N (0,0)).bind fun ss=>match ss with
  |(Sum.inl a)=>(if(a:Int)≤3 then some (decide (((iw ((List.length l:Int)+(List.length c.Auxiliary:Int))):Int)≤6)) else some false)
  |(Sum.inr b)=>some b
def wDomains_b1(N:Nat)(l:(List RVar)):Int→Option (Stp Int (Sum Unit Bool))
 |b=>(if(b:Int)<(List.length l:Int)then (idx l b).bind fun a=>(((if(a.Ty:Int)=1 then (if(a.Low:Int)<(-2147483648)then some true else (if(a.Low:Int)>2147483647 then some true else (if(a.High:Int)<(-2147483648)then some true else some (decide ((a.High:Int)>2147483647))))) else some false):Option Bool)).bind fun ss=>match ss with
    |c=>(if c=true then some (Stp.done (Sum.inr false)) else (((if(a.Ty:Int)=2 then (if(a.Max:Int)<0 then some true else (if(a.Max:Int)>16 then some true else (if(a.Ty:Int)≠1 then some (decide ((a.Ty:Int)≠2)) else some false))) else (if(a.Ty:Int)≠1 then some (decide ((a.Ty:Int)≠2)) else some false)):Option Bool)).bind fun ss=>match ss with
       |d=>(if d=true then some (Stp.done (Sum.inr false)) else some (Stp.next (iw (b+1))))) else some (Stp.done (Sum.inl ())))
def wDomains(N:Nat)(l:(List RVar)):Option Bool:=(loopM (wDomains_b1 N l) N 0).bind fun ss=>match ss with
  |(Sum.inl _)=>some (decide (((List.length l:Int):Int)≤10))
  |(Sum.inr a)=>some a
open Go Go.X
def lbig(N:Nat)(n:Int):Option Big:=(rOf N n).bind fun r6=>some r6
def awake(N:Nat):Option Bool:=(lbig N 1).bind fun a=>(lbig N 2).bind fun b=>(lbig N 1).bind fun c=>(lbig N 2).bind fun d=>(lbig N 1).bind fun e=>(lbig N 1).bind fun f=>(lbig N 1).bind fun g=>(vCheck N [(RVar.mk 1 (-9) 9 0 false)] (RClause.mk [] [0] [] [(Constraint.mk (Linear.mk (-5) [(Coef.mk 0 2)]) true)] [] [] []) (Refut.mk 2 0 0 (Proof.mk [(Step.mk [(Use.mk 2 a)] b),(Step.mk [(Use.mk 3 c)] d),(Step.mk [(Use.mk 4 e),(Use.mk 5 f)] g)] [] (Big.mk false []) []) [])).bind fun i=>(if i=true then (vFormat N (Refut.mk 2 0 0 (Proof.mk [(Step.mk [(Use.mk 2 a)] b),(Step.mk [(Use.mk 3 c)] d),(Step.mk [(Use.mk 4 e),(Use.mk 5 f)] g)] [] (Big.mk false []) []) [])).bind fun j=>(if j=([105,110,116,101,103,101,114,115,32,51]:List UInt8)then (vCheck N [(RVar.mk 1 (-9) 9 0 false)] (RClause.mk [0] [] [] [] [] [] []) (Refut.mk 0 0 0 (Proof.mk [] [] (Big.mk false []) []) [])).bind fun k=>(if k=true then (vCheck N [(RVar.mk 1 (-9) 9 0 false)] (RClause.mk [] [0] [] [] [] [] []) (Refut.mk 0 0 0 (Proof.mk [] [] (Big.mk false []) []) [])).bind fun l=>some (!l) else some false) else some false) else some false)
def lright(N:Nat)(x:RCase):Option Bool:=(wDomains N x.L).bind fun r6=>(if r6=true then (sFew N x.C).bind fun a=>(if a=true then (sValid N x.C x.L).bind fun b=>(if b=true then (wRight N x.L x.Ranges).bind fun c=>some c else some false) else some false) else some false)
def lawCheck(N:Nat)(l:(List RVar))(c:RClause)(pc:Refut):Option Bool:=(wRanges N l).bind fun a=>(((awake N).bind fun b=>(if(!b)=true then some true else (wShort N l c).bind fun d=>(if(!d)=true then some true else (lright N (RCase.mk l c a [])).bind fun e=>(if(!e)=true then some true else (wSmall N pc).bind fun f=>some (!f)))):Option Bool)).bind fun ss=>match ss with
  |g=>(if g=true then (awake N).bind fun i=>some i else (vCheck N l c pc).bind fun j=>(wCheck N l c pc a).bind fun k=>some (j==k))
open Go Go.X
def Bg:Nat:=9223372036854775807
theorem getD_n{α:Type}{l:List α}{n:Nat}{d:α}(h:n<l.length):l.getD n d=l[n]:=by rw[List.getD_eq_getElem?_getD,List.getElem?_eq_getElem h];rfl
theorem var_n{v:Int}{n:Nat}(h:0≤v∧v<n):∃k:Nat,v=(k:Int)∧k<n:=⟨v.toNat,by omega,by omega⟩
theorem sWithin_tm{n a b:Int}:Tm (fun N=>sWithin N n a b) (·=decide (a≤n∧n≤b)):=by
 unfold sWithin;by_cases hn:n≥a
 · exact Tm.pos hn (Tm.some (decide_eq_decide.2 (by omega)))
 · exact Tm.neg hn (Tm.some (by rw[decide_eq_false];omega))
theorem sHas_tm{l:List Int}{n:Int}(hl:l.length≤Bg):Tm (fun N=>sHas N l n) (·=decide (n∈l)):=by
 have hb:Bg=9223372036854775807:=rfl;unfold sHas;refine(Tm.findL (b:=fun N=>sHas_b1 N l n) l (fun y=>decide (y=n)) (fun _=>true) (by omega) (fun k hk=>?_) ?_).bind fun o ho=>?_
 · unfold sHas_b1;refine Tm.pos (by omega) (Tm.step (idx_n hk) ?_);by_cases e:l[k]=n
   · rw[decide_eq_true e];exact Tm.pos e (Tm.some rfl)
   · rw[decide_eq_false e];exact Tm.neg e (Tm.some rfl)
 · unfold sHas_b1;exact Tm.neg (by omega) (Tm.some rfl)
 · rcases ho with⟨h1,rfl⟩|⟨k,hk,h1,_,rfl⟩
   · refine Tm.some ?_;rw[decide_eq_false];intro h;have:=List.any_eq_false.1 h1 n h;simp at this
   · refine Tm.some ?_;rw[decide_eq_true];rw[←of_decide_eq_true h1];exact List.getElem_mem hk
def TxtOk(c:RClause)(l:List RVar)(v:Int):Prop:=∃k:Nat,v=(k:Int)∧(∃x,l[k]?=some x∧x.Ty=2)∧v∈c.NotNull
theorem sText_tm{c:RClause}{l:List RVar}{v:Int}(hn:c.NotNull.length≤Bg):Tm (fun N=>sText N v c l) (fun r=>r=true→TxtOk c l v):=by
 unfold sText;by_cases h1:v≥0
 · refine Tm.pos h1 ?_;by_cases h2:v<(l.length:Int)
   · obtain⟨k,rfl,hk⟩:=var_n (n:=l.length) ⟨h1,h2⟩;refine Tm.pos h2 (Tm.step (idx_n hk) ?_);by_cases h3:l[k].Ty=2
     · exact Tm.pos h3 ((sHas_tm hn).bind fun r hr=>Tm.some fun e=>⟨k,rfl,⟨_,List.getElem?_eq_getElem hk,h3⟩,of_decide_eq_true (by rw[←hr];exact e)⟩)
     · exact Tm.neg h3 (Tm.some fun e=>by simp at e)
   · exact Tm.neg h2 (Tm.some fun e=>by simp at e)
 · exact Tm.neg h1 (Tm.some fun e=>by simp at e)
structure FrmOk (f:Linear)(m:Nat):Prop where
 cst:-1099511627777≤f.Const∧f.Const≤1099511627777
 len:f.Coefs.length≤m
 cf:∀x∈f.Coefs,(0≤x.Var∧x.Var<m)∧x.N≠0∧-1048576≤x.N∧x.N≤1048576
theorem sAbsE_tm{n:Int}(h:-1152921504606846976≤n∧n≤1152921504606846976):Tm (fun N=>sAbs N n) (·=(n.natAbs:Int)):=by
 unfold sAbs;by_cases hn:n<0
 · refine Tm.pos hn (Tm.some ?_);rw[iw_eq (by omega) (by omega)];omega
 · exact Tm.neg hn (Tm.some (by omega))
def bnd(l:List RVar)(bs:List Int)(v:Int):Int:=if v≥(l.length:Int)then bs.getD (v.toNat-l.length) 0 else 2147483648
def sumB(l:List RVar)(bs:List Int)(c0:Int)(cs:List Coef):Int:=(c0.natAbs:Int)+(cs.map fun x=>(x.N.natAbs:Int)*bnd l bs x.Var).sum
structure FrmX (f:Linear)(c:RClause)(l:List RVar)(bs:List Int)(r:Int):Prop where
 asc:∀i j (hi:i<f.Coefs.length) (hj:j<f.Coefs.length),i<j→f.Coefs[i].Var<f.Coefs[j].Var
 ty:∀x∈f.Coefs,x.Var<(l.length:Int)→(∃y,l[x.Var.toNat]?=some y∧y.Ty=1)∧x.Var∈c.NotNull
 sum:r=sumB l bs f.Const f.Coefs
 le:r≤1152921504606846977
theorem sumB_snoc{l:List RVar}{bs:List Int}{c0:Int}{cs:List Coef}{x:Coef}:sumB l bs c0 (cs++[x])=sumB l bs c0 cs+(x.N.natAbs:Int)*bnd l bs x.Var:=by
 unfold sumB;simp[Int.add_assoc]
theorem sForm_tm{f:Linear}{c:RClause}{l:List RVar}{bs:List Int}(hn:c.NotNull.length≤Bg)(hf:f.Coefs.length≤Bg)(hl:l.length≤1000)(hbs:bs.length≤1000)(hb0:∀b∈bs,0≤b):
 Tm (fun N=>sForm N f c l bs) (fun r=>0≤r→FrmOk f (l.length+bs.length)∧FrmX f c l bs r):=by
 have hb:Bg=9223372036854775807:=rfl;unfold sForm;refine sWithin_tm.eq ?_;by_cases hc:-1099511627777≤f.Const∧f.Const≤1099511627777
 · rw[decide_eq_true hc];refine Tm.neg (by simp) ((sAbsE_tm (by omega)).eq ?_);refine Tm.bind (Q:=fun o=>match o with|.inl s=>FrmOk f (l.length+bs.length)∧FrmX f c l bs s|.inr z=>z=-1) ?_ fun o ho=>?_
   · refine Tm.up f.Coefs.length (fun k s=>s.2=(k:Int)∧(s.1=sumB l bs f.Const (f.Coefs.take k)∧0≤s.1∧s.1≤1152921504606846977)∧∀j (hj:j<f.Coefs.length),j<k→((0≤f.Coefs[j].Var∧f.Coefs[j].Var<((l.length+bs.length:Nat):Int))∧f.Coefs[j].N≠0∧(-1048576≤f.Coefs[j].N∧f.Coefs[j].N≤1048576)∧(j:Int)≤f.Coefs[j].Var∧∀i (hi:i<f.Coefs.length),i<j→f.Coefs[i].Var<f.Coefs[j].Var)∧(f.Coefs[j].Var<(l.length:Int)→(∃y,l[f.Coefs[j].Var.toNat]?=some y∧y.Ty=1)∧f.Coefs[j].Var∈c.NotNull)) ⟨rfl,⟨by simp[sumB],by dsimp only;omega,by dsimp only;omega⟩,fun j _ hj=>by omega⟩ ?_;rintro k hk ⟨s,i⟩ ⟨hi,⟨hs,hs0,hs1⟩,hJ⟩;dsimp only at hi hs hs0 hs1 hJ;subst hi;unfold sForm_b1;dsimp only;rcases Nat.lt_or_ge k f.Coefs.length with hlt|hge
     · refine Tm.pos (by omega) (Tm.step (idx_n hlt) ?_);have e1:iw ((l.length:Int)+(bs.length:Int))=((l.length+bs.length:Nat):Int):=by rw[iw_eq]<;>omega
       refine Tm.bind (Q:=fun b=>b=false→(0≤f.Coefs[k].Var∧f.Coefs[k].Var<((l.length+bs.length:Nat):Int))∧f.Coefs[k].N≠0∧(-1048576≤f.Coefs[k].N∧f.Coefs[k].N≤1048576)∧(k:Int)≤f.Coefs[k].Var∧∀i (hi:i<f.Coefs.length),i<k→f.Coefs[i].Var<f.Coefs[k].Var) ?_ fun b hb'=>?_
       · rw[e1];by_cases g1:f.Coefs[k].Var<0
         · exact Tm.pos g1 (Tm.some fun e=>by simp at e)
         · refine Tm.neg g1 ?_;by_cases g2:f.Coefs[k].Var≥((l.length+bs.length:Nat):Int)
           · exact Tm.pos g2 (Tm.some fun e=>by simp at e)
           · refine Tm.neg g2 ?_;by_cases g3:(k:Int)>0
             · refine Tm.pos g3 ?_;have e2:iw ((k:Int)-1)=((k-1:Nat):Int):=by rw[iw_eq]<;>omega
               rw[e2];refine Tm.step (idx_n (by omega)) ?_;by_cases g4:(f.Coefs[k-1]'(by omega)).Var≥f.Coefs[k].Var
               · exact Tm.pos g4 (Tm.some fun e=>by simp at e)
               · refine Tm.neg g4 ?_;by_cases g5:f.Coefs[k].N=0
                 · exact Tm.pos g5 (Tm.some fun e=>by simp at e)
                 · refine Tm.neg g5 (sWithin_tm.bind fun r hr=>Tm.some fun e=>?_);have g6:=of_decide_eq_true (show decide (-1048576≤f.Coefs[k].N∧f.Coefs[k].N≤1048576)=true by rw[←hr];simpa using e);obtain⟨_,_,_,g7,g8⟩:=(hJ (k-1) (by omega) (by omega)).1;refine⟨⟨by omega,by omega⟩,g5,g6,by omega,fun i hi hik=>?_⟩;by_cases ei:i=k-1
                   · subst ei;omega
                   · have:=g8 i hi (by omega);omega
             · refine Tm.neg g3 ?_;by_cases g5:f.Coefs[k].N=0
               · exact Tm.pos g5 (Tm.some fun e=>by simp at e)
               · refine Tm.neg g5 (sWithin_tm.bind fun r hr=>Tm.some fun e=>?_);have g6:=of_decide_eq_true (show decide (-1048576≤f.Coefs[k].N∧f.Coefs[k].N≤1048576)=true by rw[←hr];simpa using e);exact⟨⟨by omega,by omega⟩,g5,g6,by omega,fun i hi hik=>by omega⟩
       · cases b with
         |true=>exact Tm.pos rfl (Tm.some rfl)
         |false=>
          have hk':=hb' rfl;obtain⟨⟨v0,v1⟩,n0,n1,_⟩:=hb' rfl;refine Tm.neg (by simp) ?_;refine Tm.bind (Q:=fun o=>match o with|.inl b0=>(b0=bnd l bs f.Coefs[k].Var∧0≤b0)∧(f.Coefs[k].Var<(l.length:Int)→(∃y,l[f.Coefs[k].Var.toNat]?=some y∧y.Ty=1)∧f.Coefs[k].Var∈c.NotNull)|.inr z=>z=-1) ?_ fun o ho=>?_
          · by_cases g1:f.Coefs[k].Var≥(l.length:Int)
            · have e2:iw (f.Coefs[k].Var-(l.length:Int))=((f.Coefs[k].Var.toNat-l.length:Nat):Int):=by rw[iw_eq]<;>omega
              rw[e2];refine Tm.pos g1 (Tm.step (idx_n (by omega)) (Tm.some ⟨⟨?_,hb0 _ (List.getElem_mem _)⟩,fun g=>by omega⟩));unfold bnd;rw[if_pos g1,getD_n (by omega)]
            · obtain⟨q,eq,hq⟩:=var_n (n:=l.length) ⟨v0,by omega⟩;refine Tm.neg g1 ?_;rw[eq];refine Tm.bind (Q:=fun b=>b=false→l[q].Ty=1∧(q:Int)∈c.NotNull) (Tm.step (idx_n hq) ?_) fun b hbq=>?_
              · by_cases g2:l[q].Ty≠1
                · exact Tm.pos g2 (Tm.some fun e=>by simp at e)
                · exact Tm.neg g2 ((sHas_tm hn).bind fun r hr=>Tm.some fun e=>⟨by omega,of_decide_eq_true (show decide ((q:Int)∈c.NotNull)=true by rw[←hr];simpa using e)⟩)
              · cases b with
                |true=>exact Tm.pos rfl (Tm.some rfl)
                |false=>
                 obtain⟨q1,q2⟩:=hbq rfl;refine Tm.neg (by simp) (Tm.some ⟨⟨?_,by decide⟩,fun _=>⟨⟨_,by rw[Int.toNat_natCast];exact List.getElem?_eq_getElem hq,q1⟩,q2⟩⟩);unfold bnd;rw[if_neg (by omega)]
          · cases o with
            |inr z=>exact Tm.some ho
            |inl b0=>
             obtain⟨⟨hbe,hbp⟩,hty⟩:=ho;refine(sAbsE_tm (by omega)).eq ?_;have hr0:((f.Coefs[k].N.natAbs:Nat):Int)≠0:=by omega
             have hsd:sdiv .i64 1152921504606846977 ((f.Coefs[k].N.natAbs:Nat):Int)=some (1152921504606846977/((f.Coefs[k].N.natAbs:Nat):Int)):=by
              unfold sdiv;rw[if_neg hr0,Int.tdiv_eq_ediv_of_nonneg (by decide)];congr 1;have h1:=Int.ediv_nonneg (a:=1152921504606846977) (b:=((f.Coefs[k].N.natAbs:Nat):Int)) (by decide) (by omega);have h2:=Int.ediv_le_self (a:=1152921504606846977) ((f.Coefs[k].N.natAbs:Nat):Int) (by decide);exact iw_eq (by omega) (by omega)
             refine Tm.step hsd ?_;by_cases g3:b0>1152921504606846977/((f.Coefs[k].N.natAbs:Nat):Int)
             · exact Tm.pos g3 (Tm.some rfl)
             · refine Tm.neg g3 ((sAbsE_tm (by omega)).eq ?_);have p0:0≤((f.Coefs[k].N.natAbs:Nat):Int)*b0:=Int.mul_nonneg (by omega) hbp;have p1:((f.Coefs[k].N.natAbs:Nat):Int)*b0≤1152921504606846977:=by
                have h1:=(Int.le_ediv_iff_mul_le (a:=b0) (b:=1152921504606846977) (c:=((f.Coefs[k].N.natAbs:Nat):Int)) (by omega)).1 (by omega);rw[Int.mul_comm];exact h1
               rw[iw_eq (z:=((f.Coefs[k].N.natAbs:Nat):Int)*b0) (by omega) (by omega),iw_eq (z:=s+((f.Coefs[k].N.natAbs:Nat):Int)*b0) (by omega) (by omega)];by_cases g4:s+((f.Coefs[k].N.natAbs:Nat):Int)*b0>1152921504606846977
               · exact Tm.pos g4 (Tm.some rfl)
               · refine Tm.neg g4 (Tm.some ⟨hlt,iw_n (by omega),⟨?_,by dsimp only;omega,by dsimp only;omega⟩,fun j hj hjk=>?_⟩)
                 · dsimp only;rw[List.take_succ_eq_append_getElem hlt,sumB_snoc,←hs,←hbe]
                 · by_cases ejk:j=k
                   · subst ejk;exact⟨hk',hty⟩
                   · exact hJ j hj (by omega)
     · have:k=f.Coefs.length:=by omega
       subst this;refine Tm.neg (by omega) (Tm.some ⟨⟨hc,?_,fun x hx=>?_⟩,⟨fun i j hi hj hij=>((hJ j hj hj).1).2.2.2.2 i hi hij,fun x hx=>?_,by rw[hs,List.take_length],hs1⟩⟩)
       · rcases Nat.eq_zero_or_pos f.Coefs.length with h0|h0
         · omega
         · obtain⟨⟨g1,_,_,g2,_⟩,_⟩:=hJ (f.Coefs.length-1) (by omega) (by omega);omega
       · obtain⟨j,hj,rfl⟩:=List.getElem_of_mem hx;obtain⟨⟨g1,g2,g3,_⟩,_⟩:=hJ j hj hj;exact⟨g1,g2,g3⟩
       · obtain⟨j,hj,rfl⟩:=List.getElem_of_mem hx;exact(hJ j hj hj).2
   · cases o with
     |inl s=>exact Tm.some fun _=>ho
     |inr z=>
      have ho:z=-1:=ho;subst ho;exact Tm.some fun h=>by omega
 · rw[decide_eq_false hc];exact Tm.pos rfl (Tm.some fun h=>by omega)
structure AscOk (l:List Int)(n:Nat):Prop where
 bd:∀x∈l,0≤x∧x<n
 asc:∀i j (hi:i<l.length) (hj:j<l.length),i<j→l[i]<l[j]
 len:l.length≤n
theorem sAscending_tm{l:List Int}{n:Nat}(hl:l.length≤Bg):Tm (fun N=>sAscending N l (n:Int)) (fun r=>r=true→AscOk l n):=by
 have hb:Bg=9223372036854775807:=rfl;unfold sAscending;refine Tm.bind (Q:=fun o=>match o with|.inl _=>AscOk l n|.inr z=>z=false) ?_ fun o ho=>?_
 · refine Tm.up l.length (fun k s=>s=(k:Int)∧∀j (hj:j<l.length),j<k→(0≤l[j]∧l[j]<(n:Int))∧(j:Int)≤l[j]∧∀i (hi:i<l.length),i<j→l[i]<l[j]) ⟨rfl,fun j _ hj=>by omega⟩ ?_;rintro k hk i ⟨rfl,hJ⟩;unfold sAscending_b1;rcases Nat.lt_or_ge k l.length with hlt|hge
   · refine Tm.pos (by omega) ?_;refine Tm.bind (Q:=fun b=>b=false→(0≤l[k]∧l[k]<(n:Int))∧(k:Int)≤l[k]∧∀i (hi:i<l.length),i<k→l[i]<l[k]) ?_ fun b hb'=>?_
     · refine Tm.step (idx_n hlt) ?_;by_cases g1:l[k]<0
       · exact Tm.pos g1 (Tm.some fun e=>by simp at e)
       · refine Tm.neg g1 (Tm.step (idx_n hlt) ?_);by_cases g2:l[k]≥(n:Int)
         · exact Tm.pos g2 (Tm.some fun e=>by simp at e)
         · refine Tm.neg g2 ?_;by_cases g3:(k:Int)>0
           · refine Tm.pos g3 ?_;have e2:iw ((k:Int)-1)=((k-1:Nat):Int):=by rw[iw_eq]<;>omega
             rw[e2];refine Tm.step (idx_n (by omega)) (Tm.step (idx_n hlt) (Tm.some fun e=>?_));have e:=of_decide_eq_false e;obtain⟨_,g5,g6⟩:=hJ (k-1) (by omega) (by omega);refine⟨⟨by omega,by omega⟩,by omega,fun i hi hik=>?_⟩;by_cases ei:i=k-1
             · subst ei;omega
             · have:=g6 i hi (by omega);omega
           · refine Tm.neg g3 (Tm.some fun _=>⟨⟨by omega,by omega⟩,by omega,fun i hi hik=>by omega⟩)
     · cases b with
       |true=>exact Tm.pos rfl (Tm.some rfl)
       |false=>
        refine Tm.neg (by simp) (Tm.some ⟨hlt,iw_n (by omega),fun j hj hjk=>?_⟩);by_cases ejk:j=k
        · subst ejk;exact hb' rfl
        · exact hJ j hj (by omega)
   · have:k=l.length:=by omega
     subst this;refine Tm.neg (by omega) (Tm.some ⟨fun x hx=>?_,fun i j hi hj hij=>(hJ j hj hj).2.2 i hi hij,?_⟩)
     · obtain⟨j,hj,rfl⟩:=List.getElem_of_mem hx;exact(hJ j hj hj).1
     · rcases Nat.eq_zero_or_pos l.length with h0|h0
       · omega
       · obtain⟨g1,g2,_⟩:=hJ (l.length-1) (by omega) (by omega);omega
 · cases o with
   |inl _=>exact Tm.some fun _=>ho
   |inr z=>
    have ho:z=false:=ho;subst ho;exact Tm.some fun h=>by simp at h
open Go Go.X
def prn(b:UInt8):Bool:=decide (32≤b.toNat∧b.toNat≤126)
def okT(t:TTest):Bool:=decide (0≤t.Kind∧t.Kind≤3∧t.Text.length≤16)&&t.Text.all prn
theorem prn_bad{b:UInt8}:(decide ((UInt8.toNat b:Int)<32∨(UInt8.toNat b:Int)>126))=!prn b:=by
 unfold prn;by_cases h:32≤b.toNat∧b.toNat≤126
 · rw[decide_eq_true h,decide_eq_false (by omega)];rfl
 · rw[decide_eq_false h,decide_eq_true (by omega)];rfl
theorem sTested_tm{t:TTest}(hl:t.Text.length≤Bg):Tm (fun N=>sTested N t) (·=okT t):=by
 have hb:Bg=9223372036854775807:=rfl;unfold sTested;refine(Tm.allL (b:=fun N=>sTested_b1 N t) t.Text prn (by omega) (fun k hk=>?_) ?_).eq ?_
 · unfold sTested_b1;refine Tm.pos (by omega) ?_;simp only[idx_n hk,Option.bind_some,or_if,prn_bad];cases prn t.Text[k]<;>exact Tm.some rfl
 · unfold sTested_b1;exact Tm.neg (by omega) (Tm.some rfl)
 · cases h:t.Text.all prn with
   |false=>exact Tm.some (by simp[okT,h])
   |true=>
    by_cases h1:t.Kind≥0
    · refine Tm.pos h1 ?_;by_cases h2:t.Kind≤3
      · refine Tm.pos h2 (Tm.some ?_);simp only[okT,h,Bool.and_true];exact decide_eq_decide.2 (by omega)
      · exact Tm.neg h2 (Tm.some (by simp[okT,h2]))
    · refine Tm.neg h1 (Tm.some ?_);have:¬0≤t.Kind:=h1;simp[okT,this]
theorem sPairs_tm{p:List Arr2Int}{c:RClause}{l:List RVar}(hn:c.NotNull.length≤Bg)(hp:p.length≤Bg):Tm (fun N=>sPairs N p c l) (fun r=>r=true→∀e∈p,TxtOk c l e.e0∧TxtOk c l e.e1∧e.e0<e.e1):=by
 have hb:Bg=9223372036854775807:=rfl;unfold sPairs;refine Tm.bind (Q:=fun o=>match o with|.inl _=>∀e∈p,TxtOk c l e.e0∧TxtOk c l e.e1∧e.e0<e.e1|.inr z=>z=false) ?_ fun o ho=>?_
 · refine Tm.up p.length (fun k s=>s=(k:Int)∧∀j (hj:j<p.length),j<k→TxtOk c l p[j].e0∧TxtOk c l p[j].e1∧p[j].e0<p[j].e1) ⟨rfl,fun j _ hj=>by omega⟩ ?_;rintro k hk i ⟨rfl,hJ⟩;unfold sPairs_b1;rcases Nat.lt_or_ge k p.length with hlt|hge
   · refine Tm.pos (by omega) ?_;refine Tm.bind (Q:=fun b=>b=false→TxtOk c l p[k].e0∧TxtOk c l p[k].e1∧p[k].e0<p[k].e1) ?_ fun b hb'=>?_
     · refine Tm.step (idx_n hlt) ((sText_tm hn).bind fun r hr=>?_);cases r with
       |false=>exact Tm.pos rfl (Tm.some fun e=>by simp at e)
       |true=>
        refine Tm.neg (by simp) (Tm.step (idx_n hlt) ((sText_tm hn).bind fun r2 hr2=>?_));cases r2 with
        |false=>exact Tm.pos rfl (Tm.some fun e=>by simp at e)
        |true=>
         refine Tm.neg (by simp) (Tm.step (idx_n hlt) (Tm.step (idx_n hlt) (Tm.some fun e=>?_)));have e:=of_decide_eq_false e;exact⟨hr rfl,hr2 rfl,by omega⟩
     · cases b with
       |true=>exact Tm.pos rfl (Tm.some rfl)
       |false=>
        refine Tm.neg (by simp) (Tm.some ⟨hlt,iw_n (by omega),fun j hj hjk=>?_⟩);by_cases ejk:j=k
        · subst ejk;exact hb' rfl
        · exact hJ j hj (by omega)
   · refine Tm.neg (by omega) (Tm.some fun e he=>?_);obtain⟨j,hj,rfl⟩:=List.getElem_of_mem he;exact hJ j hj (by omega)
 · cases o with
   |inl _=>exact Tm.some fun _=>ho
   |inr z=>
    have ho:z=false:=ho;subst ho;exact Tm.some fun h=>by simp at h
def AuxOk(c:RClause)(l:List RVar)(i:Nat)(a:RAux):Prop:=(a.By=0∧a.Of.Coefs=[]∧a.Of.Const=0∧TxtOk c l a.Text)∨(a.By≠0∧(1≤a.By∧a.By≤1000)∧a.Text=0∧FrmOk a.Of (l.length+i))
structure BdsOk (c:RClause)(l:List RVar)(bs:List Int):Prop where
 len:bs.length=c.Auxiliary.length
 nn:∀b∈bs,0≤b
 at':∀i (hi:i<c.Auxiliary.length),(c.Auxiliary[i].By=0∧bs.getD i 0=16)∨(c.Auxiliary[i].By≠0∧∃r,0≤r∧FrmX c.Auxiliary[i].Of c l (bs.take i) r∧bs.getD i 0=r/c.Auxiliary[i].By+1)
structure ClOk (c:RClause)(l:List RVar):Prop where
 bx:∃bs,BdsOk c l bs∧∀k∈c.Ints,∃r,FrmX k.Linear c l bs r
 nl:AscOk c.Null l.length
 nn:AscOk c.NotNull l.length
 ax:∀i (hi:i<c.Auxiliary.length),AuxOk c l i c.Auxiliary[i]
 it:∀k∈c.Ints,FrmOk k.Linear (l.length+c.Auxiliary.length)
 ts:∀t∈c.Tests,okT t=true∧TxtOk c l t.Var
 sm:∀e∈c.Same,TxtOk c l e.e0∧TxtOk c l e.e1∧e.e0<e.e1
 df:∀e∈c.Different,TxtOk c l e.e0∧TxtOk c l e.e1∧e.e0<e.e1
structure LimC (c:RClause):Prop where
 nl:c.Null.length≤Bg
 nn:c.NotNull.length≤Bg
 ax:∀a∈c.Auxiliary,a.Of.Coefs.length≤Bg
 it:∀k∈c.Ints,k.Linear.Coefs.length≤Bg
 ts:∀t∈c.Tests,t.Text.length≤Bg
structure SmC (c:RClause):Prop where
 ax:c.Auxiliary.length≤80
 it:c.Ints.length≤80
 ts:c.Tests.length≤80
 sm:c.Same.length≤80
 df:c.Different.length≤80
theorem sValid_b1_tm{c:RClause}{l:List RVar}(hc:LimC c)(hs:SmC c)(hl:l.length≤10):
 Tm (fun N=>loopM (sValid_b1 N c l) N (([]:List Int),0)) (fun o=>match o with|.inl bs=>BdsOk c l bs∧∀i (hi:i<c.Auxiliary.length),AuxOk c l i c.Auxiliary[i]|.inr z=>z=false):=by
 have hb:Bg=9223372036854775807:=rfl;have hax:=hs.ax;refine Tm.up c.Auxiliary.length (fun k s=>s.2=(k:Int)∧(s.1.length=k∧(∀b∈s.1,0≤b)∧∀i (hi:i<c.Auxiliary.length),i<k→(c.Auxiliary[i].By=0∧s.1.getD i 0=16)∨(c.Auxiliary[i].By≠0∧∃r,0≤r∧FrmX c.Auxiliary[i].Of c l (s.1.take i) r∧s.1.getD i 0=r/c.Auxiliary[i].By+1))∧∀j (hj:j<c.Auxiliary.length),j<k→AuxOk c l j c.Auxiliary[j]) ⟨rfl,⟨rfl,fun b hb=>by(cases hb),fun i _ hi=>by omega⟩,fun j _ hj=>by omega⟩ ?_;rintro k hk ⟨s,i⟩ ⟨hi,⟨hsl,hsn,hsb⟩,hJ⟩;dsimp only at hi hsl hsn hsb hJ;subst hi;have grow:∀(b:Int),0≤b→(∀(hlt:k<c.Auxiliary.length),(c.Auxiliary[k].By=0∧b=16)∨(c.Auxiliary[k].By≠0∧∃r,0≤r∧FrmX c.Auxiliary[k].Of c l s r∧b=r/c.Auxiliary[k].By+1))→(s++[b]).length=k+1∧(∀b'∈s++[b],0≤b')∧∀i (hi:i<c.Auxiliary.length),i<k+1→(c.Auxiliary[i].By=0∧(s++[b]).getD i 0=16)∨(c.Auxiliary[i].By≠0∧∃r,0≤r∧FrmX c.Auxiliary[i].Of c l ((s++[b]).take i) r∧(s++[b]).getD i 0=r/c.Auxiliary[i].By+1):=by
  intro b b0 hbk;refine⟨by simp[hsl],fun b' hb'=>?_,fun i hi hik=>?_⟩
  · rcases List.mem_append.1 hb' with h|h
    · exact hsn _ h
    · rw[List.mem_singleton.1 h];exact b0
  · rcases Nat.lt_or_ge i k with h|h
    · have e1:(s++[b]).getD i 0=s.getD i 0:=by rw[List.getD_eq_getElem?_getD,List.getD_eq_getElem?_getD,List.getElem?_append_left (by omega)]
      have e2:(s++[b]).take i=s.take i:=by rw[List.take_append_of_le_length (by omega)]
      rw[e1,e2];exact hsb i hi h
    · have:i=k:=by omega
      subst this;have e1:(s++[b]).getD i 0=b:=by rw[List.getD_eq_getElem?_getD,List.getElem?_append_right (by omega)];simp[hsl]
      have e2:(s++[b]).take i=s:=by rw[List.take_append_of_le_length (by omega),List.take_of_length_le (by omega)]
      rw[e1,e2];exact hbk hi
 unfold sValid_b1;dsimp only;rcases Nat.lt_or_ge k c.Auxiliary.length with hlt|hge
 · refine Tm.pos (by omega) (Tm.step (idx_n hlt) ?_);have hlim:=hc.ax _ (List.getElem_mem hlt);have hnext:AuxOk c l k c.Auxiliary[k]→∀j (hj:j<c.Auxiliary.length),j<k+1→AuxOk c l j c.Auxiliary[j]:=fun hk' j hj hjk=>by
    by_cases ejk:j=k
    · subst ejk;exact hk'
    · exact hJ j hj (by omega)
   by_cases g1:c.Auxiliary[k].By=0
   · refine Tm.pos g1 ?_;refine Tm.bind (Q:=fun b=>b=false→AuxOk c l k c.Auxiliary[k]) ?_ fun b hb'=>?_
     · by_cases g2:(c.Auxiliary[k].Of.Coefs.length:Int)>0
       · exact Tm.pos g2 (Tm.some fun e=>by simp at e)
       · refine Tm.neg g2 ?_;by_cases g3:c.Auxiliary[k].Of.Const≠0
         · exact Tm.pos g3 (Tm.some fun e=>by simp at e)
         · refine Tm.neg g3 ((sText_tm hc.nn).bind fun r hr=>Tm.some fun e=>?_);exact .inl ⟨g1,List.eq_nil_of_length_eq_zero (by omega),by omega,hr (by simpa using e)⟩
     · cases b with
       |true=>exact Tm.pos rfl (Tm.some rfl)
       |false=>
        refine Tm.neg (by simp) ?_;rw[apnd_ok (by simp only[List.length_singleton];omega) (by decide)];exact Tm.some ⟨hlt,iw_n (by omega),grow 16 (by decide) (fun _=>.inl ⟨g1,rfl⟩),hnext (hb' rfl)⟩
   · refine Tm.neg g1 ((sForm_tm hc.nn hlim (by omega) (by omega) hsn).bind fun r hr=>?_);refine Tm.bind (Q:=fun b=>b=false→AuxOk c l k c.Auxiliary[k]∧FrmX c.Auxiliary[k].Of c l s r∧0≤r∧1≤c.Auxiliary[k].By) ?_ fun b hb'=>?_
     · refine sWithin_tm.eq ?_;by_cases g2:1≤c.Auxiliary[k].By∧c.Auxiliary[k].By≤1000
       · rw[decide_eq_true g2];refine Tm.neg (by simp) ?_;by_cases g3:c.Auxiliary[k].Text≠0
         · exact Tm.pos g3 (Tm.some fun e=>by simp at e)
         · refine Tm.neg g3 (Tm.some fun e=>?_);have e:=of_decide_eq_false e;obtain⟨h2,h3⟩:=hr (by omega);refine⟨.inr ⟨g1,g2,by omega,?_⟩,h3,by omega,g2.1⟩;rw[hsl]at h2;exact h2
       · rw[decide_eq_false g2];exact Tm.pos rfl (Tm.some fun e=>by simp at e)
     · cases b with
       |true=>exact Tm.pos rfl (Tm.some rfl)
       |false=>
        refine Tm.neg (by simp) ?_;obtain⟨q1,q2,q3,q4⟩:=hb' rfl;have q5:=q2.le;have q6:=Int.ediv_nonneg (a:=r) (b:=c.Auxiliary[k].By) q3 (by omega);have q7:=Int.ediv_le_self (a:=r) c.Auxiliary[k].By q3;have hsd:sdiv .i64 r c.Auxiliary[k].By=some (r/c.Auxiliary[k].By):=by
         unfold sdiv;rw[if_neg g1,Int.tdiv_eq_ediv_of_nonneg q3];congr 1;exact iw_eq (by omega) (by omega)
        refine Tm.step hsd ?_;rw[apnd_ok (by simp only[List.length_singleton];omega) (by decide),iw_eq (by omega) (by omega)];exact Tm.some ⟨hlt,iw_n (by omega),grow _ (by omega) (fun _=>.inr ⟨g1,r,q3,q2,rfl⟩),hnext q1⟩
 · have:k=c.Auxiliary.length:=by omega
   subst this;exact Tm.neg (by omega) (Tm.some ⟨⟨hsl,hsn,fun i hi=>hsb i hi hi⟩,fun j hj=>hJ j hj hj⟩)
theorem sValid_tm{c:RClause}{l:List RVar}(hc:LimC c)(hs:SmC c)(hl:l.length≤10):Tm (fun N=>sValid N c l) (fun r=>r=true→ClOk c l):=by
 have hb:Bg=9223372036854775807:=rfl;have:=hs.ax;have:=hs.it;have:=hs.ts;have:=hs.sm;have:=hs.df;unfold sValid;refine Tm.bind (Q:=fun b=>b=false→AscOk c.Null l.length∧AscOk c.NotNull l.length) ?_ fun b hb'=>?_
 · refine(sAscending_tm hc.nl).bind fun r hr=>?_;cases r with
   |false=>exact Tm.pos rfl (Tm.some fun e=>by simp at e)
   |true=>exact Tm.neg (by simp) ((sAscending_tm hc.nn).bind fun r2 hr2=>Tm.some fun e=>⟨hr rfl,hr2 (by simpa using e)⟩)
 · cases b with
   |true=>exact Tm.pos rfl (Tm.some fun e=>by simp at e)
   |false=>
    obtain⟨q1,q2⟩:=hb' rfl;refine Tm.neg (by simp) ((sValid_b1_tm hc hs hl).bind fun o ho=>?_);cases o with
    |inr z=>
     have ho:z=false:=ho;subst ho;exact Tm.some fun h=>by simp at h
    |inl bs=>
     obtain⟨hbo,hax⟩:=ho;have hbl:=hbo.len;refine Tm.bind (Q:=fun o=>match o with|.inl _=>∀k∈c.Ints,FrmOk k.Linear (l.length+c.Auxiliary.length)∧∃r,FrmX k.Linear c l bs r|.inr z=>z=false) ?_ fun o ho=>?_
     · refine Tm.up c.Ints.length (fun k s=>s=(k:Int)∧∀j (hj:j<c.Ints.length),j<k→FrmOk c.Ints[j].Linear (l.length+c.Auxiliary.length)∧∃r,FrmX c.Ints[j].Linear c l bs r) ⟨rfl,fun j _ hj=>by omega⟩ ?_;rintro k hk i ⟨rfl,hJ⟩;unfold sValid_b2;rcases Nat.lt_or_ge k c.Ints.length with hlt|hge
       · refine Tm.pos (by omega) (Tm.step (idx_n hlt) ((sForm_tm hc.nn (hc.it _ (List.getElem_mem hlt)) (by omega) (by omega) hbo.nn).bind fun r hr=>?_));by_cases g:r<0
         · exact Tm.pos g (Tm.some rfl)
         · refine Tm.neg g (Tm.some ⟨hlt,iw_n (by omega),fun j hj hjk=>?_⟩);by_cases ejk:j=k
           · subst ejk;obtain⟨q1,q2⟩:=hr (by omega);exact⟨hbl▸q1,r,q2⟩
           · exact hJ j hj (by omega)
       · refine Tm.neg (by omega) (Tm.some fun x hx=>?_);obtain⟨j,hj,rfl⟩:=List.getElem_of_mem hx;exact hJ j hj (by omega)
     · cases o with
       |inr z=>
        have ho:z=false:=ho;subst ho;exact Tm.some fun h=>by simp at h
       |inl _=>
        have hit:∀k∈c.Ints,FrmOk k.Linear (l.length+c.Auxiliary.length)∧∃r,FrmX k.Linear c l bs r:=ho;refine Tm.bind (Q:=fun o=>match o with|.inl _=>∀t∈c.Tests,okT t=true∧TxtOk c l t.Var|.inr z=>z=false) ?_ fun o ho=>?_
        · refine Tm.up c.Tests.length (fun k s=>s=(k:Int)∧∀j (hj:j<c.Tests.length),j<k→okT c.Tests[j]=true∧TxtOk c l c.Tests[j].Var) ⟨rfl,fun j _ hj=>by omega⟩ ?_;rintro k hk i ⟨rfl,hJ⟩;unfold sValid_b3;rcases Nat.lt_or_ge k c.Tests.length with hlt|hge
          · refine Tm.pos (by omega) ?_;refine Tm.bind (Q:=fun b=>b=false→okT c.Tests[k]=true∧TxtOk c l c.Tests[k].Var) ?_ fun b hb'=>?_
            · refine Tm.step (idx_n hlt) ((sTested_tm (hc.ts _ (List.getElem_mem hlt))).bind fun r hr=>?_);cases r with
              |false=>exact Tm.pos rfl (Tm.some fun e=>by simp at e)
              |true=>exact Tm.neg (by simp) (Tm.step (idx_n hlt) ((sText_tm hc.nn).bind fun r2 hr2=>Tm.some fun e=>⟨hr.symm,hr2 (by simpa using e)⟩))
            · cases b with
              |true=>exact Tm.pos rfl (Tm.some rfl)
              |false=>
               refine Tm.neg (by simp) (Tm.some ⟨hlt,iw_n (by omega),fun j hj hjk=>?_⟩);by_cases ejk:j=k
               · subst ejk;exact hb' rfl
               · exact hJ j hj (by omega)
          · refine Tm.neg (by omega) (Tm.some fun x hx=>?_);obtain⟨j,hj,rfl⟩:=List.getElem_of_mem hx;exact hJ j hj (by omega)
        · cases o with
          |inr z=>
           have ho:z=false:=ho;subst ho;exact Tm.some fun h=>by simp at h
          |inl _=>
           have hts:∀t∈c.Tests,okT t=true∧TxtOk c l t.Var:=ho;refine(sPairs_tm hc.nn (by omega)).bind fun r hr=>?_;cases r with
           |false=>exact Tm.neg (by simp) (Tm.some fun e=>by simp at e)
           |true=>
            refine Tm.pos rfl ((sPairs_tm hc.nn (by omega)).bind fun r2 hr2=>Tm.some fun e=>?_);exact⟨⟨bs,hbo,fun k hk=>(hit k hk).2⟩,q1,q2,hax,fun k hk=>(hit k hk).1,hts,hr rfl,hr2 e⟩
structure LwC (c:RClause):Prop where
 nl:c.Null.length≤17592186043904
 nn:c.NotNull.length≤17592186043904
 ax:c.Auxiliary.length≤17592186043904
 it:c.Ints.length≤17592186043904
 ts:c.Tests.length≤17592186043904
 sm:c.Same.length≤17592186043904
 df:c.Different.length≤17592186043904
theorem sFew_tm{c:RClause}(h:LwC c):Tm (fun N=>sFew N c) (fun r=>r=true→SmC c):=by
 have:=h.nl;have:=h.nn;have:=h.ax;have:=h.it;have:=h.ts;have:=h.sm;have:=h.df;unfold sFew;have e1:iw ((c.Null.length:Int)+(c.NotNull.length:Int))=((c.Null.length+c.NotNull.length:Nat):Int):=by rw[iw_eq]<;>omega
 have e2:iw (((c.Null.length+c.NotNull.length:Nat):Int)+(c.Auxiliary.length:Int))=((c.Null.length+c.NotNull.length+c.Auxiliary.length:Nat):Int):=by rw[iw_eq]<;>omega
 have e3:iw (((c.Null.length+c.NotNull.length+c.Auxiliary.length:Nat):Int)+(c.Ints.length:Int))=((c.Null.length+c.NotNull.length+c.Auxiliary.length+c.Ints.length:Nat):Int):=by rw[iw_eq]<;>omega
 have e4:iw (((c.Null.length+c.NotNull.length+c.Auxiliary.length+c.Ints.length:Nat):Int)+(c.Tests.length:Int))=((c.Null.length+c.NotNull.length+c.Auxiliary.length+c.Ints.length+c.Tests.length:Nat):Int):=by rw[iw_eq]<;>omega
 have e5:iw (((c.Null.length+c.NotNull.length+c.Auxiliary.length+c.Ints.length+c.Tests.length:Nat):Int)+(c.Same.length:Int))=((c.Null.length+c.NotNull.length+c.Auxiliary.length+c.Ints.length+c.Tests.length+c.Same.length:Nat):Int):=by rw[iw_eq]<;>omega
 have e6:iw (((c.Null.length+c.NotNull.length+c.Auxiliary.length+c.Ints.length+c.Tests.length+c.Same.length:Nat):Int)+(c.Different.length:Int))=((c.Null.length+c.NotNull.length+c.Auxiliary.length+c.Ints.length+c.Tests.length+c.Same.length+c.Different.length:Nat):Int):=by rw[iw_eq]<;>omega
 rw[e1,e2,e3,e4,e5,e6];by_cases hz:((c.Null.length+c.NotNull.length+c.Auxiliary.length+c.Ints.length+c.Tests.length+c.Same.length+c.Different.length:Nat):Int)>80
 · exact Tm.pos hz (Tm.some fun e=>by simp at e)
 · refine Tm.neg hz ?_;have hsm:SmC c:=⟨by omega,by omega,by omega,by omega,by omega⟩;refine Tm.bind (Q:=fun _=>True) ?_ fun n1 _=>?_
   · refine Tm.up c.Auxiliary.length (fun k s=>s.2=(k:Int)) rfl ?_;rintro k hk ⟨s,i⟩ hi;dsimp only at hi;subst hi;unfold sFew_b1;dsimp only;rcases Nat.lt_or_ge k c.Auxiliary.length with hlt|hge
     · exact Tm.pos (by omega) (Tm.step (idx_n hlt) (Tm.some ⟨hlt,iw_n (by omega)⟩))
     · exact Tm.neg (by omega) (Tm.some trivial)
   · refine Tm.bind (Q:=fun _=>True) ?_ fun n2 _=>?_
     · refine Tm.up c.Ints.length (fun k s=>s.2=(k:Int)) rfl ?_;rintro k hk ⟨s,i⟩ hi;dsimp only at hi;subst hi;unfold sFew_b2;dsimp only;rcases Nat.lt_or_ge k c.Ints.length with hlt|hge
       · exact Tm.pos (by omega) (Tm.step (idx_n hlt) (Tm.some ⟨hlt,iw_n (by omega)⟩))
       · exact Tm.neg (by omega) (Tm.some trivial)
     · refine Tm.bind (Q:=fun _=>True) ?_ fun o _=>?_
       · refine Tm.up c.Tests.length (fun k s=>s=(k:Int)) rfl ?_;rintro k hk i rfl;unfold sFew_b3;rcases Nat.lt_or_ge k c.Tests.length with hlt|hge
         · refine Tm.pos (by omega) (Tm.step (idx_n hlt) ?_);by_cases g:(c.Tests[k].Text.length:Int)>40
           · exact Tm.pos g (Tm.some trivial)
           · exact Tm.neg g (Tm.some ⟨hlt,iw_n (by omega)⟩)
         · exact Tm.neg (by omega) (Tm.some trivial)
       · cases o with
         |inl _=>exact Tm.some fun _=>hsm
         |inr z=>exact Tm.some fun _=>hsm
open Go Go.X
theorem qPrintable_tm{s:List UInt8}(hl:s.length≤Bg):Tm (fun N=>qPrintable N s) (·=s.all prn):=by
 have hb:Bg=9223372036854775807:=rfl;unfold qPrintable;refine(Tm.allL (b:=fun N=>qPrintable_b1 N s) s prn (by omega) (fun k hk=>?_) ?_).eq ?_
 · unfold qPrintable_b1;refine Tm.pos (by omega) ?_;simp only[idx_n hk,Option.bind_some,or_if,prn_bad];cases prn s[k]<;>exact Tm.some rfl
 · unfold qPrintable_b1;exact Tm.neg (by omega) (Tm.some rfl)
 · cases h:s.all prn<;>exact Tm.some rfl
def okS(k:Int):Bool:=decide (0≤k∧k≤16)
def okV(n:Nat)(v:Int):Bool:=decide (0≤v∧v<n)
def ixB{α:Type}(f:α→Option Bool)(s:List α):Int→Option (Stp Int (Sum Unit Int)):=fun x=>if(x:Int)<(List.length s:Int)then (idx s x).bind fun y=>(f y).bind fun r=>if r=true then some (Stp.done (Sum.inr x))else some (Stp.next (iw (x+1))) else some (Stp.done (Sum.inl ()))
def ixF{α:Type}(N:Nat)(s:List α)(f:α→Option Bool):Option Int:=(loopM (ixB f s) N 0).bind fun ss=>match ss with
  |Sum.inl _=>some (-1)
  |Sum.inr z=>some z
theorem indexInt_eq(N:Nat)(s:List Int)(f:Int→Option Bool):indexInt N s f=ixF N s f:=rfl
theorem ixF_tm{α:Type}{s:List α}{f:Nat→α→Option Bool}{g:α→Bool}(hn:s.length≤Bg)(h:∀x∈s,Tm (fun N=>f N x) (·=g x)):Tm (fun N=>ixF N s (f N)) (fun r=>decide (r≥0)=s.any g):=by
 have hb:Bg=9223372036854775807:=rfl;unfold ixF;refine(Tm.findL (b:=fun N=>ixB (f N) s) s g (fun k=>(k:Int)) (by omega) (fun k hk=>?_) ?_).bind fun o ho=>?_
 · unfold ixB;refine Tm.pos (by omega) (Tm.step (idx_n hk) ((h _ (List.getElem_mem hk)).eq ?_));cases g s[k]<;>exact Tm.some rfl
 · unfold ixB;exact Tm.neg (by omega) (Tm.some rfl)
 · rcases ho with⟨h1,rfl⟩|⟨k,hk,h1,_,rfl⟩
   · refine Tm.some ?_;rw[h1];rfl
   · refine Tm.some ?_;rw[List.any_eq_true.2 ⟨_,List.getElem_mem hk,h1⟩];exact decide_eq_true (by omega)
theorem containsInt_tm{s:List Int}{f:Nat→Int→Option Bool}{g:Int→Bool}(hn:s.length≤Bg)(h:∀x∈s,Tm (fun N=>f N x) (·=g x)):Tm (fun N=>containsInt N s (f N)) (·=s.any g):=by
 unfold containsInt;simp only[indexInt_eq];exact(ixF_tm hn h).bind fun r hr=>Tm.some hr
structure Lim (p:TProb):Prop where
 a:p.Min.length≤Bg
 b:p.Max.length≤Bg
 c:p.Tests.length≤Bg
 d:p.Same.length≤Bg
 e:p.Different.length≤Bg
 f:∀t∈p.Tests,t.Text.length≤Bg
theorem not_any_not{α:Type}{l:List α}{f:α→Bool}:(!l.any fun x=>!f x)=l.all f:=by
 rw[Bool.eq_iff_iff];simp
open Go Go.X
def bits(S:Nat→Bool):Nat→Nat
 |0=>0
 |n+1=>bits S n|||(if S n then 2^n else 0)
theorem bits_test{S:Nat→Bool}:∀{n i:Nat},(bits S n).testBit i=(decide (i<n)&&S i)
 |0,i=>by simp[bits]
 |n+1,i=>by
  rw[bits,Nat.testBit_or,bits_test];by_cases hS:S n
  · rw[if_pos hS,Nat.testBit_two_pow];by_cases hi:i=n
    · subst hi;simp[hS]
    · have h1:decide (n=i)=false:=decide_eq_false (fun h=>hi h.symm);have h2:decide (i<n+1)=decide (i<n):=decide_eq_decide.2 (by omega);rw[h1,h2];simp
  · rw[if_neg hS];by_cases hi:i=n
    · subst hi;simp[hS]
    · have h2:decide (i<n+1)=decide (i<n):=decide_eq_decide.2 (by omega);rw[h2];simp
theorem bits_lt{S:Nat→Bool}{n:Nat}:bits S n<2^n:=Nat.lt_pow_two_of_testBit _ fun i hi=>by
 rw[bits_test,decide_eq_false (by omega)];rfl
theorem bits_eq{S:Nat→Bool}{n m:Nat}(hm:m<2^n)(h:∀i,i<n→m.testBit i=S i):m=bits S n:=by
 apply Nat.eq_of_testBit_eq;intro i;rw[bits_test];by_cases hi:i<n
 · rw[decide_eq_true hi,h i hi];rfl
 · rw[decide_eq_false hi,Nat.testBit_lt_two_pow (Nat.lt_of_lt_of_le hm (Nat.pow_le_pow_right (by decide) (by omega)))];rfl
theorem bshr_u32{x:Int}{n:Nat}(h:n≤32):bshr .u32 x n=x/2^n:=by
 unfold bshr;rw[show min ((n:Int)).toNat IntKind.u32.bits=n by show min _ 32=n;omega];exact Int.fdiv_eq_ediv_of_nonneg _ (Int.le_of_lt (Int.pow_pos (by decide)))
theorem u32_n{a:Nat}(h:a<4294967296):IntKind.u32.wrap (a:Int)=(a:Int):=wq_u32 rfl h
theorem bt{m i:Nat}(hm:m<4294967296)(hi:i≤31):(band .u32 (bshr .u32 (m:Int) (i:Int)) 1:Int)=if m.testBit i then 1 else 0:=by
 rw[bshr_u32 (by omega)];have e:((m:Int)/2^i)=((m/2^i:Nat):Int):=by simp
 have hle:m/2^i<4294967296:=Nat.lt_of_le_of_lt (Nat.div_le_self _ _) hm;rw[e,show(1:Int)=((1:Nat):Int) from rfl,band_nat (u32_n hle) (u32_n (by decide)),Nat.and_one_is_mod,Nat.testBit_eq_decide_div_mod_eq];by_cases h:m/2^i%2=1
 · rw[h];simp
 · have:m/2^i%2=0:=by omega
   rw[this];simp
theorem bsh{i:Nat}(hi:i≤31):bshl .u32 1 (i:Int)=((2^i:Nat):Int):=by
 unfold bshl;rw[show min ((i:Int)).toNat IntKind.u32.bits=i by show min _ 32=i;omega];have h:2^i<4294967296:=Nat.lt_of_le_of_lt (Nat.pow_le_pow_right (by decide) hi) (by decide);rw[Int.one_mul,show((2:Int)^i)=((2^i:Nat):Int) by simp];exact u32_n h
theorem bs{m i n:Nat}(hm:m<2^(n+1))(hi:i≤n)(hn:n≤16):bor .u32 (m:Int) (bshl .u32 1 (i:Int))=((m|||2^i:Nat):Int)∧m|||2^i<2^(n+1):=by
 have h17:2^(n+1)≤2^17:=Nat.pow_le_pow_right (by decide) (by omega);have h2:2^i<2^(n+1):=Nat.pow_lt_pow_right (by decide) (by omega);refine⟨?_,Nat.or_lt_two_pow hm h2⟩;rw[bsh (by omega),bor_nat (u32_n (by omega)) (u32_n (by omega))]
theorem bs_test{m i j:Nat}:(m|||2^i).testBit j=(m.testBit j||decide (i=j)):=by rw[Nat.testBit_or,Nat.testBit_two_pow]
def isP(o:Option UInt8):Bool:=decide (o=some 37)
def clo(p:List UInt8)(S:Nat→Bool):Nat→Bool
 |0=>S 0
 |i+1=>S (i+1)||(clo p S i&&isP p[i]?)
def hit(o:Option UInt8)(c:Int):Bool:=match o with
 |some b=>decide (b≠37)&&(decide (b=95)||decide ((b.toNat:Int)=c))
 |none=>false
def nxs(p:List UInt8)(S:Nat→Bool)(c:Int):Nat→Bool:=fun j=>(S j&&isP p[j]?)||(match j with|0=>false|i+1=>S i&&hit p[i]? c)
theorem u8_37{b:UInt8}:((b.toNat:Int)=37)↔b=37:=by
 constructor
 · intro h;apply UInt8.toNat_inj.1;show b.toNat=37;omega
 · rintro rfl;rfl
theorem u8_95{b:UInt8}:((b.toNat:Int)=95)↔b=95:=by
 constructor
 · intro h;apply UInt8.toNat_inj.1;show b.toNat=95;omega
 · rintro rfl;rfl
theorem pClosure_tm{p:List UInt8}{m:Nat}(hp:p.length≤16)(hm:m<2^(p.length+1)):Tm (fun N=>pClosure N p (m:Int)) (·=((bits (clo p m.testBit) (p.length+1):Nat):Int)):=by
 unfold pClosure;have h17:2^(p.length+1)≤2^17:=Nat.pow_le_pow_right (by decide) (by omega);refine Tm.eq (a:=((bits (clo p m.testBit) (p.length+1):Nat):Int)) ?_ (Tm.some rfl);refine Tm.up p.length (fun k s=>s.2=(k:Int)∧∃a:Nat,s.1=(a:Int)∧a<2^(p.length+1)∧(∀i,i≤k→a.testBit i=clo p m.testBit i)∧(∀i,k<i→a.testBit i=m.testBit i)) ⟨rfl,m,rfl,hm,fun i hi=>by rw[Nat.le_zero.1 hi];rfl,fun _ _=>rfl⟩ ?_;rintro k hk ⟨s,i⟩ ⟨hi,a,ha,hal,h1,h2⟩;dsimp only at hi ha;subst hi;subst ha;unfold pClosure_b1;rcases Nat.lt_or_ge k p.length with hlt|hge
 · refine Tm.pos (by omega) ?_;simp only[idx_n hlt,Option.bind_some];by_cases hp1:((p[k]).toNat:Int)=37
   · have hp2:isP p[k]?=true:=by rw[List.getElem?_eq_getElem hlt,u8_37.1 hp1];rfl
     simp only[if_pos hp1,chk_ok (show¬(k:Int)<0 by omega),Option.bind_some,bt (m:=a) (i:=k) (by omega) (by omega)];by_cases hb:a.testBit k=true
     · simp only[hb,if_true,decide_true,iw_n (k:=k) (by omega),chk_ok (show¬((k+1:Nat):Int)<0 by omega),Option.bind_some];obtain⟨e1,e2⟩:=bs (n:=p.length) hal (show k+1≤p.length by omega) hp;rw[e1];refine Tm.some ⟨hlt,rfl,_,rfl,e2,fun i hi=>?_,fun i hi=>?_⟩
       · rw[bs_test];by_cases hik:i≤k
         · rw[h1 i hik,decide_eq_false (by omega)];simp
         · obtain rfl:i=k+1:=by omega
           have:=h1 k (Nat.le_refl _);rw[decide_eq_true rfl,clo,←this,hb,hp2];simp
       · rw[bs_test,h2 i (by omega),decide_eq_false (by omega)];simp
     · have hb':a.testBit k=false:=by simpa using hb
       simp only[hb',Bool.false_eq_true,if_false,decide_eq_false (show¬(0:Int)=1 by decide),Option.bind_some];refine Tm.some ⟨hlt,iw_n (by omega),a,rfl,hal,fun i hi=>?_,fun i hi=>h2 i (by omega)⟩;by_cases hik:i≤k
       · exact h1 i hik
       · obtain rfl:i=k+1:=by omega
         have:=h1 k (Nat.le_refl _);rw[clo,←this,hb',h2 (k+1) (by omega)];simp
   · have hp2:isP p[k]?=false:=by
      rw[List.getElem?_eq_getElem hlt];refine decide_eq_false fun h=>hp1 (u8_37.2 (Option.some.inj h))
     simp only[if_neg hp1,Option.bind_some,Bool.false_eq_true,if_false];refine Tm.some ⟨hlt,iw_n (by omega),a,rfl,hal,fun i hi=>?_,fun i hi=>h2 i (by omega)⟩;by_cases hik:i≤k
     · exact h1 i hik
     · obtain rfl:i=k+1:=by omega
       rw[clo,hp2,h2 (k+1) (by omega)];simp
 · refine Tm.neg (by omega) (Tm.some ?_);have:k=p.length:=by omega
   subst this;show(a:Int)=_;rw[bits_eq hal fun i hi=>h1 i (by omega)]
structure StOk (t:TTest)(s:Int):Prop where
 lk:t.Kind=1→∃m:Nat,s=(m:Int)∧m<2^(t.Text.length+1)
 cm:t.Kind≠1→s=100∨s=101∨(0≤s∧s≤t.Text.length)
def sp0(t:TTest):Int:=if t.Kind=1 then((bits (clo t.Text (Nat.testBit 1)) (t.Text.length+1):Nat):Int)else 0
def cmpN(x:List UInt8)(s c:Int):Int:=if s≥100 then s else if s=x.length∨c>((x.getD s.toNat 0).toNat:Int)then 101 else if c<((x.getD s.toNat 0).toNat:Int)then 100 else s+1
def spN(t:TTest)(s c:Int):Int:=if t.Kind=1 then((bits (clo t.Text (Nat.testBit (bits (nxs t.Text (Nat.testBit s.toNat) c) (t.Text.length+1)))) (t.Text.length+1):Nat):Int)else cmpN t.Text s c
def spF(t:TTest)(s:Int):Bool:=
 let ok:=if t.Kind=1 then s.toNat.testBit t.Text.length else if t.Kind=0 then decide (s=t.Text.length)else if t.Kind=2 then decide (s=100∨s<t.Text.length)else decide (s=100∨s≤t.Text.length)
 !(ok==t.Negated)
theorem okT_len{t:TTest}(h:okT t=true):0≤t.Kind∧t.Kind≤3∧t.Text.length≤16:=by
 simp only[okT,Bool.and_eq_true,decide_eq_true_eq]at h;exact h.1
theorem st0_ok{t:TTest}(h:okT t=true):StOk t (sp0 t):=by
 constructor
 · intro hk;unfold sp0;rw[if_pos hk];exact⟨_,rfl,bits_lt⟩
 · intro hk;unfold sp0;rw[if_neg hk];exact .inr (.inr ⟨by decide,by omega⟩)
theorem stN_ok{t:TTest}{s:Int}(c:Int)(h:okT t=true)(hs:StOk t s):StOk t (spN t s c):=by
 constructor
 · intro hk;unfold spN;rw[if_pos hk];exact⟨_,rfl,bits_lt⟩
 · intro hk;unfold spN;rw[if_neg hk];unfold cmpN;have h16:=(okT_len h).2.2;rcases hs.cm hk with h1|h1|h1
   · rw[if_pos (by omega)];exact .inl h1
   · rw[if_pos (by omega)];exact .inr (.inl h1)
   · rw[if_neg (by omega)];split
     · exact .inr (.inl rfl)
     · rename_i hn;split
       · exact .inl rfl
       · exact .inr (.inr ⟨by omega,by omega⟩)
theorem pBegin_tm{t:TTest}(h:okT t=true):Tm (fun N=>pBegin N t) (·=sp0 t):=by
 unfold pBegin sp0;by_cases hk:t.Kind=1
 · simp only[if_pos hk];exact(pClosure_tm (m:=1) (okT_len h).2.2 (Nat.one_lt_two_pow (by omega))).eq (Tm.some rfl)
 · simp only[if_neg hk];exact Tm.some rfl
theorem pNext_b1_tm{t:TTest}{m:Nat}{c:Int}(hp:t.Text.length≤16)(hm:m<2^(t.Text.length+1)):Tm (fun N=>loopM (pNext_b1 N c (m:Int) t) N (0,0)) (·=((bits (nxs t.Text m.testBit c) (t.Text.length+1):Nat):Int)):=by
 generalize hx:t.Text=p at*;have h17:2^(p.length+1)≤2^17:=Nat.pow_le_pow_right (by decide) (by omega);refine Tm.up p.length (fun k s=>s.2=(k:Int)∧∃a:Nat,s.1=(a:Int)∧a<2^(p.length+1)∧∀j,a.testBit j=((decide (j<k)&&m.testBit j&&isP p[j]?)||(match j with|0=>false|i+1=>decide (i<k)&&m.testBit i&&hit p[i]? c))) ⟨rfl,0,rfl,Nat.two_pow_pos _,fun j=>by cases j<;>simp⟩ ?_;rintro k hk ⟨s,i⟩ ⟨hi,a,ha,hal,h1⟩;dsimp only at hi ha;subst hi;subst ha;unfold pNext_b1;rw[hx];rcases Nat.lt_or_ge k p.length with hlt|hge
 · refine Tm.pos (by omega) ?_;have hpk:p[k]?=some p[k]:=List.getElem?_eq_getElem hlt;simp only[chk_ok (show¬(k:Int)<0 by omega),Option.bind_some,bt (m:=m) (i:=k) (by omega) (by omega)];have upto:∀(a':Nat),(∀j,a'.testBit j=(a.testBit j||(decide (j=k)&&m.testBit k&&isP p[k]?)||(decide (j=k+1)&&m.testBit k&&hit p[k]? c)))→∀j,a'.testBit j=((decide (j<k+1)&&m.testBit j&&isP p[j]?)||(match j with|0=>false|i+1=>decide (i<k+1)&&m.testBit i&&hit p[i]? c)):=by
    intro a' h j;rw[h j,h1 j];cases j with
    |zero=>
     by_cases h0:k=0
     · subst h0;simp
     · have e1:decide (0<k)=true:=decide_eq_true (by omega);have e2:decide (0=k)=false:=decide_eq_false (by omega);rw[e1,e2];simp
    |succ i=>
     dsimp only;by_cases e:i+1=k
     · subst e;have e1:decide (i+1<i+1)=false:=decide_eq_false (by omega);have e2:decide (i<i+1)=true:=decide_eq_true (by omega);have e3:decide (i+1<i+1+1)=true:=decide_eq_true (by omega);have e4:decide (i<i+1+1)=true:=decide_eq_true (by omega);have e5:decide (i+1=i+1+1)=false:=decide_eq_false (by omega);rw[e1,e2,e3,e4,e5,decide_eq_true rfl];simp only[Bool.false_and,Bool.true_and,Bool.false_or,Bool.or_false];exact Bool.or_comm _ _
     · by_cases e':i=k
       · subst e';have e1:decide (i+1<i)=false:=decide_eq_false (by omega);have e2:decide (i<i)=false:=decide_eq_false (by omega);have e3:decide (i+1=i)=false:=decide_eq_false (by omega);have e4:decide (i+1<i+1)=false:=decide_eq_false (by omega);have e5:decide (i<i+1)=true:=decide_eq_true (by omega);rw[e1,e2,e3,e4,e5,decide_eq_true rfl];simp
       · have e1:decide (i+1<k+1)=decide (i+1<k):=decide_eq_decide.2 (by omega);have e2:decide (i<k+1)=decide (i<k):=decide_eq_decide.2 (by omega);have e3:decide (i+1=k)=false:=decide_eq_false (by omega);have e4:decide (i+1=k+1)=false:=decide_eq_false (by omega);rw[e1,e2,e3,e4];simp
   by_cases hb:m.testBit k=true
   · rw[hb];simp only[if_true,show((1:Int)=0)=False by simp,if_false,idx_n hlt,Option.bind_some];by_cases hp1:((p[k]).toNat:Int)=37
     · rw[if_pos hp1];have e37:=u8_37.1 hp1;obtain⟨e1,e2⟩:=bs (n:=p.length) hal (show k≤p.length by omega) hp;rw[e1];refine Tm.some ⟨hlt,iw_n (by omega),_,rfl,e2,upto _ fun j=>?_⟩;rw[bs_test,hb,hpk,e37];have:decide (k=j)=decide (j=k):=decide_eq_decide.2 eq_comm;simp[isP,hit,this]
     · rw[if_neg hp1];have n37:p[k]≠37:=fun h=>hp1 (u8_37.2 h);have e:(if((p[k]).toNat:Int)=95 then some true else some (decide (((p[k]).toNat:Int)=c)))=some (hit p[k]? c):=by
        rw[or_if,hpk];simp only[hit,n37,ne_eq,not_false_eq_true,decide_true,Bool.true_and];rw[←Bool.decide_or];exact congrArg some (decide_eq_decide.2 (by rw[u8_95]))
       rw[e];simp only[Option.bind_some];cases hh:hit p[k]? c with
       |true=>
        simp only[if_true,iw_n (k:=k) (by omega),chk_ok (show¬((k+1:Nat):Int)<0 by omega),Option.bind_some];obtain⟨e1,e2⟩:=bs (n:=p.length) hal (show k+1≤p.length by omega) hp;rw[e1];refine Tm.some ⟨hlt,rfl,_,rfl,e2,upto _ fun j=>?_⟩;rw[bs_test,hb,hh];have e3:decide (k+1=j)=decide (j=k+1):=decide_eq_decide.2 eq_comm;have e4:isP p[k]?=false:=by rw[hpk];exact decide_eq_false (fun h=>n37 (Option.some.inj h))
        rw[e3,e4];simp
       |false=>
        simp only[Bool.false_eq_true,if_false];refine Tm.some ⟨hlt,iw_n (by omega),a,rfl,hal,upto _ fun j=>?_⟩;have e4:isP p[k]?=false:=by rw[hpk];exact decide_eq_false (fun h=>n37 (Option.some.inj h))
        rw[e4,hh];simp
   · have hb':m.testBit k=false:=by simpa using hb
     rw[hb'];simp only[Bool.false_eq_true,if_false,if_true];exact Tm.some ⟨hlt,iw_n (by omega),a,rfl,hal,upto _ fun j=>by rw[hb'];simp⟩
 · refine Tm.neg (by omega) (Tm.some ?_);have:k=p.length:=by omega
   subst this;show(a:Int)=_;rw[bits_eq (S:=nxs p m.testBit c) hal fun j hj=>?_];rw[h1 j];unfold nxs;have e0:(decide (j<p.length)&&m.testBit j&&isP p[j]?)=(m.testBit j&&isP p[j]?):=by
    by_cases hjl:j<p.length
    · rw[decide_eq_true hjl];simp
    · rw[List.getElem?_eq_none (by omega)];simp[isP]
   rw[e0];cases j with
   |zero=>rfl
   |succ i=>
    have:decide (i<p.length)=true:=decide_eq_true (by omega);simp only[this,Bool.true_and]
theorem pNext_tm{t:TTest}{s c:Int}(h:okT t=true)(hs:StOk t s):Tm (fun N=>pNext N t s c) (·=spN t s c):=by
 have h16:=(okT_len h).2.2;unfold pNext spN;by_cases hk:t.Kind=1
 · obtain⟨m,rfl,hm⟩:=hs.lk hk;simp only[if_pos hk];refine(pNext_b1_tm h16 hm).eq ?_;exact(pClosure_tm h16 bits_lt).eq (Tm.some rfl)
 · simp only[if_neg hk];unfold cmpN;rcases hs.cm hk with h1|h1|h1
   · simp only[if_pos (show s≥100 by omega)];exact Tm.some rfl
   · simp only[if_pos (show s≥100 by omega)];exact Tm.some rfl
   · simp only[if_neg (show¬s≥100 by omega)];obtain⟨i,rfl⟩:=Int.eq_ofNat_of_zero_le h1.1;have e0:iw (i:Int)=(i:Int):=iw_eq (by omega) (by omega);simp only[e0];by_cases hl:(i:Int)=(t.Text.length:Int)
     · simp only[if_pos hl,Option.bind_some,if_true];rw[if_pos (.inl hl)];exact Tm.some rfl
     · have hlt:i<t.Text.length:=by omega
       have eg:t.Text.getD i 0=t.Text[i]:=by rw[List.getD_eq_getElem?_getD,List.getElem?_eq_getElem hlt];rfl
       simp only[if_neg hl,idx_n hlt,Option.bind_some,Int.toNat_natCast,eg,false_or];by_cases g1:c>((t.Text[i]).toNat:Int)
       · rw[decide_eq_true g1,if_pos (show(i:Int)=(t.Text.length:Int)∨c>((t.Text[i]).toNat:Int) from .inr g1)];exact Tm.some rfl
       · rw[decide_eq_false g1,if_neg (show¬((i:Int)=(t.Text.length:Int)∨c>((t.Text[i]).toNat:Int)) from fun h=>h.elim hl g1)];by_cases g2:c<((t.Text[i]).toNat:Int)
         · rw[if_pos g2,if_pos g2];exact Tm.some rfl
         · rw[if_neg g2,if_neg g2];exact Tm.some (uw32_eq (z:=(i:Int)+1) (by omega) (by omega))
theorem pPassed_tm{t:TTest}{s:Int}(h:okT t=true)(hs:StOk t s):Tm (fun N=>pPassed N t s) (·=spF t s):=by
 have h16:=(okT_len h).2.2;have h17:2^(t.Text.length+1)≤2^17:=Nat.pow_le_pow_right (by decide) (by omega);unfold pPassed spF;by_cases hk:t.Kind=1
 · obtain⟨m,rfl,hm⟩:=hs.lk hk;simp only[if_pos hk,chk_ok (show¬(t.Text.length:Int)<0 by omega),Option.bind_some,bt (m:=m) (i:=t.Text.length) (by omega) (by omega),Int.toNat_natCast];refine Tm.some ?_;cases m.testBit t.Text.length<;>rfl
 · simp only[if_neg hk];have e0:iw s=s:=by rcases hs.cm hk with h1|h1|h1<;>exact iw_eq (by omega) (by omega)
   rw[e0];by_cases h0:t.Kind=0
   · simp only[if_pos h0,Option.bind_some];exact Tm.some rfl
   · simp only[if_neg h0];by_cases h2:t.Kind=2
     · simp only[if_pos h2,or_if,Option.bind_some];exact Tm.some rfl
     · simp only[if_neg h2,or_if,Option.bind_some];exact Tm.some rfl
def run(t:TTest)(s:Int)(x:List Int):Int:=x.foldl (spN t) s
theorem run_ok{t:TTest}(h:okT t=true):∀{x:List Int} {s:Int},StOk t s→StOk t (run t s x)
 |[],_,hs=>hs
 |c::x,_,hs=>run_ok h (x:=x) (stN_ok c h hs)
def pas(t:TTest)(x:List UInt8):Bool:=spF t (run t (sp0 t) (sby x))
theorem run_snoc{t:TTest}{s:Int}{x:List Int}{c:Int}:run t s (x++[c])=spN t (run t s x) c:=by simp[run]
open Go Go.X
theorem clo_congr{p:List UInt8}{S S':Nat→Bool}:∀{i:Nat},(∀j,j≤i→S j=S' j)→clo p S i=clo p S' i
 |0,h=>h 0 (Nat.le_refl _)
 |i+1,h=>by rw[clo,clo,h (i+1) (Nat.le_refl _),clo_congr (i:=i) fun j hj=>h j (by omega)]
def sI(S:Nat→Bool)(n:Nat):List Int:=(List.range (n+1)).map fun i=>if S i then(1:Int)else 0
theorem sI_len{S:Nat→Bool}{n:Nat}:(sI S n).length=n+1:=by simp[sI]
theorem sI_get{S:Nat→Bool}{n i:Nat}(h:i≤n):(sI S n)[i]?=some (if S i then(1:Int)else 0):=by
 unfold sI;rw[List.getElem?_map,List.getElem?_range (by omega)];rfl
theorem sI_idx{S:Nat→Bool}{n i:Nat}(h:i≤n):idx (sI S n) (i:Int)=some (if S i then(1:Int)else 0):=idx_get (sI_get h)
theorem sI_congr{S S':Nat→Bool}{n:Nat}(h:∀i,i≤n→S i=S' i):sI S n=sI S' n:=by
 unfold sI;apply List.map_congr_left;intro i hi;rw[h i (by have:=List.mem_range.1 hi;omega)]
theorem sI_set{S:Nat→Bool}{n j:Nat}(h:j≤n):(sI S n).set j 1=sI (fun i=>S i||decide (i=j)) n:=by
 apply List.ext_getElem?;intro i;by_cases hi:i≤n
 · rw[sI_get hi,List.getElem?_set,sI_len];by_cases e:j=i
   · subst e;rw[if_pos rfl,if_pos (by omega)];simp
   · rw[if_neg e,sI_get hi,decide_eq_false (fun h=>e h.symm)];simp
 · rw[List.getElem?_eq_none (by rw[List.length_set,sI_len];omega),List.getElem?_eq_none (by rw[sI_len];omega)]
theorem sI_upd{S:Nat→Bool}{n j:Nat}(h:j≤n):upd1 (sI S n) (j:Int) 1=some (sI (fun i=>S i||decide (i=j)) n):=by
 rw[upd1_i (n:=j) rfl (by rw[sI_len];omega),sI_set h]
theorem bit1{b:Bool}:((if b=true then(1:Int)else 0)=1)=(b=true):=by cases b<;>simp
def enc(t:TTest)(s:Int):List UInt8:=if t.Kind=1 then bstr (sI s.toNat.testBit t.Text.length)else if s=100 then[60]else if s=101 then[62]else[61,UInt8.ofNat s.toNat]
theorem qClosed_tm{p:List UInt8}{S:Nat→Bool}(hp:p.length≤16):Tm (fun N=>qClosed N p (sI S p.length)) (fun r=>r.1=bstr (sI (clo p S) p.length)):=by
 unfold qClosed;refine Tm.eq (a:=sI (clo p S) p.length) ?_ (Tm.some rfl);refine Tm.up p.length (fun k s=>s.2=(k:Int)∧s.1=sI (fun i=>if i≤k then clo p S i else S i) p.length) ⟨rfl,sI_congr fun i _=>by
  by_cases h:i≤0
  · rw[if_pos h,Nat.le_zero.1 h];rfl
  · rw[if_neg h]⟩ ?_
 rintro k hk ⟨s,i⟩ ⟨hi,hs⟩;dsimp only at hi hs;subst hi;subst hs;unfold qClosed_b1;rcases Nat.lt_or_ge k p.length with hlt|hge
 · refine Tm.pos (by omega) ?_;simp only[sI_idx (show k≤p.length by omega),Option.bind_some,bit1,if_pos (Nat.le_refl k),idx_n hlt];cases hc:clo p S k with
   |true=>
    simp only[if_true,Option.bind_some,u8_37];by_cases h37:p[k]=37
    · simp only[decide_eq_true h37,if_true,iw_n (k:=k) (by omega),sI_idx (show k+1≤p.length by omega),Option.bind_some,sI_upd (show k+1≤p.length by omega)];refine Tm.some ⟨hlt,rfl,sI_congr fun i _=>?_⟩;have hp2:isP p[k]?=true:=by rw[List.getElem?_eq_getElem hlt,h37];rfl
      by_cases h1:i≤k
      · rw[if_pos h1,if_pos (by omega),decide_eq_false (by omega)];simp
      · rw[if_neg h1];by_cases h2:i=k+1
        · subst h2;rw[if_pos (Nat.le_refl _),decide_eq_true rfl,clo,hc,hp2];simp
        · rw[if_neg (by omega),decide_eq_false h2];simp
    · simp only[decide_eq_false h37,Bool.false_eq_true,if_false];refine Tm.some ⟨hlt,iw_n (by omega),sI_congr fun i _=>?_⟩;have hp2:isP p[k]?=false:=by rw[List.getElem?_eq_getElem hlt];exact decide_eq_false fun h=>h37 (Option.some.inj h)
      by_cases h1:i≤k
      · rw[if_pos h1,if_pos (by omega)]
      · rw[if_neg h1];by_cases h2:i=k+1
        · subst h2;rw[if_pos (Nat.le_refl _),clo,hp2];simp
        · rw[if_neg (by omega)]
   |false=>
    simp only[Bool.false_eq_true,if_false,Option.bind_some];refine Tm.some ⟨hlt,iw_n (by omega),sI_congr fun i _=>?_⟩;by_cases h1:i≤k
    · rw[if_pos h1,if_pos (by omega)]
    · rw[if_neg h1];by_cases h2:i=k+1
      · subst h2;rw[if_pos (Nat.le_refl _),clo,hc];simp
      · rw[if_neg (by omega)]
 · refine Tm.neg (by omega) (Tm.some ?_);have:k=p.length:=by omega
   subst this;exact sI_congr fun i hi=>by rw[if_pos hi]
def nxK(p:List UInt8)(S:Nat→Bool)(c:Int)(k j:Nat):Bool:=(decide (j<k)&&S j&&isP p[j]?)||(match j with|0=>false|i+1=>decide (i<k)&&S i&&hit p[i]? c)
theorem nxK_succ{p:List UInt8}{S:Nat→Bool}{c:Int}{k j:Nat}:nxK p S c (k+1) j=((nxK p S c k j||(decide (j=k)&&S k&&isP p[k]?))||(decide (j=k+1)&&S k&&hit p[k]? c)):=by
 unfold nxK;cases j with
 |zero=>
  by_cases h0:k=0
  · subst h0;simp
  · have e1:decide (0<k)=true:=decide_eq_true (by omega);have e2:decide (0=k)=false:=decide_eq_false (by omega);rw[e1,e2];simp
 |succ i=>
  dsimp only;by_cases e:i+1=k
  · subst e;have e1:decide (i+1<i+1)=false:=decide_eq_false (by omega);have e2:decide (i<i+1)=true:=decide_eq_true (by omega);have e3:decide (i+1<i+1+1)=true:=decide_eq_true (by omega);have e4:decide (i<i+1+1)=true:=decide_eq_true (by omega);have e5:decide (i+1=i+1+1)=false:=decide_eq_false (by omega);rw[e1,e2,e3,e4,e5,decide_eq_true rfl];simp only[Bool.false_and,Bool.true_and,Bool.false_or,Bool.or_false];exact Bool.or_comm _ _
  · by_cases e':i=k
    · subst e';have e1:decide (i+1<i)=false:=decide_eq_false (by omega);have e2:decide (i<i)=false:=decide_eq_false (by omega);have e3:decide (i+1=i)=false:=decide_eq_false (by omega);have e4:decide (i+1<i+1)=false:=decide_eq_false (by omega);have e5:decide (i<i+1)=true:=decide_eq_true (by omega);rw[e1,e2,e3,e4,e5,decide_eq_true rfl];simp
    · have e1:decide (i+1<k+1)=decide (i+1<k):=decide_eq_decide.2 (by omega);have e2:decide (i<k+1)=decide (i<k):=decide_eq_decide.2 (by omega);have e3:decide (i+1=k)=false:=decide_eq_false (by omega);have e4:decide (i+1=k+1)=false:=decide_eq_false (by omega);rw[e1,e2,e3,e4];simp
theorem nxK_last{p:List UInt8}{S:Nat→Bool}{c:Int}{j:Nat}(hj:j≤p.length):nxK p S c p.length j=nxs p S c j:=by
 unfold nxK nxs;have e0:(decide (j<p.length)&&S j&&isP p[j]?)=(S j&&isP p[j]?):=by
  by_cases hjl:j<p.length
  · rw[decide_eq_true hjl];simp
  · rw[List.getElem?_eq_none (by omega)];simp[isP]
 rw[e0];cases j with
 |zero=>rfl
 |succ i=>
  have:decide (i<p.length)=true:=decide_eq_true (by omega);simp only[this,Bool.true_and]
theorem bstr_idx{S:Nat→Bool}{n i:Nat}(h:i≤n):idx (bstr (sI S n)) (i:Int)=some (if S i then(1:UInt8)else 0):=by
 refine idx_get ?_;unfold bstr;rw[List.getElem?_map,sI_get h];cases S i<;>rfl
theorem ubit1{b:Bool}:(((if b=true then(1:UInt8)else 0).toNat:Int)=1)=(b=true):=by cases b<;>simp
theorem qStep_b1_tm{t:TTest}{S:Nat→Bool}{c:Int}(hp:t.Text.length≤16):Tm (fun N=>loopM (qStep_b1 N c (bstr (sI S t.Text.length)) t) N (sI (fun _=>false) t.Text.length,0)) (·=sI (nxs t.Text S c) t.Text.length):=by
 generalize hx:t.Text=p at*;refine Tm.up p.length (fun k s=>s.2=(k:Int)∧s.1=sI (nxK p S c k) p.length) ⟨rfl,sI_congr fun i _=>by cases i<;>simp[nxK]⟩ ?_;rintro k hk ⟨s,i⟩ ⟨hi,hs⟩;dsimp only at hi hs;subst hi;subst hs;unfold qStep_b1;rw[hx];rcases Nat.lt_or_ge k p.length with hlt|hge
 · refine Tm.pos (by omega) ?_;have hpk:p[k]?=some p[k]:=List.getElem?_eq_getElem hlt;simp only[bstr_idx (show k≤p.length by omega),Option.bind_some,ubit1,idx_n hlt,u8_37,u8_95];cases hS:S k with
   |false=>
    simp only[Bool.false_eq_true,if_false,Option.bind_some];refine Tm.some ⟨hlt,iw_n (by omega),sI_congr fun i _=>?_⟩;rw[nxK_succ,hS];simp
   |true=>
    simp only[if_true,Option.bind_some];by_cases h37:p[k]=37
    · have e1:isP p[k]?=true:=by rw[hpk,h37];rfl
      have e2:hit p[k]? c=false:=by rw[hpk];simp[hit,h37]
      have n95:¬p[k]=95:=by rw[h37];decide
      simp only[decide_eq_true h37,if_true,sI_idx (show k≤p.length by omega),Option.bind_some,sI_upd (show k≤p.length by omega),if_neg n95,h37];have e3:(if(((37:UInt8).toNat:Int)=c)then some (decide (c≠37))else some false)=some false:=by
       by_cases h:(((37:UInt8).toNat:Int)=c)
       · rw[if_pos h,←h];rfl
       · rw[if_neg h]
      rw[e3];simp only[Option.bind_some,Bool.false_eq_true,if_false,if_neg (show¬(37:UInt8)=95 by decide)];refine Tm.some ⟨hlt,iw_n (by omega),sI_congr fun i _=>?_⟩;rw[nxK_succ,hS,e1,e2];simp
    · have e1:isP p[k]?=false:=by rw[hpk];exact decide_eq_false fun h=>h37 (Option.some.inj h)
      have e2:(if p[k]=95 then some true else if(((p[k]).toNat:Int)=c)then some (decide (c≠37))else some false)=some (hit p[k]? c):=by
       rw[hpk];by_cases g1:p[k]=95
       · rw[if_pos g1];simp[hit,g1]
       · rw[if_neg g1];by_cases g2:((p[k]).toNat:Int)=c
         · rw[if_pos g2];have:c≠37:=fun h=>h37 (u8_37.1 (g2.trans h));simp[hit,g1,g2,h37,this]
         · rw[if_neg g2];simp[hit,g1,g2]
      simp only[decide_eq_false h37,Bool.false_eq_true,if_false,Option.bind_some];rw[e2];simp only[Option.bind_some];cases hh:hit p[k]? c with
      |true=>
       simp only[if_true,iw_n (k:=k) (by omega),sI_idx (show k+1≤p.length by omega),Option.bind_some,sI_upd (show k+1≤p.length by omega)];refine Tm.some ⟨hlt,rfl,sI_congr fun i _=>?_⟩;rw[nxK_succ,hS,e1,hh];simp
      |false=>
       simp only[Bool.false_eq_true,if_false];refine Tm.some ⟨hlt,iw_n (by omega),sI_congr fun i _=>?_⟩;rw[nxK_succ,hS,e1,hh];simp
 · refine Tm.neg (by omega) (Tm.some ?_);have:k=p.length:=by omega
   subst this;exact sI_congr fun i hi=>nxK_last hi
theorem mk1_sI{n:Nat}(h:n≤16):mk1 (α:=Int) 1 0 (iw ((n:Int)+1))=some (sI (fun _=>false) n):=by
 rw[iw_n (by omega),mk1_ok (n:=n+1) rfl (by omega) (by decide)];congr 1;apply List.ext_getElem?;intro i;by_cases hi:i≤n
 · rw[sI_get hi,List.getElem?_replicate,if_pos (by omega)];rfl
 · rw[List.getElem?_eq_none (by rw[List.length_replicate];omega),List.getElem?_eq_none (by rw[sI_len];omega)]
theorem enc_like{t:TTest}(hk:t.Kind=1){S:Nat→Bool}:enc t ((bits (clo t.Text S) (t.Text.length+1):Nat):Int)=bstr (sI (clo t.Text S) t.Text.length):=by
 unfold enc;rw[if_pos hk,Int.toNat_natCast];congr 1;exact sI_congr fun i hi=>by rw[bits_test,decide_eq_true (by omega)];rfl
theorem qStart_tm{t:TTest}(h:okT t=true):Tm (fun N=>qStart N t) (·=enc t (sp0 t)):=by
 unfold qStart sp0;have h16:=(okT_len h).2.2;by_cases hk:t.Kind=1
 · simp only[hk,ne_eq,not_true_eq_false,if_false,if_true];rw[mk1_sI h16];simp only[Option.bind_some];rw[show(0:Int)=((0:Nat):Int) from rfl,sI_idx (Nat.zero_le _)];simp only[Option.bind_some];rw[sI_upd (Nat.zero_le _)];simp only[Option.bind_some];refine(qClosed_tm h16).bind fun r hr=>Tm.some ?_;rw[hr,enc_like hk];congr 1;refine sI_congr fun i _=>clo_congr fun j _=>?_;rw[Bool.false_or];cases j with
   |zero=>rfl
   |succ j=>simp[Nat.testBit_succ]
 · simp only[ne_eq,hk,not_false_eq_true,if_true,if_false];refine Tm.some ?_;unfold enc;rw[if_neg hk];rfl
theorem qStep_tm{t:TTest}{s c:Int}(h:okT t=true)(hs:StOk t s):Tm (fun N=>qStep N t (enc t s) c) (·=enc t (spN t s c)):=by
 unfold qStep;have h16:=(okT_len h).2.2;by_cases hk:t.Kind=1
 · obtain⟨m,rfl,hm⟩:=hs.lk hk;simp only[hk,if_true];rw[mk1_sI h16];simp only[Option.bind_some];have e:enc t (m:Int)=bstr (sI m.testBit t.Text.length):=by unfold enc;rw[if_pos hk];rfl
   rw[e];refine(qStep_b1_tm h16).eq ?_;refine(qClosed_tm h16).bind fun r hr=>Tm.some ?_;rw[hr];unfold spN;rw[if_pos hk,enc_like hk];congr 1;refine sI_congr fun i hi=>clo_congr fun j hj=>?_;rw[bits_test,decide_eq_true (by omega)];rfl
 · simp only[hk,if_false];have hN:spN t s c=cmpN t.Text s c:=by unfold spN;rw[if_neg hk]
   rw[hN];unfold enc;rw[if_neg hk,if_neg hk];rcases hs.cm hk with h1|h1|h1
   · subst h1;rw[if_pos rfl];exact Tm.step (a:=60) rfl (Tm.some rfl)
   · subst h1;rw[if_neg (by decide),if_pos rfl];exact Tm.step (a:=62) rfl (Tm.some rfl)
   · rw[if_neg (show¬s=100 by omega),if_neg (show¬s=101 by omega)];obtain⟨i,rfl⟩:=Int.eq_ofNat_of_zero_le h1.1;rw[Int.toNat_natCast];have hi:(UInt8.ofNat i).toNat=i:=by simp;omega
     refine Tm.step (a:=61) rfl (Tm.neg (by decide) ?_);refine Tm.step (a:=UInt8.ofNat i) rfl ?_;rw[hi,show iw (i:Int)=(i:Int) from iw_eq (by omega) (by omega)];unfold cmpN;rw[if_neg (show¬(i:Int)≥100 by omega)];by_cases hl:(i:Int)=(t.Text.length:Int)
     · simp only[if_pos hl,Option.bind_some,if_true];rw[if_pos (show(i:Int)=(t.Text.length:Int)∨c>((t.Text.getD ((i:Int)).toNat 0).toNat:Int) from .inl hl)];exact Tm.some rfl
     · have hlt:i<t.Text.length:=by omega
       have eg:t.Text.getD i 0=t.Text[i]:=by rw[List.getD_eq_getElem?_getD,List.getElem?_eq_getElem hlt];rfl
       simp only[if_neg hl,idx_n hlt,Option.bind_some,Int.toNat_natCast,eg];by_cases g1:c>((t.Text[i]).toNat:Int)
       · rw[decide_eq_true g1,if_pos (show(i:Int)=(t.Text.length:Int)∨c>((t.Text[i]).toNat:Int) from .inr g1)];exact Tm.some rfl
       · rw[decide_eq_false g1,if_neg (show¬((i:Int)=(t.Text.length:Int)∨c>((t.Text[i]).toNat:Int)) from fun h=>h.elim hl g1)];by_cases g2:c<((t.Text[i]).toNat:Int)
         · rw[if_pos g2,if_pos g2];exact Tm.some rfl
         · rw[if_neg g2,if_neg g2,if_neg (show¬(i:Int)+1=100 by omega),if_neg (show¬(i:Int)+1=101 by omega)];have e1:uw8 (iw ((i:Int)+1))=((i+1:Nat):Int):=by rw[iw_n (by omega)];exact uw8_eq (by omega) (by omega)
           rw[e1];refine Tm.some ?_;show[61]++bstr [((i+1:Nat):Int)]=_;rw[show(i:Int)+1=((i+1:Nat):Int) from rfl];rfl
theorem qFinal_tm{t:TTest}{s:Int}(h:okT t=true)(hs:StOk t s):Tm (fun N=>qFinal N t (enc t s)) (·=spF t s):=by
 unfold qFinal spF;have hok:=okT_len h;have h16:=hok.2.2;by_cases hk:t.Kind=1
 · obtain⟨m,rfl,hm⟩:=hs.lk hk;have e:enc t (m:Int)=bstr (sI m.testBit t.Text.length):=by unfold enc;rw[if_pos hk];rfl
   simp only[hk,if_true,e];rw[bstr_idx (Nat.le_refl _)];simp only[Option.bind_some,ubit1,Int.toNat_natCast];refine Tm.some ?_;cases m.testBit t.Text.length<;>rfl
 · unfold enc;simp only[hk,if_false];have hkk:t.Kind=0∨t.Kind=2∨t.Kind=3:=by omega
   rcases hs.cm hk with h1|h1|h1
   · subst h1;have a:¬((100:Int)=(t.Text.length:Int)):=by omega
     rcases hkk with g|g|g<;>rw[g]<;>refine Tm.some ?_<;>simp[a]
   · subst h1;have a:¬((101:Int)=(t.Text.length:Int)):=by omega
     have b:¬((101:Int)<(t.Text.length:Int)):=by omega
     have c:¬((101:Int)≤(t.Text.length:Int)):=by omega
     rcases hkk with g|g|g<;>rw[g]<;>refine Tm.some ?_<;>simp[a,b,c]
   · rw[if_neg (show¬s=100 by omega),if_neg (show¬s=101 by omega)];obtain⟨i,rfl⟩:=Int.eq_ofNat_of_zero_le h1.1;rw[Int.toNat_natCast];have hi:(UInt8.ofNat i).toNat=i:=by simp;omega
     have e0:idx ([61,UInt8.ofNat i]:List UInt8) 0=some 61:=rfl;have e1:idx ([61,UInt8.ofNat i]:List UInt8) 1=some (UInt8.ofNat i):=rfl;have e2:iw (i:Int)=(i:Int):=iw_eq (by omega) (by omega);have n100:¬(i:Int)=100:=by omega
     have ok1:((UInt8.toNat 61:Int))=61:=rfl;simp only[e0,e1,hi,e2,Option.bind_some,ok1,if_true,if_neg (show¬(61:Int)=60 by decide)];by_cases hl:(i:Int)=(t.Text.length:Int)
     · have l1:¬(i:Int)<(t.Text.length:Int):=by omega
       have l2:(i:Int)≤(t.Text.length:Int):=by omega
       have m1:¬(t.Text.length:Int)=100:=by omega
       have m2:¬t.Text.length=100:=by omega
       rcases hkk with g|g|g<;>rw[g]<;>simp[hl,m1,m2]<;>first|exact Tm.some rfl|(refine Tm.some ?_;simp)
     · have l1:(i:Int)<(t.Text.length:Int):=by omega
       have l2:(i:Int)≤(t.Text.length:Int):=by omega
       have hl':¬i=t.Text.length:=by omega
       have l1':i<t.Text.length:=by omega
       have l2':i≤t.Text.length:=by omega
       rcases hkk with g|g|g<;>rw[g]<;>simp[hl,hl',l1',l2',n100]<;>first|exact Tm.some rfl|(refine Tm.some ?_;simp)
theorem qPasses_tm{t:TTest}{x:List UInt8}(h:okT t=true)(hx:x.length≤Bg):Tm (fun N=>qPasses N t x) (·=pas t x):=by
 have hb:Bg=9223372036854775807:=rfl;unfold qPasses;refine(qStart_tm h).eq ?_;have hl:(sby x).length=x.length:=sby_len x;refine Tm.eq (a:=enc t (run t (sp0 t) (sby x))) ?_ ((qFinal_tm h (run_ok h (st0_ok h))).eq (Tm.some rfl));refine Tm.up x.length (fun k s=>s.2=(k:Int)∧s.1=enc t (run t (sp0 t) ((sby x).take k))) ⟨rfl,rfl⟩ ?_;rintro k hk ⟨s,i⟩ ⟨hi,hs⟩;dsimp only at hi hs;subst hi;subst hs;unfold qPasses_b1;rcases Nat.lt_or_ge k x.length with hlt|hge
 · refine Tm.pos (by omega) (Tm.step (idx_n hlt) ?_);refine(qStep_tm h (run_ok h (st0_ok h))).eq (Tm.some ⟨hlt,iw_n (by omega),?_⟩);rw[←run_snoc];have:((x[k]).toNat:Int)=(sby x)[k]'(by omega):=by simp[sby]
   rw[this,List.take_append_getElem]
 · refine Tm.neg (by omega) (Tm.some ?_);show enc _ _=_;rw[List.take_of_length_le (by omega)]
open Go Go.X
def gL(p:TProb)(x:List (List UInt8))(i:Nat):Bool:=decide (p.Min.getD i 0≤((x.getD i []).length:Int)∧((x.getD i []).length:Int)≤p.Max.getD i 0)&&(x.getD i []).all prn
def gT(x:List (List UInt8))(t:TTest):Bool:=pas t (x.getD t.Var.toNat [])
def gS(x:List (List UInt8))(e:Arr2Int):Bool:=decide (x.getD e.e0.toNat []=x.getD e.e1.toNat [])
def gD(x:List (List UInt8))(e:Arr2Int):Bool:=!gS x e
def sat(p:TProb)(x:List (List UInt8)):Bool:=decide (x.length=p.Min.length)&&(List.range x.length).all (gL p x)&&p.Tests.all (gT x)&&p.Same.all (gS x)&&p.Different.all (gD x)
structure OkP (p:TProb):Prop where
 len:p.Max.length=p.Min.length
 le:p.Min.length≤128
 mn:∀k∈p.Min,0≤k∧k≤16
 mx:∀k∈p.Max,0≤k∧k≤16
 ts:∀t∈p.Tests,okT t=true∧0≤t.Var∧t.Var<p.Min.length
 sm:∀e∈p.Same,(0≤e.e0∧e.e0<p.Min.length)∧0≤e.e1∧e.e1<p.Min.length
 df:∀e∈p.Different,(0≤e.e0∧e.e0<p.Min.length)∧0≤e.e1∧e.e1<p.Min.length
section
variable {p:TProb} {x:List (List UInt8)}
structure Lx (x:List (List UInt8)):Prop where
 a:x.length≤Bg
 b:∀s∈x,s.length≤Bg
theorem rSatisfies_tm(h:OkP p)(hl:Lim p)(hx:Lx x):Tm (fun N=>rSatisfies N p x) (·=sat p x):=by
 have hb:Bg=9223372036854775807:=rfl;have hxa:=hx.a;unfold rSatisfies;by_cases h0:x.length=p.Min.length
 · simp only[show((x.length:Int)≠(p.Max.length:Int))=False by simp[h0,h.len],if_false];refine(Tm.allN (b:=fun N=>rSatisfies_b1 N p x) x.length (gL p x) (by omega) (fun k hk=>?_) ?_).eq ?_
   · unfold rSatisfies_b1;refine Tm.pos (by omega) ?_;have h1:k<p.Min.length:=by omega
     have h2:k<p.Max.length:=by rw[h.len];exact h1
     simp only[idx_n hk,idx_n h1,idx_n h2,Option.bind_some];have hs:=hx.b _ (List.getElem_mem hk);have e:gL p x k=(decide (p.Min[k]≤(x[k].length:Int)∧(x[k].length:Int)≤p.Max[k])&&x[k].all prn):=by
      unfold gL;rw[getD_n hk,getD_n h1,getD_n h2]
     rw[e];by_cases h3:(x[k].length:Int)<p.Min[k]
     · simp only[if_pos h3,Option.bind_some,if_true];rw[decide_eq_false (by omega)];exact Tm.some rfl
     · simp only[if_neg h3];by_cases h4:(x[k].length:Int)>p.Max[k]
       · simp only[if_pos h4,Option.bind_some,if_true];rw[decide_eq_false (by omega)];exact Tm.some rfl
       · simp only[if_neg h4];rw[decide_eq_true (by omega),Bool.true_and];have:=(qPrintable_tm hs).eq (g:=fun _ r=>some (!r)) (R:=(·=!x[k].all prn)) (Tm.some rfl);refine this.eq ?_;cases x[k].all prn<;>exact Tm.some rfl
   · unfold rSatisfies_b1;exact Tm.neg (by omega) (Tm.some rfl)
   · cases g1:(List.range x.length).all (gL p x)with
     |false=>exact Tm.some (by simp[sat,g1])
     |true=>
      refine(Tm.allL (b:=fun N=>rSatisfies_b2 N p x) p.Tests (gT x) (by have:=hl.c;omega) (fun k hk=>?_) ?_).eq ?_
      · unfold rSatisfies_b2;refine Tm.pos (by omega) (Tm.step (idx_n hk) (Tm.step (idx_n hk) ?_));obtain⟨ho,hv⟩:=h.ts _ (List.getElem_mem hk);obtain⟨v,e,hv⟩:=var_n hv;have e':p.Tests[k].Var.toNat=v:=by omega
        rw[e];refine Tm.step (idx_n (by omega)) ?_;refine(qPasses_tm ho (hx.b _ (List.getElem_mem _))).eq ?_;unfold gT;rw[e',getD_n (by omega:v<x.length)];cases pas p.Tests[k] x[v]<;>exact Tm.some rfl
      · unfold rSatisfies_b2;exact Tm.neg (by omega) (Tm.some rfl)
      · cases g2:p.Tests.all (gT x)with
        |false=>exact Tm.some (by simp[sat,g2])
        |true=>
         refine(Tm.allL (b:=fun N=>rSatisfies_b3 N p x) p.Same (gS x) (by have:=hl.d;omega) (fun k hk=>?_) ?_).eq ?_
         · unfold rSatisfies_b3;refine Tm.pos (by omega) ?_;obtain⟨hv,hw⟩:=h.sm _ (List.getElem_mem hk);obtain⟨v,e,hv⟩:=var_n hv;obtain⟨u,e2,hu⟩:=var_n hw;have e':p.Same[k].e0.toNat=v:=by omega
           have e2':p.Same[k].e1.toNat=u:=by omega
           simp only[idx_n hk,Option.bind_some,e,e2];refine Tm.step (idx_n (by omega)) (Tm.step (idx_n (by omega)) ?_);unfold gS;rw[e',e2',getD_n (by omega:v<x.length),getD_n (by omega:u<x.length)];by_cases g:x[v]=x[u]
           · rw[if_neg (fun h=>h g),decide_eq_true g];exact Tm.some rfl
           · rw[if_pos g,decide_eq_false g];exact Tm.some rfl
         · unfold rSatisfies_b3;exact Tm.neg (by omega) (Tm.some rfl)
         · cases g3:p.Same.all (gS x)with
           |false=>exact Tm.some (by simp[sat,g3])
           |true=>
            refine(Tm.allL (b:=fun N=>rSatisfies_b4 N p x) p.Different (gD x) (by have:=hl.e;omega) (fun k hk=>?_) ?_).eq ?_
            · unfold rSatisfies_b4;refine Tm.pos (by omega) ?_;obtain⟨hv,hw⟩:=h.df _ (List.getElem_mem hk);obtain⟨v,e,hv⟩:=var_n hv;obtain⟨u,e2,hu⟩:=var_n hw;have e':p.Different[k].e0.toNat=v:=by omega
              have e2':p.Different[k].e1.toNat=u:=by omega
              simp only[idx_n hk,Option.bind_some,e,e2];refine Tm.step (idx_n (by omega)) (Tm.step (idx_n (by omega)) ?_);unfold gD gS;rw[e',e2',getD_n (by omega:v<x.length),getD_n (by omega:u<x.length)];by_cases g:x[v]=x[u]
              · rw[if_pos g,decide_eq_true g];exact Tm.some rfl
              · rw[if_neg g,decide_eq_false g];exact Tm.some rfl
            · unfold rSatisfies_b4;exact Tm.neg (by omega) (Tm.some rfl)
            · cases g4:p.Different.all (gD x)with
              |false=>exact Tm.some (by simp[sat,g4])
              |true=>exact Tm.some (by simp[sat,h0,g1,g2,g3,g4];simpa[h0]using g1)
 · simp only[show((x.length:Int)≠(p.Max.length:Int))=True by simp[h.len];omega,if_true];exact Tm.some (by simp[sat,h0])
structure Lms (p:TProb):Prop where
 a:p.Min.length≤1000
 b:p.Max.length≤1000
 c:p.Tests.length≤1000
 d:p.Same.length≤1000
 e:p.Different.length≤1000
end
open Go Go.X
def lk:List UInt8→List UInt8→Bool
 |[],x=>x.isEmpty
 |b::p,x=>if b=37 then(List.range (x.length+1)).any fun i=>lk p (x.drop i)else match x with
  |[]=>false
  |c::y=>(decide (b=95)||decide (b=c))&&lk p y
def acc(p:List UInt8)(S:Nat→Bool):List Int→Bool
 |[]=>S p.length
 |c::x=>acc p (clo p (nxs p S c)) x
def cm:List UInt8→List UInt8→Int
 |[],[]=>0
 |[],_::_=>-1
 |_::_,[]=>1
 |c::x,b::q=>if c.toNat<b.toNat then-1 else if b.toNat<c.toNat then 1 else cm x q
def cst(n:Nat)(s v:Int):Prop:=(v=1∧s=101)∨(v=-1∧(s=100∨(0≤s∧s<n)))∨(v=0∧s=n)
def mean(t:TTest)(x:List UInt8):Bool:= !((if t.Kind=1 then lk t.Text x else if t.Kind=0 then decide (x=t.Text)else if t.Kind=2 then decide (cm x t.Text<0)else decide (cm x t.Text≤0))==t.Negated)
open Go Go.X
def vOk(v:RVal)(x:RVar):Prop:=(v.Kind=0∧v.Int=0∧v.Text=[]∧x.Nullable=true)∨(v.Kind=1∧v.Text=[]∧x.Ty=1∧x.Low≤v.Int∧v.Int≤x.High)∨(v.Kind=2∧v.Int=0∧x.Ty=2∧v.Text.all prn=true∧v.Text.length≤16∧(v.Text.length:Int)≤x.Max)
structure RowOk (R:List RVal)(l:List RVar):Prop where
 len:R.length=l.length
 at':∀i (h:i<R.length) (h':i<l.length),vOk R[i] l[i]
open Go Go.X
abbrev W32:Int:=4294967296
theorem w32_pos:(1:Int)<W32:=by decide
theorem cloneU32_tm{s:List Int}(hl:s.length≤35184372088832):Tm (fun N=>cloneU32 N s) (fun r=>r=s):=by
 unfold cloneU32;exact Tm.step (apnd_ok (by simp only[List.length_nil];omega) (by decide)) (Tm.pure rfl)
theorem btrim_tm{d:List Int}(hd:InB W32 d)(hl:d.length≤35184372088832):Tm (fun N=>btrim N d) (fun r=>Dg W32 r (val W32 d)∧r.length≤d.length):=by
 unfold btrim;refine Tm.bind (Q:=fun n:Int=>∃k:Nat,n=k∧k≤d.length∧(∀j,(hj:j<d.length)→k≤j→d[j]=0)∧(k=0∨∃hk:k-1<d.length,d[k-1]≠0))
  (Tm.loop (fun n:Int=>∃k:Nat,n=k∧k≤d.length∧∀j,(hj:j<d.length)→k≤j→d[j]=0) (fun n=>n.toNat) ⟨d.length,rfl,Nat.le_refl _,fun j h1 h2=>absurd h1 (by omega)⟩ ?_) ?_
 · rintro _ ⟨k,rfl,hk,h0⟩;dsimp only[btrim_b1];rcases Nat.eq_zero_or_pos k with rfl|hk0
   · refine Tm.bind (Q:=(·=false)) (Tm.neg (by omega) (Tm.pure rfl)) ?_;rintro _ rfl;exact Tm.neg (by simp) (Tm.pure ⟨0,rfl,hk,h0,.inl rfl⟩)
   · refine Tm.bind (Q:=(·=decide (d[k-1]=0))) (Tm.pos (by omega) (Tm.step (idx_i (n:=k-1) (by rw[iw_eq]<;>omega) (by omega)) (Tm.pure rfl))) ?_;rintro _ rfl;by_cases h:d[k-1]=0
     · refine Tm.pos (by simpa using h) (Tm.pure ⟨⟨k-1,by rw[iw_eq]<;>omega,by omega,fun j h1 h2=>?_⟩,?_⟩)
       · rcases Nat.eq_or_lt_of_le h2 with rfl|h3
         · exact h
         · exact h0 j h1 (by omega)
       · show(iw ((k:Int)-1)).toNat<((k:Int)).toNat;rw[iw_eq]<;>omega
     · exact Tm.neg (by simpa using h) (Tm.pure ⟨k,rfl,hk,h0,.inr ⟨by omega,h⟩⟩)
 · rintro _ ⟨k,rfl,hk,h0,h1⟩;refine Tm.step (cut_i (m:=0) (n:=k) rfl rfl (by omega) hk) ?_;refine Tm.bind (cloneU32_tm (by simp;omega)) ?_;rintro _ rfl;refine Tm.pure ⟨by simpa using dg_cut hk hd h0 h1,by simp;omega⟩
def bv(x:Big):Int:=if x.Negative=true then-val W32 x.Digits else val W32 x.Digits
structure Is (x:Big)(v:Int):Prop where
 dg:Dg W32 x.Digits v.natAbs
 neg:x.Negative=decide (v<0)
theorem Is.bv{x:Big}{v:Int}(h:Is x v):bv x=v:=by
 unfold D.bv;rw[h.neg,h.dg.val];by_cases hv:v<0
 · simp[hv];omega
 · simp[hv];omega
theorem Is.uniq{x y:Big}{v:Int}(h:Is x v)(h':Is y v):x=y:=by
 have h1:=h.dg.uniq w32_pos h'.dg;have h2:=h.neg.trans h'.neg.symm;cases x;cases y;simp_all
theorem bnormal_tm{neg:Bool}{d:List Int}(hd:InB W32 d)(hl:d.length≤35184372088832):Tm (fun N=>bnormal N neg d) (fun r=>Is r (if neg=true then-val W32 d else val W32 d)∧r.Digits.length≤d.length):=by
 unfold bnormal;refine Tm.bind (btrim_tm hd hl) ?_;rintro r ⟨hr,hl'⟩;have h0:=hr.nonneg (by decide);refine Tm.ite (fun h=>Tm.pure ?_) (fun h=>Tm.pure ?_)
 · have he:r=[]:=List.length_eq_zero_iff.1 (by omega);have hv:=(hr.zero (by decide)).1 he;refine⟨⟨?_,?_⟩,by simp⟩
   · simp only[hv];simp;exact Dg.nil
   · simp[hv]
 · have he:r≠[]:=fun e=>h (by simp[e]);have hv:val W32 d≠0:=fun e=>he ((hr.zero (by decide)).2 e);refine⟨⟨?_,?_⟩,hl'⟩
   · cases neg<;>simp<;>rw[show((val W32 d).natAbs:Int)=val W32 d by omega]<;>exact hr
   · cases neg<;>simp<;>omega
theorem bNormal_tm{x:Big}(hd:InB W32 x.Digits)(hl:x.Digits.length≤35184372088832):Tm (fun N=>bNormal N x) (fun r=>Is r (bv x)∧r.Digits.length≤x.Digits.length):=by
 unfold bNormal;exact Tm.bind (bnormal_tm hd hl) (fun r h=>Tm.pure h)
theorem bNeg_tm{x:Big}(hd:InB W32 x.Digits)(hl:x.Digits.length≤35184372088832):Tm (fun N=>bNeg N x) (fun r=>Is r (-bv x)∧r.Digits.length≤x.Digits.length):=by
 unfold bNeg;refine Tm.bind (bnormal_tm hd hl) (fun r h=>Tm.pure ?_);refine⟨?_,h.2⟩;have:=h.1;unfold bv;cases hx:x.Negative<;>rw[hx]at this<;>simpa using this
theorem bSign_tm{x:Big}(hd:InB W32 x.Digits)(hl:x.Digits.length≤35184372088832):Tm (fun N=>bSign N x) (fun r=>r=sgn (bv x) 0):=by
 unfold bSign;refine Tm.bind (bNormal_tm hd hl) ?_;rintro r ⟨hr,-⟩;have hz:=hr.dg.zero (by decide);refine Tm.ite (fun h=>Tm.pure ?_) (fun h=>?_)
 · have:=hz.1 (List.length_eq_zero_iff.1 (by omega));unfold sgn;rw[if_neg (by omega),if_neg (by omega)]
 · have:bv x≠0:=fun e=>h (by rw[hz.2 (by omega)];rfl);refine Tm.ite (fun h'=>Tm.pure ?_) (fun h'=>Tm.pure ?_)
   · have:=hr.neg.symm.trans h';simp at this;unfold sgn;rw[if_pos (by omega)]
   · have:¬bv x<0:=fun e=>h' (by rw[hr.neg];simpa using e);unfold sgn;rw[if_neg (by omega),if_pos (by omega)]
theorem bOf_tm{n:Int}(h1:-9223372036854775808≤n)(h2:n≤9223372036854775807):Tm (fun N=>bOf N n) (fun r=>Is r n∧r.Digits.length≤2):=by
 unfold bOf;refine Tm.bind (Q:=(·=(n.natAbs:Int))) (Tm.ite (fun h=>Tm.pure ?_) (fun h=>Tm.pure ?_)) ?_
 · rw[uw_mod,uw_mod];omega
 · rw[uw_mod];omega
 rintro _ rfl;have hs:bshr .u64 (n.natAbs:Int) 32=(n.natAbs:Int)/4294967296:=by
  unfold bshr;rw[show((2:Int)^(min (32:Int).toNat IntKind.u64.bits))=4294967296 from rfl,Int.fdiv_eq_ediv_of_nonneg _ (by decide)]
 refine Tm.bind (bnormal_tm (d:=[uw32 (n.natAbs:Int),uw32 (bshr .u64 (n.natAbs:Int) 32)]) ?_ (by simp)) (fun r h=>Tm.pure ?_)
 · rw[hs,uw32_mod,uw32_mod];exact InB.cons (B:=4294967296) (by omega) (InB.cons (by omega) InB.nil)
 · refine⟨?_,h.2⟩;have hv:val W32 [uw32 (n.natAbs:Int),uw32 (bshr .u64 (n.natAbs:Int) 32)]=n.natAbs:=by
    rw[hs,uw32_mod,uw32_mod];simp only[val,W32];omega
   have h:=h.1;rw[hv]at h;by_cases hn:n<0
   · simp only[hn,decide_true,if_true]at h;rwa[show-(n.natAbs:Int)=n by omega]at h
   · simp only[hn,decide_false,Bool.false_eq_true,if_false]at h;rwa[show(n.natAbs:Int)=n by omega]at h
theorem clamp_sgn{n:Int}:imin (imax n (-1)) 1=sgn n 0:=by
 unfold imin imax sgn;by_cases h:-1>n<;>simp only[h,if_true,if_false]<;>(repeat' split)<;>omega
theorem bcompare_tm{a b:List Int}(ha:InB W32 a)(hb:InB W32 b)(na:Nrm a)(nb:Nrm b)(hl:a.length≤35184372088832)(hl':b.length≤35184372088832):Tm (fun N=>bcompare N a b) (fun r=>r=sgn (val W32 a) (val W32 b)):=by
 unfold bcompare;refine Tm.ite (fun h=>?_) (fun h=>?_)
 · unfold bsign;refine Tm.step rfl (Tm.pure ?_);rw[iw_eq (by omega) (by omega),clamp_sgn];unfold sgn;rcases Nat.lt_or_ge a.length b.length with h'|h'
   · have:=len_cmp w32_pos ha hb nb h';rw[if_pos this];(repeat' split)<;>omega
   · have:=len_cmp w32_pos hb ha na (by omega);rw[if_neg (by omega),if_pos this];(repeat' split)<;>omega
 · have hle:a.length=b.length:=by omega
   refine Tm.bind (Q:=fun r:Sum Unit Int=>(match r with|.inl _=>0|.inr z=>z)=sgn (val W32 a) (val W32 b))
    (Tm.loop (fun i:Int=>∃n:Nat,i=(n:Int)-1∧n≤a.length∧a.drop n=b.drop n) (fun i=>(i+1).toNat) ⟨a.length,by rw[iw_eq]<;>omega,Nat.le_refl _,by rw[List.drop_of_length_le (Nat.le_refl _),List.drop_of_length_le (by omega)]⟩ ?_) ?_
   · rintro _ ⟨n,rfl,hn,hd⟩;dsimp only[bcompare_b1];refine Tm.ite (fun h1=>?_) (fun h1=>?_)
     · have hna:n-1<a.length:=by omega
       have hnb:n-1<b.length:=by omega
       refine Tm.step (idx_i (n:=n-1) (by omega) hna) (Tm.step (idx_i (n:=n-1) (by omega) hnb) (Tm.ite (fun h2=>?_) (fun h2=>?_)))
       · have:=val_cmp w32_pos ha hb hle hna (by rw[show n-1+1=n by omega];exact hd) h2;refine Tm.pure ?_;show(-1:Int)=_;unfold sgn;rw[if_pos this]
       · refine Tm.step (idx_i (n:=n-1) (by omega) hna) (Tm.step (idx_i (n:=n-1) (by omega) hnb) (Tm.ite (fun h3=>?_) (fun h3=>?_)))
         · have:=val_cmp w32_pos hb ha hle.symm hnb (by rw[show n-1+1=n by omega];exact hd.symm) h3;refine Tm.pure ?_;show(1:Int)=_;unfold sgn;rw[if_neg (by omega),if_pos this]
         · refine Tm.pure ⟨⟨n-1,by rw[iw_eq]<;>omega,by omega,?_⟩,?_⟩
           · rw[List.drop_eq_getElem_cons hna,List.drop_eq_getElem_cons hnb,show n-1+1=n by omega,hd,show a[n-1]=b[n-1] by omega]
           · show(iw ((n:Int)-1-1)+1).toNat<((n:Int)-1+1).toNat;rw[iw_eq]<;>omega
     · have:n=0:=by omega
       subst this;refine Tm.pure ?_;show(0:Int)=_;have:a=b:=by simpa using hd
       rw[this];unfold sgn;rw[if_neg (by omega),if_neg (by omega)]
   · rintro(_|z) h<;>exact Tm.pure h
theorem digit_tm{d:List Int}(hd:InB W32 d){i:Nat}:Tm (fun N=>digit N d (i:Int)) (fun r=>r=d.getD i 0):=by
 unfold digit;have h0:=hd.getD (by decide) i;refine Tm.ite (fun h=>?_) (fun h=>Tm.pure ?_)
 · refine Tm.step (idx_ok (by omega)) (Tm.pure ?_);rw[List.getD_eq_getElem?_getD,List.getElem?_eq_getElem (by omega)]at*;simp only[Option.getD_some,W32]at*;rw[uw_mod];omega
 · rw[List.getD_eq_getElem?_getD,List.getElem?_eq_none (by omega)];rfl
theorem bshr32{x:Int}:bshr .u64 x 32=x/4294967296:=by
 unfold bshr;rw[show((2:Int)^(min (32:Int).toNat IntKind.u64.bits))=4294967296 from rfl,Int.fdiv_eq_ediv_of_nonneg _ (by decide)]
theorem bshr63{x:Int}:bshr .u64 x 63=x/9223372036854775808:=by
 unfold bshr;rw[show((2:Int)^(min (63:Int).toNat IntKind.u64.bits))=9223372036854775808 from rfl,Int.fdiv_eq_ediv_of_nonneg _ (by decide)]
theorem take_set{l:List Int}{n:Nat}{y:Int}(h:n<l.length):val W32 ((l.set n y).take (n+1))=val W32 (l.take n)+W32^n*y:=by
 rw[val_take,List.take_set_of_le (Nat.le_refl n),List.getD_eq_getElem?_getD,List.getElem?_set_self h];rfl
theorem bplus_tm{a b:List Int}(ha:InB W32 a)(hb:InB W32 b)(hl:a.length≤17592186044416)(hl':b.length≤17592186044416):Tm (fun N=>bplus N a b) (fun r=>InB W32 r∧val W32 r=val W32 a+val W32 b∧r.length=max a.length b.length+1):=by
 unfold bplus;have hi:iw (imax (a.length:Int) (b.length:Int)+1)=((max a.length b.length+1:Nat):Int):=by
  unfold imax;split<;>rw[iw_eq]<;>omega
 refine Tm.step (mk1_ok hi (by omega) (by decide)) ?_;generalize hL:max a.length b.length+1=L;refine Tm.bind (Q:=fun r=>InB W32 r∧val W32 r=val W32 a+val W32 b∧r.length=L)
  (Tm.loop (fun s:List Int×Int×Int=>∃n:Nat,s.2.2=n∧n≤L∧s.1.length=L∧InB W32 s.1∧0≤s.2.1∧s.2.1≤1∧val W32 (s.1.take n)+W32^n*s.2.1=val W32 (a.take n)+val W32 (b.take n)) (fun s=>L-s.2.2.toNat)
   ⟨0,rfl,Nat.zero_le _,by simp,InB.rep (by decide),by simp,by simp,by simp[val]⟩ ?_) (fun r h=>Tm.pure h)
 rintro⟨out,carry,i⟩ ⟨n,rfl,hn,ho,hB,h0,h1,hv⟩;dsimp only[bplus_b1]at*;simp only[List.length_replicate];refine Tm.ite (fun h=>?_) (fun h=>Tm.pure ?_)
 · refine Tm.bind (digit_tm ha) ?_;rintro x rfl;refine Tm.bind (digit_tm hb) ?_;rintro y rfl;refine Tm.step (idx_ok (by omega)) ?_;refine Tm.step (upd1_i rfl (by omega)) (Tm.pure ?_);have hx:=ha.getD (by decide) n;have hy:=hb.getD (by decide) n;generalize ex:a.getD n 0=x at*;generalize ey:b.getD n 0=y at*;have e1:uw (carry+uw (x+y))=carry+x+y:=by
    simp only[W32]at*;rw[uw_mod,uw_mod];omega
   rw[e1,bshr32,uw32_mod];refine⟨⟨n+1,?_,by omega,by simp;omega,hB.set (by simp only[W32];omega),?_,?_,?_⟩,?_⟩
   · show iw ((n:Int)+1)=_;rw[iw_eq]<;>omega
   · show 0≤(carry+x+y)/4294967296;omega
   · show(carry+x+y)/4294967296≤1;simp only[W32]at*;omega
   · show val W32 ((out.set n ((carry+x+y)%4294967296)).take (n+1))+W32^(n+1)*((carry+x+y)/4294967296)=_;rw[take_set (by omega),val_take,val_take,ex,ey,Int.pow_succ];have:=Int.emod_add_mul_ediv (carry+x+y) 4294967296;have hw:W32=4294967296:=rfl;grind
   · show L-(iw ((n:Int)+1)).toNat<L-((n:Int)).toNat;rw[iw_eq]<;>omega
 · have hnL:n=L:=by omega
   subst hnL;rw[List.take_of_length_le (by omega),List.take_of_length_le (by omega),List.take_of_length_le (by omega)]at hv;refine⟨hB,?_,ho⟩;show val W32 out=_;have l1:=val_lt (by decide) ha;have l2:=val_lt (by decide) hb;have l3:=val_nonneg (by decide) hB;have p1:=pow_mono (B:=W32) (by decide) (show a.length≤n-1 by omega);have p2:=pow_mono (B:=W32) (by decide) (show b.length≤n-1 by omega);have p3:W32^n=W32^(n-1)*W32:=by rw[←Int.pow_succ];congr 1;omega
   have p4:=pow_pos' (B:=W32) (by decide) (n-1);have hc:carry=0∨carry=1:=by omega
   rcases hc with rfl|rfl
   · omega
   · simp only[W32]at*;omega
theorem bminus_tm{a b:List Int}(ha:InB W32 a)(hb:InB W32 b)(hl:a.length≤17592186044416)(hl':b.length≤a.length)(hv:val W32 b≤val W32 a):Tm (fun N=>bminus N a b) (fun r=>InB W32 r∧val W32 r=val W32 a-val W32 b∧r.length=a.length):=by
 unfold bminus;refine Tm.step (mk1_ok rfl (by omega) (by decide)) ?_;generalize hL:a.length=L;refine Tm.bind (Q:=fun r=>InB W32 r∧val W32 r=val W32 a-val W32 b∧r.length=L)
  (Tm.loop (fun s:List Int×Int×Int=>∃n:Nat,s.2.2=n∧n≤L∧s.1.length=L∧InB W32 s.1∧0≤s.2.1∧s.2.1≤1∧val W32 (s.1.take n)=val W32 (a.take n)-val W32 (b.take n)+W32^n*s.2.1) (fun s=>L-s.2.2.toNat)
   ⟨0,rfl,Nat.zero_le _,by simp[hL],InB.rep (by decide),by simp,by simp,by simp[val]⟩ ?_) (fun r h=>Tm.pure h)
 rintro⟨out,borrow,i⟩ ⟨n,rfl,hn,ho,hB,h0,h1,hv'⟩;dsimp only[bminus_b1]at*;refine Tm.ite (fun h=>?_) (fun h=>Tm.pure ?_)
 · refine Tm.step (idx_ok (by omega)) ?_;refine Tm.bind (digit_tm hb) ?_;rintro y rfl;refine Tm.step (idx_ok (by omega)) ?_;refine Tm.step (upd1_i rfl (by omega)) (Tm.pure ?_);have hx:=ha.get (n:=n) (by omega);have hy:=hb.getD (by decide) n;have ex:a.getD n 0=a[n]'(by omega):=by rw[List.getD_eq_getElem?_getD,List.getElem?_eq_getElem (by omega)];rfl
   generalize a[n]'(by omega)=x at*;generalize ey:b.getD n 0=y at*;have e1:uw (uw (uw x-y)-borrow)=(x-y-borrow)%18446744073709551616:=by
    simp only[W32]at*;rw[uw_mod,uw_mod,uw_mod];omega
   rw[e1,bshr63,uw32_mod];simp only[W32]at hx hy;refine⟨⟨n+1,?_,by omega,by simp;omega,hB.set (by simp only[W32];omega),?_,?_,?_⟩,?_⟩
   · show iw ((n:Int)+1)=_;rw[iw_eq]<;>omega
   · show 0≤(x-y-borrow)%18446744073709551616/9223372036854775808;omega
   · show(x-y-borrow)%18446744073709551616/9223372036854775808≤1;omega
   · show val W32 ((out.set n ((x-y-borrow)%18446744073709551616%4294967296)).take (n+1))=_+W32^(n+1)*((x-y-borrow)%18446744073709551616/9223372036854775808);rw[take_set (by omega),val_take,val_take,ex,ey,Int.pow_succ];have hd:(x-y-borrow)%18446744073709551616%4294967296=x-y-borrow+W32*((x-y-borrow)%18446744073709551616/9223372036854775808):=by
      simp only[W32];omega
     rw[hd];grind
   · show L-(iw ((n:Int)+1)).toNat<L-((n:Int)).toNat;rw[iw_eq]<;>omega
 · have hnL:n=L:=by omega
   subst hnL;rw[List.take_of_length_le (by omega),List.take_of_length_le (by omega),List.take_of_length_le (by omega)]at hv';refine⟨hB,?_,ho⟩;show val W32 out=_;have l1:=val_lt (by decide) hB;rw[ho]at l1;have hc:borrow=0∨borrow=1:=by omega
   rcases hc with rfl|rfl
   · omega
   · simp only[W32]at*;omega
theorem Is.val_pos{x:Big}{v:Int}(h:Is x v):val W32 x.Digits=if v<0 then-v else v:=by rw[h.dg.val];split<;>omega
theorem bAdd_tm{a b:Big}(ha:InB W32 a.Digits)(hb:InB W32 b.Digits)(hl:a.Digits.length≤17592186044416)(hl':b.Digits.length≤17592186044416):
 Tm (fun N=>bAdd N a b) (fun r=>Is r (bv a+bv b)∧r.Digits.length≤max a.Digits.length b.Digits.length+1):=by
 unfold bAdd;refine Tm.bind (bNormal_tm ha (by omega)) ?_;rintro x ⟨hx,hxl⟩;refine Tm.bind (bNormal_tm hb (by omega)) ?_;rintro y ⟨hy,hyl⟩;have vx:=hx.val_pos;have vy:=hy.val_pos;have n1:=hx.neg;have n2:=hy.neg;refine Tm.ite (fun h=>?_) (fun h=>?_)
 · have hn:x.Negative=y.Negative:=by simpa using h
   refine Tm.bind (bplus_tm hx.dg.inB hy.dg.inB (by omega) (by omega)) ?_;rintro s ⟨hs,sv,sl⟩;refine Tm.bind (bnormal_tm hs (by omega)) (fun r hr=>Tm.pure ⟨?_,by omega⟩);have hr:=hr.1;rw[sv,vx,vy]at hr;by_cases p:bv a<0<;>by_cases q:bv b<0<;>simp only[p,q,decide_true,decide_false]at n1 n2 hn
   · simp only[n1,p,q,if_true]at hr;rwa[show-(-bv a+-bv b)=bv a+bv b by omega]at hr
   · rw[n1,n2]at hn;cases hn
   · rw[n1,n2]at hn;cases hn
   · simpa only[n1,p,q,if_false,Bool.false_eq_true]using hr
 · have hn:¬x.Negative=y.Negative:=by simpa using h
   refine Tm.bind (bcompare_tm hx.dg.inB hy.dg.inB hx.dg.nrm hy.dg.nrm (by omega) (by omega)) ?_;rintro c rfl;refine Tm.ite (fun hc=>?_) (fun hc=>?_)
   · have hlt:val W32 x.Digits<val W32 y.Digits:=by revert hc;unfold sgn;split<;>(try split)<;>omega
     have hle:x.Digits.length≤y.Digits.length:=by
      rcases Nat.lt_or_ge y.Digits.length x.Digits.length with h'|h'
      · have:=len_cmp w32_pos hy.dg.inB hx.dg.inB hx.dg.nrm h';omega
      · exact h'
     refine Tm.bind (bminus_tm hy.dg.inB hx.dg.inB (by omega) hle (by omega)) ?_;rintro s ⟨hs,sv,sl⟩;refine Tm.bind (bnormal_tm hs (by omega)) (fun r hr=>Tm.pure ⟨?_,by omega⟩);have hr:=hr.1;rw[sv,vx,vy]at hr;by_cases p:bv a<0<;>by_cases q:bv b<0<;>simp only[p,q,decide_true,decide_false]at n1 n2 hn
     · rw[n1,n2]at hn;exact absurd rfl hn
     · simp only[n2,p,q,if_true,if_false,Bool.false_eq_true]at hr;rwa[show bv b- -bv a=bv a+bv b by omega]at hr
     · simp only[n2,p,q,if_true,if_false]at hr;rwa[show-(-bv b-bv a)=bv a+bv b by omega]at hr
     · rw[n1,n2]at hn;exact absurd rfl hn
   · have hge:val W32 y.Digits≤val W32 x.Digits:=by revert hc;unfold sgn;split<;>(try split)<;>omega
     have hle:y.Digits.length≤x.Digits.length:=by
      rcases Nat.lt_or_ge x.Digits.length y.Digits.length with h'|h'
      · have:=len_cmp w32_pos hx.dg.inB hy.dg.inB hy.dg.nrm h';omega
      · exact h'
     refine Tm.bind (bminus_tm hx.dg.inB hy.dg.inB (by omega) hle hge) ?_;rintro s ⟨hs,sv,sl⟩;refine Tm.bind (bnormal_tm hs (by omega)) (fun r hr=>Tm.pure ⟨?_,by omega⟩);have hr:=hr.1;rw[sv,vx,vy]at hr;by_cases p:bv a<0<;>by_cases q:bv b<0<;>simp only[p,q,decide_true,decide_false]at n1 n2 hn
     · rw[n1,n2]at hn;exact absurd rfl hn
     · simp only[n1,p,q,if_true,if_false]at hr;rwa[show-(-bv a-bv b)=bv a+bv b by omega]at hr
     · simp only[n1,p,q,if_true,if_false,Bool.false_eq_true]at hr;rwa[show bv a- -bv b=bv a+bv b by omega]at hr
     · rw[n1,n2]at hn;exact absurd rfl hn
theorem bSub_tm{a b:Big}(ha:InB W32 a.Digits)(hb:InB W32 b.Digits)(hl:a.Digits.length≤17592186044416)(hl':b.Digits.length≤17592186044416):
 Tm (fun N=>bSub N a b) (fun r=>Is r (bv a-bv b)∧r.Digits.length≤max a.Digits.length b.Digits.length+1):=by
 unfold bSub;refine Tm.bind (bNeg_tm hb (by omega)) ?_;rintro y ⟨hy,hyl⟩;refine Tm.bind (bAdd_tm ha hy.dg.inB (by omega) (by omega)) (fun r h=>Tm.pure ⟨?_,by omega⟩);have:=h.1;rwa[hy.bv,←Int.sub_eq_add_neg]at this
theorem btimes_tm{a b:List Int}(ha:InB W32 a)(hb:InB W32 b)(hl:a.length≤17592186044416)(hl':b.length≤17592186044416):
 Tm (fun N=>btimes N a b) (fun r=>InB W32 r∧val W32 r=val W32 a*val W32 b∧r.length=a.length+b.length):=by
 unfold btimes;refine Tm.step (mk1_ok (n:=a.length+b.length) (by rw[iw_eq]<;>omega) (by omega) (by decide)) ?_;refine Tm.bind (Q:=fun r=>InB W32 r∧val W32 r=val W32 a*val W32 b∧r.length=a.length+b.length)
  (Tm.loop (fun s:List Int×Int=>∃n:Nat,s.2=n∧n≤a.length∧s.1.length=a.length+b.length∧InB W32 s.1∧val W32 s.1=val W32 (a.take n)*val W32 b∧∀k,n+b.length≤k→(hk:k<s.1.length)→s.1[k]=0) (fun s=>a.length-s.2.toNat)
   ⟨0,rfl,Nat.zero_le _,by simp,InB.rep (by decide),by simp[val,val_rep],by simp⟩ ?_) (fun r h=>Tm.pure h)
 rintro⟨out,i⟩ ⟨n,rfl,hn,ho,hB,hv,hz⟩;dsimp only[btimes_b1]at*;refine Tm.ite (fun h=>?_) (fun h=>Tm.pure ?_)
 · refine Tm.step (idx_ok (by omega)) ?_;have hx:=ha.get (n:=n) (by omega);have ex:a.getD n 0=a[n]'(by omega):=by rw[List.getD_eq_getElem?_getD,List.getElem?_eq_getElem (by omega)];rfl
   generalize a[n]'(by omega)=x at*;refine Tm.bind (Q:=fun r:List Int×Int=>InB W32 r.1∧r.1.length=a.length+b.length∧0≤r.2∧r.2<W32∧val W32 r.1+W32^(n+b.length)*r.2=val W32 (a.take n)*val W32 b+W32^n*x*val W32 b∧∀k,n+b.length≤k→(hk:k<r.1.length)→r.1[k]=0)
    (Tm.loop (fun s:List Int×Int×Int=>∃m:Nat,s.2.2=m∧m≤b.length∧s.1.length=a.length+b.length∧InB W32 s.1∧0≤s.2.1∧s.2.1<W32∧val W32 s.1+W32^(n+m)*s.2.1=val W32 (a.take n)*val W32 b+W32^n*x*val W32 (b.take m)∧∀k,n+b.length≤k→(hk:k<s.1.length)→s.1[k]=0) (fun s=>b.length-s.2.2.toNat)
     ⟨0,rfl,Nat.zero_le _,ho,hB,by simp,(by decide:(0:Int)<W32),by simpa[val]using hv,hz⟩ ?_) ?_
   · rintro⟨out1,carry,j⟩ ⟨m,rfl,hm,ho1,hB1,c0,c1,hv1,hz1⟩;dsimp only[btimes_b2]at*;refine Tm.ite (fun h1=>?_) (fun h1=>Tm.pure ?_)
     · refine Tm.step (idx_ok (by omega)) ?_;have hi:iw ((n:Int)+(m:Int))=((n+m:Nat):Int):=by rw[iw_eq]<;>omega
       have hy:=hb.get (n:=m) (by omega);have ey:b.getD m 0=b[m]'(by omega):=by rw[List.getD_eq_getElem?_getD,List.getElem?_eq_getElem (by omega)];rfl
       generalize b[m]'(by omega)=y at*;refine Tm.step (idx_i (n:=n+m) hi (by omega)) (Tm.step (idx_i (n:=n+m) hi (by omega)) (Tm.step (upd1_i (n:=n+m) hi (by omega)) (Tm.pure ?_)));have hz':=hB1.get (n:=n+m) (by omega);have hvs:=fun y'=>val_set (B:=W32) (l:=out1) (n:=n+m) (y:=y') (by omega);generalize out1[n+m]'(by omega)=z at*;have hxy:0≤x*y∧x*y≤4294967295*4294967295:=by
        refine⟨Int.mul_nonneg hx.1 hy.1,?_⟩;exact Int.mul_le_mul (by simp only[W32]at hx;omega) (by simp only[W32]at hy;omega) hy.1 (by decide)
       generalize exy:x*y=xy at*;have e1:uw (carry+uw (uw (uw x*uw y)+uw z))=carry+xy+z:=by
        simp only[W32]at*;rw[show uw x=x by rw[uw_mod];omega,show uw y=y by rw[uw_mod];omega,exy,uw_mod,uw_mod,uw_mod,uw_mod];omega
       rw[e1,bshr32,uw32_mod];simp only[W32]at hz' c1;refine⟨⟨m+1,?_,by omega,by simp;omega,hB1.set (by simp only[W32];omega),?_,?_,?_,?_⟩,?_⟩
       · show iw ((m:Int)+1)=_;rw[iw_eq]<;>omega
       · show 0≤(carry+xy+z)/4294967296;omega
       · show(carry+xy+z)/4294967296<W32;simp only[W32];omega
       · show val W32 (out1.set (n+m) ((carry+xy+z)%4294967296))+W32^(n+(m+1))*((carry+xy+z)/4294967296)=_;rw[hvs,val_take,ey,←Nat.add_assoc,Int.pow_succ];have:=Int.emod_add_mul_ediv (carry+xy+z) 4294967296;have hw:W32=4294967296:=rfl;have hp:W32^(n+m)=W32^n*W32^m:=Int.pow_add ..;grind
       · intro k hk hk';rw[List.getElem_set_ne (by omega)];exact hz1 k hk (by simpa using hk')
       · show b.length-(iw ((m:Int)+1)).toNat<b.length-((m:Int)).toNat;rw[iw_eq]<;>omega
     · have hmL:m=b.length:=by omega
       subst hmL;rw[List.take_of_length_le (Nat.le_refl _)]at hv1;exact⟨hB1,ho1,c0,c1,hv1,hz1⟩
   · rintro⟨out2,carry⟩ ⟨hB2,ho2,c0,c1,hv2,hz2⟩;dsimp only at*;have hi:iw ((n:Int)+(b.length:Int))=((n+b.length:Nat):Int):=by rw[iw_eq]<;>omega
     refine Tm.step (idx_i hi (by omega)) (Tm.step (upd1_i hi (by omega)) (Tm.pure ?_));have e1:uw32 carry=carry:=by rw[uw32_mod];simp only[W32]at c1;omega
     rw[e1];refine⟨⟨n+1,?_,by omega,by simp;omega,hB2.set ⟨c0,c1⟩,?_,?_⟩,?_⟩
     · show iw ((n:Int)+1)=_;rw[iw_eq]<;>omega
     · show val W32 (out2.set (n+b.length) carry)=_;rw[val_set (by omega),hz2 _ (Nat.le_refl _) (by omega),val_take,ex];grind
     · intro k hk hk';rw[List.getElem_set_ne (by omega)];exact hz2 k (by omega) (by simpa using hk')
     · show a.length-(iw ((n:Int)+1)).toNat<a.length-((n:Int)).toNat;rw[iw_eq]<;>omega
 · have hnL:n=a.length:=by omega
   subst hnL;rw[List.take_of_length_le (Nat.le_refl _)]at hv;exact⟨hB,hv,ho⟩
theorem bv_mul{a b:Big}:bv a*bv b=if(!(a.Negative==b.Negative))=true then-(val W32 a.Digits*val W32 b.Digits)else val W32 a.Digits*val W32 b.Digits:=by
 unfold bv;cases a.Negative<;>cases b.Negative<;>simp[Int.neg_mul,Int.mul_neg]
theorem bMul_tm{a b:Big}(ha:InB W32 a.Digits)(hb:InB W32 b.Digits)(hl:a.Digits.length≤8796093022208)(hl':b.Digits.length≤8796093022208):
 Tm (fun N=>bMul N a b) (fun r=>Is r (bv a*bv b)∧r.Digits.length≤a.Digits.length+b.Digits.length):=by
 unfold bMul;refine Tm.bind (btimes_tm ha hb (by omega) (by omega)) ?_;rintro s ⟨hs,sv,sl⟩;refine Tm.bind (bnormal_tm hs (by omega)) (fun r h=>Tm.pure ⟨?_,by omega⟩);rw[bv_mul,←sv];exact h.1
end Go.D

/- Plain theorems and definitions of this seat, several texts in one. -/
import Derived.Test.YtcakdidcpoolcaaGreatDoorAa
import Derived.Lib.ItoaNum
set_option linter.unusedVariables false
set_option linter.unusedSimpArgs false
set_option linter.unusedSectionVars false
namespace Go.D
open Go Go.X
structure Big where
 Negative:Bool
 Digits:(List Int)
 deriving DecidableEq
def rBig:Rep Big:=⟨2,fun H vs x=>∃v0,vs=[Value.bool x.Negative,v0]∧Rs (rInt .u32) H v0 x.Digits∧True,
 fun H H' vs x hle h=>by obtain⟨v0,h0,k0,-⟩:=h;exact⟨v0,h0,k0.mono hle,trivial⟩,
 fun H vs x h=>by obtain⟨v0,h0,k0,-⟩:=h;rw[h0];rfl,
 fun H vs x h=>by obtain⟨v0,h0,k0,-⟩:=h;rw[h0];exact(ones_cons rfl (ones_cons k0.one ones_nil))⟩
theorem rBig_open{H:Hp}{vs:List Value}{x:Big}(h:rBig.R H vs x):∃v0,vs=[Value.bool x.Negative,v0]∧Rs (rInt .u32) H v0 x.Digits∧True:=h
theorem rBig_close{H:Hp}{vs:List Value}{x:Big}(h:∃v0,vs=[Value.bool x.Negative,v0]∧Rs (rInt .u32) H v0 x.Digits∧True):rBig.R H vs x:=h
structure Coef where
 Var:Int
 N:Int
 deriving DecidableEq
def rCoef:Rep Coef:=⟨2,fun H vs x=>vs=[Value.int .i64 x.Var,Value.int .i64 x.N]∧True,
 fun H H' vs x hle h=>by obtain⟨h0,-⟩:=h;exact⟨h0,trivial⟩,
 fun H vs x h=>by obtain⟨h0,-⟩:=h;rw[h0];rfl,
 fun H vs x h=>by obtain⟨h0,-⟩:=h;rw[h0];exact(ones_cons rfl (ones_cons rfl ones_nil))⟩
theorem rCoef_open{H:Hp}{vs:List Value}{x:Coef}(h:rCoef.R H vs x):vs=[Value.int .i64 x.Var,Value.int .i64 x.N]∧True:=h
theorem rCoef_close{H:Hp}{vs:List Value}{x:Coef}(h:vs=[Value.int .i64 x.Var,Value.int .i64 x.N]∧True):rCoef.R H vs x:=h
structure Linear where
 Const:Int
 Coefs:(List Coef)
 deriving DecidableEq
def rLinear:Rep Linear:=⟨2,fun H vs x=>∃v0,vs=[Value.int .i64 x.Const,v0]∧Rs rCoef H v0 x.Coefs∧True,
 fun H H' vs x hle h=>by obtain⟨v0,h0,k0,-⟩:=h;exact⟨v0,h0,k0.mono hle,trivial⟩,
 fun H vs x h=>by obtain⟨v0,h0,k0,-⟩:=h;rw[h0];rfl,
 fun H vs x h=>by obtain⟨v0,h0,k0,-⟩:=h;rw[h0];exact(ones_cons rfl (ones_cons k0.one ones_nil))⟩
theorem rLinear_open{H:Hp}{vs:List Value}{x:Linear}(h:rLinear.R H vs x):∃v0,vs=[Value.int .i64 x.Const,v0]∧Rs rCoef H v0 x.Coefs∧True:=h
theorem rLinear_close{H:Hp}{vs:List Value}{x:Linear}(h:∃v0,vs=[Value.int .i64 x.Const,v0]∧Rs rCoef H v0 x.Coefs∧True):rLinear.R H vs x:=h
structure Constraint where
 Linear:Linear
 Equal:Bool
 deriving DecidableEq
def rConstraint:Rep Constraint:=⟨3,fun H vs x=>∃v0,vs=[Value.int .i64 x.Linear.Const,v0,Value.bool x.Equal]∧Rs rCoef H v0 x.Linear.Coefs∧True,
 fun H H' vs x hle h=>by obtain⟨v0,h0,k0,-⟩:=h;exact⟨v0,h0,k0.mono hle,trivial⟩,
 fun H vs x h=>by obtain⟨v0,h0,k0,-⟩:=h;rw[h0];rfl,
 fun H vs x h=>by obtain⟨v0,h0,k0,-⟩:=h;rw[h0];exact(ones_cons rfl (ones_cons k0.one (ones_cons rfl ones_nil)))⟩
theorem rConstraint_open{H:Hp}{vs:List Value}{x:Constraint}(h:rConstraint.R H vs x):∃v0,vs=[Value.int .i64 x.Linear.Const,v0,Value.bool x.Equal]∧Rs rCoef H v0 x.Linear.Coefs∧True:=h
theorem rConstraint_close{H:Hp}{vs:List Value}{x:Constraint}(h:∃v0,vs=[Value.int .i64 x.Linear.Const,v0,Value.bool x.Equal]∧Rs rCoef H v0 x.Linear.Coefs∧True):rConstraint.R H vs x:=h
structure Ineq where
 Coefs:(List Big)
 Bound:Big
 deriving DecidableEq
def rIneq:Rep Ineq:=⟨3,fun H vs x=>∃v0 v1,vs=[v0,Value.bool x.Bound.Negative,v1]∧Rs rBig H v0 x.Coefs∧Rs (rInt .u32) H v1 x.Bound.Digits∧True,
 fun H H' vs x hle h=>by obtain⟨v0,v1,h0,k0,k1,-⟩:=h;exact⟨v0,v1,h0,k0.mono hle,k1.mono hle,trivial⟩,
 fun H vs x h=>by obtain⟨v0,v1,h0,k0,k1,-⟩:=h;rw[h0];rfl,
 fun H vs x h=>by obtain⟨v0,v1,h0,k0,k1,-⟩:=h;rw[h0];exact(ones_cons k0.one (ones_cons rfl (ones_cons k1.one ones_nil)))⟩
theorem rIneq_open{H:Hp}{vs:List Value}{x:Ineq}(h:rIneq.R H vs x):∃v0 v1,vs=[v0,Value.bool x.Bound.Negative,v1]∧Rs rBig H v0 x.Coefs∧Rs (rInt .u32) H v1 x.Bound.Digits∧True:=h
theorem rIneq_close{H:Hp}{vs:List Value}{x:Ineq}(h:∃v0 v1,vs=[v0,Value.bool x.Bound.Negative,v1]∧Rs rBig H v0 x.Coefs∧Rs (rInt .u32) H v1 x.Bound.Digits∧True):rIneq.R H vs x:=h
structure Use where
 Index:Int
 N:Big
 deriving DecidableEq
def rUse:Rep Use:=⟨3,fun H vs x=>∃v0,vs=[Value.int .i64 x.Index,Value.bool x.N.Negative,v0]∧Rs (rInt .u32) H v0 x.N.Digits∧True,
 fun H H' vs x hle h=>by obtain⟨v0,h0,k0,-⟩:=h;exact⟨v0,h0,k0.mono hle,trivial⟩,
 fun H vs x h=>by obtain⟨v0,h0,k0,-⟩:=h;rw[h0];rfl,
 fun H vs x h=>by obtain⟨v0,h0,k0,-⟩:=h;rw[h0];exact(ones_cons rfl (ones_cons rfl (ones_cons k0.one ones_nil)))⟩
theorem rUse_open{H:Hp}{vs:List Value}{x:Use}(h:rUse.R H vs x):∃v0,vs=[Value.int .i64 x.Index,Value.bool x.N.Negative,v0]∧Rs (rInt .u32) H v0 x.N.Digits∧True:=h
theorem rUse_close{H:Hp}{vs:List Value}{x:Use}(h:∃v0,vs=[Value.int .i64 x.Index,Value.bool x.N.Negative,v0]∧Rs (rInt .u32) H v0 x.N.Digits∧True):rUse.R H vs x:=h
structure Step where
 Uses:(List Use)
 Divisor:Big
 deriving DecidableEq
def rStep:Rep Step:=⟨3,fun H vs x=>∃v0 v1,vs=[v0,Value.bool x.Divisor.Negative,v1]∧Rs rUse H v0 x.Uses∧Rs (rInt .u32) H v1 x.Divisor.Digits∧True,
 fun H H' vs x hle h=>by obtain⟨v0,v1,h0,k0,k1,-⟩:=h;exact⟨v0,v1,h0,k0.mono hle,k1.mono hle,trivial⟩,
 fun H vs x h=>by obtain⟨v0,v1,h0,k0,k1,-⟩:=h;rw[h0];rfl,
 fun H vs x h=>by obtain⟨v0,v1,h0,k0,k1,-⟩:=h;rw[h0];exact(ones_cons k0.one (ones_cons rfl (ones_cons k1.one ones_nil)))⟩
theorem rStep_open{H:Hp}{vs:List Value}{x:Step}(h:rStep.R H vs x):∃v0 v1,vs=[v0,Value.bool x.Divisor.Negative,v1]∧Rs rUse H v0 x.Uses∧Rs (rInt .u32) H v1 x.Divisor.Digits∧True:=h
theorem rStep_close{H:Hp}{vs:List Value}{x:Step}(h:∃v0 v1,vs=[v0,Value.bool x.Divisor.Negative,v1]∧Rs rUse H v0 x.Uses∧Rs (rInt .u32) H v1 x.Divisor.Digits∧True):rStep.R H vs x:=h
structure Proof where
 Steps:(List Step)
 Form:(List Big)
 Bound:Big
 Children:(List Proof)
def RProof:Nat→Hp→List Value→Proof→Prop
 |0,_,_,_=>False
 |n+1,H,vs,x=>∃v0 v1 v2 v3,vs=[v0,v1,Value.bool x.Bound.Negative,v2,v3]∧Rs rStep H v0 x.Steps∧Rs rBig H v1 x.Form∧Rs (rInt .u32) H v2 x.Bound.Digits∧Sl 5 (RProof n) H v3 x.Children∧True
theorem RProof_mono:∀(n:Nat) {H H':Hp} {vs:List Value} {x:Proof},Le H H'→RProof n H vs x→RProof n H' vs x
 |0,_,_,_,_,_,h=>h.elim
 |n+1,_,_,_,_,hle,h=>by obtain⟨v0,v1,v2,v3,h0,k0,k1,k2,k3,-⟩:=h;exact⟨v0,v1,v2,v3,h0,k0.mono hle,k1.mono hle,k2.mono hle,Sl.mono (R:=RProof n) (fun _ _ _ _ a b=>RProof_mono n a b) hle k3,trivial⟩
theorem RProof_up:∀{n m:Nat} {H:Hp} {vs:List Value} {x:Proof},n≤m→RProof n H vs x→RProof m H vs x
 |0,_,_,_,_,_,h=>h.elim
 |n+1,0,_,_,_,hm,_=>by omega
 |n+1,m+1,_,_,_,hm,h=>by have hm:n≤m:=(by omega);obtain⟨v0,v1,v2,v3,h0,k0,k1,k2,k3,-⟩:=h;exact⟨v0,v1,v2,v3,h0,k0,k1,k2,sl_imp (fun _ _=>RProof_up hm) k3,trivial⟩
def rProof:Rep Proof:=⟨5,fun H vs x=>∃n,RProof n H vs x,fun _ _ _ _ hle ⟨n,h⟩=>⟨n,RProof_mono n hle h⟩,
 fun H vs x h=>by obtain⟨n,h⟩:=h;cases n with|zero=>exact h.elim|succ n=>obtain⟨v0,v1,v2,v3,h0,k0,k1,k2,k3,-⟩:=h;rw[h0];rfl,
 fun H vs x h=>by obtain⟨n,h⟩:=h;cases n with|zero=>exact h.elim|succ n=>obtain⟨v0,v1,v2,v3,h0,k0,k1,k2,k3,-⟩:=h;rw[h0];exact(ones_cons k0.one (ones_cons k1.one (ones_cons rfl (ones_cons k2.one (ones_cons (Sl.one k3) ones_nil)))))⟩
theorem rProof_open{H:Hp}{vs:List Value}{x:Proof}(h:rProof.R H vs x):∃v0 v1 v2 v3,vs=[v0,v1,Value.bool x.Bound.Negative,v2,v3]∧Rs rStep H v0 x.Steps∧Rs rBig H v1 x.Form∧Rs (rInt .u32) H v2 x.Bound.Digits∧Rs rProof H v3 x.Children∧True:=by
 obtain⟨n,h⟩:=h;cases n with|zero=>exact h.elim|succ n=>obtain⟨v0,v1,v2,v3,h0,k0,k1,k2,k3,-⟩:=h;exact⟨v0,v1,v2,v3,h0,k0,k1,k2,sl_imp (fun _ _ h=>⟨n,h⟩) k3,trivial⟩
theorem rProof_close{H:Hp}{vs:List Value}{x:Proof}(h:∃v0 v1 v2 v3,vs=[v0,v1,Value.bool x.Bound.Negative,v2,v3]∧Rs rStep H v0 x.Steps∧Rs rBig H v1 x.Form∧Rs (rInt .u32) H v2 x.Bound.Digits∧Rs rProof H v3 x.Children∧True):rProof.R H vs x:=by
 obtain⟨v0,v1,v2,v3,h0,k0,k1,k2,k3,-⟩:=h
 obtain⟨n,hn⟩:=sl_bound (Rn:=RProof) (fun _ _ _ _ hm h=>RProof_up hm h) k3
 exact⟨n+1,v0,v1,v2,v3,h0,k0,k1,k2,hn,trivial⟩
structure TTest where
 Var:Int
 Kind:Int
 Negated:Bool
 Text:(List UInt8)
 deriving DecidableEq
def rTTest:Rep TTest:=⟨4,fun H vs x=>vs=[Value.int .i64 x.Var,Value.int .i64 x.Kind,Value.bool x.Negated,Value.string (s8 x.Text)]∧True,
 fun H H' vs x hle h=>by obtain⟨h0,-⟩:=h;exact⟨h0,trivial⟩,
 fun H vs x h=>by obtain⟨h0,-⟩:=h;rw[h0];rfl,
 fun H vs x h=>by obtain⟨h0,-⟩:=h;rw[h0];exact(ones_cons rfl (ones_cons rfl (ones_cons rfl (ones_cons rfl ones_nil))))⟩
theorem rTTest_open{H:Hp}{vs:List Value}{x:TTest}(h:rTTest.R H vs x):vs=[Value.int .i64 x.Var,Value.int .i64 x.Kind,Value.bool x.Negated,Value.string (s8 x.Text)]∧True:=h
theorem rTTest_close{H:Hp}{vs:List Value}{x:TTest}(h:vs=[Value.int .i64 x.Var,Value.int .i64 x.Kind,Value.bool x.Negated,Value.string (s8 x.Text)]∧True):rTTest.R H vs x:=h
structure TFinder where
 tests:(List TTest)
 most:Int
 out:(List (List UInt8))
 dead:(List ((List UInt8)×Bool))
structure Arr2Int where
 e0:Int
 e1:Int
 deriving DecidableEq
def rArr2Int:Rep Arr2Int:=⟨2,fun H vs x=>vs=[Value.int .i64 x.e0,Value.int .i64 x.e1]∧True,
 fun H H' vs x hle h=>by obtain⟨h0,-⟩:=h;exact⟨h0,trivial⟩,
 fun H vs x h=>by obtain⟨h0,-⟩:=h;rw[h0];rfl,
 fun H vs x h=>by obtain⟨h0,-⟩:=h;rw[h0];exact(ones_cons rfl (ones_cons rfl ones_nil))⟩
theorem rArr2Int_open{H:Hp}{vs:List Value}{x:Arr2Int}(h:rArr2Int.R H vs x):vs=[Value.int .i64 x.e0,Value.int .i64 x.e1]∧True:=h
theorem rArr2Int_close{H:Hp}{vs:List Value}{x:Arr2Int}(h:vs=[Value.int .i64 x.e0,Value.int .i64 x.e1]∧True):rArr2Int.R H vs x:=h
structure TProb where
 Min:(List Int)
 Max:(List Int)
 Tests:(List TTest)
 Same:(List Arr2Int)
 Different:(List Arr2Int)
 deriving DecidableEq
def rTProb:Rep TProb:=⟨5,fun H vs x=>∃v0 v1 v2 v3 v4,vs=[v0,v1,v2,v3,v4]∧Rs (rInt .i64) H v0 x.Min∧Rs (rInt .i64) H v1 x.Max∧Rs rTTest H v2 x.Tests∧Rs rArr2Int H v3 x.Same∧Rs rArr2Int H v4 x.Different∧True,
 fun H H' vs x hle h=>by obtain⟨v0,v1,v2,v3,v4,h0,k0,k1,k2,k3,k4,-⟩:=h;exact⟨v0,v1,v2,v3,v4,h0,k0.mono hle,k1.mono hle,k2.mono hle,k3.mono hle,k4.mono hle,trivial⟩,
 fun H vs x h=>by obtain⟨v0,v1,v2,v3,v4,h0,k0,k1,k2,k3,k4,-⟩:=h;rw[h0];rfl,
 fun H vs x h=>by obtain⟨v0,v1,v2,v3,v4,h0,k0,k1,k2,k3,k4,-⟩:=h;rw[h0];exact(ones_cons k0.one (ones_cons k1.one (ones_cons k2.one (ones_cons k3.one (ones_cons k4.one ones_nil)))))⟩
theorem rTProb_open{H:Hp}{vs:List Value}{x:TProb}(h:rTProb.R H vs x):∃v0 v1 v2 v3 v4,vs=[v0,v1,v2,v3,v4]∧Rs (rInt .i64) H v0 x.Min∧Rs (rInt .i64) H v1 x.Max∧Rs rTTest H v2 x.Tests∧Rs rArr2Int H v3 x.Same∧Rs rArr2Int H v4 x.Different∧True:=h
theorem rTProb_close{H:Hp}{vs:List Value}{x:TProb}(h:∃v0 v1 v2 v3 v4,vs=[v0,v1,v2,v3,v4]∧Rs (rInt .i64) H v0 x.Min∧Rs (rInt .i64) H v1 x.Max∧Rs rTTest H v2 x.Tests∧Rs rArr2Int H v3 x.Same∧Rs rArr2Int H v4 x.Different∧True):rTProb.R H vs x:=h
structure TClass where
 low:Int
 high:Int
 tests:(List TTest)
 words:(List (List UInt8))
 apart:(List Int)
 deriving DecidableEq
def rTClass:Rep TClass:=⟨5,fun H vs x=>∃v0 v1 v2,vs=[Value.int .i64 x.low,Value.int .i64 x.high,v0,v1,v2]∧Rs rTTest H v0 x.tests∧Rs rStr H v1 x.words∧Rs (rInt .i64) H v2 x.apart∧True,
 fun H H' vs x hle h=>by obtain⟨v0,v1,v2,h0,k0,k1,k2,-⟩:=h;exact⟨v0,v1,v2,h0,k0.mono hle,k1.mono hle,k2.mono hle,trivial⟩,
 fun H vs x h=>by obtain⟨v0,v1,v2,h0,k0,k1,k2,-⟩:=h;rw[h0];rfl,
 fun H vs x h=>by obtain⟨v0,v1,v2,h0,k0,k1,k2,-⟩:=h;rw[h0];exact(ones_cons rfl (ones_cons rfl (ones_cons k0.one (ones_cons k1.one (ones_cons k2.one ones_nil)))))⟩
theorem rTClass_open{H:Hp}{vs:List Value}{x:TClass}(h:rTClass.R H vs x):∃v0 v1 v2,vs=[Value.int .i64 x.low,Value.int .i64 x.high,v0,v1,v2]∧Rs rTTest H v0 x.tests∧Rs rStr H v1 x.words∧Rs (rInt .i64) H v2 x.apart∧True:=h
theorem rTClass_close{H:Hp}{vs:List Value}{x:TClass}(h:∃v0 v1 v2,vs=[Value.int .i64 x.low,Value.int .i64 x.high,v0,v1,v2]∧Rs rTTest H v0 x.tests∧Rs rStr H v1 x.words∧Rs (rInt .i64) H v2 x.apart∧True):rTClass.R H vs x:=h
structure RAux where
 Of:Linear
 By:Int
 Text:Int
 deriving DecidableEq
def rRAux:Rep RAux:=⟨4,fun H vs x=>∃v0,vs=[Value.int .i64 x.Of.Const,v0,Value.int .i64 x.By,Value.int .i64 x.Text]∧Rs rCoef H v0 x.Of.Coefs∧True,
 fun H H' vs x hle h=>by obtain⟨v0,h0,k0,-⟩:=h;exact⟨v0,h0,k0.mono hle,trivial⟩,
 fun H vs x h=>by obtain⟨v0,h0,k0,-⟩:=h;rw[h0];rfl,
 fun H vs x h=>by obtain⟨v0,h0,k0,-⟩:=h;rw[h0];exact(ones_cons rfl (ones_cons k0.one (ones_cons rfl (ones_cons rfl ones_nil))))⟩
theorem rRAux_open{H:Hp}{vs:List Value}{x:RAux}(h:rRAux.R H vs x):∃v0,vs=[Value.int .i64 x.Of.Const,v0,Value.int .i64 x.By,Value.int .i64 x.Text]∧Rs rCoef H v0 x.Of.Coefs∧True:=h
theorem rRAux_close{H:Hp}{vs:List Value}{x:RAux}(h:∃v0,vs=[Value.int .i64 x.Of.Const,v0,Value.int .i64 x.By,Value.int .i64 x.Text]∧Rs rCoef H v0 x.Of.Coefs∧True):rRAux.R H vs x:=h
structure RClause where
 Null:(List Int)
 NotNull:(List Int)
 Auxiliary:(List RAux)
 Ints:(List Constraint)
 Tests:(List TTest)
 Same:(List Arr2Int)
 Different:(List Arr2Int)
 deriving DecidableEq
def rRClause:Rep RClause:=⟨7,fun H vs x=>∃v0 v1 v2 v3 v4 v5 v6,vs=[v0,v1,v2,v3,v4,v5,v6]∧Rs (rInt .i64) H v0 x.Null∧Rs (rInt .i64) H v1 x.NotNull∧Rs rRAux H v2 x.Auxiliary∧Rs rConstraint H v3 x.Ints∧Rs rTTest H v4 x.Tests∧Rs rArr2Int H v5 x.Same∧Rs rArr2Int H v6 x.Different∧True,
 fun H H' vs x hle h=>by obtain⟨v0,v1,v2,v3,v4,v5,v6,h0,k0,k1,k2,k3,k4,k5,k6,-⟩:=h;exact⟨v0,v1,v2,v3,v4,v5,v6,h0,k0.mono hle,k1.mono hle,k2.mono hle,k3.mono hle,k4.mono hle,k5.mono hle,k6.mono hle,trivial⟩,
 fun H vs x h=>by obtain⟨v0,v1,v2,v3,v4,v5,v6,h0,k0,k1,k2,k3,k4,k5,k6,-⟩:=h;rw[h0];rfl,
 fun H vs x h=>by obtain⟨v0,v1,v2,v3,v4,v5,v6,h0,k0,k1,k2,k3,k4,k5,k6,-⟩:=h;rw[h0];exact(ones_cons k0.one (ones_cons k1.one (ones_cons k2.one (ones_cons k3.one (ones_cons k4.one (ones_cons k5.one (ones_cons k6.one ones_nil)))))))⟩
theorem rRClause_open{H:Hp}{vs:List Value}{x:RClause}(h:rRClause.R H vs x):∃v0 v1 v2 v3 v4 v5 v6,vs=[v0,v1,v2,v3,v4,v5,v6]∧Rs (rInt .i64) H v0 x.Null∧Rs (rInt .i64) H v1 x.NotNull∧Rs rRAux H v2 x.Auxiliary∧Rs rConstraint H v3 x.Ints∧Rs rTTest H v4 x.Tests∧Rs rArr2Int H v5 x.Same∧Rs rArr2Int H v6 x.Different∧True:=h
theorem rRClause_close{H:Hp}{vs:List Value}{x:RClause}(h:∃v0 v1 v2 v3 v4 v5 v6,vs=[v0,v1,v2,v3,v4,v5,v6]∧Rs (rInt .i64) H v0 x.Null∧Rs (rInt .i64) H v1 x.NotNull∧Rs rRAux H v2 x.Auxiliary∧Rs rConstraint H v3 x.Ints∧Rs rTTest H v4 x.Tests∧Rs rArr2Int H v5 x.Same∧Rs rArr2Int H v6 x.Different∧True):rRClause.R H vs x:=h
structure RVar where
 Ty:Int
 Low:Int
 High:Int
 Max:Int
 Nullable:Bool
 deriving DecidableEq
def rRVar:Rep RVar:=⟨5,fun H vs x=>vs=[Value.int .i64 x.Ty,Value.int .i64 x.Low,Value.int .i64 x.High,Value.int .i64 x.Max,Value.bool x.Nullable]∧True,
 fun H H' vs x hle h=>by obtain⟨h0,-⟩:=h;exact⟨h0,trivial⟩,
 fun H vs x h=>by obtain⟨h0,-⟩:=h;rw[h0];rfl,
 fun H vs x h=>by obtain⟨h0,-⟩:=h;rw[h0];exact(ones_cons rfl (ones_cons rfl (ones_cons rfl (ones_cons rfl (ones_cons rfl ones_nil)))))⟩
theorem rRVar_open{H:Hp}{vs:List Value}{x:RVar}(h:rRVar.R H vs x):vs=[Value.int .i64 x.Ty,Value.int .i64 x.Low,Value.int .i64 x.High,Value.int .i64 x.Max,Value.bool x.Nullable]∧True:=h
theorem rRVar_close{H:Hp}{vs:List Value}{x:RVar}(h:vs=[Value.int .i64 x.Ty,Value.int .i64 x.Low,Value.int .i64 x.High,Value.int .i64 x.Max,Value.bool x.Nullable]∧True):rRVar.R H vs x:=h
structure RVal where
 Kind:Int
 Int:Int
 Text:(List UInt8)
 deriving DecidableEq
def rRVal:Rep RVal:=⟨3,fun H vs x=>vs=[Value.int .i64 x.Kind,Value.int .i64 x.Int,Value.string (s8 x.Text)]∧True,
 fun H H' vs x hle h=>by obtain⟨h0,-⟩:=h;exact⟨h0,trivial⟩,
 fun H vs x h=>by obtain⟨h0,-⟩:=h;rw[h0];rfl,
 fun H vs x h=>by obtain⟨h0,-⟩:=h;rw[h0];exact(ones_cons rfl (ones_cons rfl (ones_cons rfl ones_nil)))⟩
theorem rRVal_open{H:Hp}{vs:List Value}{x:RVal}(h:rRVal.R H vs x):vs=[Value.int .i64 x.Kind,Value.int .i64 x.Int,Value.string (s8 x.Text)]∧True:=h
theorem rRVal_close{H:Hp}{vs:List Value}{x:RVal}(h:vs=[Value.int .i64 x.Kind,Value.int .i64 x.Int,Value.string (s8 x.Text)]∧True):rRVal.R H vs x:=h
structure Refut where
 Kind:Int
 Var:Int
 At:Int
 Proof:Proof
 Children:(List Refut)
def RRefut:Nat→Hp→List Value→Refut→Prop
 |0,_,_,_=>False
 |n+1,H,vs,x=>∃v0 v1 v2 v3 v4,vs=[Value.int .i64 x.Kind,Value.int .i64 x.Var,Value.int .i64 x.At,v0,v1,Value.bool x.Proof.Bound.Negative,v2,v3,v4]∧Rs rStep H v0 x.Proof.Steps∧Rs rBig H v1 x.Proof.Form∧Rs (rInt .u32) H v2 x.Proof.Bound.Digits∧Rs rProof H v3 x.Proof.Children∧Sl 9 (RRefut n) H v4 x.Children∧True
theorem RRefut_mono:∀(n:Nat) {H H':Hp} {vs:List Value} {x:Refut},Le H H'→RRefut n H vs x→RRefut n H' vs x
 |0,_,_,_,_,_,h=>h.elim
 |n+1,_,_,_,_,hle,h=>by obtain⟨v0,v1,v2,v3,v4,h0,k0,k1,k2,k3,k4,-⟩:=h;exact⟨v0,v1,v2,v3,v4,h0,k0.mono hle,k1.mono hle,k2.mono hle,k3.mono hle,Sl.mono (R:=RRefut n) (fun _ _ _ _ a b=>RRefut_mono n a b) hle k4,trivial⟩
theorem RRefut_up:∀{n m:Nat} {H:Hp} {vs:List Value} {x:Refut},n≤m→RRefut n H vs x→RRefut m H vs x
 |0,_,_,_,_,_,h=>h.elim
 |n+1,0,_,_,_,hm,_=>by omega
 |n+1,m+1,_,_,_,hm,h=>by have hm:n≤m:=(by omega);obtain⟨v0,v1,v2,v3,v4,h0,k0,k1,k2,k3,k4,-⟩:=h;exact⟨v0,v1,v2,v3,v4,h0,k0,k1,k2,k3,sl_imp (fun _ _=>RRefut_up hm) k4,trivial⟩
def rRefut:Rep Refut:=⟨9,fun H vs x=>∃n,RRefut n H vs x,fun _ _ _ _ hle ⟨n,h⟩=>⟨n,RRefut_mono n hle h⟩,
 fun H vs x h=>by obtain⟨n,h⟩:=h;cases n with|zero=>exact h.elim|succ n=>obtain⟨v0,v1,v2,v3,v4,h0,k0,k1,k2,k3,k4,-⟩:=h;rw[h0];rfl,
 fun H vs x h=>by obtain⟨n,h⟩:=h;cases n with|zero=>exact h.elim|succ n=>obtain⟨v0,v1,v2,v3,v4,h0,k0,k1,k2,k3,k4,-⟩:=h;rw[h0];exact(ones_cons rfl (ones_cons rfl (ones_cons rfl (ones_cons k0.one (ones_cons k1.one (ones_cons rfl (ones_cons k2.one (ones_cons k3.one (ones_cons (Sl.one k4) ones_nil)))))))))⟩
theorem rRefut_open{H:Hp}{vs:List Value}{x:Refut}(h:rRefut.R H vs x):∃v0 v1 v2 v3 v4,vs=[Value.int .i64 x.Kind,Value.int .i64 x.Var,Value.int .i64 x.At,v0,v1,Value.bool x.Proof.Bound.Negative,v2,v3,v4]∧Rs rStep H v0 x.Proof.Steps∧Rs rBig H v1 x.Proof.Form∧Rs (rInt .u32) H v2 x.Proof.Bound.Digits∧Rs rProof H v3 x.Proof.Children∧Rs rRefut H v4 x.Children∧True:=by
 obtain⟨n,h⟩:=h;cases n with|zero=>exact h.elim|succ n=>obtain⟨v0,v1,v2,v3,v4,h0,k0,k1,k2,k3,k4,-⟩:=h;exact⟨v0,v1,v2,v3,v4,h0,k0,k1,k2,k3,sl_imp (fun _ _ h=>⟨n,h⟩) k4,trivial⟩
theorem rRefut_close{H:Hp}{vs:List Value}{x:Refut}(h:∃v0 v1 v2 v3 v4,vs=[Value.int .i64 x.Kind,Value.int .i64 x.Var,Value.int .i64 x.At,v0,v1,Value.bool x.Proof.Bound.Negative,v2,v3,v4]∧Rs rStep H v0 x.Proof.Steps∧Rs rBig H v1 x.Proof.Form∧Rs (rInt .u32) H v2 x.Proof.Bound.Digits∧Rs rProof H v3 x.Proof.Children∧Rs rRefut H v4 x.Children∧True):rRefut.R H vs x:=by
 obtain⟨v0,v1,v2,v3,v4,h0,k0,k1,k2,k3,k4,-⟩:=h
 obtain⟨n,hn⟩:=sl_bound (Rn:=RRefut) (fun _ _ _ _ hm h=>RRefut_up hm h) k4
 exact⟨n+1,v0,v1,v2,v3,v4,h0,k0,k1,k2,k3,hn,trivial⟩
structure RCase where
 L:(List RVar)
 C:RClause
 Ranges:(List Arr2Int)
 R:(List RVal)
 deriving DecidableEq
def rRCase:Rep RCase:=⟨10,fun H vs x=>∃v0 v1 v2 v3 v4 v5 v6 v7 v8 v9,vs=[v0,v1,v2,v3,v4,v5,v6,v7,v8,v9]∧Rs rRVar H v0 x.L∧Rs (rInt .i64) H v1 x.C.Null∧Rs (rInt .i64) H v2 x.C.NotNull∧Rs rRAux H v3 x.C.Auxiliary∧Rs rConstraint H v4 x.C.Ints∧Rs rTTest H v5 x.C.Tests∧Rs rArr2Int H v6 x.C.Same∧Rs rArr2Int H v7 x.C.Different∧Rs rArr2Int H v8 x.Ranges∧Rs rRVal H v9 x.R∧True,
 fun H H' vs x hle h=>by obtain⟨v0,v1,v2,v3,v4,v5,v6,v7,v8,v9,h0,k0,k1,k2,k3,k4,k5,k6,k7,k8,k9,-⟩:=h;exact⟨v0,v1,v2,v3,v4,v5,v6,v7,v8,v9,h0,k0.mono hle,k1.mono hle,k2.mono hle,k3.mono hle,k4.mono hle,k5.mono hle,k6.mono hle,k7.mono hle,k8.mono hle,k9.mono hle,trivial⟩,
 fun H vs x h=>by obtain⟨v0,v1,v2,v3,v4,v5,v6,v7,v8,v9,h0,k0,k1,k2,k3,k4,k5,k6,k7,k8,k9,-⟩:=h;rw[h0];rfl,
 fun H vs x h=>by obtain⟨v0,v1,v2,v3,v4,v5,v6,v7,v8,v9,h0,k0,k1,k2,k3,k4,k5,k6,k7,k8,k9,-⟩:=h;rw[h0];exact(ones_cons k0.one (ones_cons k1.one (ones_cons k2.one (ones_cons k3.one (ones_cons k4.one (ones_cons k5.one (ones_cons k6.one (ones_cons k7.one (ones_cons k8.one (ones_cons k9.one ones_nil))))))))))⟩
theorem rRCase_open{H:Hp}{vs:List Value}{x:RCase}(h:rRCase.R H vs x):∃v0 v1 v2 v3 v4 v5 v6 v7 v8 v9,vs=[v0,v1,v2,v3,v4,v5,v6,v7,v8,v9]∧Rs rRVar H v0 x.L∧Rs (rInt .i64) H v1 x.C.Null∧Rs (rInt .i64) H v2 x.C.NotNull∧Rs rRAux H v3 x.C.Auxiliary∧Rs rConstraint H v4 x.C.Ints∧Rs rTTest H v5 x.C.Tests∧Rs rArr2Int H v6 x.C.Same∧Rs rArr2Int H v7 x.C.Different∧Rs rArr2Int H v8 x.Ranges∧Rs rRVal H v9 x.R∧True:=h
theorem rRCase_close{H:Hp}{vs:List Value}{x:RCase}(h:∃v0 v1 v2 v3 v4 v5 v6 v7 v8 v9,vs=[v0,v1,v2,v3,v4,v5,v6,v7,v8,v9]∧Rs rRVar H v0 x.L∧Rs (rInt .i64) H v1 x.C.Null∧Rs (rInt .i64) H v2 x.C.NotNull∧Rs rRAux H v3 x.C.Auxiliary∧Rs rConstraint H v4 x.C.Ints∧Rs rTTest H v5 x.C.Tests∧Rs rArr2Int H v6 x.C.Same∧Rs rArr2Int H v7 x.C.Different∧Rs rArr2Int H v8 x.Ranges∧Rs rRVal H v9 x.R∧True):rRCase.R H vs x:=h
structure RClaim where
 L:(List RVar)
 C:RClause
 F:Refut
 R:(List RVal)
def rRClaim:Rep RClaim:=⟨18,fun H vs x=>∃v0 v1 v2 v3 v4 v5 v6 v7 v8 v9 v10 v11 v12 v13,vs=[v0,v1,v2,v3,v4,v5,v6,v7,Value.int .i64 x.F.Kind,Value.int .i64 x.F.Var,Value.int .i64 x.F.At,v8,v9,Value.bool x.F.Proof.Bound.Negative,v10,v11,v12,v13]∧Rs rRVar H v0 x.L∧Rs (rInt .i64) H v1 x.C.Null∧Rs (rInt .i64) H v2 x.C.NotNull∧Rs rRAux H v3 x.C.Auxiliary∧Rs rConstraint H v4 x.C.Ints∧Rs rTTest H v5 x.C.Tests∧Rs rArr2Int H v6 x.C.Same∧Rs rArr2Int H v7 x.C.Different∧Rs rStep H v8 x.F.Proof.Steps∧Rs rBig H v9 x.F.Proof.Form∧Rs (rInt .u32) H v10 x.F.Proof.Bound.Digits∧Rs rProof H v11 x.F.Proof.Children∧Rs rRefut H v12 x.F.Children∧Rs rRVal H v13 x.R∧True,
 fun H H' vs x hle h=>by obtain⟨v0,v1,v2,v3,v4,v5,v6,v7,v8,v9,v10,v11,v12,v13,h0,k0,k1,k2,k3,k4,k5,k6,k7,k8,k9,k10,k11,k12,k13,-⟩:=h;exact⟨v0,v1,v2,v3,v4,v5,v6,v7,v8,v9,v10,v11,v12,v13,h0,k0.mono hle,k1.mono hle,k2.mono hle,k3.mono hle,k4.mono hle,k5.mono hle,k6.mono hle,k7.mono hle,k8.mono hle,k9.mono hle,k10.mono hle,k11.mono hle,k12.mono hle,k13.mono hle,trivial⟩,
 fun H vs x h=>by obtain⟨v0,v1,v2,v3,v4,v5,v6,v7,v8,v9,v10,v11,v12,v13,h0,k0,k1,k2,k3,k4,k5,k6,k7,k8,k9,k10,k11,k12,k13,-⟩:=h;rw[h0];rfl,
 fun H vs x h=>by obtain⟨v0,v1,v2,v3,v4,v5,v6,v7,v8,v9,v10,v11,v12,v13,h0,k0,k1,k2,k3,k4,k5,k6,k7,k8,k9,k10,k11,k12,k13,-⟩:=h;rw[h0];exact(ones_cons k0.one (ones_cons k1.one (ones_cons k2.one (ones_cons k3.one (ones_cons k4.one (ones_cons k5.one (ones_cons k6.one (ones_cons k7.one (ones_cons rfl (ones_cons rfl (ones_cons rfl (ones_cons k8.one (ones_cons k9.one (ones_cons rfl (ones_cons k10.one (ones_cons k11.one (ones_cons k12.one (ones_cons k13.one ones_nil))))))))))))))))))⟩
theorem rRClaim_open{H:Hp}{vs:List Value}{x:RClaim}(h:rRClaim.R H vs x):∃v0 v1 v2 v3 v4 v5 v6 v7 v8 v9 v10 v11 v12 v13,vs=[v0,v1,v2,v3,v4,v5,v6,v7,Value.int .i64 x.F.Kind,Value.int .i64 x.F.Var,Value.int .i64 x.F.At,v8,v9,Value.bool x.F.Proof.Bound.Negative,v10,v11,v12,v13]∧Rs rRVar H v0 x.L∧Rs (rInt .i64) H v1 x.C.Null∧Rs (rInt .i64) H v2 x.C.NotNull∧Rs rRAux H v3 x.C.Auxiliary∧Rs rConstraint H v4 x.C.Ints∧Rs rTTest H v5 x.C.Tests∧Rs rArr2Int H v6 x.C.Same∧Rs rArr2Int H v7 x.C.Different∧Rs rStep H v8 x.F.Proof.Steps∧Rs rBig H v9 x.F.Proof.Form∧Rs (rInt .u32) H v10 x.F.Proof.Bound.Digits∧Rs rProof H v11 x.F.Proof.Children∧Rs rRefut H v12 x.F.Children∧Rs rRVal H v13 x.R∧True:=h
theorem rRClaim_close{H:Hp}{vs:List Value}{x:RClaim}(h:∃v0 v1 v2 v3 v4 v5 v6 v7 v8 v9 v10 v11 v12 v13,vs=[v0,v1,v2,v3,v4,v5,v6,v7,Value.int .i64 x.F.Kind,Value.int .i64 x.F.Var,Value.int .i64 x.F.At,v8,v9,Value.bool x.F.Proof.Bound.Negative,v10,v11,v12,v13]∧Rs rRVar H v0 x.L∧Rs (rInt .i64) H v1 x.C.Null∧Rs (rInt .i64) H v2 x.C.NotNull∧Rs rRAux H v3 x.C.Auxiliary∧Rs rConstraint H v4 x.C.Ints∧Rs rTTest H v5 x.C.Tests∧Rs rArr2Int H v6 x.C.Same∧Rs rArr2Int H v7 x.C.Different∧Rs rStep H v8 x.F.Proof.Steps∧Rs rBig H v9 x.F.Proof.Form∧Rs (rInt .u32) H v10 x.F.Proof.Bound.Digits∧Rs rProof H v11 x.F.Proof.Children∧Rs rRefut H v12 x.F.Children∧Rs rRVal H v13 x.R∧True):rRClaim.R H vs x:=h
def dkTClass:DRep TClass where
 r:=rTClass
 nf:=2
 R vs bs c x:=∃v0 b0 k0 v1 b1 k1,vs=[Value.int .i64 x.low,Value.int .i64 x.high,v0,Value.slice none 0 0,v1]∧bs=[b0,b1]∧c=[k0,k1]∧DS rTTest v0 b0 k0 x.tests∧DS (rInt .i64) v1 b1 k1 x.apart∧x.words=[]
 len:=by
  rintro _ _ _ x ⟨v0,b0,k0,v1,b1,k1,rfl,rfl,rfl,d0,d1,w0⟩;exact⟨rfl,rfl,rfl⟩
 toR:=by
  rintro _ _ _ x H ⟨v0,b0,k0,v1,b1,k1,rfl,rfl,rfl,d0,d1,w0⟩ ho
  exact rTClass_close ⟨v0,Value.slice none 0 0,v1,rfl,d0.rs rfl (fun _ _ _ _ h=>h) (ho 0 _ _ rfl rfl),w0▸Rs.nil,d1.rs rfl (fun _ _ _ _ h=>h) (ho 1 _ _ rfl rfl),trivial⟩
def fmtI(N:Nat)(n:Int):Option (List UInt8):=if 0≤n∧n<100 then some (Go.Lib.decDigits n.toNat)else none
open Go Go.X
def cloneU32(N:Nat)(s:(List Int)):Option (List Int):=
 (apnd 4 ([]:(List Int)) s).bind fun a=>
 some a
def digit(N:Nat)(d:(List Int))(i:Int):Option Int:=
 (if(i:Int)<(List.length d:Int)then
  (idx d i).bind fun x2=>
  some (uw x2)
 else
  some 0)
def bsign(N:Nat)(n:Int):Option Int:=
 some (imin (imax n (-1)) 1)
def btrim_b1(N:Nat)(d:(List Int)):Int→Option (Stp Int Int)
 |a=>
  (((if(a:Int)>0 then
   (idx d (iw (a-1))).bind fun b=>
   some (decide ((b:Int)=0))
  else
   some false):Option Bool)).bind fun ss=>
   match ss with
   |c=>
    (if c=true then
     some (Stp.next (iw (a-1)))
    else
     some (Stp.done a))
def btrim(N:Nat)(d:(List Int)):Option (List Int):=
 (loopM (btrim_b1 N d) N (List.length d:Int)).bind fun ss=>
  match ss with
  |a=>
   (cut d 0 a).bind fun b=>
   (cloneU32 N b).bind fun c=>
   some c
def bnormal(N:Nat)(negative:Bool)(d:(List Int)):Option Big:=
 (btrim N d).bind fun r6=>
 (if((List.length r6:Int):Int)=0 then
  some (Big.mk false [])
 else
  some (Big.mk negative r6))
def bcompare_b1(N:Nat)(a:(List Int))(b:(List Int)):Int→Option (Stp Int (Sum Unit Int))
 |c=>
  (if(c:Int)≥0 then
   (idx a c).bind fun d=>
   (idx b c).bind fun e=>
   (if(d:Int)<e then
    some (Stp.done (Sum.inr (-1)))
   else
    (idx a c).bind fun f=>
    (idx b c).bind fun g=>
    (if(f:Int)>g then
     some (Stp.done (Sum.inr 1))
    else
     some (Stp.next (iw (c-1)))))
  else
   some (Stp.done (Sum.inl ())))
def bcompare(N:Nat)(a:(List Int))(b:(List Int)):Option Int:=
 (if((List.length a:Int):Int)≠(List.length b:Int)then
  (bsign N (iw ((List.length a:Int)-(List.length b:Int)))).bind fun r2=>
  some r2
 else
  (loopM (bcompare_b1 N a b) N (iw ((List.length a:Int)-1))).bind fun ss=>
   match ss with
   |(Sum.inl _)=>
    some 0
   |(Sum.inr c)=>some c)
def bplus_b1(N:Nat)(a:(List Int))(b:(List Int))(x2:(List Int)):((List Int)×Int×Int)→Option (Stp ((List Int)×Int×Int) (List Int))
 |(d,e,c)=>
  (if(c:Int)<(List.length x2:Int)then
   (digit N a c).bind fun f=>
   (digit N b c).bind fun g=>
   (idx d c).bind fun j=>
   (upd1 d c (uw32 (uw (e+(uw (f+g)))))).bind fun i=>
   some (Stp.next (i,(bshr .u64 (uw (e+(uw (f+g)))) 32),(iw (c+1))))
  else
   some (Stp.done d))
def bplus(N:Nat)(a:(List Int))(b:(List Int)):Option (List Int):=
 (mk1 (α:=Int) 4 0 (iw ((imax (List.length a:Int) (List.length b:Int))+1))).bind fun x2=>
 (loopM (bplus_b1 N a b x2) N (x2,0,0)).bind fun ss=>
  match ss with
  |c=>
   some c
def bminus_b1(N:Nat)(a:(List Int))(b:(List Int)):((List Int)×Int×Int)→Option (Stp ((List Int)×Int×Int) (List Int))
 |(d,e,c)=>
  (if(c:Int)<(List.length a:Int)then
   (idx a c).bind fun f=>
   (digit N b c).bind fun g=>
   (idx d c).bind fun j=>
   (upd1 d c (uw32 (uw ((uw ((uw f)-g))-e)))).bind fun i=>
   some (Stp.next (i,(bshr .u64 (uw ((uw ((uw f)-g))-e)) 63),(iw (c+1))))
  else
   some (Stp.done d))
def bminus(N:Nat)(a:(List Int))(b:(List Int)):Option (List Int):=
 (mk1 (α:=Int) 4 0 (List.length a:Int)).bind fun x2=>
 (loopM (bminus_b1 N a b) N (x2,0,0)).bind fun ss=>
  match ss with
  |c=>
   some c
def btimes_b2(N:Nat)(b:(List Int))(d:Int)(f:Int):((List Int)×Int×Int)→Option (Stp ((List Int)×Int×Int) ((List Int)×Int))
 |(c,e,a)=>
  (if(a:Int)<(List.length b:Int)then
   (idx b a).bind fun g=>
   (idx c (iw (d+a))).bind fun i=>
   (idx c (iw (d+a))).bind fun k=>
   (upd1 c (iw (d+a)) (uw32 (uw (e+(uw ((uw ((uw f)*(uw g)))+(uw i))))))).bind fun j=>
   some (Stp.next (j,(bshr .u64 (uw (e+(uw ((uw ((uw f)*(uw g)))+(uw i))))) 32),(iw (a+1))))
  else
   some (Stp.done (c,e)))
def btimes_b1(N:Nat)(a:(List Int))(b:(List Int)):((List Int)×Int)→Option (Stp ((List Int)×Int) (List Int))
 |(d,c)=>
  (if(c:Int)<(List.length a:Int)then
   (idx a c).bind fun f=>
   (loopM (btimes_b2 N b c f) N (d,0,0)).bind fun ss=>
    match ss with
    |(e,g)=>
     (idx e (iw (c+(List.length b:Int)))).bind fun j=>
     (upd1 e (iw (c+(List.length b:Int))) (uw32 g)).bind fun i=>
     some (Stp.next (i,(iw (c+1))))
  else
   some (Stp.done d))
def btimes(N:Nat)(a:(List Int))(b:(List Int)):Option (List Int):=
 (mk1 (α:=Int) 4 0 (iw ((List.length a:Int)+(List.length b:Int)))).bind fun x2=>
 (loopM (btimes_b1 N a b) N (x2,0)).bind fun ss=>
  match ss with
  |c=>
   some c
def bshort_b1(N:Nat)(a:(List Int))(pb:Int):((List Int)×Int×Int)→Option (Stp ((List Int)×Int×Int) ((List Int)×Int))
 |(d,c,b)=>
  (if(b:Int)≥0 then
   (idx a b).bind fun e=>
   (sdiv .u64 (bor .u64 (bshl .u64 c 32) (uw e)) (uw pb)).bind fun f=>
   (idx d b).bind fun i=>
   (upd1 d b (uw32 f)).bind fun g=>
   (srem (bor .u64 (bshl .u64 c 32) (uw e)) (uw pb)).bind fun j=>
   some (Stp.next (g,(Int.tmod (bor .u64 (bshl .u64 c 32) (uw e)) (uw pb)),(iw (b-1))))
  else
   some (Stp.done (d,c)))
def bshort(N:Nat)(a:(List Int))(pb:Int):Option ((List Int)×Int):=
 (mk1 (α:=Int) 4 0 (List.length a:Int)).bind fun x2=>
 (loopM (bshort_b1 N a pb) N (x2,0,(iw ((List.length a:Int)-1)))).bind fun ss=>
  match ss with
  |(b,c)=>
   some (b,(uw32 c))
def bshift_b1(N:Nat)(a:(List Int))(n:Int):((List Int)×Int)→Option (Stp ((List Int)×Int) (List Int))
 |(c,b)=>
  (if(b:Int)<(List.length a:Int)then
   (idx a b).bind fun d=>
   (chk (¬(n:Int)<0)).bind fun _=>
   (idx c b).bind fun f=>
   (idx c b).bind fun i=>
   (upd1 c b (bor .u32 f (uw32 (bshl .u64 (uw d) n)))).bind fun e=>
   (idx e (iw (b+1))).bind fun j=>
   (upd1 e (iw (b+1)) (uw32 (bshr .u64 (bshl .u64 (uw d) n) 32))).bind fun g=>
   some (Stp.next (g,(iw (b+1))))
  else
   some (Stp.done c))
def bshift(N:Nat)(a:(List Int))(n:Int):Option (List Int):=
 (mk1 (α:=Int) 4 0 (iw ((List.length a:Int)+1))).bind fun x2=>
 (loopM (bshift_b1 N a n) N (x2,0)).bind fun ss=>
  match ss with
  |b=>
   some b
open Go Go.X
def rtrim_b1(N:Nat):(List Int)→Option (Stp (List Int) (List Int))
 |a=>
  (((if((List.length a:Int):Int)>0 then
   (idx a (iw ((List.length a:Int)-1))).bind fun b=>
   some (decide ((b:Int)=0))
  else
   some false):Option Bool)).bind fun ss=>
   match ss with
   |c=>
    (if c=true then
     (cut a 0 (iw ((List.length a:Int)-1))).bind fun d=>
     some (Stp.next d)
    else
     some (Stp.done a))
def rtrim(N:Nat)(l:(List Int)):Option (List Int):=
 (loopM (rtrim_b1 N) N l).bind fun ss=>
  match ss with
  |a=>
   some a
def rbig_b1(N:Nat)(r6:(List Int)):((List Int)×Int)→Option (Stp ((List Int)×Int) (List Int))
 |(b,a)=>
  (if(a:Int)<(List.length r6:Int)then
   (idx r6 a).bind fun c=>
   (((if((iw (a+1)):Int)<(List.length r6:Int)then
    (idx r6 (iw (a+1))).bind fun d=>
    some (uw32 ((uw32 c)+(uw32 (65536*(uw32 d)))))
   else
    some (uw32 c)):Option Int)).bind fun ss=>
    match ss with
    |e=>
     (apnd 4 b [e]).bind fun f=>
     some (Stp.next (f,(iw (a+2))))
  else
   some (Stp.done b))
def rbig(N:Nat)(negative:Bool)(l:(List Int)):Option Big:=
 (rtrim N l).bind fun r6=>
 (((if negative=true then
  some (decide (((List.length r6:Int):Int)>0))
 else
  some false):Option Bool)).bind fun ss=>
  match ss with
  |a=>
   (loopM (rbig_b1 N r6) N (([]:(List Int)),0)).bind fun ss=>
    match ss with
    |b=>
     some (Big.mk a b)
def rOf_b1(N:Nat):(Int×(List Int))→Option (Stp (Int×(List Int)) (List Int))
 |(a,b)=>
  (if(a:Int)>0 then
   (apnd 8 b [(iw (Int.tmod a 65536))]).bind fun c=>
   some (Stp.next ((uw (Int.tdiv a 65536)),c))
  else
   some (Stp.done b))
def rOf(N:Nat)(n:Int):Option Big:=
 (((if(n:Int)<0 then
  some (uw ((uw (iw (0-(iw (n+1)))))+1))
 else
  some (uw n)):Option Int)).bind fun ss=>
  match ss with
  |u8=>
   (loopM (rOf_b1 N) N (u8,([]:(List Int)))).bind fun ss=>
    match ss with
    |a=>
     (rbig N (decide ((n:Int)<0)) a).bind fun b=>
     some b
open Go Go.X
def len32_lit256:List UInt8:=[0,1,2,2,3,3,3,3,4,4,4,4,4,4,4,4,5,5,5,5,5,5,5,5,5,5,5,5,5,5,5,5,6,6,6,6,6,6,6,6,6,6,6,6,6,6,6,6,6,6,6,6,6,6,6,6,6,6,6,6,6,6,6,6,7,7,7,7,7,7,7,7,7,7,7,7,7,7,7,7,7,7,7,7,7,7,7,7,7,7,7,7,7,7,7,7,7,7,7,7,7,7,7,7,7,7,7,7,7,7,7,7,7,7,7,7,7,7,7,7,7,7,7,7,7,7,7,7,8,8,8,8,8,8,8,8,8,8,8,8,8,8,8,8,8,8,8,8,8,8,8,8,8,8,8,8,8,8,8,8,8,8,8,8,8,8,8,8,8,8,8,8,8,8,8,8,8,8,8,8,8,8,8,8,8,8,8,8,8,8,8,8,8,8,8,8,8,8,8,8,8,8,8,8,8,8,8,8,8,8,8,8,8,8,8,8,8,8,8,8,8,8,8,8,8,8,8,8,8,8,8,8,8,8,8,8,8,8,8,8,8,8,8,8,8,8,8,8,8,8,8,8,8,8,8,8]
def len32(N:Nat)(x:Int):Option Int:=
 (((if(x:Int)≥65536 then
  some ((bshr .u32 x 16),16)
 else
  some (x,0)):Option (Int×Int))).bind fun ss=>
  match ss with
  |(x2,n3)=>
   (((if(x2:Int)≥256 then
    some ((bshr .u32 x2 8),(iw (n3+8)))
   else
    some (x2,n3)):Option (Int×Int))).bind fun ss=>
    match ss with
    |(a,b)=>
     (idx len32_lit256 (uw8 a)).bind fun c=>
     some (iw (b+(iw (UInt8.toNat c:Int))))
def lz32(N:Nat)(x:Int):Option Int:=
 (len32 N x).bind fun r1=>
 some (iw (32-r1))
def bbelow_b1(N:Nat)(n:Int)(pa_hi:Int)(pa_lo:Int)(pb:(List Int)):((List Int)×Int×Int×Int)→Option (Stp ((List Int)×Int×Int×Int) ((List Int)×Int))
 |(b,c,d,a)=>
  (if(a:Int)<(pa_hi-pa_lo)then
   (digit N pb a).bind fun e=>
   (chk (0≤a∧a<pa_hi-pa_lo)).bind fun _=>
   (idx b (pa_lo+a)).bind fun f=>
   (chk (0≤a∧a<pa_hi-pa_lo)).bind fun _=>
   (idx b (pa_lo+a)).bind fun i=>
   (upd1 b (pa_lo+a) (uw32 (uw ((uw ((uw f)-(band .u64 (uw (c+(uw (n*e)))) 4294967295)))-d)))).bind fun g=>
   some (Stp.next (g,(bshr .u64 (uw (c+(uw (n*e)))) 32),(bshr .u64 (uw ((uw ((uw f)-(band .u64 (uw (c+(uw (n*e)))) 4294967295)))-d)) 63),(iw (a+1))))
  else
   some (Stp.done (b,d)))
def bbelow(N:Nat)(pa:(List Int))(pa_lo:Int)(pa_hi:Int)(pb:(List Int))(n:Int):Option (Bool×(List Int)):=
 (loopM (bbelow_b1 N n pa_hi pa_lo pb) N (pa,0,0,0)).bind fun ss=>
  match ss with
  |(a,b)=>
   some ((decide ((b:Int)≠0)),a)
def bdivide_b2(N:Nat)(b:(List Int))(d:(List Int))(f:(List Int))(g:Int):(Int×Int)→Option (Stp (Int×Int) Int)
 |(a,c)=>
  (((if(a:Int)>4294967295 then
   some true
  else
   (idx d (iw ((List.length b:Int)-2))).bind fun i=>
   (idx f (iw ((iw (g+(List.length b:Int)))-2))).bind fun j=>
   some (decide (((uw (a*(uw i))):Int)>(bor .u64 (bshl .u64 c 32) (uw j))))):Option Bool)).bind fun ss=>
   match ss with
   |k=>
    (if k=true then
     (idx d (iw ((List.length b:Int)-1))).bind fun e=>
     (if((uw (c+(uw e))):Int)>4294967295 then
      some (Stp.done (uw (a-1)))
     else
      some (Stp.next ((uw (a-1)),(uw (c+(uw e))))))
    else
     some (Stp.done a))
def bdivide_b3(N:Nat)(e:(List Int))(c:Int):((List Int)×Int×Int)→Option (Stp ((List Int)×Int×Int) ((List Int)×Int))
 |(b,d,a)=>
  (if(a:Int)<(List.length e:Int)then
   (idx b (iw (c+a))).bind fun f=>
   (idx e a).bind fun g=>
   (idx b (iw (c+a))).bind fun j=>
   (upd1 b (iw (c+a)) (uw32 (uw (d+(uw ((uw f)+(uw g))))))).bind fun i=>
   some (Stp.next (i,(bshr .u64 (uw (d+(uw ((uw f)+(uw g))))) 32),(iw (a+1))))
  else
   some (Stp.done (b,d)))
def bdivide_b1(N:Nat)(b:(List Int))(d:(List Int)):((List Int)×(List Int)×Int)→Option (Stp ((List Int)×(List Int)×Int) ((List Int)×(List Int)))
 |(c,e,a)=>
  (if(a:Int)≥0 then
   (idx c (iw (a+(List.length b:Int)))).bind fun f=>
   (idx c (iw ((iw (a+(List.length b:Int)))-1))).bind fun g=>
   (idx d (iw ((List.length b:Int)-1))).bind fun n=>
   (sdiv .u64 (bor .u64 (bshl .u64 (uw f) 32) (uw g)) (uw n)).bind fun o=>
   (idx d (iw ((List.length b:Int)-1))).bind fun m=>
   (srem (bor .u64 (bshl .u64 (uw f) 32) (uw g)) (uw m)).bind fun a0=>
   (loopM (bdivide_b2 N b d c a) N (o,(Int.tmod (bor .u64 (bshl .u64 (uw f) 32) (uw g)) (uw m)))).bind fun ss=>
    match ss with
    |i=>
     (seg c a (iw ((iw (a+(List.length b:Int)))+1))).bind fun _=>
     (bbelow N c a (iw ((iw (a+(List.length b:Int)))+1)) d i).bind fun j=>
     (((if j.1=true then
      (loopM (bdivide_b3 N d a) N (j.2,0,0)).bind fun ss=>
       match ss with
       |(k,p)=>
        (idx k (iw (a+(List.length b:Int)))).bind fun q=>
        (idx k (iw (a+(List.length b:Int)))).bind fun a1=>
        (upd1 k (iw (a+(List.length b:Int))) (uw32 (q+(uw32 p)))).bind fun s=>
        some (s,(uw (i-1)))
     else
      some (j.2,i)):Option ((List Int)×Int))).bind fun ss=>
      match ss with
      |(u,v)=>
       (idx e a).bind fun a2=>
       (upd1 e a (uw32 v)).bind fun y=>
       some (Stp.next (u,y,(iw (a-1))))
  else
   some (Stp.done (c,e)))
def bdivide_b4(N:Nat)(c:Int)(d:(List Int))(e:(List Int)):((List Int)×Int)→Option (Stp ((List Int)×Int) (List Int))
 |(b,a)=>
  (if(a:Int)<(List.length e:Int)then
   (idx d (iw (a+1))).bind fun f=>
   (idx d a).bind fun g=>
   (chk (¬((uw c):Int)<0)).bind fun _=>
   (idx b a).bind fun j=>
   (upd1 b a (uw32 (bshr .u64 (bor .u64 (bshl .u64 (uw f) 32) (uw g)) (uw c)))).bind fun i=>
   some (Stp.next (i,(iw (a+1))))
  else
   some (Stp.done b))
def bdivide(N:Nat)(a:(List Int))(b:(List Int)):Option ((List Int)×(List Int)):=
 (bcompare N a b).bind fun r1=>
 (if(r1:Int)<0 then
  (btrim N a).bind fun r9=>
  some (([]:(List Int)),r9)
 else
  (if((List.length b:Int):Int)=1 then
   (idx b 0).bind fun i=>
   (bshort N a i).bind fun d=>
   (btrim N d.1).bind fun j=>
   (btrim N [d.2]).bind fun k=>
   some (j,k)
  else
   (idx b (iw ((List.length b:Int)-1))).bind fun m=>
   (lz32 N m).bind fun c=>
   (bshift N a (uw c)).bind fun e=>
   (bshift N b (uw c)).bind fun n=>
   (cut n 0 (List.length b:Int)).bind fun o=>
   (mk1 (α:=Int) 4 0 (iw ((List.length e:Int)-(List.length b:Int)))).bind fun f=>
   (loopM (bdivide_b1 N b o) N (e,f,(iw ((List.length f:Int)-1)))).bind fun ss=>
    match ss with
    |(p,q)=>
     (mk1 (α:=Int) 4 0 (List.length b:Int)).bind fun g=>
     (loopM (bdivide_b4 N c p g) N (g,0)).bind fun ss=>
      match ss with
      |s=>
       (btrim N q).bind fun u=>
       (btrim N s).bind fun v=>
       some (u,v)))
def bOf(N:Nat)(n:Int):Option Big:=
 (((if(n:Int)<0 then
  some (uw (0-(uw n)))
 else
  some (uw n)):Option Int)).bind fun ss=>
  match ss with
  |u8=>
   (bnormal N (decide ((n:Int)<0)) [(uw32 u8),(uw32 (bshr .u64 u8 32))]).bind fun a=>
   some a
def bNormal(N:Nat)(x:Big):Option Big:=
 (bnormal N x.Negative x.Digits).bind fun a=>
 some a
def bSign(N:Nat)(x:Big):Option Int:=
 (bNormal N x).bind fun r6=>
 (if((List.length r6.Digits:Int):Int)=0 then
  some 0
 else
  (if r6.Negative=true then
   some (-1)
  else
   some 1))
def bNeg(N:Nat)(x:Big):Option Big:=
 (bnormal N (!x.Negative) x.Digits).bind fun a=>
 some a
def bAdd(N:Nat)(a:Big)(b:Big):Option Big:=
 (bNormal N a).bind fun c=>
 (bNormal N b).bind fun d=>
 (if(c.Negative==d.Negative)=true then
  (bplus N c.Digits d.Digits).bind fun e=>
  (bnormal N c.Negative e).bind fun f=>
  some f
 else
  (bcompare N c.Digits d.Digits).bind fun g=>
  (if(g:Int)<0 then
   (bminus N d.Digits c.Digits).bind fun i=>
   (bnormal N d.Negative i).bind fun j=>
   some j
  else
   (bminus N c.Digits d.Digits).bind fun k=>
   (bnormal N c.Negative k).bind fun m=>
   some m))
def bSub(N:Nat)(a:Big)(b:Big):Option Big:=
 (bNeg N b).bind fun c=>
 (bAdd N a c).bind fun d=>
 some d
def bMul(N:Nat)(a:Big)(b:Big):Option Big:=
 (btimes N a.Digits b.Digits).bind fun c=>
 (bnormal N (!(a.Negative==b.Negative)) c).bind fun d=>
 some d
def bDivFloor(N:Nat)(a:Big)(b:Big):Option (Big×Big×Bool):=
 (bNormal N a).bind fun e=>
 (bNormal N b).bind fun d=>
 (if((List.length d.Digits:Int):Int)=0 then
  some ((Big.mk false []),(Big.mk false []),false)
 else
  (bdivide N e.Digits d.Digits).bind fun c=>
  (if(!(e.Negative==d.Negative))=true then
   (((if((List.length c.2:Int):Int)>0 then
    (bplus N c.1 [1]).bind fun f=>
    (bminus N d.Digits c.2).bind fun g=>
    some (f,g)
   else
    some (c.1,c.2)):Option ((List Int)×(List Int)))).bind fun ss=>
    match ss with
    |(i,j)=>
     (bnormal N true i).bind fun k=>
     (bnormal N d.Negative j).bind fun m=>
     some (k,m,true)
  else
   (bnormal N false c.1).bind fun n=>
   (bnormal N d.Negative c.2).bind fun o=>
   some (n,o,true)))
open Go Go.X
def cvalid_b1(N:Nat)(c:Constraint)(n:Int):(Int×Int)→Option (Stp (Int×Int) (Sum Unit Bool))
 |(d,a)=>
  (if(a:Int)<(List.length c.Linear.Coefs:Int)then
   (idx c.Linear.Coefs a).bind fun b=>
   (((if(b.Var:Int)≤d then
    some true
   else
    some (decide ((b.Var:Int)≥n))):Option Bool)).bind fun ss=>
    match ss with
    |e=>
     (if e=true then
      some (Stp.done (Sum.inr false))
     else
      some (Stp.next (b.Var,(iw (a+1)))))
  else
   some (Stp.done (Sum.inl ())))
def cvalid(N:Nat)(c:Constraint)(n:Int):Option Bool:=
 (loopM (cvalid_b1 N c n) N ((-1),0)).bind fun ss=>
  match ss with
  |(Sum.inl _)=>
   (if(n:Int)≥0 then
    some (decide ((n:Int)≤512))
   else
    some false)
  |(Sum.inr a)=>some a
def negated_b1(N:Nat)(l:(List Big)):((List Big)×Int)→Option (Stp ((List Big)×Int) (List Big))
 |(b,a)=>
  (if(a:Int)<(List.length l:Int)then
   (idx l a).bind fun c=>
   (bNeg N c).bind fun d=>
   (apnd 32 b [d]).bind fun e=>
   some (Stp.next (e,(iw (a+1))))
  else
   some (Stp.done b))
def negated(N:Nat)(l:(List Big))(bound:Big):Option Ineq:=
 (bNormal N bound).bind fun a=>
 (loopM (negated_b1 N l) N (([]:(List Big)),0)).bind fun ss=>
  match ss with
  |b=>
   some (Ineq.mk b a)
def cOf_b1(N:Nat)(c:Constraint):((List Big)×Int)→Option (Stp ((List Big)×Int) (List Big))
 |(a,b)=>
  (if(b:Int)<(List.length c.Linear.Coefs:Int)then
   (idx c.Linear.Coefs b).bind fun d=>
   (bOf N d.N).bind fun e=>
   (idx a d.Var).bind fun g=>
   (upd1 a d.Var e).bind fun f=>
   some (Stp.next (f,(iw (b+1))))
  else
   some (Stp.done a))
def cOf(N:Nat)(c:Constraint)(n:Int):Option (List Ineq):=
 (cvalid N c n).bind fun r6=>
 (if(!r6)=true then
  some ([]:(List Ineq))
 else
  (mk1 (α:=Big) 32 (Big.mk false []) n).bind fun d=>
  (bOf N c.Linear.Const).bind fun e=>
  (bNeg N e).bind fun b=>
  (loopM (cOf_b1 N c) N (d,0)).bind fun ss=>
   match ss with
   |a=>
    (if(!c.Equal)=true then
     some [(Ineq.mk a b)]
    else
     (bOf N c.Linear.Const).bind fun f=>
     (negated N a f).bind fun g=>
     some [(Ineq.mk a b),g]))
def cSystem_b1(N:Nat)(l:(List Constraint))(n:Int):((List Ineq)×Int)→Option (Stp ((List Ineq)×Int) (Sum (List Ineq) (List Ineq)))
 |(b,a)=>
  (if(a:Int)<(List.length l:Int)then
   (idx l a).bind fun c=>
   (cvalid N c n).bind fun d=>
   (if(!d)=true then
    some (Stp.done (Sum.inr ([]:(List Ineq))))
   else
    (cOf N c n).bind fun e=>
    (apnd 56 b e).bind fun f=>
    some (Stp.next (f,(iw (a+1)))))
  else
   some (Stp.done (Sum.inl b)))
def cSystem(N:Nat)(l:(List Constraint))(n:Int):Option (List Ineq):=
 (loopM (cSystem_b1 N l n) N (([]:(List Ineq)),0)).bind fun ss=>
  match ss with
  |(Sum.inl a)=>
   some a
  |(Sum.inr b)=>some b
def cloneIneq(N:Nat)(s:(List Ineq)):Option (List Ineq):=
 (apnd 56 ([]:(List Ineq)) s).bind fun a=>
 some a
def clipIneq(N:Nat)(s:(List Ineq)):Option (List Ineq):=
 some s
def indexIneq_b1(N:Nat)(f:(Ineq→Option Bool))(s:(List Ineq)):Int→Option (Stp Int (Sum Unit Int))
 |a=>
  (if(a:Int)<(List.length s:Int)then
   (idx s a).bind fun b=>
   (f b).bind fun c=>
   (if c=true then
    some (Stp.done (Sum.inr a))
   else
    some (Stp.next (iw (a+1))))
  else
   some (Stp.done (Sum.inl ())))
def indexIneq(N:Nat)(s:(List Ineq))(f:(Ineq→Option Bool)):Option Int:=
 (loopM (indexIneq_b1 N f s) N 0).bind fun ss=>
  match ss with
  |(Sum.inl _)=>
   some (-1)
  |(Sum.inr a)=>some a
def containsIneq(N:Nat)(s:(List Ineq))(f:(Ineq→Option Bool)):Option Bool:=
 (indexIneq N s f).bind fun r1=>
 some (decide ((r1:Int)≥0))
def width1(N:Nat)(q:Ineq)(ca:Int):Option Bool:=
 some (decide (((List.length q.Coefs:Int):Int)≠ca))
def cwidth(N:Nat)(l:(List Ineq)):Option (Int×Bool):=
 (if((List.length l:Int):Int)=0 then
  some (0,true)
 else
  (idx l 0).bind fun x2=>
  (containsIneq N l (fun a=>width1 N a (List.length x2.Coefs:Int))).bind fun b=>
  some ((List.length x2.Coefs:Int),(!b)))
def cApply_b2(N:Nat)(d:Use)(c:Ineq):((List Big)×Int)→Option (Stp ((List Big)×Int) (List Big))
 |(b,a)=>
  (if(a:Int)<(List.length c.Coefs:Int)then
   (idx c.Coefs a).bind fun e=>
   (idx b a).bind fun f=>
   (bMul N d.N e).bind fun g=>
   (bAdd N f g).bind fun i=>
   (idx b a).bind fun k=>
   (upd1 b a i).bind fun j=>
   some (Stp.next (j,(iw (a+1))))
  else
   some (Stp.done b))
def cApply_b1(N:Nat)(l:(List Ineq))(s:Step):((List Big)×Bool×(List Int)×Int)→Option (Stp ((List Big)×Bool×(List Int)×Int) (Sum ((List Big)×Bool×(List Int)) (Ineq×Bool)))
 |(c,d,e,b)=>
  (if(b:Int)<(List.length s.Uses:Int)then
   (idx s.Uses b).bind fun a=>
   (((if(a.Index:Int)<0 then
    some true
   else
    (if(a.Index:Int)≥(List.length l:Int)then
     some true
    else
     (bSign N a.N).bind fun i=>
     some (decide ((i:Int)<0)))):Option Bool)).bind fun ss=>
    match ss with
    |j=>
     (if j=true then
      some (Stp.done (Sum.inr ((Ineq.mk [] (Big.mk false [])),false)))
     else
      (idx l a.Index).bind fun f=>
      (loopM (cApply_b2 N a f) N (c,0)).bind fun ss=>
       match ss with
       |k=>
        (bMul N a.N f.Bound).bind fun m=>
        (bAdd N (Big.mk d e) m).bind fun g=>
        some (Stp.next (k,g.Negative,g.Digits,(iw (b+1)))))
  else
   some (Stp.done (Sum.inl (c,d,e))))
def cApply_b3(N:Nat)(s:Step)(d:(List Big)):((List Big)×Int)→Option (Stp ((List Big)×Int) (Sum (List Big) (Ineq×Bool)))
 |(b,a)=>
  (if(a:Int)<(List.length d:Int)then
   (idx b a).bind fun e=>
   (bDivFloor N e s.Divisor).bind fun c=>
   (bSign N c.2.1).bind fun f=>
   (if(f:Int)≠0 then
    some (Stp.done (Sum.inr ((Ineq.mk [] (Big.mk false [])),false)))
   else
    (idx b a).bind fun i=>
    (upd1 b a c.1).bind fun g=>
    some (Stp.next (g,(iw (a+1)))))
  else
   some (Stp.done (Sum.inl b)))
def cApply(N:Nat)(l:(List Ineq))(s:Step):Option (Ineq×Bool):=
 (cwidth N l).bind fun a=>
 (((if(!a.2)=true then
  some true
 else
  (bSign N s.Divisor).bind fun c=>
  some (decide ((c:Int)<1))):Option Bool)).bind fun ss=>
  match ss with
  |d=>
   (if d=true then
    some ((Ineq.mk [] (Big.mk false [])),false)
   else
    (mk1 (α:=Big) 32 (Big.mk false []) a.1).bind fun e=>
    (loopM (cApply_b1 N l s) N (e,false,[],0)).bind fun ss=>
     match ss with
     |(Sum.inl (b,f,g))=>
      (loopM (cApply_b3 N s b) N (b,0)).bind fun ss=>
       match ss with
       |(Sum.inl i)=>
        (bDivFloor N (Big.mk f g) s.Divisor).bind fun j=>
        some ((Ineq.mk i j.1),true)
       |(Sum.inr k)=>some k
     |(Sum.inr m)=>some m)
def cContradictory_b1(N:Nat)(q:Ineq):Int→Option (Stp Int (Sum Unit Bool))
 |a=>
  (if(a:Int)<(List.length q.Coefs:Int)then
   (idx q.Coefs a).bind fun b=>
   (bSign N b).bind fun c=>
   (if(c:Int)≠0 then
    some (Stp.done (Sum.inr false))
   else
    some (Stp.next (iw (a+1))))
  else
   some (Stp.done (Sum.inl ())))
def cContradictory(N:Nat)(q:Ineq):Option Bool:=
 (loopM (cContradictory_b1 N q) N 0).bind fun ss=>
  match ss with
  |(Sum.inl _)=>
   (bSign N q.Bound).bind fun a=>
   some (decide ((a:Int)<0))
  |(Sum.inr b)=>some b
def cCheck_b1(N:Nat)(p:Proof):((List Ineq)×Int)→Option (Stp ((List Ineq)×Int) (Sum (List Ineq) Bool))
 |(a,b)=>
  (if(b:Int)<(List.length p.Steps:Int)then
   (idx p.Steps b).bind fun d=>
   (cApply N a d).bind fun c=>
   (if(!c.2)=true then
    some (Stp.done (Sum.inr false))
   else
    (apnd 56 a [c.1]).bind fun e=>
    some (Stp.next (e,(iw (b+1)))))
  else
   some (Stp.done (Sum.inl a)))
def cCheck_step(N:Nat)(self:(List Ineq)→Proof→Option Bool)(l:(List Ineq))(p:Proof):Option Bool:=
 (cwidth N l).bind fun r6=>
 (if(!r6.2)=true then
  some false
 else
  (cloneIneq N l).bind fun c=>
  (loopM (cCheck_b1 N p) N (c,0)).bind fun ss=>
   match ss with
   |(Sum.inl a)=>
    (if((List.length p.Children:Int):Int)=0 then
     (containsIneq N a (fun d=>cContradictory N d)).bind fun e=>
     some e
    else
     (if((List.length p.Children:Int):Int)=2 then
      (cwidth N a).bind fun f=>
      (((if((List.length a:Int):Int)>0 then
       some (decide (((List.length p.Form:Int):Int)≠f.1))
      else
       some false):Option Bool)).bind fun ss=>
       match ss with
       |g=>
        (if g=true then
         some false
        else
         (bNeg N p.Bound).bind fun i=>
         (bOf N 1).bind fun j=>
         (bSub N i j).bind fun k=>
         (negated N p.Form k).bind fun m=>
         (clipIneq N a).bind fun b=>
         (apnd 56 b [(Ineq.mk p.Form p.Bound)]).bind fun n=>
         (idx p.Children 0).bind fun o=>
         (self n o).bind fun q=>
         (if q=true then
          (apnd 56 b [m]).bind fun s=>
          (idx p.Children 1).bind fun u=>
          (self s u).bind fun v=>
          some v
         else
          some false))
     else
      some false))
   |(Sum.inr y)=>some y)
def cCheck:Nat→(List Ineq)→Proof→Option Bool
 |0=>fun _ _=>none
 |N+1=>cCheck_step N (cCheck N)
def cSize_b1(N:Nat)(self:Proof→Option Int)(p:Proof):(Int×Int)→Option (Stp (Int×Int) Int)
 |(b,a)=>
  (if(a:Int)<(List.length p.Children:Int)then
   (idx p.Children a).bind fun c=>
   (self c).bind fun d=>
   some (Stp.next ((iw (b+d)),(iw (a+1))))
  else
   some (Stp.done b))
def cSize_step(N:Nat)(self:Proof→Option Int)(p:Proof):Option Int:=
 (((if((List.length p.Children:Int):Int)>0 then
  some (iw ((List.length p.Steps:Int)+1))
 else
  some (List.length p.Steps:Int)):Option Int)).bind fun ss=>
  match ss with
  |a=>
   (loopM (cSize_b1 N self p) N (a,0)).bind fun ss=>
    match ss with
    |b=>
     some b
def cSize:Nat→Proof→Option Int
 |0=>fun _=>none
 |N+1=>cSize_step N (cSize N)
open Go Go.X
def rbigs_b1(N:Nat)(l:(List Big)):Int→Option (Stp Int (Sum Unit Bool))
 |a=>
  (if(a:Int)<(List.length l:Int)then
   (idx l a).bind fun b=>
   (if((List.length b.Digits:Int):Int)>4 then
    some (Stp.done (Sum.inr false))
   else
    some (Stp.next (iw (a+1))))
  else
   some (Stp.done (Sum.inl ())))
def rbigs(N:Nat)(l:(List Big)):Option Bool:=
 (loopM (rbigs_b1 N l) N 0).bind fun ss=>
  match ss with
  |(Sum.inl _)=>
   some (decide (((List.length l:Int):Int)≤6))
  |(Sum.inr a)=>some a
def rSmallStep_b1(N:Nat)(s:Step):Int→Option (Stp Int (Sum Unit Bool))
 |a=>
  (if(a:Int)<(List.length s.Uses:Int)then
   (idx s.Uses a).bind fun b=>
   (if((List.length b.N.Digits:Int):Int)>4 then
    some (Stp.done (Sum.inr false))
   else
    some (Stp.next (iw (a+1))))
  else
   some (Stp.done (Sum.inl ())))
def rSmallStep(N:Nat)(s:Step):Option Bool:=
 (loopM (rSmallStep_b1 N s) N 0).bind fun ss=>
  match ss with
  |(Sum.inl _)=>
   (if((List.length s.Uses:Int):Int)≤12 then
    some (decide (((List.length s.Divisor.Digits:Int):Int)≤4))
   else
    some false)
  |(Sum.inr a)=>some a
def rweight_b1(N:Nat)(p:Proof):Int→Option (Stp Int (Sum Unit Int))
 |a=>
  (((if(a:Int)<(List.length p.Steps:Int)then
   some (decide (((iw (1+(List.length p.Steps:Int))):Int)≤100))
  else
   some false):Option Bool)).bind fun ss=>
   match ss with
   |b=>
    (if b=true then
     (idx p.Steps a).bind fun c=>
     (rSmallStep N c).bind fun d=>
     (if(!d)=true then
      some (Stp.done (Sum.inr 101))
     else
      some (Stp.next (iw (a+1))))
    else
     some (Stp.done (Sum.inl ())))
def rweight_b2(N:Nat)(self:Proof→Option Int)(p:Proof):(Int×Int)→Option (Stp (Int×Int) Int)
 |(a,b)=>
  (((if(b:Int)<(List.length p.Children:Int)then
   some (decide ((a:Int)≤100))
  else
   some false):Option Bool)).bind fun ss=>
   match ss with
   |c=>
    (if c=true then
     (idx p.Children b).bind fun d=>
     (self d).bind fun e=>
     some (Stp.next ((iw (a+e)),(iw (b+1))))
    else
     some (Stp.done a))
def rweight_step(N:Nat)(self:Proof→Option Int)(p:Proof):Option Int:=
 (((rbigs N p.Form).bind fun a=>
 (if(!a)=true then
  some true
 else
  some (decide (((List.length p.Bound.Digits:Int):Int)>4))):Option Bool)).bind fun ss=>
  match ss with
  |b=>
   (if b=true then
    some 101
   else
    (loopM (rweight_b1 N p) N 0).bind fun ss=>
     match ss with
     |(Sum.inl _)=>
      (loopM (rweight_b2 N self p) N ((iw (1+(List.length p.Steps:Int))),0)).bind fun ss=>
       match ss with
       |c=>
        some c
     |(Sum.inr d)=>some d)
def rweight:Nat→Proof→Option Int
 |0=>fun _=>none
 |N+1=>rweight_step N (rweight N)
def rSmallProof(N:Nat)(p:Proof):Option Bool:=
 (rweight N p).bind fun r6=>
 some (decide ((r6:Int)≤40))
open Go Go.X
def indexOf_b1(N:Nat)(pb:Int)(s:(List Int)):Int→Option (Stp Int (Sum Unit Int))
 |a=>
  (if(a:Int)<(List.length s:Int)then
   (idx s a).bind fun b=>
   (if(pb:Int)=b then
    some (Stp.done (Sum.inr a))
   else
    some (Stp.next (iw (a+1))))
  else
   some (Stp.done (Sum.inl ())))
def indexOf(N:Nat)(s:(List Int))(pb:Int):Option Int:=
 (loopM (indexOf_b1 N pb s) N 0).bind fun ss=>
  match ss with
  |(Sum.inl _)=>
   some (-1)
  |(Sum.inr a)=>some a
def containsOf(N:Nat)(s:(List Int))(pb:Int):Option Bool:=
 (indexOf N s pb).bind fun r1=>
 some (decide ((r1:Int)≥0))
open Go Go.X
def pClosure_b1(N:Nat)(pattern:(List UInt8)):(Int×Int)→Option (Stp (Int×Int) Int)
 |(b,a)=>
  (if(a:Int)<(List.length pattern:Int)then
   (((idx pattern a).bind fun c=>
   (if((UInt8.toNat c:Int):Int)=37 then
    (chk (¬(a:Int)<0)).bind fun _=>
    some (decide (((band .u32 (bshr .u32 b a) 1):Int)=1))
   else
    some false):Option Bool)).bind fun ss=>
    match ss with
    |d=>
     (if d=true then
      (chk (¬((iw (a+1)):Int)<0)).bind fun _=>
      some (Stp.next ((bor .u32 b (bshl .u32 1 (iw (a+1)))),(iw (a+1))))
     else
      some (Stp.next (b,(iw (a+1)))))
  else
   some (Stp.done b))
def pClosure(N:Nat)(pattern:(List UInt8))(vset:Int):Option Int:=
 (loopM (pClosure_b1 N pattern) N (vset,0)).bind fun ss=>
  match ss with
  |a=>
   some a
def pBegin(N:Nat)(t:TTest):Option Int:=
 (if(t.Kind:Int)=1 then
  (pClosure N t.Text 1).bind fun r7=>
  some r7
 else
  some 0)
def pNext_b1(N:Nat)(c:Int)(s:Int)(t:TTest):(Int×Int)→Option (Stp (Int×Int) Int)
 |(b,a)=>
  (if(a:Int)<(List.length t.Text:Int)then
   (chk (¬(a:Int)<0)).bind fun _=>
   (if((band .u32 (bshr .u32 s a) 1):Int)=0 then
    some (Stp.next (b,(iw (a+1))))
   else
    (idx t.Text a).bind fun d=>
    (if((UInt8.toNat d:Int):Int)=37 then
     (chk (¬(a:Int)<0)).bind fun _=>
     some (Stp.next ((bor .u32 b (bshl .u32 1 a)),(iw (a+1))))
    else
     (((if((UInt8.toNat d:Int):Int)=95 then
      some true
     else
      some (decide (((UInt8.toNat d:Int):Int)=c))):Option Bool)).bind fun ss=>
      match ss with
      |e=>
       (if e=true then
        (chk (¬((iw (a+1)):Int)<0)).bind fun _=>
        some (Stp.next ((bor .u32 b (bshl .u32 1 (iw (a+1)))),(iw (a+1))))
       else
        some (Stp.next (b,(iw (a+1)))))))
  else
   some (Stp.done b))
def pNext(N:Nat)(t:TTest)(s:Int)(c:Int):Option Int:=
 (if(t.Kind:Int)=1 then
  (loopM (pNext_b1 N c s t) N (0,0)).bind fun ss=>
   match ss with
   |a=>
    (pClosure N t.Text a).bind fun b=>
    some b
 else
  (if(s:Int)≥100 then
   some s
  else
   (((if((iw s):Int)=(List.length t.Text:Int)then
    some true
   else
    (idx t.Text s).bind fun d=>
    some (decide ((c:Int)>(UInt8.toNat d:Int)))):Option Bool)).bind fun ss=>
    match ss with
    |e=>
     (if e=true then
      some 101
     else
      (idx t.Text s).bind fun f=>
      (if(c:Int)<(UInt8.toNat f:Int)then
       some 100
      else
       some (uw32 (s+1))))))
def pPassed(N:Nat)(t:TTest)(s:Int):Option Bool:=
 (((if(t.Kind:Int)=1 then
  (chk (¬((List.length t.Text:Int):Int)<0)).bind fun _=>
  some (decide (((band .u32 (bshr .u32 s (List.length t.Text:Int)) 1):Int)=1))
 else
  (if(t.Kind:Int)=0 then
   some (decide (((iw s):Int)=(List.length t.Text:Int)))
  else
   (if(t.Kind:Int)=2 then
    (if(s:Int)=100 then
     some true
    else
     some (decide (((iw s):Int)<(List.length t.Text:Int))))
   else
    (if(s:Int)=100 then
     some true
    else
     some (decide (((iw s):Int)≤(List.length t.Text:Int))))))):Option Bool)).bind fun ss=>
  match ss with
  |a=>
   some (!(a==t.Negated))
def pKey_b1(N:Nat)(l:(List Int)):((List Int)×Int)→Option (Stp ((List Int)×Int) (List Int))
 |(c,a)=>
  (if(a:Int)<(List.length l:Int)then
   (idx l a).bind fun b=>
   (apnd 1 c [(uw8 b),(uw8 (bshr .u32 b 8)),(uw8 (bshr .u32 b 16))]).bind fun d=>
   some (Stp.next (d,(iw (a+1))))
  else
   some (Stp.done c))
def pKey(N:Nat)(l:(List Int))(left:Int):Option (List UInt8):=
 (loopM (pKey_b1 N l) N ([(uw8 left)],0)).bind fun ss=>
  match ss with
  |a=>
   some (bstr a)
def pFind_b1(N:Nat)(f:TFinder)(l:(List Int)):Int→Option (Stp Int (Sum Unit (Bool×(List (List UInt8))×(List ((List UInt8)×Bool)))))
 |a=>
  (if(a:Int)<(List.length f.tests:Int)then
   (idx f.tests a).bind fun b=>
   (idx l a).bind fun c=>
   (pPassed N b c).bind fun d=>
   (if(!d)=true then
    some (Stp.done (Sum.inr (false,f.out,f.dead)))
   else
    some (Stp.next (iw (a+1))))
  else
   some (Stp.done (Sum.inl ())))
def pFind_b3(N:Nat)(f:TFinder)(l:(List Int))(c:Int):((List Int)×Int)→Option (Stp ((List Int)×Int) (List Int))
 |(b,a)=>
  (if(a:Int)<(List.length f.tests:Int)then
   (idx f.tests a).bind fun d=>
   (idx l a).bind fun e=>
   (pNext N d e (uw8 c)).bind fun g=>
   (idx b a).bind fun j=>
   (upd1 b a g).bind fun i=>
   some (Stp.next (i,(iw (a+1))))
  else
   some (Stp.done b))
def pFind_b2(N:Nat)(self:TFinder→(List Int)→(List Int)→Int→Option (Bool×(List (List UInt8))×(List ((List UInt8)×Bool))))(f:TFinder)(l:(List Int))(left:Int)(text:(List Int)):((List (List UInt8))×(List ((List UInt8)×Bool))×Bool×Int)→Option (Stp ((List (List UInt8))×(List ((List UInt8)×Bool))×Bool×Int) ((List (List UInt8))×(List ((List UInt8)×Bool))×Bool))
 |(c,d,e,a)=>
  (((if(a:Int)≤126 then
   some (decide (((List.length c:Int):Int)<f.most))
  else
   some false):Option Bool)).bind fun ss=>
   match ss with
   |g=>
    (if g=true then
     (mk1 (α:=Int) 4 0 (List.length l:Int)).bind fun i=>
     (loopM (pFind_b3 N f l a) N (i,0)).bind fun ss=>
      match ss with
      |j=>
       (apnd 1 text [(uw8 a)]).bind fun k=>
       (self (TFinder.mk f.tests f.most c d) j k (iw (left-1))).bind fun b=>
       (if b.1=true then
        some (Stp.next (b.2.1,b.2.2,true,(iw32 (a+1))))
       else
        some (Stp.next (b.2.1,b.2.2,e,(iw32 (a+1)))))
    else
     some (Stp.done (c,d,e)))
def pFind_step(N:Nat)(self:TFinder→(List Int)→(List Int)→Int→Option (Bool×(List (List UInt8))×(List ((List UInt8)×Bool))))(f:TFinder)(l:(List Int))(text:(List Int))(left:Int):Option (Bool×(List (List UInt8))×(List ((List UInt8)×Bool))):=
 (if(left:Int)=0 then
  (loopM (pFind_b1 N f l) N 0).bind fun ss=>
   match ss with
   |(Sum.inl _)=>
    (apnd 16 f.out [(bstr text)]).bind fun e=>
    some (true,e,f.dead)
   |(Sum.inr g)=>some g
 else
  (pKey N l left).bind fun b=>
  (if(mget f.dead b false).1=true then
   some (false,f.out,f.dead)
  else
   (loopM (pFind_b2 N self f l left text) N (f.out,f.dead,false,32)).bind fun ss=>
    match ss with
    |(c,d,a)=>
     (if(!a)=true then
      some (a,c,(mput d b true))
     else
      some (a,c,d))))
def pFind:Nat→TFinder→(List Int)→(List Int)→Int→Option (Bool×(List (List UInt8))×(List ((List UInt8)×Bool)))
 |0=>fun _ _ _ _=>none
 |N+1=>pFind_step N (pFind N)
def pFBegin_b1(N:Nat)(f:TFinder):((List Int)×Int)→Option (Stp ((List Int)×Int) (List Int))
 |(b,a)=>
  (if(a:Int)<(List.length f.tests:Int)then
   (idx f.tests a).bind fun c=>
   (pBegin N c).bind fun d=>
   (apnd 4 b [d]).bind fun e=>
   some (Stp.next (e,(iw (a+1))))
  else
   some (Stp.done b))
def pFBegin(N:Nat)(f:TFinder):Option ((List Int)×(List (List UInt8))×(List ((List UInt8)×Bool))):=
 (loopM (pFBegin_b1 N f) N (([]:(List Int)),0)).bind fun ss=>
  match ss with
  |a=>
   some (a,f.out,f.dead)
def pWords(N:Nat)(l:(List TTest))(length:Int)(most:Int):Option (List (List UInt8)):=
 (((if(length:Int)<0 then
  some true
 else
  some (decide ((most:Int)≤0))):Option Bool)).bind fun ss=>
  match ss with
  |x2=>
   (if x2=true then
    some ([]:(List (List UInt8)))
   else
    (pFBegin N (TFinder.mk l most ([]:(List (List UInt8))) ([]:(List ((List UInt8)×Bool))))).bind fun a=>
    (pFind N (TFinder.mk l most a.2.1 a.2.2) a.1 ([]:(List Int)) length).bind fun b=>
    some b.2.1)
open Go Go.X
def indexInt_b1(N:Nat)(f:(Int→Option Bool))(s:(List Int)):Int→Option (Stp Int (Sum Unit Int))
 |a=>
  (if(a:Int)<(List.length s:Int)then
   (idx s a).bind fun b=>
   (f b).bind fun c=>
   (if c=true then
    some (Stp.done (Sum.inr a))
   else
    some (Stp.next (iw (a+1))))
  else
   some (Stp.done (Sum.inl ())))
def indexInt(N:Nat)(s:(List Int))(f:(Int→Option Bool)):Option Int:=
 (loopM (indexInt_b1 N f s) N 0).bind fun ss=>
  match ss with
  |(Sum.inl _)=>
   some (-1)
  |(Sum.inr a)=>some a
def containsInt(N:Nat)(s:(List Int))(f:(Int→Option Bool)):Option Bool:=
 (indexInt N s f).bind fun r1=>
 some (decide ((r1:Int)≥0))
def tclasses_b1(N:Nat)(x8:(List Int)):((List Int)×Int)→Option (Stp ((List Int)×Int) (List Int))
 |(b,a)=>
  (if(a:Int)<(List.length x8:Int)then
   (idx b a).bind fun d=>
   (upd1 b a a).bind fun c=>
   some (Stp.next (c,(iw (a+1))))
  else
   some (Stp.done b))
def tclasses_b3(N:Nat)(p:TProb):((List Int)×Bool×Int)→Option (Stp ((List Int)×Bool×Int) ((List Int)×Bool))
 |(a,f,c)=>
  (if(c:Int)<(List.length p.Same:Int)then
   (idx p.Same c).bind fun b=>
   (idx a b.e0).bind fun d=>
   (idx a b.e1).bind fun e=>
   (if(d:Int)≠e then
    (idx a b.e0).bind fun j=>
    (upd1 a b.e0 (imin d e)).bind fun g=>
    (idx g b.e1).bind fun k=>
    (upd1 g b.e1 (imin d e)).bind fun i=>
    some (Stp.next (i,true,(iw (c+1))))
   else
    some (Stp.next (a,f,(iw (c+1)))))
  else
   some (Stp.done (a,f)))
def tclasses_b2(N:Nat)(p:TProb):((List Int)×Bool)→Option (Stp ((List Int)×Bool) (List Int))
 |(a,b)=>
  (if b=true then
   (loopM (tclasses_b3 N p) N (a,false,0)).bind fun ss=>
    match ss with
    |(c,d)=>
     some (Stp.next (c,d))
  else
   some (Stp.done a))
def tclasses_b4(N:Nat)(d:(List Int)):((List Int)×Int×Int)→Option (Stp ((List Int)×Int×Int) ((List Int)×Int))
 |(b,c,a)=>
  (if(a:Int)<(List.length d:Int)then
   (idx d a).bind fun e=>
   (if(e:Int)=a then
    (idx b a).bind fun j=>
    (upd1 b a c).bind fun f=>
    some (Stp.next (f,(iw (c+1)),(iw (a+1))))
   else
    (idx b e).bind fun g=>
    (idx b a).bind fun k=>
    (upd1 b a g).bind fun i=>
    some (Stp.next (i,c,(iw (a+1)))))
  else
   some (Stp.done (b,c)))
def tclasses(N:Nat)(p:TProb):Option ((List Int)×Int):=
 (mk1 (α:=Int) 8 0 (List.length p.Min:Int)).bind fun x8=>
 (loopM (tclasses_b1 N x8) N (x8,0)).bind fun ss=>
  match ss with
  |b=>
   (loopM (tclasses_b2 N p) N (b,true)).bind fun ss=>
    match ss with
    |a=>
     (mk1 (α:=Int) 8 0 (List.length a:Int)).bind fun c=>
     (loopM (tclasses_b4 N a) N (c,0,0)).bind fun ss=>
      match ss with
      |(d,e)=>
       some (d,e)
def cloneTest(N:Nat)(s:(List TTest)):Option (List TTest):=
 (apnd 40 ([]:(List TTest)) s).bind fun a=>
 some a
def tgathered_b1(N:Nat)(d:(List TClass)):((List TClass)×Int)→Option (Stp ((List TClass)×Int) (List TClass))
 |(c,a)=>
  (if(a:Int)<(List.length d:Int)then
   (idx c a).bind fun b=>
   (upd1 c a (TClass.mk b.low 16 b.tests b.words b.apart)).bind fun e=>
   some (Stp.next (e,(iw (a+1))))
  else
   some (Stp.done c))
def tgathered_b2(N:Nat)(p:TProb)(r6:((List Int)×Int)):((List TClass)×Int)→Option (Stp ((List TClass)×Int) (List TClass))
 |(b,c)=>
  (if(c:Int)<(List.length r6.1:Int)then
   (idx r6.1 c).bind fun a=>
   (idx b a).bind fun g=>
   (idx p.Min c).bind fun i=>
   (idx b a).bind fun j=>
   (idx p.Max c).bind fun k=>
   (idx b a).bind fun d=>
   (upd1 b a (TClass.mk (imax g.low i) d.high d.tests d.words d.apart)).bind fun f=>
   (idx f a).bind fun e=>
   (upd1 f a (TClass.mk e.low (imin j.high k) e.tests e.words e.apart)).bind fun m=>
   some (Stp.next (m,(iw (c+1))))
  else
   some (Stp.done b))
def tgathered_b3(N:Nat)(p:TProb)(r6:((List Int)×Int)):((List TClass)×Int)→Option (Stp ((List TClass)×Int) (List TClass))
 |(a,d)=>
  (if(d:Int)<(List.length p.Tests:Int)then
   (idx p.Tests d).bind fun e=>
   (idx r6.1 e.Var).bind fun b=>
   (idx a b).bind fun f=>
   (idx a b).bind fun j=>
   (apnd 40 f.tests [e]).bind fun g=>
   (idx a b).bind fun c=>
   (upd1 a b (TClass.mk c.low c.high g c.words c.apart)).bind fun i=>
   some (Stp.next (i,(iw (d+1))))
  else
   some (Stp.done a))
def tgathered_b4(N:Nat)(p:TProb)(r6:((List Int)×Int)):((List TClass)×Int)→Option (Stp ((List TClass)×Int) (Sum (List TClass) ((List TClass)×(List Int)×Bool)))
 |(a,d)=>
  (if(d:Int)<(List.length p.Different:Int)then
   (idx p.Different d).bind fun g=>
   (idx r6.1 g.e0).bind fun b=>
   (idx r6.1 g.e1).bind fun c=>
   (if(b:Int)=c then
    some (Stp.done (Sum.inr (a,r6.1,false)))
   else
    (idx a b).bind fun j=>
    (idx a b).bind fun u=>
    (containsOf N j.apart c).bind fun k=>
    (if(!k)=true then
     (idx a b).bind fun m=>
     (idx a c).bind fun n=>
     (idx a b).bind fun v=>
     (apnd 8 m.apart [c]).bind fun o=>
     (idx a c).bind fun y=>
     (apnd 8 n.apart [b]).bind fun q=>
     (idx a b).bind fun e=>
     (upd1 a b (TClass.mk e.low e.high e.tests e.words o)).bind fun i=>
     (idx i c).bind fun f=>
     (upd1 i c (TClass.mk f.low f.high f.tests f.words q)).bind fun s=>
     some (Stp.next (s,(iw (d+1))))
    else
     some (Stp.next (a,(iw (d+1))))))
  else
   some (Stp.done (Sum.inl a)))
def tgathered(N:Nat)(p:TProb):Option ((List TClass)×(List Int)×Bool):=
 (tclasses N p).bind fun r6=>
 (mk1 (α:=TClass) 88 (TClass.mk 0 0 [] [] []) r6.2).bind fun a=>
 (loopM (tgathered_b1 N a) N (a,0)).bind fun ss=>
  match ss with
  |b=>
   (loopM (tgathered_b2 N p r6) N (b,0)).bind fun ss=>
    match ss with
    |c=>
     (loopM (tgathered_b3 N p r6) N (c,0)).bind fun ss=>
      match ss with
      |d=>
       (loopM (tgathered_b4 N p r6) N (d,0)).bind fun ss=>
        match ss with
        |(Sum.inl e)=>
         some (e,r6.1,true)
        |(Sum.inr f)=>some f
def tfirst_b2(N:Nat)(c:TClass)(most:Int)(e:Int):((List (List UInt8))×(List TTest))→Option (Stp ((List (List UInt8))×(List TTest)) (List (List UInt8)))
 |(a,f)=>
  (if((List.length a:Int):Int)<most then
   (pWords N f e (imin 100 (iw (most-(List.length a:Int))))).bind fun b=>
   (apnd 16 a b).bind fun d=>
   (if((List.length b:Int):Int)<100 then
    some (Stp.done d)
   else
    (cloneTest N c.tests).bind fun g=>
    (idx b (iw ((List.length b:Int)-1))).bind fun i=>
    (apnd 40 g [(TTest.mk 0 3 true i)]).bind fun j=>
    some (Stp.next (d,j)))
  else
   some (Stp.done a))
def tfirst_b1(N:Nat)(c:TClass)(most:Int):((List (List UInt8))×Int)→Option (Stp ((List (List UInt8))×Int) (List (List UInt8)))
 |(a,b)=>
  (((if(b:Int)≤c.high then
   some (decide (((List.length a:Int):Int)<most))
  else
   some false):Option Bool)).bind fun ss=>
   match ss with
   |d=>
    (if d=true then
     (cloneTest N c.tests).bind fun e=>
     (loopM (tfirst_b2 N c most b) N (a,e)).bind fun ss=>
      match ss with
      |f=>
       some (Stp.next (f,(iw (b+1))))
    else
     some (Stp.done a))
def tfirst(N:Nat)(c:TClass)(most:Int):Option (List (List UInt8)):=
 (loopM (tfirst_b1 N c most) N (([]:(List (List UInt8))),c.low)).bind fun ss=>
  match ss with
  |a=>
   some a
def revInt_b1(N:Nat):((List Int)×Int×Int)→Option (Stp ((List Int)×Int×Int) (List Int))
 |(a,b,c)=>
  (if(b:Int)<c then
   (idx a c).bind fun e=>
   (idx a b).bind fun f=>
   (idx a b).bind fun i=>
   (upd1 a b e).bind fun d=>
   (idx d c).bind fun j=>
   (upd1 d c f).bind fun g=>
   some (Stp.next (g,(iw (b+1)),(iw (c-1))))
  else
   some (Stp.done a))
def revInt(N:Nat)(s:(List Int)):Option (List Int):=
 (loopM (revInt_b1 N) N (s,0,(iw ((List.length s:Int)-1)))).bind fun ss=>
  match ss with
  |a=>
   some a
def tchoose1(N:Nat)(other:Int)(ca:(List Bool))(cb:(List (List UInt8)))(cc:(List UInt8)):Option Bool:=
 (idx ca other).bind fun x1=>
 (if x1=true then
  (idx cb other).bind fun a=>
  some (decide (a=cc))
 else
  some false)
def tchoose_b1(N:Nat)(self:(List TClass)→(List Int)→(List (List UInt8))→(List Bool)→Option (Bool×Bool×(List (List UInt8))×(List Bool)))(l:(List TClass))(order:(List Int))(words:(List (List UInt8)))(e:Int)(f:TClass):((List (List UInt8))×(List Bool)×Int)→Option (Stp ((List (List UInt8))×(List Bool)×Int) (Sum ((List (List UInt8))×(List Bool)) (Bool×Bool×(List (List UInt8))×(List Bool))))
 |(b,c,d)=>
  (if(d:Int)<(List.length f.words:Int)then
   (idx f.words d).bind fun g=>
   (idx l e).bind fun i=>
   (containsInt N i.apart (fun j=>tchoose1 N j c b g)).bind fun k=>
   (if k=true then
    some (Stp.next (b,c,(iw (d+1))))
   else
    (idx b e).bind fun o=>
    (upd1 b e g).bind fun m=>
    (cut order 1 (List.length order:Int)).bind fun n=>
    (self l n m c).bind fun a=>
    (if a.2.1=true then
     some (Stp.done (Sum.inr (a.1,true,a.2.2.1,a.2.2.2)))
    else
     some (Stp.next (a.2.2.1,a.2.2.2,(iw (d+1))))))
  else
   some (Stp.done (Sum.inl (b,c))))
def tchoose_step(N:Nat)(self:(List TClass)→(List Int)→(List (List UInt8))→(List Bool)→Option (Bool×Bool×(List (List UInt8))×(List Bool)))(l:(List TClass))(order:(List Int))(words:(List (List UInt8)))(known:(List Bool)):Option (Bool×Bool×(List (List UInt8))×(List Bool)):=
 (if((List.length order:Int):Int)=0 then
  some (true,true,words,known)
 else
  (idx order 0).bind fun a=>
  (idx known a).bind fun i=>
  (upd1 known a true).bind fun c=>
  (idx l a).bind fun d=>
  (loopM (tchoose_b1 N self l order words a d) N (words,c,0)).bind fun ss=>
   match ss with
   |(Sum.inl (e,b))=>
    (idx b a).bind fun j=>
    (upd1 b a false).bind fun f=>
    some (false,false,e,f)
   |(Sum.inr g)=>some g)
def tchoose:Nat→(List TClass)→(List Int)→(List (List UInt8))→(List Bool)→Option (Bool×Bool×(List (List UInt8))×(List Bool))
 |0=>fun _ _ _ _=>none
 |N+1=>tchoose_step N (tchoose N)
def insSort_b2(N:Nat)(a:Int)(cmp:(Int→Int→Option Int)):((List Int)×Int)→Option (Stp ((List Int)×Int) (List Int))
 |(c,b)=>
  (((if(b:Int)>a then
   (idx c b).bind fun e=>
   (idx c (iw (b-1))).bind fun f=>
   (cmp e f).bind fun g=>
   some (decide ((g:Int)<0))
  else
   some false):Option Bool)).bind fun ss=>
   match ss with
   |i=>
    (if i=true then
     (idx c (iw (b-1))).bind fun j=>
     (idx c b).bind fun k=>
     (idx c b).bind fun n=>
     (upd1 c b j).bind fun d=>
     (idx d (iw (b-1))).bind fun o=>
     (upd1 d (iw (b-1)) k).bind fun m=>
     some (Stp.next (m,(iw (b-1))))
    else
     some (Stp.done c))
def insSort_b1(N:Nat)(a:Int)(b:Int)(cmp:(Int→Int→Option Int)):((List Int)×Int)→Option (Stp ((List Int)×Int) (List Int))
 |(d,c)=>
  (if(c:Int)<b then
   (loopM (insSort_b2 N a cmp) N (d,c)).bind fun ss=>
    match ss with
    |e=>
     some (Stp.next (e,(iw (c+1))))
  else
   some (Stp.done d))
def insSort(N:Nat)(data:(List Int))(a:Int)(b:Int)(cmp:(Int→Int→Option Int)):Option (List Int):=
 (loopM (insSort_b1 N a b cmp) N (data,(iw (a+1)))).bind fun ss=>
  match ss with
  |c=>
   some c
def stableSort_b1(N:Nat)(cmp:(Int→Int→Option Int))(n:Int):((List Int)×Int×Int)→Option (Stp ((List Int)×Int×Int) ((List Int)×Int))
 |(b,c,a)=>
  (if(a:Int)≤n then
   (insSort N b c a cmp).bind fun d=>
   some (Stp.next (d,a,(iw (a+20))))
  else
   some (Stp.done (b,c)))
def stableSort_b3(N:Nat)(n:Int)(a:Int):Unit→Option (Stp Unit Unit)
 |_=>
  (if((iw (2*a)):Int)≤n then
   none
  else
   some (Stp.done ()))
def stableSort_b2(N:Nat)(n:Int):Int→Option (Stp Int Unit)
 |a=>
  (if(a:Int)<n then
   (loopM (stableSort_b3 N n a) N ()).bind fun ss=>
    match ss with
    |_=>
     (if((iw (0+a)):Int)<n then
      none
     else
      some (Stp.next (iw (a*2))))
  else
   some (Stp.done ()))
def stableSort(N:Nat)(data:(List Int))(n:Int)(cmp:(Int→Int→Option Int)):Option (List Int):=
 (loopM (stableSort_b1 N cmp n) N (data,0,20)).bind fun ss=>
  match ss with
  |(a,b)=>
   (insSort N a b n cmp).bind fun c=>
   (loopM (stableSort_b2 N n) N 20).bind fun ss=>
    match ss with
    |_=>
     some c
def sortStable(N:Nat)(x:(List Int))(cmp:(Int→Int→Option Int)):Option (List Int):=
 (stableSort N x (List.length x:Int) cmp).bind fun r2=>
 some r2
def tSolve1(N:Nat)(a:Int)(b:Int)(ca:(List TClass)):Option Int:=
 (idx ca a).bind fun x1=>
 (idx ca b).bind fun c=>
 some (iw ((List.length x1.words:Int)-(List.length c.words:Int)))
def tSolve_b1(N:Nat)(r6:((List TClass)×(List Int)×Bool)):((List TClass)×Int)→Option (Stp ((List TClass)×Int) (Sum (List TClass) ((List (List UInt8))×Bool)))
 |(b,a)=>
  (if(a:Int)<(List.length r6.1:Int)then
   (idx b a).bind fun e=>
   (idx b a).bind fun f=>
   (tfirst N e (iw ((List.length f.apart:Int)+1))).bind fun g=>
   (idx b a).bind fun c=>
   (upd1 b a (TClass.mk c.low c.high c.tests g c.apart)).bind fun d=>
   (idx d a).bind fun i=>
   (if((List.length i.words:Int):Int)=0 then
    some (Stp.done (Sum.inr (([]:(List (List UInt8))),false)))
   else
    some (Stp.next (d,(iw (a+1)))))
  else
   some (Stp.done (Sum.inl b)))
def tSolve_b2(N:Nat)(c:(List TClass)):((List Int)×Int)→Option (Stp ((List Int)×Int) (List Int))
 |(b,a)=>
  (if(a:Int)<(List.length c:Int)then
   (idx c a).bind fun d=>
   (idx b a).bind fun f=>
   (upd1 b a (List.length d.apart:Int)).bind fun e=>
   some (Stp.next (e,(iw (a+1))))
  else
   some (Stp.done b))
def tSolve_b5(N:Nat)(d:TClass):((List Int)×Int)→Option (Stp ((List Int)×Int) (List Int))
 |(a,b)=>
  (if(b:Int)<(List.length d.apart:Int)then
   (idx d.apart b).bind fun c=>
   (idx a c).bind fun e=>
   (idx a c).bind fun g=>
   (upd1 a c (iw (e-1))).bind fun f=>
   some (Stp.next (f,(iw (b+1))))
  else
   some (Stp.done a))
def tSolve_b4(N:Nat)(d:(List TClass)):((List Int)×(List Int)×(List Bool)×Bool×Int)→Option (Stp ((List Int)×(List Int)×(List Bool)×Bool×Int) ((List Int)×(List Int)×(List Bool)×Bool))
 |(e,c,b,f,a)=>
  (if(a:Int)<(List.length d:Int)then
   (((idx b a).bind fun g=>
   (if(!g)=true then
    (idx d a).bind fun i=>
    (idx c a).bind fun j=>
    some (decide (((List.length i.words:Int):Int)>j))
   else
    some false):Option Bool)).bind fun ss=>
    match ss with
    |k=>
     (if k=true then
      (idx b a).bind fun q=>
      (upd1 b a true).bind fun m=>
      (apnd 8 e [a]).bind fun n=>
      (idx d a).bind fun o=>
      (loopM (tSolve_b5 N o) N (c,0)).bind fun ss=>
       match ss with
       |p=>
        some (Stp.next (n,p,m,true,(iw (a+1))))
     else
      some (Stp.next (e,c,b,f,(iw (a+1)))))
  else
   some (Stp.done (e,c,b,f)))
def tSolve_b3(N:Nat)(c:(List TClass)):((List Int)×(List Int)×(List Bool)×Bool)→Option (Stp ((List Int)×(List Int)×(List Bool)×Bool) ((List Int)×(List Bool)))
 |(a,d,b,e)=>
  (if e=true then
   (loopM (tSolve_b4 N c) N (a,d,b,false,0)).bind fun ss=>
    match ss with
    |(f,g,i,j)=>
     some (Stp.next (f,g,i,j))
  else
   some (Stp.done (a,b)))
def tSolve_b6(N:Nat)(c:(List TClass))(d:(List Bool)):((List Int)×Int)→Option (Stp ((List Int)×Int) (List Int))
 |(b,a)=>
  (if(a:Int)<(List.length c:Int)then
   (idx d a).bind fun e=>
   (if(!e)=true then
    (apnd 8 b [a]).bind fun f=>
    some (Stp.next (f,(iw (a+1))))
   else
    some (Stp.next (b,(iw (a+1)))))
  else
   some (Stp.done b))
def tSolve_b7(N:Nat)(r6:((List TClass)×(List Int)×Bool))(c:(Bool×Bool×(List (List UInt8))×(List Bool))):((List (List UInt8))×Int)→Option (Stp ((List (List UInt8))×Int) (List (List UInt8)))
 |(b,a)=>
  (if(a:Int)<(List.length r6.2.1:Int)then
   (idx r6.2.1 a).bind fun d=>
   (idx c.2.2.1 d).bind fun e=>
   (idx b a).bind fun g=>
   (upd1 b a e).bind fun f=>
   some (Stp.next (f,(iw (a+1))))
  else
   some (Stp.done b))
def tSolve(N:Nat)(p:TProb):Option ((List (List UInt8))×Bool):=
 (tgathered N p).bind fun r6=>
 (if(!r6.2.2)=true then
  some (([]:(List (List UInt8))),false)
 else
  (loopM (tSolve_b1 N r6) N (r6.1,0)).bind fun ss=>
   match ss with
   |(Sum.inl a)=>
    (mk1 (α:=Int) 8 0 (List.length a:Int)).bind fun c=>
    (mk1 (α:=Bool) 1 false (List.length a:Int)).bind fun d=>
    (loopM (tSolve_b2 N a) N (c,0)).bind fun ss=>
     match ss with
     |e=>
      (loopM (tSolve_b3 N a) N (([]:(List Int)),e,d,true)).bind fun ss=>
       match ss with
       |(f,g)=>
        (loopM (tSolve_b6 N a g) N (([]:(List Int)),0)).bind fun ss=>
         match ss with
         |i=>
          (sortStable N i (fun j k=>tSolve1 N j k a)).bind fun m=>
          (revInt N f).bind fun n=>
          (apnd 8 m n).bind fun o=>
          (mk1 (α:=(List UInt8)) 16 [] (List.length a:Int)).bind fun q=>
          (mk1 (α:=Bool) 1 false (List.length a:Int)).bind fun s=>
          (tchoose N a o q s).bind fun b=>
          (if(!b.2.1)=true then
           some (([]:(List (List UInt8))),false)
          else
           (chk (b.1=true)).bind fun _=>
           (mk1 (α:=(List UInt8)) 16 [] (List.length r6.2.1:Int)).bind fun u=>
           (loopM (tSolve_b7 N r6 b) N (u,0)).bind fun ss=>
            match ss with
            |v=>
             some (v,true))
   |(Sum.inr y)=>some y)
open Go Go.X
def sAbs(N:Nat)(n:Int):Option Int:=
 (if(n:Int)<0 then
  some (iw (0-n))
 else
  some n)
def sWithin(N:Nat)(n:Int)(low:Int)(high:Int):Option Bool:=
 (if(n:Int)≥low then
  some (decide ((n:Int)≤high))
 else
  some false)
def sHas_b1(N:Nat)(l:(List Int))(n:Int):Int→Option (Stp Int (Sum Unit Bool))
 |a=>
  (if(a:Int)<(List.length l:Int)then
   (idx l a).bind fun b=>
   (if(b:Int)=n then
    some (Stp.done (Sum.inr true))
   else
    some (Stp.next (iw (a+1))))
  else
   some (Stp.done (Sum.inl ())))
def sHas(N:Nat)(l:(List Int))(n:Int):Option Bool:=
 (loopM (sHas_b1 N l n) N 0).bind fun ss=>
  match ss with
  |(Sum.inl _)=>
   some false
  |(Sum.inr a)=>some a
def sForm_b1(N:Nat)(bounds:(List Int))(c:RClause)(f:Linear)(l:(List RVar)):(Int×Int)→Option (Stp (Int×Int) (Sum Int Int))
 |(d,b)=>
  (if(b:Int)<(List.length f.Coefs:Int)then
   (idx f.Coefs b).bind fun a=>
   (((if(a.Var:Int)<0 then
    some true
   else
    (if(a.Var:Int)≥(iw ((List.length l:Int)+(List.length bounds:Int)))then
     some true
    else
     (if(b:Int)>0 then
      (idx f.Coefs (iw (b-1))).bind fun i=>
      (if(i.Var:Int)≥a.Var then
       some true
      else
       (if(a.N:Int)=0 then
        some true
       else
        (sWithin N a.N (-1048576) 1048576).bind fun j=>
        some (!j)))
     else
      (if(a.N:Int)=0 then
       some true
      else
       (sWithin N a.N (-1048576) 1048576).bind fun k=>
       some (!k))))):Option Bool)).bind fun ss=>
    match ss with
    |m=>
     (if m=true then
      some (Stp.done (Sum.inr (-1)))
     else
      (((if(a.Var:Int)≥(List.length l:Int)then
       (idx bounds (iw (a.Var-(List.length l:Int)))).bind fun n=>
       some (Sum.inl n)
      else
       (((idx l a.Var).bind fun o=>
       (if(o.Ty:Int)≠1 then
        some true
       else
        (sHas N c.NotNull a.Var).bind fun p=>
        some (!p)):Option Bool)).bind fun ss=>
        match ss with
        |q=>
         (if q=true then
          some (Sum.inr (-1))
         else
          some (Sum.inl 2147483648))):Option (Sum Int Int))).bind fun ss=>
       match ss with
       |(Sum.inl e)=>
        (sAbs N a.N).bind fun s=>
        (sdiv .i64 1152921504606846977 s).bind fun u=>
        (if(e:Int)>u then
         some (Stp.done (Sum.inr (-1)))
        else
         (sAbs N a.N).bind fun g=>
         (if((iw (d+(iw (g*e)))):Int)>1152921504606846977 then
          some (Stp.done (Sum.inr (-1)))
         else
          some (Stp.next ((iw (d+(iw (g*e)))),(iw (b+1))))))
       |(Sum.inr v)=>some (Stp.done (Sum.inr v)))
  else
   some (Stp.done (Sum.inl d)))
def sForm(N:Nat)(f:Linear)(c:RClause)(l:(List RVar))(bounds:(List Int)):Option Int:=
 (sWithin N f.Const (-1099511627777) 1099511627777).bind fun a=>
 (if(!a)=true then
  some (-1)
 else
  (sAbs N f.Const).bind fun b=>
  (loopM (sForm_b1 N bounds c f l) N (b,0)).bind fun ss=>
   match ss with
   |(Sum.inl d)=>
    some d
   |(Sum.inr e)=>some e)
def sAscending_b1(N:Nat)(l:(List Int))(n:Int):Int→Option (Stp Int (Sum Unit Bool))
 |a=>
  (if(a:Int)<(List.length l:Int)then
   (((idx l a).bind fun b=>
   (if(b:Int)<0 then
    some true
   else
    (idx l a).bind fun c=>
    (if(c:Int)≥n then
     some true
    else
     (if(a:Int)>0 then
      (idx l (iw (a-1))).bind fun d=>
      (idx l a).bind fun e=>
      some (decide ((d:Int)≥e))
     else
      some false))):Option Bool)).bind fun ss=>
    match ss with
    |f=>
     (if f=true then
      some (Stp.done (Sum.inr false))
     else
      some (Stp.next (iw (a+1))))
  else
   some (Stp.done (Sum.inl ())))
def sAscending(N:Nat)(l:(List Int))(n:Int):Option Bool:=
 (loopM (sAscending_b1 N l n) N 0).bind fun ss=>
  match ss with
  |(Sum.inl _)=>
   some true
  |(Sum.inr a)=>some a
def sText(N:Nat)(pa:Int)(c:RClause)(l:(List RVar)):Option Bool:=
 (if(pa:Int)≥0 then
  (if(pa:Int)<(List.length l:Int)then
   (idx l pa).bind fun x9=>
   (if(x9.Ty:Int)=2 then
    (sHas N c.NotNull pa).bind fun a=>
    some a
   else
    some false)
  else
   some false)
 else
  some false)
def sPairs_b1(N:Nat)(c:RClause)(l:(List RVar))(p:(List Arr2Int)):Int→Option (Stp Int (Sum Unit Bool))
 |a=>
  (if(a:Int)<(List.length p:Int)then
   (((idx p a).bind fun b=>
   (sText N b.e0 c l).bind fun d=>
   (if(!d)=true then
    some true
   else
    (idx p a).bind fun e=>
    (sText N e.e1 c l).bind fun f=>
    (if(!f)=true then
     some true
    else
     (idx p a).bind fun g=>
     (idx p a).bind fun i=>
     some (decide ((g.e0:Int)≥i.e1)))):Option Bool)).bind fun ss=>
    match ss with
    |j=>
     (if j=true then
      some (Stp.done (Sum.inr false))
     else
      some (Stp.next (iw (a+1))))
  else
   some (Stp.done (Sum.inl ())))
def sPairs(N:Nat)(p:(List Arr2Int))(c:RClause)(l:(List RVar)):Option Bool:=
 (loopM (sPairs_b1 N c l p) N 0).bind fun ss=>
  match ss with
  |(Sum.inl _)=>
   some true
  |(Sum.inr a)=>some a
def sTested_b1(N:Nat)(t:TTest):Int→Option (Stp Int (Sum Unit Bool))
 |a=>
  (if(a:Int)<(List.length t.Text:Int)then
   (((idx t.Text a).bind fun b=>
   (if((UInt8.toNat b:Int):Int)<32 then
    some true
   else
    (idx t.Text a).bind fun c=>
    some (decide (((UInt8.toNat c:Int):Int)>126))):Option Bool)).bind fun ss=>
    match ss with
    |d=>
     (if d=true then
      some (Stp.done (Sum.inr false))
     else
      some (Stp.next (iw (a+1))))
  else
   some (Stp.done (Sum.inl ())))
def sTested(N:Nat)(t:TTest):Option Bool:=
 (loopM (sTested_b1 N t) N 0).bind fun ss=>
  match ss with
  |(Sum.inl _)=>
   (if(t.Kind:Int)≥0 then
    (if(t.Kind:Int)≤3 then
     some (decide (((List.length t.Text:Int):Int)≤16))
    else
     some false)
   else
    some false)
  |(Sum.inr a)=>some a
def sValid_b1(N:Nat)(c:RClause)(l:(List RVar)):((List Int)×Int)→Option (Stp ((List Int)×Int) (Sum (List Int) Bool))
 |(b,d)=>
  (if(d:Int)<(List.length c.Auxiliary:Int)then
   (idx c.Auxiliary d).bind fun a=>
   (if(a.By:Int)=0 then
    (((if((List.length a.Of.Coefs:Int):Int)>0 then
     some true
    else
     (if(a.Of.Const:Int)≠0 then
      some true
     else
      (sText N a.Text c l).bind fun f=>
      some (!f))):Option Bool)).bind fun ss=>
     match ss with
     |g=>
      (if g=true then
       some (Stp.done (Sum.inr false))
      else
       (apnd 8 b [16]).bind fun i=>
       some (Stp.next (i,(iw (d+1)))))
   else
    (sForm N a.Of c l b).bind fun e=>
    (((sWithin N a.By 1 1000).bind fun j=>
    (if(!j)=true then
     some true
    else
     (if(a.Text:Int)≠0 then
      some true
     else
      some (decide ((e:Int)<0)))):Option Bool)).bind fun ss=>
     match ss with
     |k=>
      (if k=true then
       some (Stp.done (Sum.inr false))
      else
       (sdiv .i64 e a.By).bind fun m=>
       (apnd 8 b [(iw (m+1))]).bind fun n=>
       some (Stp.next (n,(iw (d+1))))))
  else
   some (Stp.done (Sum.inl b)))
def sValid_b2(N:Nat)(c:RClause)(l:(List RVar))(b:(List Int)):Int→Option (Stp Int (Sum Unit Bool))
 |a=>
  (if(a:Int)<(List.length c.Ints:Int)then
   (idx c.Ints a).bind fun d=>
   (sForm N d.Linear c l b).bind fun e=>
   (if(e:Int)<0 then
    some (Stp.done (Sum.inr false))
   else
    some (Stp.next (iw (a+1))))
  else
   some (Stp.done (Sum.inl ())))
def sValid_b3(N:Nat)(c:RClause)(l:(List RVar)):Int→Option (Stp Int (Sum Unit Bool))
 |a=>
  (if(a:Int)<(List.length c.Tests:Int)then
   (((idx c.Tests a).bind fun b=>
   (sTested N b).bind fun d=>
   (if(!d)=true then
    some true
   else
    (idx c.Tests a).bind fun e=>
    (sText N e.Var c l).bind fun f=>
    some (!f)):Option Bool)).bind fun ss=>
    match ss with
    |g=>
     (if g=true then
      some (Stp.done (Sum.inr false))
     else
      some (Stp.next (iw (a+1))))
  else
   some (Stp.done (Sum.inl ())))
def sValid(N:Nat)(c:RClause)(l:(List RVar)):Option Bool:=
 (((sAscending N c.Null (List.length l:Int)).bind fun a=>
 (if(!a)=true then
  some true
 else
  (sAscending N c.NotNull (List.length l:Int)).bind fun b=>
  some (!b)):Option Bool)).bind fun ss=>
  match ss with
  |d=>
   (if d=true then
    some false
   else
    (loopM (sValid_b1 N c l) N (([]:(List Int)),0)).bind fun ss=>
     match ss with
     |(Sum.inl e)=>
      (loopM (sValid_b2 N c l e) N 0).bind fun ss=>
       match ss with
       |(Sum.inl _)=>
        (loopM (sValid_b3 N c l) N 0).bind fun ss=>
         match ss with
         |(Sum.inl _)=>
          (sPairs N c.Same c l).bind fun f=>
          (if f=true then
           (sPairs N c.Different c l).bind fun g=>
           some g
          else
           some false)
         |(Sum.inr i)=>some i
       |(Sum.inr j)=>some j
     |(Sum.inr k)=>some k)
def sFew_b1(N:Nat)(c:RClause):(Int×Int)→Option (Stp (Int×Int) Int)
 |(a,i64)=>
  (if(i64:Int)<(List.length c.Auxiliary:Int)then
   (idx c.Auxiliary i64).bind fun b=>
   some (Stp.next ((iw (a+(List.length b.Of.Coefs:Int))),(iw (i64+1))))
  else
   some (Stp.done a))
def sFew_b2(N:Nat)(c:RClause):(Int×Int)→Option (Stp (Int×Int) Int)
 |(b,a)=>
  (if(a:Int)<(List.length c.Ints:Int)then
   (idx c.Ints a).bind fun d=>
   some (Stp.next ((iw (b+(List.length d.Linear.Coefs:Int))),(iw (a+1))))
  else
   some (Stp.done b))
def sFew_b3(N:Nat)(c:RClause):Int→Option (Stp Int (Sum Unit Bool))
 |a=>
  (if(a:Int)<(List.length c.Tests:Int)then
   (idx c.Tests a).bind fun b=>
   (if((List.length b.Text:Int):Int)>40 then
    some (Stp.done (Sum.inr false))
   else
    some (Stp.next (iw (a+1))))
  else
   some (Stp.done (Sum.inl ())))
def sFew(N:Nat)(c:RClause):Option Bool:=
 (if((iw ((iw ((iw ((iw ((iw ((iw ((List.length c.Null:Int)+(List.length c.NotNull:Int)))+(List.length c.Auxiliary:Int)))+(List.length c.Ints:Int)))+(List.length c.Tests:Int)))+(List.length c.Same:Int)))+(List.length c.Different:Int))):Int)>80 then
  some false
 else
  (loopM (sFew_b1 N c) N ((iw ((iw ((iw ((iw ((iw ((iw ((List.length c.Null:Int)+(List.length c.NotNull:Int)))+(List.length c.Auxiliary:Int)))+(List.length c.Ints:Int)))+(List.length c.Tests:Int)))+(List.length c.Same:Int)))+(List.length c.Different:Int))),0)).bind fun ss=>
   match ss with
   |a=>
    (loopM (sFew_b2 N c) N (a,0)).bind fun ss=>
     match ss with
     |b=>
      (loopM (sFew_b3 N c) N 0).bind fun ss=>
       match ss with
       |(Sum.inl _)=>
        some (decide ((b:Int)≤400))
       |(Sum.inr d)=>some d)
def sValue_b1(N:Nat)(aux:(List Int))(f:Linear)(pb:(List RVal)):(Int×Int)→Option (Stp (Int×Int) (Sum Int (Int×Bool)))
 |(c,a)=>
  (if(a:Int)<(List.length f.Coefs:Int)then
   (idx f.Coefs a).bind fun b=>
   (((if(b.Var:Int)≥(List.length pb:Int)then
    (idx aux (iw (b.Var-(List.length pb:Int)))).bind fun d=>
    some (Sum.inl d)
   else
    (idx pb b.Var).bind fun e=>
    (if(e.Kind:Int)≠1 then
     some (Sum.inr (0,false))
    else
     (idx pb b.Var).bind fun g=>
     some (Sum.inl g.Int))):Option (Sum Int (Int×Bool)))).bind fun ss=>
    match ss with
    |(Sum.inl i)=>
     (idx f.Coefs a).bind fun j=>
     some (Stp.next ((iw (c+(iw (j.N*i)))),(iw (a+1))))
    |(Sum.inr k)=>some (Stp.done (Sum.inr k))
  else
   some (Stp.done (Sum.inl c)))
def sValue(N:Nat)(f:Linear)(pb:(List RVal))(aux:(List Int)):Option (Int×Bool):=
 (loopM (sValue_b1 N aux f pb) N (f.Const,0)).bind fun ss=>
  match ss with
  |(Sum.inl a)=>
   some (a,true)
  |(Sum.inr b)=>some b
def floor13(N:Nat)(a:Int)(b:Int):Option Int:=
 (sdiv .i64 a b).bind fun x1=>
 (if((iw (x1*b)):Int)>a then
  some (iw (x1-1))
 else
  some x1)
def sAuxiliary_b1(N:Nat)(c:RClause)(pb:(List RVal)):((List Int)×Int)→Option (Stp ((List Int)×Int) (Sum (List Int) ((List Int)×Bool)))
 |(b,d)=>
  (if(d:Int)<(List.length c.Auxiliary:Int)then
   (idx c.Auxiliary d).bind fun a=>
   (if(a.By:Int)=0 then
    (idx pb a.Text).bind fun f=>
    (if(f.Kind:Int)≠2 then
     some (Stp.done (Sum.inr (([]:(List Int)),false)))
    else
     (idx pb a.Text).bind fun g=>
     (apnd 8 b [(List.length g.Text:Int)]).bind fun i=>
     some (Stp.next (i,(iw (d+1)))))
   else
    (sValue N a.Of pb b).bind fun e=>
    (if(!e.2)=true then
     some (Stp.done (Sum.inr (([]:(List Int)),false)))
    else
     (floor13 N e.1 a.By).bind fun j=>
     (apnd 8 b [j]).bind fun k=>
     some (Stp.next (k,(iw (d+1))))))
  else
   some (Stp.done (Sum.inl b)))
def sAuxiliary(N:Nat)(c:RClause)(pb:(List RVal)):Option ((List Int)×Bool):=
 (loopM (sAuxiliary_b1 N c pb) N (([]:(List Int)),0)).bind fun ss=>
  match ss with
  |(Sum.inl a)=>
   some (a,true)
  |(Sum.inr b)=>some b
def u4Printable_b1(N:Nat)(s:(List UInt8)):Int→Option (Stp Int (Sum Unit Bool))
 |a=>
  (if(a:Int)<(List.length s:Int)then
   (((idx s a).bind fun b=>
   (if((UInt8.toNat b:Int):Int)<32 then
    some true
   else
    (idx s a).bind fun c=>
    some (decide (((UInt8.toNat c:Int):Int)>126))):Option Bool)).bind fun ss=>
    match ss with
    |d=>
     (if d=true then
      some (Stp.done (Sum.inr false))
     else
      some (Stp.next (iw (a+1))))
  else
   some (Stp.done (Sum.inl ())))
def u4Printable(N:Nat)(s:(List UInt8)):Option Bool:=
 (loopM (u4Printable_b1 N s) N 0).bind fun ss=>
  match ss with
  |(Sum.inl _)=>
   some true
  |(Sum.inr a)=>some a
def u4ints(N:Nat)(a:Int)(b:Int):Option Int:=
 (if(a:Int)<b then
  some (-1)
 else
  (if(a:Int)>b then
   some 1
  else
   some 0))
def u4Texts_b1(N:Nat)(a:(List UInt8))(b:(List UInt8)):Int→Option (Stp Int (Sum Unit Int))
 |c=>
  (((if(c:Int)<(List.length a:Int)then
   some (decide ((c:Int)<(List.length b:Int)))
  else
   some false):Option Bool)).bind fun ss=>
   match ss with
   |d=>
    (if d=true then
     (idx a c).bind fun e=>
     (idx b c).bind fun f=>
     (if((UInt8.toNat e:Int):Int)≠(UInt8.toNat f:Int)then
      (idx a c).bind fun g=>
      (idx b c).bind fun i=>
      (u4ints N (iw (UInt8.toNat g:Int)) (iw (UInt8.toNat i:Int))).bind fun j=>
      some (Stp.done (Sum.inr j))
     else
      some (Stp.next (iw (c+1))))
    else
     some (Stp.done (Sum.inl ())))
def u4Texts(N:Nat)(a:(List UInt8))(b:(List UInt8)):Option Int:=
 (loopM (u4Texts_b1 N a b) N 0).bind fun ss=>
  match ss with
  |(Sum.inl _)=>
   (u4ints N (List.length a:Int) (List.length b:Int)).bind fun c=>
   some c
  |(Sum.inr d)=>some d
def u4Valid(N:Nat)(pa:RVal):Option Bool:=
 (if(pa.Kind:Int)=0 then
  (if(pa.Int:Int)=0 then
   some (decide (pa.Text=([]:List UInt8)))
  else
   some false)
 else
  (if(pa.Kind:Int)=1 then
   some (decide (pa.Text=([]:List UInt8)))
  else
   (if(pa.Kind:Int)=2 then
    (if(pa.Int:Int)=0 then
     (u4Printable N pa.Text).bind fun a=>
     (if a=true then
      some (decide (((List.length pa.Text:Int):Int)≤16))
     else
      some false)
    else
     some false)
   else
    some false)))
def u4Fits(N:Nat)(pa:RVal)(x:RVar):Option Bool:=
 (u4Valid N pa).bind fun a=>
 (if(!a)=true then
  some false
 else
  (if(pa.Kind:Int)=0 then
   some x.Nullable
  else
   (if(pa.Kind:Int)=1 then
    (if(x.Ty:Int)=1 then
     (if(pa.Int:Int)≥x.Low then
      some (decide ((pa.Int:Int)≤x.High))
     else
      some false)
    else
     some false)
   else
    (if(x.Ty:Int)=2 then
     some (decide (((List.length pa.Text:Int):Int)≤x.Max))
    else
     some false))))
def u16Like_b1(N:Nat)(self:(List UInt8)→(List UInt8)→Option Bool)(p:(List UInt8))(s:(List UInt8)):Int→Option (Stp Int (Sum Unit Bool))
 |a=>
  (if(a:Int)≤(List.length s:Int)then
   (cut s a (List.length s:Int)).bind fun b=>
   (cut p 1 (List.length p:Int)).bind fun c=>
   (self b c).bind fun d=>
   (if d=true then
    some (Stp.done (Sum.inr true))
   else
    some (Stp.next (iw (a+1))))
  else
   some (Stp.done (Sum.inl ())))
def u16Like_step(N:Nat)(self:(List UInt8)→(List UInt8)→Option Bool)(s:(List UInt8))(p:(List UInt8)):Option Bool:=
 (if p=([]:List UInt8)then
  some (decide (s=([]:List UInt8)))
 else
  (idx p 0).bind fun x2=>
  (if((UInt8.toNat x2:Int):Int)=37 then
   (loopM (u16Like_b1 N self p s) N 0).bind fun ss=>
    match ss with
    |(Sum.inl _)=>
     some false
    |(Sum.inr a)=>some a
  else
   (if¬s=([]:List UInt8)then
    (idx p 0).bind fun b=>
    (if((UInt8.toNat b:Int):Int)=95 then
     (cut s 1 (List.length s:Int)).bind fun c=>
     (cut p 1 (List.length p:Int)).bind fun d=>
     (self c d).bind fun e=>
     some e
    else
     (idx p 0).bind fun f=>
     (idx s 0).bind fun g=>
     (if((UInt8.toNat f:Int):Int)=(UInt8.toNat g:Int)then
      (cut s 1 (List.length s:Int)).bind fun i=>
      (cut p 1 (List.length p:Int)).bind fun j=>
      (self i j).bind fun k=>
      some k
     else
      some false))
   else
    some false)))
def u16Like:Nat→(List UInt8)→(List UInt8)→Option Bool
 |0=>fun _ _=>none
 |N+1=>u16Like_step N (u16Like N)
def u16Passes(N:Nat)(t:TTest)(s:(List UInt8)):Option Bool:=
 (((if(t.Kind:Int)=0 then
  some (decide (s=t.Text))
 else
  (if(t.Kind:Int)=1 then
   (u16Like N s t.Text).bind fun a=>
   some a
  else
   (if(t.Kind:Int)=2 then
    (u4Texts N s t.Text).bind fun b=>
    some (decide ((b:Int)<0))
   else
    (if(t.Kind:Int)=3 then
     (u4Texts N s t.Text).bind fun c=>
     some (decide ((c:Int)≤0))
    else
     some false)))):Option Bool)).bind fun ss=>
  match ss with
  |d=>
   some (!(d==t.Negated))
def u16Inside_b1(N:Nat)(l:(List RVar))(pa:(List RVal)):Int→Option (Stp Int (Sum Unit Bool))
 |a=>
  (if(a:Int)<(List.length pa:Int)then
   (idx pa a).bind fun b=>
   (idx l a).bind fun c=>
   (u4Fits N b c).bind fun d=>
   (if(!d)=true then
    some (Stp.done (Sum.inr false))
   else
    some (Stp.next (iw (a+1))))
  else
   some (Stp.done (Sum.inl ())))
def u16Inside(N:Nat)(pa:(List RVal))(l:(List RVar)):Option Bool:=
 (if((List.length pa:Int):Int)≠(List.length l:Int)then
  some false
 else
  (loopM (u16Inside_b1 N l pa) N 0).bind fun ss=>
   match ss with
   |(Sum.inl _)=>
    some true
   |(Sum.inr a)=>some a)
def sHolds_b1(N:Nat)(c:RClause)(pb:(List RVal)):Int→Option (Stp Int (Sum Unit Bool))
 |a=>
  (if(a:Int)<(List.length c.Null:Int)then
   (idx c.Null a).bind fun b=>
   (idx pb b).bind fun d=>
   (if(d.Kind:Int)≠0 then
    some (Stp.done (Sum.inr false))
   else
    some (Stp.next (iw (a+1))))
  else
   some (Stp.done (Sum.inl ())))
def sHolds_b2(N:Nat)(c:RClause)(pb:(List RVal)):Int→Option (Stp Int (Sum Unit Bool))
 |a=>
  (if(a:Int)<(List.length c.NotNull:Int)then
   (idx c.NotNull a).bind fun b=>
   (idx pb b).bind fun d=>
   (if(d.Kind:Int)=0 then
    some (Stp.done (Sum.inr false))
   else
    some (Stp.next (iw (a+1))))
  else
   some (Stp.done (Sum.inl ())))
def sHolds_b3(N:Nat)(c:RClause)(pb:(List RVal))(e:((List Int)×Bool)):(Bool×Int)→Option (Stp (Bool×Int) Bool)
 |(d,a)=>
  (((if(a:Int)<(List.length c.Ints:Int)then
   some d
  else
   some false):Option Bool)).bind fun ss=>
   match ss with
   |f=>
    (if f=true then
     (idx c.Ints a).bind fun g=>
     (sValue N g.Linear pb e.1).bind fun b=>
     (if b.2=true then
      (if(b.1:Int)≤0 then
       (if(b.1:Int)=0 then
        some (Stp.next (true,(iw (a+1))))
       else
        (idx c.Ints a).bind fun i=>
        some (Stp.next ((!i.Equal),(iw (a+1)))))
      else
       some (Stp.next (false,(iw (a+1)))))
     else
      some (Stp.next (false,(iw (a+1)))))
    else
     some (Stp.done d))
def sHolds_b4(N:Nat)(c:RClause)(pb:(List RVal)):(Bool×Int)→Option (Stp (Bool×Int) Bool)
 |(b,a)=>
  (((if(a:Int)<(List.length c.Tests:Int)then
   some b
  else
   some false):Option Bool)).bind fun ss=>
   match ss with
   |e=>
    (if e=true then
     (idx c.Tests a).bind fun f=>
     (idx pb f.Var).bind fun d=>
     (if(d.Kind:Int)=2 then
      (idx c.Tests a).bind fun g=>
      (u16Passes N g d.Text).bind fun i=>
      some (Stp.next (i,(iw (a+1))))
     else
      some (Stp.next (false,(iw (a+1)))))
    else
     some (Stp.done b))
def sHolds_b5(N:Nat)(c:RClause)(pb:(List RVal)):(Bool×Int)→Option (Stp (Bool×Int) Bool)
 |(e,a)=>
  (((if(a:Int)<(List.length c.Same:Int)then
   some e
  else
   some false):Option Bool)).bind fun ss=>
   match ss with
   |f=>
    (if f=true then
     (idx c.Same a).bind fun g=>
     (idx pb g.e0).bind fun i=>
     (if(i.Kind:Int)=2 then
      (idx c.Same a).bind fun j=>
      (idx pb j.e0).bind fun b=>
      (idx c.Same a).bind fun k=>
      (idx pb k.e1).bind fun d=>
      some (Stp.next ((decide ((b.Kind:Int)=d.Kind)&&(decide ((b.Int:Int)=d.Int)&&(decide (b.Text=d.Text)&&true))),(iw (a+1))))
     else
      some (Stp.next (false,(iw (a+1)))))
    else
     some (Stp.done e))
def sHolds_b6(N:Nat)(c:RClause)(pb:(List RVal)):(Bool×Int)→Option (Stp (Bool×Int) Bool)
 |(b,a)=>
  (((if(a:Int)<(List.length c.Different:Int)then
   some b
  else
   some false):Option Bool)).bind fun ss=>
   match ss with
   |f=>
    (if f=true then
     (idx c.Different a).bind fun g=>
     (idx pb g.e0).bind fun d=>
     (idx c.Different a).bind fun i=>
     (idx pb i.e1).bind fun e=>
     (if(d.Kind:Int)=2 then
      (if(e.Kind:Int)=2 then
       some (Stp.next ((decide (¬d.Text=e.Text)),(iw (a+1))))
      else
       some (Stp.next (false,(iw (a+1)))))
     else
      some (Stp.next (false,(iw (a+1)))))
    else
     some (Stp.done b))
def sHolds(N:Nat)(c:RClause)(pb:(List RVal)):Option Bool:=
 (loopM (sHolds_b1 N c pb) N 0).bind fun ss=>
  match ss with
  |(Sum.inl _)=>
   (loopM (sHolds_b2 N c pb) N 0).bind fun ss=>
    match ss with
    |(Sum.inl _)=>
     (sAuxiliary N c pb).bind fun a=>
     (loopM (sHolds_b3 N c pb a) N (a.2,0)).bind fun ss=>
      match ss with
      |b=>
       (loopM (sHolds_b4 N c pb) N (b,0)).bind fun ss=>
        match ss with
        |d=>
         (loopM (sHolds_b5 N c pb) N (d,0)).bind fun ss=>
          match ss with
          |e=>
           (loopM (sHolds_b6 N c pb) N (e,0)).bind fun ss=>
            match ss with
            |f=>
             some f
    |(Sum.inr g)=>some g
  |(Sum.inr i)=>some i
open Go Go.X
def cloneCoef(N:Nat)(s:(List Coef)):Option (List Coef):=
 (apnd 16 ([]:(List Coef)) s).bind fun a=>
 some a
def clonePair(N:Nat)(s:(List Arr2Int)):Option (List Arr2Int):=
 (apnd 16 ([]:(List Arr2Int)) s).bind fun a=>
 some a
def vfirst_b1(N:Nat)(l:(List RVar)):((List Arr2Int)×Int)→Option (Stp ((List Arr2Int)×Int) (List Arr2Int))
 |(b,a)=>
  (if(a:Int)<(List.length l:Int)then
   (idx l a).bind fun c=>
   (if(c.Ty:Int)=2 then
    (idx b a).bind fun d=>
    (upd1 b a (Arr2Int.mk d.e0 c.Max)).bind fun e=>
    some (Stp.next (e,(iw (a+1))))
   else
    some (Stp.next (b,(iw (a+1)))))
  else
   some (Stp.done b))
def vfirst(N:Nat)(l:(List RVar)):Option (List Arr2Int):=
 (mk1 (α:=Arr2Int) 16 (Arr2Int.mk 0 0) (List.length l:Int)).bind fun x2=>
 (loopM (vfirst_b1 N l) N (x2,0)).bind fun ss=>
  match ss with
  |a=>
   some a
def vhigh(N:Nat)(l:(List RVar))(ranges:(List Arr2Int))(pc:Int):Option Int:=
 (idx ranges pc).bind fun x1=>
 (idx l pc).bind fun a=>
 some (imin x1.e1 a.Max)
def vbounds(N:Nat)(pa:Int)(low:Int)(high:Int):Option (List Constraint):=
 some [(Constraint.mk (Linear.mk low [(Coef.mk pa (-1))]) false),(Constraint.mk (Linear.mk (iw (0-high)) [(Coef.mk pa 1)]) false)]
def vquotient_b1(N:Nat)(pb:Linear):((List Coef)×(List Coef)×Int)→Option (Stp ((List Coef)×(List Coef)×Int) ((List Coef)×(List Coef)))
 |(c,d,a)=>
  (if(a:Int)<(List.length pb.Coefs:Int)then
   (idx pb.Coefs a).bind fun b=>
   (apnd 16 c [(Coef.mk b.Var (iw (0-b.N)))]).bind fun e=>
   (apnd 16 d [b]).bind fun f=>
   some (Stp.next (e,f,(iw (a+1))))
  else
   some (Stp.done (c,d)))
def vquotient(N:Nat)(q:Int)(pb:Linear)(pc:Int):Option (List Constraint):=
 (loopM (vquotient_b1 N pb) N (([]:(List Coef)),([]:(List Coef)),0)).bind fun ss=>
  match ss with
  |(a,b)=>
   (apnd 16 a [(Coef.mk q pc)]).bind fun c=>
   (apnd 16 b [(Coef.mk q (iw (0-pc)))]).bind fun d=>
   some [(Constraint.mk (Linear.mk (iw (0-pb.Const)) c) false),(Constraint.mk (Linear.mk (iw (pb.Const-(iw (pc-1)))) d) false)]
def vInts_b1(N:Nat)(c:RClause)(l:(List RVar)):((List Constraint)×Int)→Option (Stp ((List Constraint)×Int) (List Constraint))
 |(d,a)=>
  (if(a:Int)<(List.length c.NotNull:Int)then
   (idx c.NotNull a).bind fun b=>
   (idx l b).bind fun e=>
   (if(e.Ty:Int)=1 then
    (idx l b).bind fun f=>
    (idx l b).bind fun g=>
    (vbounds N b f.Low g.High).bind fun i=>
    (apnd 40 d i).bind fun j=>
    some (Stp.next (j,(iw (a+1))))
   else
    some (Stp.next (d,(iw (a+1)))))
  else
   some (Stp.done d))
def vInts_b2(N:Nat)(c:RClause)(l:(List RVar))(ranges:(List Arr2Int)):((List Constraint)×Int)→Option (Stp ((List Constraint)×Int) (List Constraint))
 |(d,a)=>
  (if(a:Int)<(List.length c.Auxiliary:Int)then
   (idx c.Auxiliary a).bind fun b=>
   (if(b.By:Int)=0 then
    (idx ranges b.Text).bind fun e=>
    (vhigh N l ranges b.Text).bind fun f=>
    (vbounds N (iw ((List.length l:Int)+a)) e.e0 f).bind fun g=>
    (apnd 40 d g).bind fun i=>
    some (Stp.next (i,(iw (a+1))))
   else
    (vquotient N (iw ((List.length l:Int)+a)) b.Of b.By).bind fun j=>
    (apnd 40 d j).bind fun k=>
    some (Stp.next (k,(iw (a+1)))))
  else
   some (Stp.done d))
def vInts_b3(N:Nat)(c:RClause):((List Constraint)×Int)→Option (Stp ((List Constraint)×Int) (List Constraint))
 |(d,a)=>
  (if(a:Int)<(List.length c.Ints:Int)then
   (idx c.Ints a).bind fun b=>
   (cloneCoef N b.Linear.Coefs).bind fun e=>
   (apnd 40 d [(Constraint.mk (Linear.mk b.Linear.Const e) b.Equal)]).bind fun f=>
   some (Stp.next (f,(iw (a+1))))
  else
   some (Stp.done d))
def vInts(N:Nat)(l:(List RVar))(c:RClause)(ranges:(List Arr2Int)):Option (Int×(List Constraint)):=
 (loopM (vInts_b1 N c l) N (([]:(List Constraint)),0)).bind fun ss=>
  match ss with
  |a=>
   (loopM (vInts_b2 N c l ranges) N (a,0)).bind fun ss=>
    match ss with
    |b=>
     (loopM (vInts_b3 N c) N (b,0)).bind fun ss=>
      match ss with
      |d=>
       some ((iw ((List.length l:Int)+(List.length c.Auxiliary:Int))),d)
def vTexts_b1(N:Nat)(c:RClause)(l:(List RVar))(ranges:(List Arr2Int)):((List Int)×(List Int)×(List Int)×(List (Int×Int))×Int)→Option (Stp ((List Int)×(List Int)×(List Int)×(List (Int×Int))×Int) ((List Int)×(List Int)×(List Int)×(List (Int×Int))))
 |(e,f,b,g,d)=>
  (if(d:Int)<(List.length c.NotNull:Int)then
   (idx c.NotNull d).bind fun a=>
   (idx l a).bind fun i=>
   (if(i.Ty:Int)=2 then
    (apnd 8 b [a]).bind fun j=>
    (idx ranges a).bind fun k=>
    (apnd 8 e [k.e0]).bind fun m=>
    (vhigh N l ranges a).bind fun n=>
    (apnd 8 f [n]).bind fun o=>
    some (Stp.next (m,o,j,(mput g a (List.length b:Int)),(iw (d+1))))
   else
    some (Stp.next (e,f,b,g,(iw (d+1)))))
  else
   some (Stp.done (e,f,b,g)))
def vTexts_b2(N:Nat)(c:RClause)(e:(List (Int×Int))):((List TTest)×Int)→Option (Stp ((List TTest)×Int) (List TTest))
 |(d,b)=>
  (if(b:Int)<(List.length c.Tests:Int)then
   (idx c.Tests b).bind fun a=>
   (apnd 40 d [(TTest.mk ((mget e a.Var 0).1) a.Kind a.Negated a.Text)]).bind fun f=>
   some (Stp.next (f,(iw (b+1))))
  else
   some (Stp.done d))
def vTexts_b3(N:Nat)(c:RClause)(b:(List (Int×Int))):((List Arr2Int)×Int)→Option (Stp ((List Arr2Int)×Int) (List Arr2Int))
 |(d,a)=>
  (if(a:Int)<(List.length c.Same:Int)then
   (idx c.Same a).bind fun e=>
   (apnd 16 d [(Arr2Int.mk ((mget b e.e0 0).1) ((mget b e.e1 0).1))]).bind fun f=>
   some (Stp.next (f,(iw (a+1))))
  else
   some (Stp.done d))
def vTexts_b4(N:Nat)(c:RClause)(b:(List (Int×Int))):((List Arr2Int)×Int)→Option (Stp ((List Arr2Int)×Int) (List Arr2Int))
 |(d,a)=>
  (if(a:Int)<(List.length c.Different:Int)then
   (idx c.Different a).bind fun e=>
   (apnd 16 d [(Arr2Int.mk ((mget b e.e0 0).1) ((mget b e.e1 0).1))]).bind fun f=>
   some (Stp.next (f,(iw (a+1))))
  else
   some (Stp.done d))
def vTexts(N:Nat)(l:(List RVar))(c:RClause)(ranges:(List Arr2Int)):Option (TProb×(List Int)):=
 (loopM (vTexts_b1 N c l ranges) N (([]:(List Int)),([]:(List Int)),([]:(List Int)),([]:(List (Int×Int))),0)).bind fun ss=>
  match ss with
  |(b,d,e,a)=>
   (loopM (vTexts_b2 N c a) N (([]:(List TTest)),0)).bind fun ss=>
    match ss with
    |f=>
     (loopM (vTexts_b3 N c a) N (([]:(List Arr2Int)),0)).bind fun ss=>
      match ss with
      |g=>
       (loopM (vTexts_b4 N c a) N (([]:(List Arr2Int)),0)).bind fun ss=>
        match ss with
        |i=>
         some ((TProb.mk b d f g i),e)
def vcheck_step(N:Nat)(self:(List RVar)→RClause→Refut→(List Arr2Int)→Option Bool)(l:(List RVar))(c:RClause)(pc:Refut)(ranges:(List Arr2Int)):Option Bool:=
 (if(pc.Kind:Int)=0 then
  (containsOf N c.Null pc.Var).bind fun e=>
  (if e=true then
   (containsOf N c.NotNull pc.Var).bind fun f=>
   (if f=true then
    some true
   else
    (idx l pc.Var).bind fun g=>
    some (!g.Nullable))
  else
   some false)
 else
  (if(pc.Kind:Int)=1 then
   (vTexts N l c ranges).bind fun i=>
   (tSolve N i.1).bind fun j=>
   some (!j.2)
  else
   (if(pc.Kind:Int)=2 then
    (vInts N l c ranges).bind fun a=>
    (cSystem N a.2 a.1).bind fun k=>
    (cCheck N k pc.Proof).bind fun m=>
    some m
   else
    (if(pc.Kind:Int)=3 then
     (((containsOf N c.NotNull pc.Var).bind fun n=>
     (if(!n)=true then
      some true
     else
      (idx l pc.Var).bind fun o=>
      (if(o.Ty:Int)≠2 then
       some true
      else
       (idx ranges pc.Var).bind fun p=>
       (if(pc.At:Int)<p.e0 then
        some true
       else
        (idx ranges pc.Var).bind fun q=>
        (if(pc.At:Int)≥q.e1 then
         some true
        else
         some (decide (((List.length pc.Children:Int):Int)≠2)))))):Option Bool)).bind fun ss=>
      match ss with
      |s=>
       (if s=true then
        some false
       else
        (clonePair N ranges).bind fun b=>
        (clonePair N ranges).bind fun d=>
        (idx b pc.Var).bind fun u=>
        (upd1 b pc.Var (Arr2Int.mk u.e0 pc.At)).bind fun v=>
        (idx d pc.Var).bind fun y=>
        (upd1 d pc.Var (Arr2Int.mk (iw (pc.At+1)) y.e1)).bind fun a0=>
        (idx pc.Children 0).bind fun a1=>
        (self l c a1 v).bind fun a2=>
        (if a2=true then
         (idx pc.Children 1).bind fun a3=>
         (self l c a3 a0).bind fun a4=>
         some a4
        else
         some false))
    else
     some false))))
def vcheck:Nat→(List RVar)→RClause→Refut→(List Arr2Int)→Option Bool
 |0=>fun _ _ _ _=>none
 |N+1=>vcheck_step N (vcheck N)
def vCheck(N:Nat)(l:(List RVar))(c:RClause)(pc:Refut):Option Bool:=
 (vfirst N l).bind fun a=>
 (vcheck N l c pc a).bind fun b=>
 some b
def vFormat_step(N:Nat)(self:Refut→Option (List UInt8))(pa:Refut):Option (List UInt8):=
 (if(pa.Kind:Int)=0 then
  (fmtI N pa.Var).bind fun r7=>
  (chk ((List.length ([110,117,108,108,32,120]:List UInt8):Int)+List.length r7≤9223372036854775807)).bind fun _=>
  some (([110,117,108,108,32,120]:List UInt8)++r7)
 else
  (if(pa.Kind:Int)=1 then
   some ([116,101,120,116]:List UInt8)
  else
   (if(pa.Kind:Int)=2 then
    (cSize N pa.Proof).bind fun c=>
    (fmtI N c).bind fun b=>
    (chk ((List.length ([105,110,116,101,103,101,114,115,32]:List UInt8):Int)+List.length b≤9223372036854775807)).bind fun _=>
    some (([105,110,116,101,103,101,114,115,32]:List UInt8)++b)
   else
    (if(pa.Kind:Int)=3 then
     (fmtI N pa.Var).bind fun a=>
     (chk ((List.length ([108,101,110,103,116,104,32,120]:List UInt8):Int)+List.length a≤9223372036854775807)).bind fun _=>
     (chk ((List.length (([108,101,110,103,116,104,32,120]:List UInt8)++a):Int)+List.length ([32,60,61,32]:List UInt8)≤9223372036854775807)).bind fun _=>
     (fmtI N pa.At).bind fun d=>
     (chk ((List.length ((([108,101,110,103,116,104,32,120]:List UInt8)++a)++([32,60,61,32]:List UInt8)):Int)+List.length d≤9223372036854775807)).bind fun _=>
     none
    else
     some ([105,110,118,97,108,105,100]:List UInt8)))))
def vFormat:Nat→Refut→Option (List UInt8)
 |0=>fun _=>none
 |N+1=>vFormat_step N (vFormat N)
open Go Go.X
def wRanges_b1(N:Nat)(l:(List RVar)):((List Arr2Int)×Int)→Option (Stp ((List Arr2Int)×Int) (List Arr2Int))
 |(b,a)=>
  (if(a:Int)<(List.length l:Int)then
   (idx l a).bind fun c=>
   (((if(c.Ty:Int)=2 then
    (idx l a).bind fun d=>
    some (Arr2Int.mk 0 d.Max)
   else
    some (Arr2Int.mk 0 0)):Option Arr2Int)).bind fun ss=>
    match ss with
    |e=>
     (apnd 16 b [e]).bind fun f=>
     some (Stp.next (f,(iw (a+1))))
  else
   some (Stp.done b))
def wRanges(N:Nat)(l:(List RVar)):Option (List Arr2Int):=
 (loopM (wRanges_b1 N l) N (([]:(List Arr2Int)),0)).bind fun ss=>
  match ss with
  |a=>
   some a
def wparts_b1(N:Nat)(self:Refut→Option Int)(pa:Refut):(Int×Int)→Option (Stp (Int×Int) Int)
 |(a,b)=>
  (((if(b:Int)<(List.length pa.Children:Int)then
   some (decide ((a:Int)≤100))
  else
   some false):Option Bool)).bind fun ss=>
   match ss with
   |c=>
    (if c=true then
     (idx pa.Children b).bind fun d=>
     (self d).bind fun e=>
     some (Stp.next ((iw (a+e)),(iw (b+1))))
    else
     some (Stp.done a))
def wparts_step(N:Nat)(self:Refut→Option Int)(pa:Refut):Option Int:=
 (rSmallProof N pa.Proof).bind fun r6=>
 (if(!r6)=true then
  some 101
 else
  (loopM (wparts_b1 N self pa) N (1,0)).bind fun ss=>
   match ss with
   |a=>
    some a)
def wparts:Nat→Refut→Option Int
 |0=>fun _=>none
 |N+1=>wparts_step N (wparts N)
def wSmall(N:Nat)(pa:Refut):Option Bool:=
 (wparts N pa).bind fun r6=>
 some (decide ((r6:Int)≤30))
def wRight_b1(N:Nat)(ranges:(List Arr2Int)):Int→Option (Stp Int (Sum Unit Bool))
 |a=>
  (if(a:Int)<(List.length ranges:Int)then
   (((idx ranges a).bind fun b=>
   (if(b.e0:Int)<0 then
    some true
   else
    (idx ranges a).bind fun c=>
    (if(c.e0:Int)>16 then
     some true
    else
     (idx ranges a).bind fun d=>
     (if(d.e1:Int)<0 then
      some true
     else
      (idx ranges a).bind fun e=>
      some (decide ((e.e1:Int)>16))))):Option Bool)).bind fun ss=>
    match ss with
    |f=>
     (if f=true then
      some (Stp.done (Sum.inr false))
     else
      some (Stp.next (iw (a+1))))
  else
   some (Stp.done (Sum.inl ())))
def wRight(N:Nat)(l:(List RVar))(ranges:(List Arr2Int)):Option Bool:=
 (if((List.length ranges:Int):Int)≠(List.length l:Int)then
  some false
 else
  (loopM (wRight_b1 N ranges) N 0).bind fun ss=>
   match ss with
   |(Sum.inl _)=>
    some true
   |(Sum.inr a)=>some a)
def wDomains_b1(N:Nat)(l:(List RVar)):Int→Option (Stp Int (Sum Unit Bool))
 |b=>
  (if(b:Int)<(List.length l:Int)then
   (idx l b).bind fun a=>
   (((if(a.Ty:Int)=1 then
    (if(a.Low:Int)<(-2147483648)then
     some true
    else
     (if(a.Low:Int)>2147483647 then
      some true
     else
      (if(a.High:Int)<(-2147483648)then
       some true
      else
       some (decide ((a.High:Int)>2147483647)))))
   else
    some false):Option Bool)).bind fun ss=>
    match ss with
    |c=>
     (if c=true then
      some (Stp.done (Sum.inr false))
     else
      (((if(a.Ty:Int)=2 then
       (if(a.Max:Int)<0 then
        some true
       else
        (if(a.Max:Int)>16 then
         some true
        else
         (if(a.Ty:Int)≠1 then
          some (decide ((a.Ty:Int)≠2))
         else
          some false)))
      else
       (if(a.Ty:Int)≠1 then
        some (decide ((a.Ty:Int)≠2))
       else
        some false)):Option Bool)).bind fun ss=>
       match ss with
       |d=>
        (if d=true then
         some (Stp.done (Sum.inr false))
        else
         some (Stp.next (iw (b+1)))))
  else
   some (Stp.done (Sum.inl ())))
def wDomains(N:Nat)(l:(List RVar)):Option Bool:=
 (loopM (wDomains_b1 N l) N 0).bind fun ss=>
  match ss with
  |(Sum.inl _)=>
   some (decide (((List.length l:Int):Int)≤10))
  |(Sum.inr a)=>some a
open Go Go.X
def lbig(N:Nat)(n:Int):Option Big:=
 (rOf N n).bind fun r6=>
 some r6
def awake(N:Nat):Option Bool:=
 (lbig N 1).bind fun a=>
 (lbig N 2).bind fun b=>
 (lbig N 1).bind fun c=>
 (lbig N 2).bind fun d=>
 (lbig N 1).bind fun e=>
 (lbig N 1).bind fun f=>
 (lbig N 1).bind fun g=>
 (vCheck N [(RVar.mk 1 (-9) 9 0 false)] (RClause.mk [] [0] [] [(Constraint.mk (Linear.mk (-5) [(Coef.mk 0 2)]) true)] [] [] []) (Refut.mk 2 0 0 (Proof.mk [(Step.mk [(Use.mk 2 a)] b),(Step.mk [(Use.mk 3 c)] d),(Step.mk [(Use.mk 4 e),(Use.mk 5 f)] g)] [] (Big.mk false []) []) [])).bind fun i=>
 (if i=true then
  (vFormat N (Refut.mk 2 0 0 (Proof.mk [(Step.mk [(Use.mk 2 a)] b),(Step.mk [(Use.mk 3 c)] d),(Step.mk [(Use.mk 4 e),(Use.mk 5 f)] g)] [] (Big.mk false []) []) [])).bind fun j=>
  (if j=([105,110,116,101,103,101,114,115,32,51]:List UInt8)then
   (vCheck N [(RVar.mk 1 (-9) 9 0 false)] (RClause.mk [0] [] [] [] [] [] []) (Refut.mk 0 0 0 (Proof.mk [] [] (Big.mk false []) []) [])).bind fun k=>
   (if k=true then
    (vCheck N [(RVar.mk 1 (-9) 9 0 false)] (RClause.mk [] [0] [] [] [] [] []) (Refut.mk 0 0 0 (Proof.mk [] [] (Big.mk false []) []) [])).bind fun m=>
    some (!m)
   else
    some false)
  else
   some false)
 else
  some false)
def lright(N:Nat)(x:RCase):Option Bool:=
 (wDomains N x.L).bind fun r6=>
 (if r6=true then
  (sFew N x.C).bind fun a=>
  (if a=true then
   (sValid N x.C x.L).bind fun b=>
   (if b=true then
    (wRight N x.L x.Ranges).bind fun c=>
    some c
   else
    some false)
  else
   some false)
 else
  some false)
def lawSound(N:Nat)(x:RClaim):Option Bool:=
 (wRanges N x.L).bind fun r6=>
 (((awake N).bind fun a=>
 (if(!a)=true then
  some true
 else
  (lright N (RCase.mk x.L x.C r6 [])).bind fun b=>
  (if(!b)=true then
   some true
  else
   (wSmall N x.F).bind fun c=>
   (if(!c)=true then
    some true
   else
    (u16Inside N x.R x.L).bind fun d=>
    (if(!d)=true then
     some true
    else
     (sHolds N x.C x.R).bind fun e=>
     some (!e))))):Option Bool)).bind fun ss=>
  match ss with
  |f=>
   (if f=true then
    (awake N).bind fun g=>
    some g
   else
    (vCheck N x.L x.C x.F).bind fun i=>
    some (!i))
open Go Go.X
def Bg:Nat:=9223372036854775807
theorem getD_n{α:Type}{l:List α}{n:Nat}{d:α}(h:n<l.length):l.getD n d=l[n]:=by rw[List.getD_eq_getElem?_getD,List.getElem?_eq_getElem h];rfl
theorem var_n{v:Int}{n:Nat}(h:0≤v∧v<n):∃k:Nat,v=(k:Int)∧k<n:=⟨v.toNat,by omega,by omega⟩
theorem sWithin_tm{n a b:Int}:Tm (fun N=>sWithin N n a b) (·=decide (a≤n∧n≤b)):=by
 unfold sWithin
 by_cases hn:n≥a
 · exact Tm.pos hn (Tm.some (decide_eq_decide.2 (by omega)))
 · exact Tm.neg hn (Tm.some (by rw[decide_eq_false];omega))
theorem sHas_tm{l:List Int}{n:Int}(hl:l.length≤Bg):Tm (fun N=>sHas N l n) (·=decide (n∈l)):=by
 have hb:Bg=9223372036854775807:=rfl
 unfold sHas
 refine(Tm.findL (b:=fun N=>sHas_b1 N l n) l (fun y=>decide (y=n)) (fun _=>true) (by omega) (fun k hk=>?_) ?_).bind fun o ho=>?_
 · unfold sHas_b1
   refine Tm.pos (by omega) (Tm.step (idx_n hk) ?_)
   by_cases e:l[k]=n
   · rw[decide_eq_true e];exact Tm.pos e (Tm.some rfl)
   · rw[decide_eq_false e];exact Tm.neg e (Tm.some rfl)
 · unfold sHas_b1
   exact Tm.neg (by omega) (Tm.some rfl)
 · rcases ho with⟨h1,rfl⟩|⟨k,hk,h1,_,rfl⟩
   · refine Tm.some ?_
     rw[decide_eq_false]
     intro h
     have:=List.any_eq_false.1 h1 n h
     simp at this
   · refine Tm.some ?_
     rw[decide_eq_true]
     rw[←of_decide_eq_true h1];exact List.getElem_mem hk
def TxtOk(c:RClause)(l:List RVar)(v:Int):Prop:=∃k:Nat,v=(k:Int)∧(∃x,l[k]?=some x∧x.Ty=2)∧v∈c.NotNull
theorem sText_tm{c:RClause}{l:List RVar}{v:Int}(hn:c.NotNull.length≤Bg):Tm (fun N=>sText N v c l) (fun r=>r=true→TxtOk c l v):=by
 unfold sText
 by_cases h1:v≥0
 · refine Tm.pos h1 ?_
   by_cases h2:v<(l.length:Int)
   · obtain⟨k,rfl,hk⟩:=var_n (n:=l.length) ⟨h1,h2⟩
     refine Tm.pos h2 (Tm.step (idx_n hk) ?_)
     by_cases h3:l[k].Ty=2
     · exact Tm.pos h3 ((sHas_tm hn).bind fun r hr=>Tm.some fun e=>⟨k,rfl,⟨_,List.getElem?_eq_getElem hk,h3⟩,of_decide_eq_true (by rw[←hr];exact e)⟩)
     · exact Tm.neg h3 (Tm.some fun e=>by simp at e)
   · exact Tm.neg h2 (Tm.some fun e=>by simp at e)
 · exact Tm.neg h1 (Tm.some fun e=>by simp at e)
structure FrmOk (f:Linear)(m:Nat):Prop where
 cst:-1099511627777≤f.Const∧f.Const≤1099511627777
 len:f.Coefs.length≤m
 cf:∀x∈f.Coefs,(0≤x.Var∧x.Var<m)∧x.N≠0∧-1048576≤x.N∧x.N≤1048576
theorem sAbsE_tm{n:Int}(h:-1152921504606846976≤n∧n≤1152921504606846976):Tm (fun N=>sAbs N n) (·=(n.natAbs:Int)):=by
 unfold sAbs
 by_cases hn:n<0
 · refine Tm.pos hn (Tm.some ?_)
   rw[iw_eq (by omega) (by omega)];omega
 · exact Tm.neg hn (Tm.some (by omega))
def bnd(l:List RVar)(bs:List Int)(v:Int):Int:=if v≥(l.length:Int)then bs.getD (v.toNat-l.length) 0 else 2147483648
def sumB(l:List RVar)(bs:List Int)(c0:Int)(cs:List Coef):Int:=(c0.natAbs:Int)+(cs.map fun x=>(x.N.natAbs:Int)*bnd l bs x.Var).sum
structure FrmX (f:Linear)(c:RClause)(l:List RVar)(bs:List Int)(r:Int):Prop where
 asc:∀i j (hi:i<f.Coefs.length) (hj:j<f.Coefs.length),i<j→f.Coefs[i].Var<f.Coefs[j].Var
 ty:∀x∈f.Coefs,x.Var<(l.length:Int)→(∃y,l[x.Var.toNat]?=some y∧y.Ty=1)∧x.Var∈c.NotNull
 sum:r=sumB l bs f.Const f.Coefs
 le:r≤1152921504606846977
theorem sumB_snoc{l:List RVar}{bs:List Int}{c0:Int}{cs:List Coef}{x:Coef}:sumB l bs c0 (cs++[x])=sumB l bs c0 cs+(x.N.natAbs:Int)*bnd l bs x.Var:=by
 unfold sumB;simp[Int.add_assoc]
theorem sForm_tm{f:Linear}{c:RClause}{l:List RVar}{bs:List Int}(hn:c.NotNull.length≤Bg)(hf:f.Coefs.length≤Bg)(hl:l.length≤1000)(hbs:bs.length≤1000)(hb0:∀b∈bs,0≤b):
 Tm (fun N=>sForm N f c l bs) (fun r=>0≤r→FrmOk f (l.length+bs.length)∧FrmX f c l bs r):=by
 have hb:Bg=9223372036854775807:=rfl
 unfold sForm
 refine sWithin_tm.eq ?_
 by_cases hc:-1099511627777≤f.Const∧f.Const≤1099511627777
 · rw[decide_eq_true hc]
   refine Tm.neg (by simp) ((sAbsE_tm (by omega)).eq ?_)
   refine Tm.bind (Q:=fun o=>match o with|.inl s=>FrmOk f (l.length+bs.length)∧FrmX f c l bs s|.inr z=>z=-1) ?_ fun o ho=>?_
   · refine Tm.up f.Coefs.length (fun k s=>s.2=(k:Int)∧(s.1=sumB l bs f.Const (f.Coefs.take k)∧0≤s.1∧s.1≤1152921504606846977)∧∀j (hj:j<f.Coefs.length),j<k→((0≤f.Coefs[j].Var∧f.Coefs[j].Var<((l.length+bs.length:Nat):Int))∧f.Coefs[j].N≠0∧(-1048576≤f.Coefs[j].N∧f.Coefs[j].N≤1048576)∧(j:Int)≤f.Coefs[j].Var∧∀i (hi:i<f.Coefs.length),i<j→f.Coefs[i].Var<f.Coefs[j].Var)∧(f.Coefs[j].Var<(l.length:Int)→(∃y,l[f.Coefs[j].Var.toNat]?=some y∧y.Ty=1)∧f.Coefs[j].Var∈c.NotNull)) ⟨rfl,⟨by simp[sumB],by dsimp only;omega,by dsimp only;omega⟩,fun j _ hj=>by omega⟩ ?_
     rintro k hk ⟨s,i⟩ ⟨hi,⟨hs,hs0,hs1⟩,hJ⟩
     dsimp only at hi hs hs0 hs1 hJ;subst hi
     unfold sForm_b1
     dsimp only
     rcases Nat.lt_or_ge k f.Coefs.length with hlt|hge
     · refine Tm.pos (by omega) (Tm.step (idx_n hlt) ?_)
       have e1:iw ((l.length:Int)+(bs.length:Int))=((l.length+bs.length:Nat):Int):=by rw[iw_eq]<;>omega
       refine Tm.bind (Q:=fun b=>b=false→(0≤f.Coefs[k].Var∧f.Coefs[k].Var<((l.length+bs.length:Nat):Int))∧f.Coefs[k].N≠0∧(-1048576≤f.Coefs[k].N∧f.Coefs[k].N≤1048576)∧(k:Int)≤f.Coefs[k].Var∧∀i (hi:i<f.Coefs.length),i<k→f.Coefs[i].Var<f.Coefs[k].Var) ?_ fun b hb'=>?_
       · rw[e1]
         by_cases g1:f.Coefs[k].Var<0
         · exact Tm.pos g1 (Tm.some fun e=>by simp at e)
         · refine Tm.neg g1 ?_
           by_cases g2:f.Coefs[k].Var≥((l.length+bs.length:Nat):Int)
           · exact Tm.pos g2 (Tm.some fun e=>by simp at e)
           · refine Tm.neg g2 ?_
             by_cases g3:(k:Int)>0
             · refine Tm.pos g3 ?_
               have e2:iw ((k:Int)-1)=((k-1:Nat):Int):=by rw[iw_eq]<;>omega
               rw[e2]
               refine Tm.step (idx_n (by omega)) ?_
               by_cases g4:(f.Coefs[k-1]'(by omega)).Var≥f.Coefs[k].Var
               · exact Tm.pos g4 (Tm.some fun e=>by simp at e)
               · refine Tm.neg g4 ?_
                 by_cases g5:f.Coefs[k].N=0
                 · exact Tm.pos g5 (Tm.some fun e=>by simp at e)
                 · refine Tm.neg g5 (sWithin_tm.bind fun r hr=>Tm.some fun e=>?_)
                   have g6:=of_decide_eq_true (show decide (-1048576≤f.Coefs[k].N∧f.Coefs[k].N≤1048576)=true by rw[←hr];simpa using e)
                   obtain⟨_,_,_,g7,g8⟩:=(hJ (k-1) (by omega) (by omega)).1
                   refine⟨⟨by omega,by omega⟩,g5,g6,by omega,fun i hi hik=>?_⟩
                   by_cases ei:i=k-1
                   · subst ei;omega
                   · have:=g8 i hi (by omega);omega
             · refine Tm.neg g3 ?_
               by_cases g5:f.Coefs[k].N=0
               · exact Tm.pos g5 (Tm.some fun e=>by simp at e)
               · refine Tm.neg g5 (sWithin_tm.bind fun r hr=>Tm.some fun e=>?_)
                 have g6:=of_decide_eq_true (show decide (-1048576≤f.Coefs[k].N∧f.Coefs[k].N≤1048576)=true by rw[←hr];simpa using e)
                 exact⟨⟨by omega,by omega⟩,g5,g6,by omega,fun i hi hik=>by omega⟩
       · cases b with
         |true=>exact Tm.pos rfl (Tm.some rfl)
         |false=>
          have hk':=hb' rfl
          obtain⟨⟨v0,v1⟩,n0,n1,_⟩:=hb' rfl
          refine Tm.neg (by simp) ?_
          refine Tm.bind (Q:=fun o=>match o with|.inl b0=>(b0=bnd l bs f.Coefs[k].Var∧0≤b0)∧(f.Coefs[k].Var<(l.length:Int)→(∃y,l[f.Coefs[k].Var.toNat]?=some y∧y.Ty=1)∧f.Coefs[k].Var∈c.NotNull)|.inr z=>z=-1) ?_ fun o ho=>?_
          · by_cases g1:f.Coefs[k].Var≥(l.length:Int)
            · have e2:iw (f.Coefs[k].Var-(l.length:Int))=((f.Coefs[k].Var.toNat-l.length:Nat):Int):=by rw[iw_eq]<;>omega
              rw[e2]
              refine Tm.pos g1 (Tm.step (idx_n (by omega)) (Tm.some ⟨⟨?_,hb0 _ (List.getElem_mem _)⟩,fun g=>by omega⟩))
              unfold bnd
              rw[if_pos g1,getD_n (by omega)]
            · obtain⟨q,eq,hq⟩:=var_n (n:=l.length) ⟨v0,by omega⟩
              refine Tm.neg g1 ?_
              rw[eq]
              refine Tm.bind (Q:=fun b=>b=false→l[q].Ty=1∧(q:Int)∈c.NotNull) (Tm.step (idx_n hq) ?_) fun b hbq=>?_
              · by_cases g2:l[q].Ty≠1
                · exact Tm.pos g2 (Tm.some fun e=>by simp at e)
                · exact Tm.neg g2 ((sHas_tm hn).bind fun r hr=>Tm.some fun e=>⟨by omega,of_decide_eq_true (show decide ((q:Int)∈c.NotNull)=true by rw[←hr];simpa using e)⟩)
              · cases b with
                |true=>exact Tm.pos rfl (Tm.some rfl)
                |false=>
                 obtain⟨q1,q2⟩:=hbq rfl
                 refine Tm.neg (by simp) (Tm.some ⟨⟨?_,by decide⟩,fun _=>⟨⟨_,by rw[Int.toNat_natCast];exact List.getElem?_eq_getElem hq,q1⟩,q2⟩⟩)
                 unfold bnd
                 rw[if_neg (by omega)]
          · cases o with
            |inr z=>exact Tm.some ho
            |inl b0=>
             obtain⟨⟨hbe,hbp⟩,hty⟩:=ho
             refine(sAbsE_tm (by omega)).eq ?_
             have hr0:((f.Coefs[k].N.natAbs:Nat):Int)≠0:=by omega
             have hsd:sdiv .i64 1152921504606846977 ((f.Coefs[k].N.natAbs:Nat):Int)=some (1152921504606846977/((f.Coefs[k].N.natAbs:Nat):Int)):=by
              unfold sdiv
              rw[if_neg hr0,Int.tdiv_eq_ediv_of_nonneg (by decide)]
              congr 1
              have h1:=Int.ediv_nonneg (a:=1152921504606846977) (b:=((f.Coefs[k].N.natAbs:Nat):Int)) (by decide) (by omega)
              have h2:=Int.ediv_le_self (a:=1152921504606846977) ((f.Coefs[k].N.natAbs:Nat):Int) (by decide)
              exact iw_eq (by omega) (by omega)
             refine Tm.step hsd ?_
             by_cases g3:b0>1152921504606846977/((f.Coefs[k].N.natAbs:Nat):Int)
             · exact Tm.pos g3 (Tm.some rfl)
             · refine Tm.neg g3 ((sAbsE_tm (by omega)).eq ?_)
               have p0:0≤((f.Coefs[k].N.natAbs:Nat):Int)*b0:=Int.mul_nonneg (by omega) hbp
               have p1:((f.Coefs[k].N.natAbs:Nat):Int)*b0≤1152921504606846977:=by
                have h1:=(Int.le_ediv_iff_mul_le (a:=b0) (b:=1152921504606846977) (c:=((f.Coefs[k].N.natAbs:Nat):Int)) (by omega)).1 (by omega)
                rw[Int.mul_comm];exact h1
               rw[iw_eq (z:=((f.Coefs[k].N.natAbs:Nat):Int)*b0) (by omega) (by omega),iw_eq (z:=s+((f.Coefs[k].N.natAbs:Nat):Int)*b0) (by omega) (by omega)]
               by_cases g4:s+((f.Coefs[k].N.natAbs:Nat):Int)*b0>1152921504606846977
               · exact Tm.pos g4 (Tm.some rfl)
               · refine Tm.neg g4 (Tm.some ⟨hlt,iw_n (by omega),⟨?_,by dsimp only;omega,by dsimp only;omega⟩,fun j hj hjk=>?_⟩)
                 · dsimp only
                   rw[List.take_succ_eq_append_getElem hlt,sumB_snoc,←hs,←hbe]
                 · by_cases ejk:j=k
                   · subst ejk;exact⟨hk',hty⟩
                   · exact hJ j hj (by omega)
     · have:k=f.Coefs.length:=by omega
       subst this
       refine Tm.neg (by omega) (Tm.some ⟨⟨hc,?_,fun x hx=>?_⟩,⟨fun i j hi hj hij=>((hJ j hj hj).1).2.2.2.2 i hi hij,fun x hx=>?_,by rw[hs,List.take_length],hs1⟩⟩)
       · rcases Nat.eq_zero_or_pos f.Coefs.length with h0|h0
         · omega
         · obtain⟨⟨g1,_,_,g2,_⟩,_⟩:=hJ (f.Coefs.length-1) (by omega) (by omega)
           omega
       · obtain⟨j,hj,rfl⟩:=List.getElem_of_mem hx
         obtain⟨⟨g1,g2,g3,_⟩,_⟩:=hJ j hj hj
         exact⟨g1,g2,g3⟩
       · obtain⟨j,hj,rfl⟩:=List.getElem_of_mem hx
         exact(hJ j hj hj).2
   · cases o with
     |inl s=>exact Tm.some fun _=>ho
     |inr z=>
      have ho:z=-1:=ho
      subst ho
      exact Tm.some fun h=>by omega
 · rw[decide_eq_false hc]
   exact Tm.pos rfl (Tm.some fun h=>by omega)
structure AscOk (l:List Int)(n:Nat):Prop where
 bd:∀x∈l,0≤x∧x<n
 asc:∀i j (hi:i<l.length) (hj:j<l.length),i<j→l[i]<l[j]
 len:l.length≤n
theorem sAscending_tm{l:List Int}{n:Nat}(hl:l.length≤Bg):Tm (fun N=>sAscending N l (n:Int)) (fun r=>r=true→AscOk l n):=by
 have hb:Bg=9223372036854775807:=rfl
 unfold sAscending
 refine Tm.bind (Q:=fun o=>match o with|.inl _=>AscOk l n|.inr z=>z=false) ?_ fun o ho=>?_
 · refine Tm.up l.length (fun k s=>s=(k:Int)∧∀j (hj:j<l.length),j<k→(0≤l[j]∧l[j]<(n:Int))∧(j:Int)≤l[j]∧∀i (hi:i<l.length),i<j→l[i]<l[j]) ⟨rfl,fun j _ hj=>by omega⟩ ?_
   rintro k hk i ⟨rfl,hJ⟩
   unfold sAscending_b1
   rcases Nat.lt_or_ge k l.length with hlt|hge
   · refine Tm.pos (by omega) ?_
     refine Tm.bind (Q:=fun b=>b=false→(0≤l[k]∧l[k]<(n:Int))∧(k:Int)≤l[k]∧∀i (hi:i<l.length),i<k→l[i]<l[k]) ?_ fun b hb'=>?_
     · refine Tm.step (idx_n hlt) ?_
       by_cases g1:l[k]<0
       · exact Tm.pos g1 (Tm.some fun e=>by simp at e)
       · refine Tm.neg g1 (Tm.step (idx_n hlt) ?_)
         by_cases g2:l[k]≥(n:Int)
         · exact Tm.pos g2 (Tm.some fun e=>by simp at e)
         · refine Tm.neg g2 ?_
           by_cases g3:(k:Int)>0
           · refine Tm.pos g3 ?_
             have e2:iw ((k:Int)-1)=((k-1:Nat):Int):=by rw[iw_eq]<;>omega
             rw[e2]
             refine Tm.step (idx_n (by omega)) (Tm.step (idx_n hlt) (Tm.some fun e=>?_))
             have e:=of_decide_eq_false e
             obtain⟨_,g5,g6⟩:=hJ (k-1) (by omega) (by omega)
             refine⟨⟨by omega,by omega⟩,by omega,fun i hi hik=>?_⟩
             by_cases ei:i=k-1
             · subst ei;omega
             · have:=g6 i hi (by omega);omega
           · refine Tm.neg g3 (Tm.some fun _=>⟨⟨by omega,by omega⟩,by omega,fun i hi hik=>by omega⟩)
     · cases b with
       |true=>exact Tm.pos rfl (Tm.some rfl)
       |false=>
        refine Tm.neg (by simp) (Tm.some ⟨hlt,iw_n (by omega),fun j hj hjk=>?_⟩)
        by_cases ejk:j=k
        · subst ejk;exact hb' rfl
        · exact hJ j hj (by omega)
   · have:k=l.length:=by omega
     subst this
     refine Tm.neg (by omega) (Tm.some ⟨fun x hx=>?_,fun i j hi hj hij=>(hJ j hj hj).2.2 i hi hij,?_⟩)
     · obtain⟨j,hj,rfl⟩:=List.getElem_of_mem hx
       exact(hJ j hj hj).1
     · rcases Nat.eq_zero_or_pos l.length with h0|h0
       · omega
       · obtain⟨g1,g2,_⟩:=hJ (l.length-1) (by omega) (by omega)
         omega
 · cases o with
   |inl _=>exact Tm.some fun _=>ho
   |inr z=>
    have ho:z=false:=ho
    subst ho
    exact Tm.some fun h=>by simp at h
open Go Go.X
def prn(b:UInt8):Bool:=decide (32≤b.toNat∧b.toNat≤126)
def okT(t:TTest):Bool:=decide (0≤t.Kind∧t.Kind≤3∧t.Text.length≤16)&&t.Text.all prn
theorem prn_bad{b:UInt8}:(decide ((UInt8.toNat b:Int)<32∨(UInt8.toNat b:Int)>126))=!prn b:=by
 unfold prn
 by_cases h:32≤b.toNat∧b.toNat≤126
 · rw[decide_eq_true h,decide_eq_false (by omega)];rfl
 · rw[decide_eq_false h,decide_eq_true (by omega)];rfl
theorem sTested_tm{t:TTest}(hl:t.Text.length≤Bg):Tm (fun N=>sTested N t) (·=okT t):=by
 have hb:Bg=9223372036854775807:=rfl
 unfold sTested
 refine(Tm.allL (b:=fun N=>sTested_b1 N t) t.Text prn (by omega) (fun k hk=>?_) ?_).eq ?_
 · unfold sTested_b1
   refine Tm.pos (by omega) ?_
   simp only[idx_n hk,Option.bind_some,or_if,prn_bad]
   cases prn t.Text[k]<;>exact Tm.some rfl
 · unfold sTested_b1
   exact Tm.neg (by omega) (Tm.some rfl)
 · cases h:t.Text.all prn with
   |false=>exact Tm.some (by simp[okT,h])
   |true=>
    by_cases h1:t.Kind≥0
    · refine Tm.pos h1 ?_
      by_cases h2:t.Kind≤3
      · refine Tm.pos h2 (Tm.some ?_)
        simp only[okT,h,Bool.and_true]
        exact decide_eq_decide.2 (by omega)
      · exact Tm.neg h2 (Tm.some (by simp[okT,h2]))
    · refine Tm.neg h1 (Tm.some ?_)
      have:¬0≤t.Kind:=h1
      simp[okT,this]
theorem sPairs_tm{p:List Arr2Int}{c:RClause}{l:List RVar}(hn:c.NotNull.length≤Bg)(hp:p.length≤Bg):Tm (fun N=>sPairs N p c l) (fun r=>r=true→∀e∈p,TxtOk c l e.e0∧TxtOk c l e.e1∧e.e0<e.e1):=by
 have hb:Bg=9223372036854775807:=rfl
 unfold sPairs
 refine Tm.bind (Q:=fun o=>match o with|.inl _=>∀e∈p,TxtOk c l e.e0∧TxtOk c l e.e1∧e.e0<e.e1|.inr z=>z=false) ?_ fun o ho=>?_
 · refine Tm.up p.length (fun k s=>s=(k:Int)∧∀j (hj:j<p.length),j<k→TxtOk c l p[j].e0∧TxtOk c l p[j].e1∧p[j].e0<p[j].e1) ⟨rfl,fun j _ hj=>by omega⟩ ?_
   rintro k hk i ⟨rfl,hJ⟩
   unfold sPairs_b1
   rcases Nat.lt_or_ge k p.length with hlt|hge
   · refine Tm.pos (by omega) ?_
     refine Tm.bind (Q:=fun b=>b=false→TxtOk c l p[k].e0∧TxtOk c l p[k].e1∧p[k].e0<p[k].e1) ?_ fun b hb'=>?_
     · refine Tm.step (idx_n hlt) ((sText_tm hn).bind fun r hr=>?_)
       cases r with
       |false=>exact Tm.pos rfl (Tm.some fun e=>by simp at e)
       |true=>
        refine Tm.neg (by simp) (Tm.step (idx_n hlt) ((sText_tm hn).bind fun r2 hr2=>?_))
        cases r2 with
        |false=>exact Tm.pos rfl (Tm.some fun e=>by simp at e)
        |true=>
         refine Tm.neg (by simp) (Tm.step (idx_n hlt) (Tm.step (idx_n hlt) (Tm.some fun e=>?_)))
         have e:=of_decide_eq_false e
         exact⟨hr rfl,hr2 rfl,by omega⟩
     · cases b with
       |true=>exact Tm.pos rfl (Tm.some rfl)
       |false=>
        refine Tm.neg (by simp) (Tm.some ⟨hlt,iw_n (by omega),fun j hj hjk=>?_⟩)
        by_cases ejk:j=k
        · subst ejk;exact hb' rfl
        · exact hJ j hj (by omega)
   · refine Tm.neg (by omega) (Tm.some fun e he=>?_)
     obtain⟨j,hj,rfl⟩:=List.getElem_of_mem he
     exact hJ j hj (by omega)
 · cases o with
   |inl _=>exact Tm.some fun _=>ho
   |inr z=>
    have ho:z=false:=ho
    subst ho
    exact Tm.some fun h=>by simp at h
def AuxOk(c:RClause)(l:List RVar)(i:Nat)(a:RAux):Prop:=
 (a.By=0∧a.Of.Coefs=[]∧a.Of.Const=0∧TxtOk c l a.Text)∨(a.By≠0∧(1≤a.By∧a.By≤1000)∧a.Text=0∧FrmOk a.Of (l.length+i))
structure BdsOk (c:RClause)(l:List RVar)(bs:List Int):Prop where
 len:bs.length=c.Auxiliary.length
 nn:∀b∈bs,0≤b
 at':∀i (hi:i<c.Auxiliary.length),(c.Auxiliary[i].By=0∧bs.getD i 0=16)∨(c.Auxiliary[i].By≠0∧∃r,0≤r∧FrmX c.Auxiliary[i].Of c l (bs.take i) r∧bs.getD i 0=r/c.Auxiliary[i].By+1)
structure ClOk (c:RClause)(l:List RVar):Prop where
 bx:∃bs,BdsOk c l bs∧∀k∈c.Ints,∃r,FrmX k.Linear c l bs r
 nl:AscOk c.Null l.length
 nn:AscOk c.NotNull l.length
 ax:∀i (hi:i<c.Auxiliary.length),AuxOk c l i c.Auxiliary[i]
 it:∀k∈c.Ints,FrmOk k.Linear (l.length+c.Auxiliary.length)
 ts:∀t∈c.Tests,okT t=true∧TxtOk c l t.Var
 sm:∀e∈c.Same,TxtOk c l e.e0∧TxtOk c l e.e1∧e.e0<e.e1
 df:∀e∈c.Different,TxtOk c l e.e0∧TxtOk c l e.e1∧e.e0<e.e1
structure LimC (c:RClause):Prop where
 nl:c.Null.length≤Bg
 nn:c.NotNull.length≤Bg
 ax:∀a∈c.Auxiliary,a.Of.Coefs.length≤Bg
 it:∀k∈c.Ints,k.Linear.Coefs.length≤Bg
 ts:∀t∈c.Tests,t.Text.length≤Bg
structure SmC (c:RClause):Prop where
 ax:c.Auxiliary.length≤80
 it:c.Ints.length≤80
 ts:c.Tests.length≤80
 sm:c.Same.length≤80
 df:c.Different.length≤80
theorem sValid_b1_tm{c:RClause}{l:List RVar}(hc:LimC c)(hs:SmC c)(hl:l.length≤10):
 Tm (fun N=>loopM (sValid_b1 N c l) N (([]:List Int),0)) (fun o=>match o with|.inl bs=>BdsOk c l bs∧∀i (hi:i<c.Auxiliary.length),AuxOk c l i c.Auxiliary[i]|.inr z=>z=false):=by
 have hb:Bg=9223372036854775807:=rfl
 have hax:=hs.ax
 refine Tm.up c.Auxiliary.length (fun k s=>s.2=(k:Int)∧(s.1.length=k∧(∀b∈s.1,0≤b)∧∀i (hi:i<c.Auxiliary.length),i<k→(c.Auxiliary[i].By=0∧s.1.getD i 0=16)∨(c.Auxiliary[i].By≠0∧∃r,0≤r∧FrmX c.Auxiliary[i].Of c l (s.1.take i) r∧s.1.getD i 0=r/c.Auxiliary[i].By+1))∧∀j (hj:j<c.Auxiliary.length),j<k→AuxOk c l j c.Auxiliary[j]) ⟨rfl,⟨rfl,fun b hb=>by(cases hb),fun i _ hi=>by omega⟩,fun j _ hj=>by omega⟩ ?_
 rintro k hk ⟨s,i⟩ ⟨hi,⟨hsl,hsn,hsb⟩,hJ⟩
 dsimp only at hi hsl hsn hsb hJ;subst hi
 have grow:∀(b:Int),0≤b→(∀(hlt:k<c.Auxiliary.length),(c.Auxiliary[k].By=0∧b=16)∨(c.Auxiliary[k].By≠0∧∃r,0≤r∧FrmX c.Auxiliary[k].Of c l s r∧b=r/c.Auxiliary[k].By+1))→(s++[b]).length=k+1∧(∀b'∈s++[b],0≤b')∧∀i (hi:i<c.Auxiliary.length),i<k+1→(c.Auxiliary[i].By=0∧(s++[b]).getD i 0=16)∨(c.Auxiliary[i].By≠0∧∃r,0≤r∧FrmX c.Auxiliary[i].Of c l ((s++[b]).take i) r∧(s++[b]).getD i 0=r/c.Auxiliary[i].By+1):=by
  intro b b0 hbk
  refine⟨by simp[hsl],fun b' hb'=>?_,fun i hi hik=>?_⟩
  · rcases List.mem_append.1 hb' with h|h
    · exact hsn _ h
    · rw[List.mem_singleton.1 h];exact b0
  · rcases Nat.lt_or_ge i k with h|h
    · have e1:(s++[b]).getD i 0=s.getD i 0:=by rw[List.getD_eq_getElem?_getD,List.getD_eq_getElem?_getD,List.getElem?_append_left (by omega)]
      have e2:(s++[b]).take i=s.take i:=by rw[List.take_append_of_le_length (by omega)]
      rw[e1,e2];exact hsb i hi h
    · have:i=k:=by omega
      subst this
      have e1:(s++[b]).getD i 0=b:=by rw[List.getD_eq_getElem?_getD,List.getElem?_append_right (by omega)];simp[hsl]
      have e2:(s++[b]).take i=s:=by rw[List.take_append_of_le_length (by omega),List.take_of_length_le (by omega)]
      rw[e1,e2];exact hbk hi
 unfold sValid_b1
 dsimp only
 rcases Nat.lt_or_ge k c.Auxiliary.length with hlt|hge
 · refine Tm.pos (by omega) (Tm.step (idx_n hlt) ?_)
   have hlim:=hc.ax _ (List.getElem_mem hlt)
   have hnext:AuxOk c l k c.Auxiliary[k]→∀j (hj:j<c.Auxiliary.length),j<k+1→AuxOk c l j c.Auxiliary[j]:=fun hk' j hj hjk=>by
    by_cases ejk:j=k
    · subst ejk;exact hk'
    · exact hJ j hj (by omega)
   by_cases g1:c.Auxiliary[k].By=0
   · refine Tm.pos g1 ?_
     refine Tm.bind (Q:=fun b=>b=false→AuxOk c l k c.Auxiliary[k]) ?_ fun b hb'=>?_
     · by_cases g2:(c.Auxiliary[k].Of.Coefs.length:Int)>0
       · exact Tm.pos g2 (Tm.some fun e=>by simp at e)
       · refine Tm.neg g2 ?_
         by_cases g3:c.Auxiliary[k].Of.Const≠0
         · exact Tm.pos g3 (Tm.some fun e=>by simp at e)
         · refine Tm.neg g3 ((sText_tm hc.nn).bind fun r hr=>Tm.some fun e=>?_)
           exact .inl ⟨g1,List.eq_nil_of_length_eq_zero (by omega),by omega,hr (by simpa using e)⟩
     · cases b with
       |true=>exact Tm.pos rfl (Tm.some rfl)
       |false=>
        refine Tm.neg (by simp) ?_
        rw[apnd_ok (by simp only[List.length_singleton];omega) (by decide)]
        exact Tm.some ⟨hlt,iw_n (by omega),grow 16 (by decide) (fun _=>.inl ⟨g1,rfl⟩),hnext (hb' rfl)⟩
   · refine Tm.neg g1 ((sForm_tm hc.nn hlim (by omega) (by omega) hsn).bind fun r hr=>?_)
     refine Tm.bind (Q:=fun b=>b=false→AuxOk c l k c.Auxiliary[k]∧FrmX c.Auxiliary[k].Of c l s r∧0≤r∧1≤c.Auxiliary[k].By) ?_ fun b hb'=>?_
     · refine sWithin_tm.eq ?_
       by_cases g2:1≤c.Auxiliary[k].By∧c.Auxiliary[k].By≤1000
       · rw[decide_eq_true g2]
         refine Tm.neg (by simp) ?_
         by_cases g3:c.Auxiliary[k].Text≠0
         · exact Tm.pos g3 (Tm.some fun e=>by simp at e)
         · refine Tm.neg g3 (Tm.some fun e=>?_)
           have e:=of_decide_eq_false e
           obtain⟨h2,h3⟩:=hr (by omega)
           refine⟨.inr ⟨g1,g2,by omega,?_⟩,h3,by omega,g2.1⟩
           rw[hsl]at h2;exact h2
       · rw[decide_eq_false g2]
         exact Tm.pos rfl (Tm.some fun e=>by simp at e)
     · cases b with
       |true=>exact Tm.pos rfl (Tm.some rfl)
       |false=>
        refine Tm.neg (by simp) ?_
        obtain⟨q1,q2,q3,q4⟩:=hb' rfl
        have q5:=q2.le
        have q6:=Int.ediv_nonneg (a:=r) (b:=c.Auxiliary[k].By) q3 (by omega)
        have q7:=Int.ediv_le_self (a:=r) c.Auxiliary[k].By q3
        have hsd:sdiv .i64 r c.Auxiliary[k].By=some (r/c.Auxiliary[k].By):=by
         unfold sdiv
         rw[if_neg g1,Int.tdiv_eq_ediv_of_nonneg q3]
         congr 1
         exact iw_eq (by omega) (by omega)
        refine Tm.step hsd ?_
        rw[apnd_ok (by simp only[List.length_singleton];omega) (by decide),iw_eq (by omega) (by omega)]
        exact Tm.some ⟨hlt,iw_n (by omega),grow _ (by omega) (fun _=>.inr ⟨g1,r,q3,q2,rfl⟩),hnext q1⟩
 · have:k=c.Auxiliary.length:=by omega
   subst this
   exact Tm.neg (by omega) (Tm.some ⟨⟨hsl,hsn,fun i hi=>hsb i hi hi⟩,fun j hj=>hJ j hj hj⟩)
theorem sValid_tm{c:RClause}{l:List RVar}(hc:LimC c)(hs:SmC c)(hl:l.length≤10):Tm (fun N=>sValid N c l) (fun r=>r=true→ClOk c l):=by
 have hb:Bg=9223372036854775807:=rfl
 have:=hs.ax;have:=hs.it;have:=hs.ts;have:=hs.sm;have:=hs.df
 unfold sValid
 refine Tm.bind (Q:=fun b=>b=false→AscOk c.Null l.length∧AscOk c.NotNull l.length) ?_ fun b hb'=>?_
 · refine(sAscending_tm hc.nl).bind fun r hr=>?_
   cases r with
   |false=>exact Tm.pos rfl (Tm.some fun e=>by simp at e)
   |true=>exact Tm.neg (by simp) ((sAscending_tm hc.nn).bind fun r2 hr2=>Tm.some fun e=>⟨hr rfl,hr2 (by simpa using e)⟩)
 · cases b with
   |true=>exact Tm.pos rfl (Tm.some fun e=>by simp at e)
   |false=>
    obtain⟨q1,q2⟩:=hb' rfl
    refine Tm.neg (by simp) ((sValid_b1_tm hc hs hl).bind fun o ho=>?_)
    cases o with
    |inr z=>
     have ho:z=false:=ho
     subst ho
     exact Tm.some fun h=>by simp at h
    |inl bs=>
     obtain⟨hbo,hax⟩:=ho
     have hbl:=hbo.len
     refine Tm.bind (Q:=fun o=>match o with|.inl _=>∀k∈c.Ints,FrmOk k.Linear (l.length+c.Auxiliary.length)∧∃r,FrmX k.Linear c l bs r|.inr z=>z=false) ?_ fun o ho=>?_
     · refine Tm.up c.Ints.length (fun k s=>s=(k:Int)∧∀j (hj:j<c.Ints.length),j<k→FrmOk c.Ints[j].Linear (l.length+c.Auxiliary.length)∧∃r,FrmX c.Ints[j].Linear c l bs r) ⟨rfl,fun j _ hj=>by omega⟩ ?_
       rintro k hk i ⟨rfl,hJ⟩
       unfold sValid_b2
       rcases Nat.lt_or_ge k c.Ints.length with hlt|hge
       · refine Tm.pos (by omega) (Tm.step (idx_n hlt) ((sForm_tm hc.nn (hc.it _ (List.getElem_mem hlt)) (by omega) (by omega) hbo.nn).bind fun r hr=>?_))
         by_cases g:r<0
         · exact Tm.pos g (Tm.some rfl)
         · refine Tm.neg g (Tm.some ⟨hlt,iw_n (by omega),fun j hj hjk=>?_⟩)
           by_cases ejk:j=k
           · subst ejk;obtain⟨q1,q2⟩:=hr (by omega);exact⟨hbl▸q1,r,q2⟩
           · exact hJ j hj (by omega)
       · refine Tm.neg (by omega) (Tm.some fun x hx=>?_)
         obtain⟨j,hj,rfl⟩:=List.getElem_of_mem hx
         exact hJ j hj (by omega)
     · cases o with
       |inr z=>
        have ho:z=false:=ho
        subst ho
        exact Tm.some fun h=>by simp at h
       |inl _=>
        have hit:∀k∈c.Ints,FrmOk k.Linear (l.length+c.Auxiliary.length)∧∃r,FrmX k.Linear c l bs r:=ho
        refine Tm.bind (Q:=fun o=>match o with|.inl _=>∀t∈c.Tests,okT t=true∧TxtOk c l t.Var|.inr z=>z=false) ?_ fun o ho=>?_
        · refine Tm.up c.Tests.length (fun k s=>s=(k:Int)∧∀j (hj:j<c.Tests.length),j<k→okT c.Tests[j]=true∧TxtOk c l c.Tests[j].Var) ⟨rfl,fun j _ hj=>by omega⟩ ?_
          rintro k hk i ⟨rfl,hJ⟩
          unfold sValid_b3
          rcases Nat.lt_or_ge k c.Tests.length with hlt|hge
          · refine Tm.pos (by omega) ?_
            refine Tm.bind (Q:=fun b=>b=false→okT c.Tests[k]=true∧TxtOk c l c.Tests[k].Var) ?_ fun b hb'=>?_
            · refine Tm.step (idx_n hlt) ((sTested_tm (hc.ts _ (List.getElem_mem hlt))).bind fun r hr=>?_)
              cases r with
              |false=>exact Tm.pos rfl (Tm.some fun e=>by simp at e)
              |true=>exact Tm.neg (by simp) (Tm.step (idx_n hlt) ((sText_tm hc.nn).bind fun r2 hr2=>Tm.some fun e=>⟨hr.symm,hr2 (by simpa using e)⟩))
            · cases b with
              |true=>exact Tm.pos rfl (Tm.some rfl)
              |false=>
               refine Tm.neg (by simp) (Tm.some ⟨hlt,iw_n (by omega),fun j hj hjk=>?_⟩)
               by_cases ejk:j=k
               · subst ejk;exact hb' rfl
               · exact hJ j hj (by omega)
          · refine Tm.neg (by omega) (Tm.some fun x hx=>?_)
            obtain⟨j,hj,rfl⟩:=List.getElem_of_mem hx
            exact hJ j hj (by omega)
        · cases o with
          |inr z=>
           have ho:z=false:=ho
           subst ho
           exact Tm.some fun h=>by simp at h
          |inl _=>
           have hts:∀t∈c.Tests,okT t=true∧TxtOk c l t.Var:=ho
           refine(sPairs_tm hc.nn (by omega)).bind fun r hr=>?_
           cases r with
           |false=>exact Tm.neg (by simp) (Tm.some fun e=>by simp at e)
           |true=>
            refine Tm.pos rfl ((sPairs_tm hc.nn (by omega)).bind fun r2 hr2=>Tm.some fun e=>?_)
            exact⟨⟨bs,hbo,fun k hk=>(hit k hk).2⟩,q1,q2,hax,fun k hk=>(hit k hk).1,hts,hr rfl,hr2 e⟩
structure LwC (c:RClause):Prop where
 nl:c.Null.length≤17592186043904
 nn:c.NotNull.length≤17592186043904
 ax:c.Auxiliary.length≤17592186043904
 it:c.Ints.length≤17592186043904
 ts:c.Tests.length≤17592186043904
 sm:c.Same.length≤17592186043904
 df:c.Different.length≤17592186043904
theorem sFew_tm{c:RClause}(h:LwC c):Tm (fun N=>sFew N c) (fun r=>r=true→SmC c):=by
 have:=h.nl;have:=h.nn;have:=h.ax;have:=h.it;have:=h.ts;have:=h.sm;have:=h.df
 unfold sFew
 have e1:iw ((c.Null.length:Int)+(c.NotNull.length:Int))=((c.Null.length+c.NotNull.length:Nat):Int):=by rw[iw_eq]<;>omega
 have e2:iw (((c.Null.length+c.NotNull.length:Nat):Int)+(c.Auxiliary.length:Int))=((c.Null.length+c.NotNull.length+c.Auxiliary.length:Nat):Int):=by rw[iw_eq]<;>omega
 have e3:iw (((c.Null.length+c.NotNull.length+c.Auxiliary.length:Nat):Int)+(c.Ints.length:Int))=((c.Null.length+c.NotNull.length+c.Auxiliary.length+c.Ints.length:Nat):Int):=by rw[iw_eq]<;>omega
 have e4:iw (((c.Null.length+c.NotNull.length+c.Auxiliary.length+c.Ints.length:Nat):Int)+(c.Tests.length:Int))=((c.Null.length+c.NotNull.length+c.Auxiliary.length+c.Ints.length+c.Tests.length:Nat):Int):=by rw[iw_eq]<;>omega
 have e5:iw (((c.Null.length+c.NotNull.length+c.Auxiliary.length+c.Ints.length+c.Tests.length:Nat):Int)+(c.Same.length:Int))=((c.Null.length+c.NotNull.length+c.Auxiliary.length+c.Ints.length+c.Tests.length+c.Same.length:Nat):Int):=by rw[iw_eq]<;>omega
 have e6:iw (((c.Null.length+c.NotNull.length+c.Auxiliary.length+c.Ints.length+c.Tests.length+c.Same.length:Nat):Int)+(c.Different.length:Int))=((c.Null.length+c.NotNull.length+c.Auxiliary.length+c.Ints.length+c.Tests.length+c.Same.length+c.Different.length:Nat):Int):=by rw[iw_eq]<;>omega
 rw[e1,e2,e3,e4,e5,e6]
 by_cases hz:((c.Null.length+c.NotNull.length+c.Auxiliary.length+c.Ints.length+c.Tests.length+c.Same.length+c.Different.length:Nat):Int)>80
 · exact Tm.pos hz (Tm.some fun e=>by simp at e)
 · refine Tm.neg hz ?_
   have hsm:SmC c:=⟨by omega,by omega,by omega,by omega,by omega⟩
   refine Tm.bind (Q:=fun _=>True) ?_ fun n1 _=>?_
   · refine Tm.up c.Auxiliary.length (fun k s=>s.2=(k:Int)) rfl ?_
     rintro k hk ⟨s,i⟩ hi
     dsimp only at hi;subst hi
     unfold sFew_b1
     dsimp only
     rcases Nat.lt_or_ge k c.Auxiliary.length with hlt|hge
     · exact Tm.pos (by omega) (Tm.step (idx_n hlt) (Tm.some ⟨hlt,iw_n (by omega)⟩))
     · exact Tm.neg (by omega) (Tm.some trivial)
   · refine Tm.bind (Q:=fun _=>True) ?_ fun n2 _=>?_
     · refine Tm.up c.Ints.length (fun k s=>s.2=(k:Int)) rfl ?_
       rintro k hk ⟨s,i⟩ hi
       dsimp only at hi;subst hi
       unfold sFew_b2
       dsimp only
       rcases Nat.lt_or_ge k c.Ints.length with hlt|hge
       · exact Tm.pos (by omega) (Tm.step (idx_n hlt) (Tm.some ⟨hlt,iw_n (by omega)⟩))
       · exact Tm.neg (by omega) (Tm.some trivial)
     · refine Tm.bind (Q:=fun _=>True) ?_ fun o _=>?_
       · refine Tm.up c.Tests.length (fun k s=>s=(k:Int)) rfl ?_
         rintro k hk i rfl
         unfold sFew_b3
         rcases Nat.lt_or_ge k c.Tests.length with hlt|hge
         · refine Tm.pos (by omega) (Tm.step (idx_n hlt) ?_)
           by_cases g:(c.Tests[k].Text.length:Int)>40
           · exact Tm.pos g (Tm.some trivial)
           · exact Tm.neg g (Tm.some ⟨hlt,iw_n (by omega)⟩)
         · exact Tm.neg (by omega) (Tm.some trivial)
       · cases o with
         |inl _=>exact Tm.some fun _=>hsm
         |inr z=>exact Tm.some fun _=>hsm
open Go Go.X
def okS(k:Int):Bool:=decide (0≤k∧k≤16)
def okV(n:Nat)(v:Int):Bool:=decide (0≤v∧v<n)
def ixB{α:Type}(f:α→Option Bool)(s:List α):Int→Option (Stp Int (Sum Unit Int)):=fun x=>
 if(x:Int)<(List.length s:Int)then
  (idx s x).bind fun y=>(f y).bind fun r=>if r=true then some (Stp.done (Sum.inr x))else some (Stp.next (iw (x+1)))
 else some (Stp.done (Sum.inl ()))
def ixF{α:Type}(N:Nat)(s:List α)(f:α→Option Bool):Option Int:=
 (loopM (ixB f s) N 0).bind fun ss=>match ss with
  |Sum.inl _=>some (-1)
  |Sum.inr z=>some z
theorem indexInt_eq(N:Nat)(s:List Int)(f:Int→Option Bool):indexInt N s f=ixF N s f:=rfl
theorem ixF_tm{α:Type}{s:List α}{f:Nat→α→Option Bool}{g:α→Bool}(hn:s.length≤Bg)(h:∀x∈s,Tm (fun N=>f N x) (·=g x)):Tm (fun N=>ixF N s (f N)) (fun r=>decide (r≥0)=s.any g):=by
 have hb:Bg=9223372036854775807:=rfl
 unfold ixF
 refine(Tm.findL (b:=fun N=>ixB (f N) s) s g (fun k=>(k:Int)) (by omega) (fun k hk=>?_) ?_).bind fun o ho=>?_
 · unfold ixB
   refine Tm.pos (by omega) (Tm.step (idx_n hk) ((h _ (List.getElem_mem hk)).eq ?_))
   cases g s[k]<;>exact Tm.some rfl
 · unfold ixB
   exact Tm.neg (by omega) (Tm.some rfl)
 · rcases ho with⟨h1,rfl⟩|⟨k,hk,h1,_,rfl⟩
   · refine Tm.some ?_
     rw[h1];rfl
   · refine Tm.some ?_
     rw[List.any_eq_true.2 ⟨_,List.getElem_mem hk,h1⟩]
     exact decide_eq_true (by omega)
theorem containsInt_tm{s:List Int}{f:Nat→Int→Option Bool}{g:Int→Bool}(hn:s.length≤Bg)(h:∀x∈s,Tm (fun N=>f N x) (·=g x)):Tm (fun N=>containsInt N s (f N)) (·=s.any g):=by
 unfold containsInt
 simp only[indexInt_eq]
 exact(ixF_tm hn h).bind fun r hr=>Tm.some hr
theorem not_any_not{α:Type}{l:List α}{f:α→Bool}:(!l.any fun x=>!f x)=l.all f:=by
 rw[Bool.eq_iff_iff]
 simp
open Go Go.X
def bits(S:Nat→Bool):Nat→Nat
 |0=>0
 |n+1=>bits S n|||(if S n then 2^n else 0)
theorem bits_test{S:Nat→Bool}:∀{n i:Nat},(bits S n).testBit i=(decide (i<n)&&S i)
 |0,i=>by simp[bits]
 |n+1,i=>by
  rw[bits,Nat.testBit_or,bits_test]
  by_cases hS:S n
  · rw[if_pos hS,Nat.testBit_two_pow]
    by_cases hi:i=n
    · subst hi;simp[hS]
    · have h1:decide (n=i)=false:=decide_eq_false (fun h=>hi h.symm)
      have h2:decide (i<n+1)=decide (i<n):=decide_eq_decide.2 (by omega)
      rw[h1,h2];simp
  · rw[if_neg hS]
    by_cases hi:i=n
    · subst hi;simp[hS]
    · have h2:decide (i<n+1)=decide (i<n):=decide_eq_decide.2 (by omega)
      rw[h2];simp
theorem bits_lt{S:Nat→Bool}{n:Nat}:bits S n<2^n:=Nat.lt_pow_two_of_testBit _ fun i hi=>by
 rw[bits_test,decide_eq_false (by omega)];rfl
theorem bits_eq{S:Nat→Bool}{n m:Nat}(hm:m<2^n)(h:∀i,i<n→m.testBit i=S i):m=bits S n:=by
 apply Nat.eq_of_testBit_eq
 intro i
 rw[bits_test]
 by_cases hi:i<n
 · rw[decide_eq_true hi,h i hi];rfl
 · rw[decide_eq_false hi,Nat.testBit_lt_two_pow (Nat.lt_of_lt_of_le hm (Nat.pow_le_pow_right (by decide) (by omega)))];rfl
theorem bshr_u32{x:Int}{n:Nat}(h:n≤32):bshr .u32 x n=x/2^n:=by
 unfold bshr
 rw[show min ((n:Int)).toNat IntKind.u32.bits=n by show min _ 32=n;omega]
 exact Int.fdiv_eq_ediv_of_nonneg _ (Int.le_of_lt (Int.pow_pos (by decide)))
theorem u32_n{a:Nat}(h:a<4294967296):IntKind.u32.wrap (a:Int)=(a:Int):=wq_u32 rfl h
theorem bt{m i:Nat}(hm:m<4294967296)(hi:i≤31):(band .u32 (bshr .u32 (m:Int) (i:Int)) 1:Int)=if m.testBit i then 1 else 0:=by
 rw[bshr_u32 (by omega)]
 have e:((m:Int)/2^i)=((m/2^i:Nat):Int):=by simp
 have hle:m/2^i<4294967296:=Nat.lt_of_le_of_lt (Nat.div_le_self _ _) hm
 rw[e,show(1:Int)=((1:Nat):Int) from rfl,band_nat (u32_n hle) (u32_n (by decide)),Nat.and_one_is_mod,Nat.testBit_eq_decide_div_mod_eq]
 by_cases h:m/2^i%2=1
 · rw[h];simp
 · have:m/2^i%2=0:=by omega
   rw[this];simp
theorem bsh{i:Nat}(hi:i≤31):bshl .u32 1 (i:Int)=((2^i:Nat):Int):=by
 unfold bshl
 rw[show min ((i:Int)).toNat IntKind.u32.bits=i by show min _ 32=i;omega]
 have h:2^i<4294967296:=Nat.lt_of_le_of_lt (Nat.pow_le_pow_right (by decide) hi) (by decide)
 rw[Int.one_mul,show((2:Int)^i)=((2^i:Nat):Int) by simp]
 exact u32_n h
theorem bs{m i n:Nat}(hm:m<2^(n+1))(hi:i≤n)(hn:n≤16):bor .u32 (m:Int) (bshl .u32 1 (i:Int))=((m|||2^i:Nat):Int)∧m|||2^i<2^(n+1):=by
 have h17:2^(n+1)≤2^17:=Nat.pow_le_pow_right (by decide) (by omega)
 have h2:2^i<2^(n+1):=Nat.pow_lt_pow_right (by decide) (by omega)
 refine⟨?_,Nat.or_lt_two_pow hm h2⟩
 rw[bsh (by omega),bor_nat (u32_n (by omega)) (u32_n (by omega))]
theorem bs_test{m i j:Nat}:(m|||2^i).testBit j=(m.testBit j||decide (i=j)):=by rw[Nat.testBit_or,Nat.testBit_two_pow]
def isP(o:Option UInt8):Bool:=decide (o=some 37)
def clo(p:List UInt8)(S:Nat→Bool):Nat→Bool
 |0=>S 0
 |i+1=>S (i+1)||(clo p S i&&isP p[i]?)
def hit(o:Option UInt8)(c:Int):Bool:=match o with
 |some b=>decide (b≠37)&&(decide (b=95)||decide ((b.toNat:Int)=c))
 |none=>false
def nxs(p:List UInt8)(S:Nat→Bool)(c:Int):Nat→Bool:=fun j=>(S j&&isP p[j]?)||(match j with|0=>false|i+1=>S i&&hit p[i]? c)
theorem u8_37{b:UInt8}:((b.toNat:Int)=37)↔b=37:=by
 constructor
 · intro h;apply UInt8.toNat_inj.1;show b.toNat=37;omega
 · rintro rfl;rfl
theorem u8_95{b:UInt8}:((b.toNat:Int)=95)↔b=95:=by
 constructor
 · intro h;apply UInt8.toNat_inj.1;show b.toNat=95;omega
 · rintro rfl;rfl
theorem pClosure_tm{p:List UInt8}{m:Nat}(hp:p.length≤16)(hm:m<2^(p.length+1)):Tm (fun N=>pClosure N p (m:Int)) (·=((bits (clo p m.testBit) (p.length+1):Nat):Int)):=by
 unfold pClosure
 have h17:2^(p.length+1)≤2^17:=Nat.pow_le_pow_right (by decide) (by omega)
 refine Tm.eq (a:=((bits (clo p m.testBit) (p.length+1):Nat):Int)) ?_ (Tm.some rfl)
 refine Tm.up p.length (fun k s=>s.2=(k:Int)∧∃a:Nat,s.1=(a:Int)∧a<2^(p.length+1)∧(∀i,i≤k→a.testBit i=clo p m.testBit i)∧(∀i,k<i→a.testBit i=m.testBit i)) ⟨rfl,m,rfl,hm,fun i hi=>by rw[Nat.le_zero.1 hi];rfl,fun _ _=>rfl⟩ ?_
 rintro k hk ⟨s,i⟩ ⟨hi,a,ha,hal,h1,h2⟩
 dsimp only at hi ha;subst hi;subst ha
 unfold pClosure_b1
 rcases Nat.lt_or_ge k p.length with hlt|hge
 · refine Tm.pos (by omega) ?_
   simp only[idx_n hlt,Option.bind_some]
   by_cases hp1:((p[k]).toNat:Int)=37
   · have hp2:isP p[k]?=true:=by rw[List.getElem?_eq_getElem hlt,u8_37.1 hp1];rfl
     simp only[if_pos hp1,chk_ok (show¬(k:Int)<0 by omega),Option.bind_some,bt (m:=a) (i:=k) (by omega) (by omega)]
     by_cases hb:a.testBit k=true
     · simp only[hb,if_true,decide_true,iw_n (k:=k) (by omega),chk_ok (show¬((k+1:Nat):Int)<0 by omega),Option.bind_some]
       obtain⟨e1,e2⟩:=bs (n:=p.length) hal (show k+1≤p.length by omega) hp
       rw[e1]
       refine Tm.some ⟨hlt,rfl,_,rfl,e2,fun i hi=>?_,fun i hi=>?_⟩
       · rw[bs_test]
         by_cases hik:i≤k
         · rw[h1 i hik,decide_eq_false (by omega)];simp
         · obtain rfl:i=k+1:=by omega
           have:=h1 k (Nat.le_refl _)
           rw[decide_eq_true rfl,clo,←this,hb,hp2];simp
       · rw[bs_test,h2 i (by omega),decide_eq_false (by omega)];simp
     · have hb':a.testBit k=false:=by simpa using hb
       simp only[hb',Bool.false_eq_true,if_false,decide_eq_false (show¬(0:Int)=1 by decide),Option.bind_some]
       refine Tm.some ⟨hlt,iw_n (by omega),a,rfl,hal,fun i hi=>?_,fun i hi=>h2 i (by omega)⟩
       by_cases hik:i≤k
       · exact h1 i hik
       · obtain rfl:i=k+1:=by omega
         have:=h1 k (Nat.le_refl _)
         rw[clo,←this,hb',h2 (k+1) (by omega)];simp
   · have hp2:isP p[k]?=false:=by
      rw[List.getElem?_eq_getElem hlt]
      refine decide_eq_false fun h=>hp1 (u8_37.2 (Option.some.inj h))
     simp only[if_neg hp1,Option.bind_some,Bool.false_eq_true,if_false]
     refine Tm.some ⟨hlt,iw_n (by omega),a,rfl,hal,fun i hi=>?_,fun i hi=>h2 i (by omega)⟩
     by_cases hik:i≤k
     · exact h1 i hik
     · obtain rfl:i=k+1:=by omega
       rw[clo,hp2,h2 (k+1) (by omega)];simp
 · refine Tm.neg (by omega) (Tm.some ?_)
   have:k=p.length:=by omega
   subst this
   show(a:Int)=_
   rw[bits_eq hal fun i hi=>h1 i (by omega)]
structure StOk (t:TTest)(s:Int):Prop where
 lk:t.Kind=1→∃m:Nat,s=(m:Int)∧m<2^(t.Text.length+1)
 cm:t.Kind≠1→s=100∨s=101∨(0≤s∧s≤t.Text.length)
def sp0(t:TTest):Int:=if t.Kind=1 then((bits (clo t.Text (Nat.testBit 1)) (t.Text.length+1):Nat):Int)else 0
def cmpN(x:List UInt8)(s c:Int):Int:=if s≥100 then s else if s=x.length∨c>((x.getD s.toNat 0).toNat:Int)then 101 else if c<((x.getD s.toNat 0).toNat:Int)then 100 else s+1
def spN(t:TTest)(s c:Int):Int:=if t.Kind=1 then((bits (clo t.Text (Nat.testBit (bits (nxs t.Text (Nat.testBit s.toNat) c) (t.Text.length+1)))) (t.Text.length+1):Nat):Int)else cmpN t.Text s c
def spF(t:TTest)(s:Int):Bool:=
 let ok:=if t.Kind=1 then s.toNat.testBit t.Text.length else if t.Kind=0 then decide (s=t.Text.length)else if t.Kind=2 then decide (s=100∨s<t.Text.length)else decide (s=100∨s≤t.Text.length)
 !(ok==t.Negated)
theorem okT_len{t:TTest}(h:okT t=true):0≤t.Kind∧t.Kind≤3∧t.Text.length≤16:=by
 simp only[okT,Bool.and_eq_true,decide_eq_true_eq]at h;exact h.1
theorem st0_ok{t:TTest}(h:okT t=true):StOk t (sp0 t):=by
 constructor
 · intro hk;unfold sp0;rw[if_pos hk];exact⟨_,rfl,bits_lt⟩
 · intro hk;unfold sp0;rw[if_neg hk];exact .inr (.inr ⟨by decide,by omega⟩)
theorem stN_ok{t:TTest}{s:Int}(c:Int)(h:okT t=true)(hs:StOk t s):StOk t (spN t s c):=by
 constructor
 · intro hk;unfold spN;rw[if_pos hk];exact⟨_,rfl,bits_lt⟩
 · intro hk
   unfold spN;rw[if_neg hk]
   unfold cmpN
   have h16:=(okT_len h).2.2
   rcases hs.cm hk with h1|h1|h1
   · rw[if_pos (by omega)];exact .inl h1
   · rw[if_pos (by omega)];exact .inr (.inl h1)
   · rw[if_neg (by omega)]
     split
     · exact .inr (.inl rfl)
     · rename_i hn
       split
       · exact .inl rfl
       · exact .inr (.inr ⟨by omega,by omega⟩)
theorem pBegin_tm{t:TTest}(h:okT t=true):Tm (fun N=>pBegin N t) (·=sp0 t):=by
 unfold pBegin sp0
 by_cases hk:t.Kind=1
 · simp only[if_pos hk]
   exact(pClosure_tm (m:=1) (okT_len h).2.2 (Nat.one_lt_two_pow (by omega))).eq (Tm.some rfl)
 · simp only[if_neg hk]
   exact Tm.some rfl
theorem pNext_b1_tm{t:TTest}{m:Nat}{c:Int}(hp:t.Text.length≤16)(hm:m<2^(t.Text.length+1)):Tm (fun N=>loopM (pNext_b1 N c (m:Int) t) N (0,0)) (·=((bits (nxs t.Text m.testBit c) (t.Text.length+1):Nat):Int)):=by
 generalize hx:t.Text=p at*
 have h17:2^(p.length+1)≤2^17:=Nat.pow_le_pow_right (by decide) (by omega)
 refine Tm.up p.length (fun k s=>s.2=(k:Int)∧∃a:Nat,s.1=(a:Int)∧a<2^(p.length+1)∧∀j,a.testBit j=((decide (j<k)&&m.testBit j&&isP p[j]?)||(match j with|0=>false|i+1=>decide (i<k)&&m.testBit i&&hit p[i]? c))) ⟨rfl,0,rfl,Nat.two_pow_pos _,fun j=>by cases j<;>simp⟩ ?_
 rintro k hk ⟨s,i⟩ ⟨hi,a,ha,hal,h1⟩
 dsimp only at hi ha;subst hi;subst ha
 unfold pNext_b1
 rw[hx]
 rcases Nat.lt_or_ge k p.length with hlt|hge
 · refine Tm.pos (by omega) ?_
   have hpk:p[k]?=some p[k]:=List.getElem?_eq_getElem hlt
   simp only[chk_ok (show¬(k:Int)<0 by omega),Option.bind_some,bt (m:=m) (i:=k) (by omega) (by omega)]
   have upto:∀(a':Nat),(∀j,a'.testBit j=(a.testBit j||(decide (j=k)&&m.testBit k&&isP p[k]?)||(decide (j=k+1)&&m.testBit k&&hit p[k]? c)))→∀j,a'.testBit j=((decide (j<k+1)&&m.testBit j&&isP p[j]?)||(match j with|0=>false|i+1=>decide (i<k+1)&&m.testBit i&&hit p[i]? c)):=by
    intro a' h j
    rw[h j,h1 j]
    cases j with
    |zero=>
     by_cases h0:k=0
     · subst h0;simp
     · have e1:decide (0<k)=true:=decide_eq_true (by omega)
       have e2:decide (0=k)=false:=decide_eq_false (by omega)
       rw[e1,e2];simp
    |succ i=>
     dsimp only
     by_cases e:i+1=k
     · subst e
       have e1:decide (i+1<i+1)=false:=decide_eq_false (by omega)
       have e2:decide (i<i+1)=true:=decide_eq_true (by omega)
       have e3:decide (i+1<i+1+1)=true:=decide_eq_true (by omega)
       have e4:decide (i<i+1+1)=true:=decide_eq_true (by omega)
       have e5:decide (i+1=i+1+1)=false:=decide_eq_false (by omega)
       rw[e1,e2,e3,e4,e5,decide_eq_true rfl]
       simp only[Bool.false_and,Bool.true_and,Bool.false_or,Bool.or_false]
       exact Bool.or_comm _ _
     · by_cases e':i=k
       · subst e'
         have e1:decide (i+1<i)=false:=decide_eq_false (by omega)
         have e2:decide (i<i)=false:=decide_eq_false (by omega)
         have e3:decide (i+1=i)=false:=decide_eq_false (by omega)
         have e4:decide (i+1<i+1)=false:=decide_eq_false (by omega)
         have e5:decide (i<i+1)=true:=decide_eq_true (by omega)
         rw[e1,e2,e3,e4,e5,decide_eq_true rfl];simp
       · have e1:decide (i+1<k+1)=decide (i+1<k):=decide_eq_decide.2 (by omega)
         have e2:decide (i<k+1)=decide (i<k):=decide_eq_decide.2 (by omega)
         have e3:decide (i+1=k)=false:=decide_eq_false (by omega)
         have e4:decide (i+1=k+1)=false:=decide_eq_false (by omega)
         rw[e1,e2,e3,e4];simp
   by_cases hb:m.testBit k=true
   · rw[hb]
     simp only[if_true,show((1:Int)=0)=False by simp,if_false,idx_n hlt,Option.bind_some]
     by_cases hp1:((p[k]).toNat:Int)=37
     · rw[if_pos hp1]
       have e37:=u8_37.1 hp1
       obtain⟨e1,e2⟩:=bs (n:=p.length) hal (show k≤p.length by omega) hp
       rw[e1]
       refine Tm.some ⟨hlt,iw_n (by omega),_,rfl,e2,upto _ fun j=>?_⟩
       rw[bs_test,hb,hpk,e37]
       have:decide (k=j)=decide (j=k):=decide_eq_decide.2 eq_comm
       simp[isP,hit,this]
     · rw[if_neg hp1]
       have n37:p[k]≠37:=fun h=>hp1 (u8_37.2 h)
       have e:(if((p[k]).toNat:Int)=95 then some true else some (decide (((p[k]).toNat:Int)=c)))=some (hit p[k]? c):=by
        rw[or_if,hpk]
        simp only[hit,n37,ne_eq,not_false_eq_true,decide_true,Bool.true_and]
        rw[←Bool.decide_or]
        exact congrArg some (decide_eq_decide.2 (by rw[u8_95]))
       rw[e]
       simp only[Option.bind_some]
       cases hh:hit p[k]? c with
       |true=>
        simp only[if_true,iw_n (k:=k) (by omega),chk_ok (show¬((k+1:Nat):Int)<0 by omega),Option.bind_some]
        obtain⟨e1,e2⟩:=bs (n:=p.length) hal (show k+1≤p.length by omega) hp
        rw[e1]
        refine Tm.some ⟨hlt,rfl,_,rfl,e2,upto _ fun j=>?_⟩
        rw[bs_test,hb,hh]
        have e3:decide (k+1=j)=decide (j=k+1):=decide_eq_decide.2 eq_comm
        have e4:isP p[k]?=false:=by rw[hpk];exact decide_eq_false (fun h=>n37 (Option.some.inj h))
        rw[e3,e4];simp
       |false=>
        simp only[Bool.false_eq_true,if_false]
        refine Tm.some ⟨hlt,iw_n (by omega),a,rfl,hal,upto _ fun j=>?_⟩
        have e4:isP p[k]?=false:=by rw[hpk];exact decide_eq_false (fun h=>n37 (Option.some.inj h))
        rw[e4,hh];simp
   · have hb':m.testBit k=false:=by simpa using hb
     rw[hb']
     simp only[Bool.false_eq_true,if_false,if_true]
     exact Tm.some ⟨hlt,iw_n (by omega),a,rfl,hal,upto _ fun j=>by rw[hb'];simp⟩
 · refine Tm.neg (by omega) (Tm.some ?_)
   have:k=p.length:=by omega
   subst this
   show(a:Int)=_
   rw[bits_eq (S:=nxs p m.testBit c) hal fun j hj=>?_]
   rw[h1 j]
   unfold nxs
   have e0:(decide (j<p.length)&&m.testBit j&&isP p[j]?)=(m.testBit j&&isP p[j]?):=by
    by_cases hjl:j<p.length
    · rw[decide_eq_true hjl];simp
    · rw[List.getElem?_eq_none (by omega)];simp[isP]
   rw[e0]
   cases j with
   |zero=>rfl
   |succ i=>
    have:decide (i<p.length)=true:=decide_eq_true (by omega)
    simp only[this,Bool.true_and]
theorem pNext_tm{t:TTest}{s c:Int}(h:okT t=true)(hs:StOk t s):Tm (fun N=>pNext N t s c) (·=spN t s c):=by
 have h16:=(okT_len h).2.2
 unfold pNext spN
 by_cases hk:t.Kind=1
 · obtain⟨m,rfl,hm⟩:=hs.lk hk
   simp only[if_pos hk]
   refine(pNext_b1_tm h16 hm).eq ?_
   exact(pClosure_tm h16 bits_lt).eq (Tm.some rfl)
 · simp only[if_neg hk]
   unfold cmpN
   rcases hs.cm hk with h1|h1|h1
   · simp only[if_pos (show s≥100 by omega)];exact Tm.some rfl
   · simp only[if_pos (show s≥100 by omega)];exact Tm.some rfl
   · simp only[if_neg (show¬s≥100 by omega)]
     obtain⟨i,rfl⟩:=Int.eq_ofNat_of_zero_le h1.1
     have e0:iw (i:Int)=(i:Int):=iw_eq (by omega) (by omega)
     simp only[e0]
     by_cases hl:(i:Int)=(t.Text.length:Int)
     · simp only[if_pos hl,Option.bind_some,if_true]
       rw[if_pos (.inl hl)];exact Tm.some rfl
     · have hlt:i<t.Text.length:=by omega
       have eg:t.Text.getD i 0=t.Text[i]:=by rw[List.getD_eq_getElem?_getD,List.getElem?_eq_getElem hlt];rfl
       simp only[if_neg hl,idx_n hlt,Option.bind_some,Int.toNat_natCast,eg,false_or]
       by_cases g1:c>((t.Text[i]).toNat:Int)
       · rw[decide_eq_true g1,if_pos (show(i:Int)=(t.Text.length:Int)∨c>((t.Text[i]).toNat:Int) from .inr g1)];exact Tm.some rfl
       · rw[decide_eq_false g1,if_neg (show¬((i:Int)=(t.Text.length:Int)∨c>((t.Text[i]).toNat:Int)) from fun h=>h.elim hl g1)]
         by_cases g2:c<((t.Text[i]).toNat:Int)
         · rw[if_pos g2,if_pos g2];exact Tm.some rfl
         · rw[if_neg g2,if_neg g2]
           exact Tm.some (uw32_eq (z:=(i:Int)+1) (by omega) (by omega))
theorem pPassed_tm{t:TTest}{s:Int}(h:okT t=true)(hs:StOk t s):Tm (fun N=>pPassed N t s) (·=spF t s):=by
 have h16:=(okT_len h).2.2
 have h17:2^(t.Text.length+1)≤2^17:=Nat.pow_le_pow_right (by decide) (by omega)
 unfold pPassed spF
 by_cases hk:t.Kind=1
 · obtain⟨m,rfl,hm⟩:=hs.lk hk
   simp only[if_pos hk,chk_ok (show¬(t.Text.length:Int)<0 by omega),Option.bind_some,bt (m:=m) (i:=t.Text.length) (by omega) (by omega),Int.toNat_natCast]
   refine Tm.some ?_
   cases m.testBit t.Text.length<;>rfl
 · simp only[if_neg hk]
   have e0:iw s=s:=by rcases hs.cm hk with h1|h1|h1<;>exact iw_eq (by omega) (by omega)
   rw[e0]
   by_cases h0:t.Kind=0
   · simp only[if_pos h0,Option.bind_some];exact Tm.some rfl
   · simp only[if_neg h0]
     by_cases h2:t.Kind=2
     · simp only[if_pos h2,or_if,Option.bind_some];exact Tm.some rfl
     · simp only[if_neg h2,or_if,Option.bind_some];exact Tm.some rfl
def run(t:TTest)(s:Int)(x:List Int):Int:=x.foldl (spN t) s
def pas(t:TTest)(x:List UInt8):Bool:=spF t (run t (sp0 t) (sby x))
open Go Go.X
theorem clo_congr{p:List UInt8}{S S':Nat→Bool}:∀{i:Nat},(∀j,j≤i→S j=S' j)→clo p S i=clo p S' i
 |0,h=>h 0 (Nat.le_refl _)
 |i+1,h=>by rw[clo,clo,h (i+1) (Nat.le_refl _),clo_congr (i:=i) fun j hj=>h j (by omega)]
def sI(S:Nat→Bool)(n:Nat):List Int:=(List.range (n+1)).map fun i=>if S i then(1:Int)else 0
def enc(t:TTest)(s:Int):List UInt8:=if t.Kind=1 then bstr (sI s.toNat.testBit t.Text.length)else if s=100 then[60]else if s=101 then[62]else[61,UInt8.ofNat s.toNat]
open Go Go.X
def gL(p:TProb)(x:List (List UInt8))(i:Nat):Bool:=decide (p.Min.getD i 0≤((x.getD i []).length:Int)∧((x.getD i []).length:Int)≤p.Max.getD i 0)&&(x.getD i []).all prn
def gT(x:List (List UInt8))(t:TTest):Bool:=pas t (x.getD t.Var.toNat [])
def gS(x:List (List UInt8))(e:Arr2Int):Bool:=decide (x.getD e.e0.toNat []=x.getD e.e1.toNat [])
def gD(x:List (List UInt8))(e:Arr2Int):Bool:=!gS x e
def sat(p:TProb)(x:List (List UInt8)):Bool:=decide (x.length=p.Min.length)&&(List.range x.length).all (gL p x)&&p.Tests.all (gT x)&&p.Same.all (gS x)&&p.Different.all (gD x)
structure OkP (p:TProb):Prop where
 len:p.Max.length=p.Min.length
 le:p.Min.length≤128
 mn:∀k∈p.Min,0≤k∧k≤16
 mx:∀k∈p.Max,0≤k∧k≤16
 ts:∀t∈p.Tests,okT t=true∧0≤t.Var∧t.Var<p.Min.length
 sm:∀e∈p.Same,(0≤e.e0∧e.e0<p.Min.length)∧0≤e.e1∧e.e1<p.Min.length
 df:∀e∈p.Different,(0≤e.e0∧e.e0<p.Min.length)∧0≤e.e1∧e.e1<p.Min.length
section
variable {p:TProb} {x:List (List UInt8)}
structure Lms (p:TProb):Prop where
 a:p.Min.length≤1000
 b:p.Max.length≤1000
 c:p.Tests.length≤1000
 d:p.Same.length≤1000
 e:p.Different.length≤1000
end
open Go Go.X
def lk:List UInt8→List UInt8→Bool
 |[],x=>x.isEmpty
 |b::p,x=>if b=37 then(List.range (x.length+1)).any fun i=>lk p (x.drop i)else match x with
  |[]=>false
  |c::y=>(decide (b=95)||decide (b=c))&&lk p y
theorem lk_star{p x:List UInt8}:lk (37::p) x=true↔∃i,i≤x.length∧lk p (x.drop i)=true:=by
 show(if(37:UInt8)=37 then(List.range (x.length+1)).any fun i=>lk p (x.drop i)else _)=true↔_
 rw[if_pos rfl,List.any_eq_true]
 constructor
 · rintro⟨i,h1,h2⟩;exact⟨i,by have:=List.mem_range.1 h1;omega,h2⟩
 · rintro⟨i,h1,h2⟩;exact⟨i,List.mem_range.2 (by omega),h2⟩
theorem lk_star0{p x:List UInt8}(h:lk p x=true):lk (37::p) x=true:=lk_star.2 ⟨0,Nat.zero_le _,h⟩
theorem lk_star1{p x:List UInt8}{c:UInt8}(h:lk (37::p) x=true):lk (37::p) (c::x)=true:=by
 obtain⟨i,h1,h2⟩:=lk_star.1 h
 exact lk_star.2 ⟨i+1,by simpa using h1,h2⟩
theorem lk_one{b:UInt8}{p x:List UInt8}(hb:b≠37):lk (b::p) x=true↔∃c y,x=c::y∧(b=95∨b=c)∧lk p y=true:=by
 cases x with
 |nil=>
  show(if b=37 then _ else false)=true↔_
  rw[if_neg hb];simp
 |cons c y=>
  show(if b=37 then _ else(decide (b=95)||decide (b=c))&&lk p y)=true↔_
  rw[if_neg hb]
  simp only[Bool.and_eq_true,Bool.or_eq_true,decide_eq_true_eq,List.cons.injEq]
  exact⟨fun⟨h1,h2⟩=>⟨_,_,⟨rfl,rfl⟩,h1,h2⟩,fun⟨_,_,⟨e1,e2⟩,h1,h2⟩=>by subst e1;subst e2;exact⟨h1,h2⟩⟩
def acc(p:List UInt8)(S:Nat→Bool):List Int→Bool
 |[]=>S p.length
 |c::x=>acc p (clo p (nxs p S c)) x
def Cl(p:List UInt8)(S:Nat→Bool):Prop:=∀i,S i=true→isP p[i]?=true→S (i+1)=true
theorem clo_cl{p:List UInt8}{S:Nat→Bool}:Cl p (clo p S):=fun i h1 h2=>by rw[clo,h1,h2];simp
theorem clo_in{p:List UInt8}{S:Nat→Bool}:∀{i:Nat},S i=true→clo p S i=true
 |0,h=>h
 |i+1,h=>by rw[clo,h];rfl
theorem isP_at{p:List UInt8}{i:Nat}(h:isP p[i]?=true):p.drop i=37::p.drop (i+1):=by
 have h:=of_decide_eq_true h
 obtain⟨hl,hv⟩:=List.getElem?_eq_some_iff.1 h
 rw[List.drop_eq_getElem_cons hl,hv]
theorem clo_lk{p x:List UInt8}{S:Nat→Bool}:∀{i:Nat},clo p S i=true→lk (p.drop i) x=true→∃j,S j=true∧lk (p.drop j) x=true
 |0,h,hx=>⟨0,h,hx⟩
 |i+1,h,hx=>by
  rw[clo,Bool.or_eq_true,Bool.and_eq_true]at h
  rcases h with h|⟨h1,h2⟩
  · exact⟨i+1,h,hx⟩
  · exact clo_lk (i:=i) h1 (by rw[isP_at h2];exact lk_star0 hx)
theorem nxs_lk{p x:List UInt8}{S:Nat→Bool}{c:UInt8}{j:Nat}(h:nxs p S (c.toNat:Int) j=true)(hx:lk (p.drop j) x=true):∃i,S i=true∧lk (p.drop i) (c::x)=true:=by
 unfold nxs at h
 rw[Bool.or_eq_true,Bool.and_eq_true]at h
 rcases h with⟨h1,h2⟩|h
 · refine⟨j,h1,?_⟩
   rw[isP_at h2]at hx⊢
   exact lk_star1 hx
 · cases j with
   |zero=>cases h
   |succ i=>
    dsimp only at h
    rw[Bool.and_eq_true]at h
    obtain⟨h1,h2⟩:=h
    refine⟨i,h1,?_⟩
    unfold hit at h2
    split at h2
    · rename_i b hb
      obtain⟨hl,hv⟩:=List.getElem?_eq_some_iff.1 hb
      simp only[Bool.and_eq_true,Bool.or_eq_true,decide_eq_true_eq]at h2
      rw[List.drop_eq_getElem_cons hl,hv]
      refine(lk_one h2.1).2 ⟨c,x,rfl,?_,hx⟩
      rcases h2.2 with g|g
      · exact .inl g
      · exact .inr (UInt8.toNat_inj.1 (by omega))
    · cases h2
theorem lk_nxs{p x:List UInt8}{S:Nat→Bool}{c:UInt8}(hS:Cl p S):∀(n j:Nat),p.length-j=n→S j=true→lk (p.drop j) (c::x)=true→∃i,nxs p S (c.toNat:Int) i=true∧lk (p.drop i) x=true:=by
 intro n
 induction n with
 |zero=>
  intro j hn h1 h2
  rw[List.drop_eq_nil_of_le (by omega)]at h2
  cases h2
 |succ n ih=>
  intro j hn h1 h2
  have hl:j<p.length:=by omega
  rw[List.drop_eq_getElem_cons hl]at h2
  by_cases hb:p[j]=37
  · have hP:isP p[j]?=true:=by unfold isP;rw[List.getElem?_eq_getElem hl,hb];rfl
    rw[hb]at h2
    obtain⟨i,g1,g2⟩:=lk_star.1 h2
    cases i with
    |zero=>exact ih (j+1) (by omega) (hS j h1 hP) g2
    |succ k=>
     refine⟨j,by unfold nxs;rw[h1,hP];rfl,?_⟩
     rw[isP_at hP]
     exact lk_star.2 ⟨k,by simpa using g1,g2⟩
  · obtain⟨c',y,e,g1,g2⟩:=(lk_one hb).1 h2
    cases e
    refine⟨j+1,?_,g2⟩
    unfold nxs
    have:hit p[j]? (c.toNat:Int)=true:=by
     unfold hit
     rw[List.getElem?_eq_getElem hl]
     dsimp only
     rcases g1 with g|g
     · simp[g]
     · rw[g]at hb;simp[g,hb]
    dsimp only
    rw[h1,this];simp
theorem cl_end{p:List UInt8}{S:Nat→Bool}(hS:Cl p S):∀(n j:Nat),p.length-j=n→j≤p.length→S j=true→lk (p.drop j) []=true→S p.length=true:=by
 intro n
 induction n with
 |zero=>intro j hn hj h1 h2;rw[show p.length=j by omega];exact h1
 |succ n ih=>
  intro j hn hj h1 h2
  have hl:j<p.length:=by omega
  rw[List.drop_eq_getElem_cons hl]at h2
  by_cases hb:p[j]=37
  · have hP:isP p[j]?=true:=by unfold isP;rw[List.getElem?_eq_getElem hl,hb];rfl
    rw[hb]at h2
    obtain⟨i,g1,g2⟩:=lk_star.1 h2
    exact ih (j+1) (by omega) (by omega) (hS j h1 hP) (by simpa using g2)
  · obtain⟨c',y,e,_⟩:=(lk_one hb).1 h2
    cases e
def Bd(p:List UInt8)(S:Nat→Bool):Prop:=∀i,S i=true→i≤p.length
theorem clo_bd{p:List UInt8}{S:Nat→Bool}(h:Bd p S):Bd p (clo p S):=by
 intro i hi
 cases i with
 |zero=>exact Nat.zero_le _
 |succ i=>
  rw[clo,Bool.or_eq_true,Bool.and_eq_true]at hi
  rcases hi with hi|⟨_,h2⟩
  · exact h _ hi
  · have:=(List.getElem?_eq_some_iff.1 (of_decide_eq_true h2)).1;omega
theorem nxs_bd{p:List UInt8}{S:Nat→Bool}{c:Int}(h:Bd p S):Bd p (nxs p S c):=by
 intro i hi
 unfold nxs at hi
 rw[Bool.or_eq_true,Bool.and_eq_true]at hi
 rcases hi with hi|hi
 · exact h _ hi.1
 · cases i with
   |zero=>exact Nat.zero_le _
   |succ i=>
    dsimp only at hi
    rw[Bool.and_eq_true]at hi
    have h2:=hi.2
    unfold hit at h2
    split at h2
    · rename_i b hb;have:=(List.getElem?_eq_some_iff.1 hb).1;omega
    · cases h2
theorem acc_lk{p:List UInt8}:∀{x:List UInt8} {S:Nat→Bool},Cl p S→Bd p S→(acc p S (sby x)=true↔∃j,S j=true∧lk (p.drop j) x=true)
 |[],S,hS,hB=>by
  show S p.length=true↔_
  constructor
  · intro h;exact⟨p.length,h,by rw[List.drop_length];rfl⟩
  · rintro⟨j,h1,h2⟩;exact cl_end hS _ j rfl (hB j h1) h1 h2
 |c::x,S,hS,hB=>by
  show acc p (clo p (nxs p S (c.toNat:Int))) (sby x)=true↔_
  rw[acc_lk clo_cl (clo_bd (nxs_bd hB))]
  constructor
  · rintro⟨j,h1,h2⟩
    obtain⟨i,g1,g2⟩:=clo_lk h1 h2
    exact nxs_lk g1 g2
  · rintro⟨j,h1,h2⟩
    obtain⟨i,g1,g2⟩:=lk_nxs hS _ j rfl h1 h2
    exact⟨i,clo_in g1,g2⟩
theorem nxs_congr{p:List UInt8}{S S':Nat→Bool}{c:Int}{n:Nat}(h:∀i,i≤n→S i=S' i):∀i,i≤n→nxs p S c i=nxs p S' c i:=by
 intro i hi
 unfold nxs
 cases i with
 |zero=>rw[h 0 hi]
 |succ i=>dsimp only;rw[h (i+1) hi,h i (by omega)]
theorem acc_congr{p:List UInt8}:∀{x:List Int} {S S':Nat→Bool},(∀i,i≤p.length→S i=S' i)→acc p S x=acc p S' x
 |[],S,S',h=>h _ (Nat.le_refl _)
 |c::x,S,S',h=>acc_congr (x:=x) fun i hi=>clo_congr fun j hj=>nxs_congr h j (by omega)
theorem run_acc{t:TTest}(hk:t.Kind=1):∀{x:List Int} {s:Int},(run t s x).toNat.testBit t.Text.length=acc t.Text s.toNat.testBit x
 |[],s=>rfl
 |c::x,s=>by
  show(run t (spN t s c) x).toNat.testBit t.Text.length=acc t.Text (clo t.Text (nxs t.Text s.toNat.testBit c)) x
  rw[run_acc hk (x:=x)]
  refine acc_congr fun i hi=>?_
  unfold spN
  rw[if_pos hk,Int.toNat_natCast,bits_test,decide_eq_true (by omega:i<t.Text.length+1),Bool.true_and]
  refine clo_congr fun j hj=>?_
  rw[bits_test,decide_eq_true (by omega:j<t.Text.length+1),Bool.true_and]
theorem tb1{i:Nat}:Nat.testBit 1 i=decide (i=0):=by
 cases i with
 |zero=>rfl
 |succ i=>rw[Nat.testBit_succ];simp
theorem pas_like{t:TTest}{x:List UInt8}(hk:t.Kind=1):(run t (sp0 t) (sby x)).toNat.testBit t.Text.length=lk t.Text x:=by
 rw[run_acc hk]
 have e:acc t.Text (sp0 t).toNat.testBit (sby x)=acc t.Text (clo t.Text (Nat.testBit 1)) (sby x):=by
  refine acc_congr fun i hi=>?_
  unfold sp0
  rw[if_pos hk,Int.toNat_natCast,bits_test,decide_eq_true (by omega:i<t.Text.length+1),Bool.true_and]
 rw[e]
 have h1:=acc_lk (p:=t.Text) (x:=x) (S:=clo t.Text (Nat.testBit 1)) clo_cl (clo_bd fun i hi=>by rw[tb1]at hi;have:=of_decide_eq_true hi;omega)
 have h2:(∃j,clo t.Text (Nat.testBit 1) j=true∧lk (t.Text.drop j) x=true)↔lk t.Text x=true:=by
  constructor
  · rintro⟨j,g1,g2⟩
    obtain⟨i,q1,q2⟩:=clo_lk g1 g2
    rw[tb1]at q1
    have q1:=of_decide_eq_true q1
    subst q1;exact q2
  · intro h;exact⟨0,clo_in rfl,h⟩
 rw[h2]at h1
 cases ha:acc t.Text (clo t.Text (Nat.testBit 1)) (sby x)with
 |true=>exact(h1.1 ha).symm
 |false=>cases hl:lk t.Text x with
  |false=>rfl
  |true=>rw[h1.2 hl]at ha;cases ha
def cm:List UInt8→List UInt8→Int
 |[],[]=>0
 |[],_::_=>-1
 |_::_,[]=>1
 |c::x,b::q=>if c.toNat<b.toNat then-1 else if b.toNat<c.toNat then 1 else cm x q
theorem cm_zero:∀{x q:List UInt8},cm x q=0↔x=q
 |[],[]=>by simp[cm]
 |[],_::_=>by simp[cm]
 |_::_,[]=>by simp[cm]
 |c::x,b::q=>by
  rw[cm]
  by_cases h1:c.toNat<b.toNat
  · rw[if_pos h1]
    constructor
    · intro h;cases h
    · rintro h;cases h;omega
  · rw[if_neg h1]
    by_cases h2:b.toNat<c.toNat
    · rw[if_pos h2]
      constructor
      · intro h;cases h
      · rintro h;cases h;omega
    · rw[if_neg h2,cm_zero (x:=x) (q:=q)]
      have:c=b:=UInt8.toNat_inj.1 (by omega)
      subst this
      constructor
      · rintro rfl;rfl
      · intro h;cases h;rfl
def cst(n:Nat)(s v:Int):Prop:=(v=1∧s=101)∨(v=-1∧(s=100∨(0≤s∧s<n)))∨(v=0∧s=n)
theorem cmp_stay{p:List UInt8}:∀{x:List Int} {s:Int},100≤s→x.foldl (cmpN p) s=s
 |[],_,_=>rfl
 |c::x,s,h=>by
  show x.foldl (cmpN p) (cmpN p s c)=s
  have:cmpN p s c=s:=by unfold cmpN;rw[if_pos h]
  rw[this];exact cmp_stay h
theorem cmp_run{p:List UInt8}(hp:p.length≤16):∀{x:List UInt8} {k:Nat},k≤p.length→cst p.length ((sby x).foldl (cmpN p) (k:Int)) (cm x (p.drop k))
 |[],k,hk=>by
  show cst _ (k:Int) _
  rcases Nat.lt_or_ge k p.length with h|h
  · rw[List.drop_eq_getElem_cons h]
    exact .inr (.inl ⟨rfl,.inr ⟨by omega,by omega⟩⟩)
  · rw[List.drop_eq_nil_of_le h]
    exact .inr (.inr ⟨rfl,by omega⟩)
 |c::x,k,hk=>by
  show cst _ ((sby x).foldl (cmpN p) (cmpN p (k:Int) (c.toNat:Int))) _
  have e0:¬(k:Int)≥100:=by omega
  rcases Nat.lt_or_ge k p.length with h|h
  · rw[List.drop_eq_getElem_cons h,cm]
    have eg:p.getD (k:Int).toNat 0=p[k]:=by rw[Int.toNat_natCast];exact getD_n h
    by_cases h1:c.toNat<p[k].toNat
    · have e:cmpN p (k:Int) (c.toNat:Int)=100:=by unfold cmpN;rw[if_neg e0,eg,if_neg (by omega),if_pos (by omega)]
      rw[if_pos h1,e,cmp_stay (by omega)]
      exact .inr (.inl ⟨rfl,.inl rfl⟩)
    · rw[if_neg h1]
      by_cases h2:p[k].toNat<c.toNat
      · have e:cmpN p (k:Int) (c.toNat:Int)=101:=by unfold cmpN;rw[if_neg e0,eg,if_pos (by omega)]
        rw[if_pos h2,e,cmp_stay (by omega)]
        exact .inl ⟨rfl,rfl⟩
      · have e:cmpN p (k:Int) (c.toNat:Int)=((k+1:Nat):Int):=by unfold cmpN;rw[if_neg e0,eg,if_neg (by omega),if_neg (by omega)];rfl
        rw[if_neg h2,e]
        exact cmp_run hp (x:=x) (k:=k+1) (by omega)
  · have e:cmpN p (k:Int) (c.toNat:Int)=101:=by unfold cmpN;rw[if_neg e0,if_pos (.inl (by omega))]
    rw[List.drop_eq_nil_of_le h,cm,e,cmp_stay (by omega)]
    exact .inl ⟨rfl,rfl⟩
def mean(t:TTest)(x:List UInt8):Bool:=
 !((if t.Kind=1 then lk t.Text x else if t.Kind=0 then decide (x=t.Text)else if t.Kind=2 then decide (cm x t.Text<0)else decide (cm x t.Text≤0))==t.Negated)
theorem run_cmp{t:TTest}(hk:t.Kind≠1):∀{x:List Int} {s:Int},run t s x=x.foldl (cmpN t.Text) s
 |[],s=>rfl
 |c::x,s=>by
  show run t (spN t s c) x=x.foldl _ (cmpN t.Text s c)
  rw[run_cmp hk]
  unfold spN;rw[if_neg hk]
theorem pas_mean{t:TTest}{x:List UInt8}(h:okT t=true):pas t x=mean t x:=by
 unfold pas mean spF
 have h16:=(okT_len h).2.2
 by_cases hk:t.Kind=1
 · simp only[if_pos hk]
   rw[pas_like hk]
 · simp only[if_neg hk]
   have e:run t (sp0 t) (sby x)=(sby x).foldl (cmpN t.Text) ((0:Nat):Int):=by
    rw[run_cmp hk];unfold sp0;rw[if_neg hk];rfl
   have hc:=cmp_run h16 (x:=x) (k:=0) (Nat.zero_le _)
   rw[←e,List.drop_zero]at hc
   have hz:=cm_zero (x:=x) (q:=t.Text)
   generalize run t (sp0 t) (sby x)=s at hc⊢
   have e1:decide (s=(t.Text.length:Int))=decide (x=t.Text):=decide_eq_decide.2 (by
    rw[←hz]
    rcases hc with⟨a,b⟩|⟨a,b⟩|⟨a,b⟩
    · rw[a,b];constructor<;>intro h<;>omega
    · rw[a];constructor<;>intro h<;>omega
    · rw[a,b];simp)
   have e2:decide (s=100∨s<(t.Text.length:Int))=decide (cm x t.Text<0):=decide_eq_decide.2 (by
    rcases hc with⟨a,b⟩|⟨a,b⟩|⟨a,b⟩<;>rw[a]<;>omega)
   have e3:decide (s=100∨s≤(t.Text.length:Int))=decide (cm x t.Text≤0):=decide_eq_decide.2 (by
    rcases hc with⟨a,b⟩|⟨a,b⟩|⟨a,b⟩<;>rw[a]<;>omega)
   rw[e1,e2,e3]
open Go Go.X
theorem cutFrom{α:Type}{xs:List α}{k:Nat}(h:k≤xs.length):cut xs (k:Int) (xs.length:Int)=some (xs.drop k):=by
 rw[cut_i rfl rfl h (Nat.le_refl _),List.take_length]
theorem cutTail{α:Type}{x:α}{xs:List α}:cut (x::xs) 1 ((x::xs).length:Int)=some xs:=by
 have:=cutFrom (xs:=x::xs) (k:=1) (by simp)
 simpa using this
theorem u16Like_tm:∀{p s:List UInt8},s.length≤1000→Tm (fun N=>u16Like N s p) (·=lk p s)
 |[],s,hs=>by
  refine Tm.succ ?_
  show Tm (fun N=>u16Like_step N (u16Like N) s []) _
  unfold u16Like_step
  refine Tm.pos rfl (Tm.some ?_)
  show decide (s=[])=s.isEmpty
  cases s<;>rfl
 |b::q,s,hs=>by
  refine Tm.succ ?_
  show Tm (fun N=>u16Like_step N (u16Like N) s (b::q)) _
  unfold u16Like_step
  refine Tm.neg (by simp) (Tm.step (a:=b) rfl ?_)
  by_cases hb:b=37
  · refine Tm.pos (u8_37.2 hb) ?_
    subst hb
    refine Tm.bind (Q:=fun o=>match o with|.inl _=>lk (37::q) s=false|.inr z=>z=true∧lk (37::q) s=true) ?_ fun o ho=>?_
    · refine Tm.up (s.length+1) (fun k i=>i=(k:Int)∧∀j,j<k→lk q (s.drop j)=false) ⟨rfl,fun j hj=>by omega⟩ ?_
      rintro k hk i ⟨rfl,hJ⟩
      unfold u16Like_b1
      by_cases hlt:k≤s.length
      · refine Tm.pos (by omega) (Tm.step (cutFrom hlt) (Tm.step cutTail ((u16Like_tm (p:=q) (s:=s.drop k) (by simp;omega)).eq ?_)))
        cases e:lk q (s.drop k)with
        |true=>exact Tm.pos rfl (Tm.some ⟨rfl,lk_star.2 ⟨k,hlt,e⟩⟩)
        |false=>
         refine Tm.neg (by simp) (Tm.some ⟨by omega,iw_n (by omega),fun j hj=>?_⟩)
         by_cases ej:j=k
         · subst ej;exact e
         · exact hJ j (by omega)
      · refine Tm.neg (by omega) (Tm.some ?_)
        show lk (37::q) s=false
        cases e:lk (37::q) s with
        |false=>rfl
        |true=>
         obtain⟨i,h1,h2⟩:=lk_star.1 e
         rw[hJ i (by omega)]at h2;cases h2
    · cases o with
      |inl _=>exact Tm.some (by rw[show lk (37::q) s=false from ho])
      |inr z=>obtain⟨h1,h2⟩:=ho;exact Tm.some (by rw[h1,h2])
  · refine Tm.neg (fun h=>hb (u8_37.1 h)) ?_
    cases s with
    |nil=>
     refine Tm.neg (by simp) (Tm.some ?_)
     show false=if b=37 then _ else false
     rw[if_neg hb]
    |cons c y=>
     have e:lk (b::q) (c::y)=((decide (b=95)||decide (b=c))&&lk q y):=by
      show(if b=37 then _ else(decide (b=95)||decide (b=c))&&lk q y)=_
      rw[if_neg hb]
     rw[e]
     have ih:=u16Like_tm (p:=q) (s:=y) (by simp at hs;omega)
     refine Tm.pos (by simp) (Tm.step (a:=b) rfl ?_)
     by_cases h1:b=95
     · refine Tm.pos (u8_95.2 h1) (Tm.step cutTail (Tm.step cutTail (ih.eq (Tm.some ?_))))
       rw[decide_eq_true h1];simp
     · refine Tm.neg (fun h=>h1 (u8_95.1 h)) (Tm.step (a:=b) rfl (Tm.step (a:=c) rfl ?_))
       by_cases h2:b=c
       · refine Tm.pos (by rw[h2]) (Tm.step cutTail (Tm.step cutTail (ih.eq (Tm.some ?_))))
         rw[decide_eq_true h2];simp
       · refine Tm.neg (fun h=>h2 (UInt8.toNat_inj.1 (by omega))) (Tm.some ?_)
         rw[decide_eq_false h1,decide_eq_false h2];rfl
def cmi(a b:Int):Int:=if a<b then-1 else if a>b then 1 else 0
theorem u4ints_tm{a b:Int}:Tm (fun N=>u4ints N a b) (·=cmi a b):=by
 unfold u4ints cmi
 by_cases h1:a<b
 · simp only[h1,if_true];exact Tm.some rfl
 · by_cases h2:a>b
   · simp only[h1,h2,if_true,if_false];exact Tm.some rfl
   · simp only[h1,h2,if_false];exact Tm.some rfl
theorem iw_u8{b:UInt8}:iw ((b.toNat:Nat):Int)=((b.toNat:Nat):Int):=by
 have:=b.toNat_lt
 rw[iw_eq]<;>omega
theorem u4Texts_tm{a b:List UInt8}(ha:a.length≤Bg)(hb:b.length≤Bg):Tm (fun N=>u4Texts N a b) (·=cm a b):=by
 have hg:Bg=9223372036854775807:=rfl
 unfold u4Texts
 refine Tm.bind (Q:=fun o=>match o with|.inl _=>cm a b=cmi a.length b.length|.inr z=>z=cm a b) ?_ fun o ho=>?_
 · refine Tm.up (min a.length b.length) (fun k i=>i=(k:Int)∧cm a b=cm (a.drop k) (b.drop k)) ⟨rfl,by simp⟩ ?_
   rintro k hk i ⟨rfl,hJ⟩
   unfold u4Texts_b1
   by_cases hlt:k<a.length∧k<b.length
   · obtain⟨h1,h2⟩:=hlt
     refine Tm.eq (a:=true) (Tm.pos (by omega) (Tm.some (decide_eq_true (by omega)))) (Tm.pos rfl (Tm.step (idx_n h1) (Tm.step (idx_n h2) ?_)))
     rw[List.drop_eq_getElem_cons h1,List.drop_eq_getElem_cons h2,cm]at hJ
     by_cases h3:(a[k].toNat:Int)≠(b[k].toNat:Int)
     · refine Tm.pos h3 (Tm.step (idx_n h1) (Tm.step (idx_n h2) (u4ints_tm.eq (Tm.some ?_))))
       show cmi _ _=cm a b
       rw[iw_u8,iw_u8,hJ]
       unfold cmi
       by_cases h4:a[k].toNat<b[k].toNat
       · rw[if_pos (by omega),if_pos h4]
       · rw[if_neg (by omega),if_pos (by omega),if_neg h4,if_pos (by omega)]
     · refine Tm.neg h3 (Tm.some ⟨by omega,iw_n (by omega),?_⟩)
       rw[hJ,if_neg (by omega),if_neg (by omega)]
   · refine Tm.eq (a:=false) ?_ (Tm.neg (by simp) (Tm.some ?_))
     · by_cases h1:k<a.length
       · exact Tm.pos (by omega) (Tm.some (decide_eq_false (by omega)))
       · exact Tm.neg (by omega) (Tm.some rfl)
     · show cm a b=_
       rw[hJ]
       unfold cmi
       rcases Nat.lt_or_ge k a.length with h1|h1
       · have h2:k=b.length:=by omega
         subst h2
         rw[List.drop_length,List.drop_eq_getElem_cons h1,cm,if_neg (by omega),if_pos (by omega)]
       · have h3:k=a.length:=by omega
         subst h3
         rw[List.drop_length]
         rcases Nat.lt_or_ge a.length b.length with h2|h2
         · rw[List.drop_eq_getElem_cons h2,cm,if_pos (by omega)]
         · rw[List.drop_eq_nil_of_le h2,cm,if_neg (by omega),if_neg (by omega)]
 · cases o with
   |inl _=>exact u4ints_tm.eq (Tm.some ho.symm)
   |inr z=>exact Tm.some ho
theorem u16Passes_tm{t:TTest}{x:List UInt8}(h:okT t=true)(hx:x.length≤1000):Tm (fun N=>u16Passes N t x) (·=mean t x):=by
 have hg:Bg=9223372036854775807:=rfl
 obtain⟨k0,k3,h16⟩:=okT_len h
 unfold u16Passes mean
 refine Tm.eq (a:=if t.Kind=1 then lk t.Text x else if t.Kind=0 then decide (x=t.Text)else if t.Kind=2 then decide (cm x t.Text<0)else decide (cm x t.Text≤0)) ?_ (Tm.some rfl)
 by_cases g0:t.Kind=0
 · rw[if_neg (by omega),if_pos g0]
   exact Tm.pos g0 (Tm.some rfl)
 · refine Tm.neg g0 ?_
   by_cases g1:t.Kind=1
   · rw[if_pos g1]
     exact Tm.pos g1 ((u16Like_tm hx).eq (Tm.some rfl))
   · rw[if_neg g1,if_neg g0]
     refine Tm.neg g1 ?_
     by_cases g2:t.Kind=2
     · rw[if_pos g2]
       exact Tm.pos g2 ((u4Texts_tm (by omega) (by omega)).eq (Tm.some rfl))
     · rw[if_neg g2]
       exact Tm.neg g2 (Tm.pos (by omega) ((u4Texts_tm (by omega) (by omega)).eq (Tm.some rfl)))
theorem u4Printable_tm{s:List UInt8}(hl:s.length≤Bg):Tm (fun N=>u4Printable N s) (·=s.all prn):=by
 have hb:Bg=9223372036854775807:=rfl
 unfold u4Printable
 refine(Tm.allL (b:=fun N=>u4Printable_b1 N s) s prn (by omega) (fun k hk=>?_) ?_).eq ?_
 · unfold u4Printable_b1
   refine Tm.pos (by omega) ?_
   simp only[idx_n hk,Option.bind_some,or_if,prn_bad]
   cases prn s[k]<;>exact Tm.some rfl
 · unfold u4Printable_b1
   exact Tm.neg (by omega) (Tm.some rfl)
 · cases h:s.all prn<;>exact Tm.some rfl
def vOk(v:RVal)(x:RVar):Prop:=
 (v.Kind=0∧v.Int=0∧v.Text=[]∧x.Nullable=true)∨(v.Kind=1∧v.Text=[]∧x.Ty=1∧x.Low≤v.Int∧v.Int≤x.High)∨(v.Kind=2∧v.Int=0∧x.Ty=2∧v.Text.all prn=true∧v.Text.length≤16∧(v.Text.length:Int)≤x.Max)
theorem u4Fits_tm{v:RVal}{x:RVar}(hl:v.Text.length≤Bg):Tm (fun N=>u4Fits N v x) (fun r=>r=true→vOk v x):=by
 unfold u4Fits
 refine Tm.bind (Q:=fun r=>r=true→(v.Kind=0∧v.Int=0∧v.Text=[])∨(v.Kind=1∧v.Text=[])∨(v.Kind=2∧v.Int=0∧v.Text.all prn=true∧v.Text.length≤16)) ?_ fun r hr=>?_
 · unfold u4Valid
   by_cases h0:v.Kind=0
   · refine Tm.pos h0 ?_
     by_cases h1:v.Int=0
     · exact Tm.pos h1 (Tm.some fun h=>.inl ⟨h0,h1,of_decide_eq_true h⟩)
     · exact Tm.neg h1 (Tm.some fun h=>by cases h)
   · refine Tm.neg h0 ?_
     by_cases h1:v.Kind=1
     · exact Tm.pos h1 (Tm.some fun h=>.inr (.inl ⟨h1,of_decide_eq_true h⟩))
     · refine Tm.neg h1 ?_
       by_cases h2:v.Kind=2
       · refine Tm.pos h2 ?_
         by_cases h3:v.Int=0
         · refine Tm.pos h3 ((u4Printable_tm hl).eq ?_)
           cases e:v.Text.all prn with
           |true=>exact Tm.pos rfl (Tm.some fun h=>.inr (.inr ⟨h2,h3,rfl,by have:=of_decide_eq_true h;omega⟩))
           |false=>exact Tm.neg (by simp) (Tm.some fun h=>by cases h)
         · exact Tm.neg h3 (Tm.some fun h=>by cases h)
       · exact Tm.neg h2 (Tm.some fun h=>by cases h)
 · cases r with
   |false=>exact Tm.pos rfl (Tm.some fun h=>by cases h)
   |true=>
    refine Tm.neg (by simp) ?_
    rcases hr rfl with⟨g0,g1,g2⟩|⟨g0,g1⟩|⟨g0,g1,g2,g3⟩
    · exact Tm.pos g0 (Tm.some fun h=>.inl ⟨g0,g1,g2,h⟩)
    · refine Tm.neg (by omega) (Tm.pos g0 ?_)
      by_cases h1:x.Ty=1
      · refine Tm.pos h1 ?_
        by_cases h2:v.Int≥x.Low
        · exact Tm.pos h2 (Tm.some fun h=>.inr (.inl ⟨g0,g1,h1,h2,of_decide_eq_true h⟩))
        · exact Tm.neg h2 (Tm.some fun h=>by cases h)
      · exact Tm.neg h1 (Tm.some fun h=>by cases h)
    · refine Tm.neg (by omega) (Tm.neg (by omega) ?_)
      by_cases h1:x.Ty=2
      · exact Tm.pos h1 (Tm.some fun h=>.inr (.inr ⟨g0,g1,h1,g2,g3,of_decide_eq_true h⟩))
      · exact Tm.neg h1 (Tm.some fun h=>by cases h)
structure RowOk (R:List RVal)(l:List RVar):Prop where
 len:R.length=l.length
 at':∀i (h:i<R.length) (h':i<l.length),vOk R[i] l[i]
theorem u16Inside_tm{R:List RVal}{l:List RVar}(hR:R.length≤Bg)(hT:∀v∈R,v.Text.length≤Bg):Tm (fun N=>u16Inside N R l) (fun r=>r=true→RowOk R l):=by
 have hb:Bg=9223372036854775807:=rfl
 unfold u16Inside
 by_cases h0:R.length=l.length
 · refine Tm.neg (by simp[h0]) ?_
   refine Tm.bind (Q:=fun o=>match o with|.inl _=>∀i (h:i<R.length) (h':i<l.length),vOk R[i] l[i]|.inr z=>z=false) ?_ fun o ho=>?_
   · refine Tm.up R.length (fun k s=>s=(k:Int)∧∀j (hj:j<R.length) (hj':j<l.length),j<k→vOk R[j] l[j]) ⟨rfl,fun j _ _ hj=>by omega⟩ ?_
     rintro k hk i ⟨rfl,hJ⟩
     unfold u16Inside_b1
     rcases Nat.lt_or_ge k R.length with hlt|hge
     · have hlt':k<l.length:=by omega
       refine Tm.pos (by omega) (Tm.step (idx_n hlt) (Tm.step (idx_n hlt') ((u4Fits_tm (hT _ (List.getElem_mem hlt))).bind fun r hr=>?_)))
       cases r with
       |false=>exact Tm.pos rfl (Tm.some rfl)
       |true=>
        refine Tm.neg (by simp) (Tm.some ⟨hlt,iw_n (by omega),fun j hj hj' hjk=>?_⟩)
        by_cases ejk:j=k
        · subst ejk;exact hr rfl
        · exact hJ j hj hj' (by omega)
     · exact Tm.neg (by omega) (Tm.some fun i h h'=>hJ i h h' (by omega))
   · cases o with
     |inl _=>exact Tm.some fun _=>⟨h0,ho⟩
     |inr z=>
      have ho:z=false:=ho
      subst ho
      exact Tm.some fun h=>by cases h
 · exact Tm.pos (by omega) (Tm.some fun h=>by cases h)
open Go Go.X
abbrev W32:Int:=4294967296
theorem w32_pos:(1:Int)<W32:=by decide
theorem cloneU32_tm{s:List Int}(hl:s.length≤35184372088832):Tm (fun N=>cloneU32 N s) (fun r=>r=s):=by
 unfold cloneU32
 exact Tm.step (apnd_ok (by simp only[List.length_nil];omega) (by decide)) (Tm.pure rfl)
theorem btrim_tm{d:List Int}(hd:InB W32 d)(hl:d.length≤35184372088832):Tm (fun N=>btrim N d) (fun r=>Dg W32 r (val W32 d)∧r.length≤d.length):=by
 unfold btrim
 refine Tm.bind (Q:=fun n:Int=>∃k:Nat,n=k∧k≤d.length∧(∀j,(hj:j<d.length)→k≤j→d[j]=0)∧(k=0∨∃hk:k-1<d.length,d[k-1]≠0))
  (Tm.loop (fun n:Int=>∃k:Nat,n=k∧k≤d.length∧∀j,(hj:j<d.length)→k≤j→d[j]=0) (fun n=>n.toNat) ⟨d.length,rfl,Nat.le_refl _,fun j h1 h2=>absurd h1 (by omega)⟩ ?_) ?_
 · rintro _ ⟨k,rfl,hk,h0⟩
   dsimp only[btrim_b1]
   rcases Nat.eq_zero_or_pos k with rfl|hk0
   · refine Tm.bind (Q:=(·=false)) (Tm.neg (by omega) (Tm.pure rfl)) ?_
     rintro _ rfl
     exact Tm.neg (by simp) (Tm.pure ⟨0,rfl,hk,h0,.inl rfl⟩)
   · refine Tm.bind (Q:=(·=decide (d[k-1]=0))) (Tm.pos (by omega) (Tm.step (idx_i (n:=k-1) (by rw[iw_eq]<;>omega) (by omega)) (Tm.pure rfl))) ?_
     rintro _ rfl
     by_cases h:d[k-1]=0
     · refine Tm.pos (by simpa using h) (Tm.pure ⟨⟨k-1,by rw[iw_eq]<;>omega,by omega,fun j h1 h2=>?_⟩,?_⟩)
       · rcases Nat.eq_or_lt_of_le h2 with rfl|h3
         · exact h
         · exact h0 j h1 (by omega)
       · show(iw ((k:Int)-1)).toNat<((k:Int)).toNat
         rw[iw_eq]<;>omega
     · exact Tm.neg (by simpa using h) (Tm.pure ⟨k,rfl,hk,h0,.inr ⟨by omega,h⟩⟩)
 · rintro _ ⟨k,rfl,hk,h0,h1⟩
   refine Tm.step (cut_i (m:=0) (n:=k) rfl rfl (by omega) hk) ?_
   refine Tm.bind (cloneU32_tm (by simp;omega)) ?_
   rintro _ rfl
   refine Tm.pure ⟨by simpa using dg_cut hk hd h0 h1,by simp;omega⟩
def bv(x:Big):Int:=if x.Negative=true then-val W32 x.Digits else val W32 x.Digits
structure Is (x:Big)(v:Int):Prop where
 dg:Dg W32 x.Digits v.natAbs
 neg:x.Negative=decide (v<0)
theorem Is.bv{x:Big}{v:Int}(h:Is x v):bv x=v:=by
 unfold D.bv;rw[h.neg,h.dg.val]
 by_cases hv:v<0
 · simp[hv];omega
 · simp[hv];omega
theorem Is.uniq{x y:Big}{v:Int}(h:Is x v)(h':Is y v):x=y:=by
 have h1:=h.dg.uniq w32_pos h'.dg
 have h2:=h.neg.trans h'.neg.symm
 cases x;cases y;simp_all
theorem bnormal_tm{neg:Bool}{d:List Int}(hd:InB W32 d)(hl:d.length≤35184372088832):Tm (fun N=>bnormal N neg d) (fun r=>Is r (if neg=true then-val W32 d else val W32 d)∧r.Digits.length≤d.length):=by
 unfold bnormal
 refine Tm.bind (btrim_tm hd hl) ?_
 rintro r ⟨hr,hl'⟩
 have h0:=hr.nonneg (by decide)
 refine Tm.ite (fun h=>Tm.pure ?_) (fun h=>Tm.pure ?_)
 · have he:r=[]:=List.length_eq_zero_iff.1 (by omega)
   have hv:=(hr.zero (by decide)).1 he
   refine⟨⟨?_,?_⟩,by simp⟩
   · simp only[hv];simp;exact Dg.nil
   · simp[hv]
 · have he:r≠[]:=fun e=>h (by simp[e])
   have hv:val W32 d≠0:=fun e=>he ((hr.zero (by decide)).2 e)
   refine⟨⟨?_,?_⟩,hl'⟩
   · cases neg<;>simp<;>rw[show((val W32 d).natAbs:Int)=val W32 d by omega]<;>exact hr
   · cases neg<;>simp<;>omega
theorem bNormal_tm{x:Big}(hd:InB W32 x.Digits)(hl:x.Digits.length≤35184372088832):Tm (fun N=>bNormal N x) (fun r=>Is r (bv x)∧r.Digits.length≤x.Digits.length):=by
 unfold bNormal
 exact Tm.bind (bnormal_tm hd hl) (fun r h=>Tm.pure h)
theorem bNeg_tm{x:Big}(hd:InB W32 x.Digits)(hl:x.Digits.length≤35184372088832):Tm (fun N=>bNeg N x) (fun r=>Is r (-bv x)∧r.Digits.length≤x.Digits.length):=by
 unfold bNeg
 refine Tm.bind (bnormal_tm hd hl) (fun r h=>Tm.pure ?_)
 refine⟨?_,h.2⟩
 have:=h.1
 unfold bv
 cases hx:x.Negative<;>rw[hx]at this<;>simpa using this
theorem bSign_tm{x:Big}(hd:InB W32 x.Digits)(hl:x.Digits.length≤35184372088832):Tm (fun N=>bSign N x) (fun r=>r=sgn (bv x) 0):=by
 unfold bSign
 refine Tm.bind (bNormal_tm hd hl) ?_
 rintro r ⟨hr,-⟩
 have hz:=hr.dg.zero (by decide)
 refine Tm.ite (fun h=>Tm.pure ?_) (fun h=>?_)
 · have:=hz.1 (List.length_eq_zero_iff.1 (by omega))
   unfold sgn;rw[if_neg (by omega),if_neg (by omega)]
 · have:bv x≠0:=fun e=>h (by rw[hz.2 (by omega)];rfl)
   refine Tm.ite (fun h'=>Tm.pure ?_) (fun h'=>Tm.pure ?_)
   · have:=hr.neg.symm.trans h'
     simp at this
     unfold sgn;rw[if_pos (by omega)]
   · have:¬bv x<0:=fun e=>h' (by rw[hr.neg];simpa using e)
     unfold sgn;rw[if_neg (by omega),if_pos (by omega)]
theorem bOf_tm{n:Int}(h1:-9223372036854775808≤n)(h2:n≤9223372036854775807):Tm (fun N=>bOf N n) (fun r=>Is r n∧r.Digits.length≤2):=by
 unfold bOf
 refine Tm.bind (Q:=(·=(n.natAbs:Int))) (Tm.ite (fun h=>Tm.pure ?_) (fun h=>Tm.pure ?_)) ?_
 · rw[uw_mod,uw_mod];omega
 · rw[uw_mod];omega
 rintro _ rfl
 have hs:bshr .u64 (n.natAbs:Int) 32=(n.natAbs:Int)/4294967296:=by
  unfold bshr;rw[show((2:Int)^(min (32:Int).toNat IntKind.u64.bits))=4294967296 from rfl,Int.fdiv_eq_ediv_of_nonneg _ (by decide)]
 refine Tm.bind (bnormal_tm (d:=[uw32 (n.natAbs:Int),uw32 (bshr .u64 (n.natAbs:Int) 32)]) ?_ (by simp)) (fun r h=>Tm.pure ?_)
 · rw[hs,uw32_mod,uw32_mod]
   exact InB.cons (B:=4294967296) (by omega) (InB.cons (by omega) InB.nil)
 · refine⟨?_,h.2⟩
   have hv:val W32 [uw32 (n.natAbs:Int),uw32 (bshr .u64 (n.natAbs:Int) 32)]=n.natAbs:=by
    rw[hs,uw32_mod,uw32_mod];simp only[val,W32];omega
   have h:=h.1
   rw[hv]at h
   by_cases hn:n<0
   · simp only[hn,decide_true,if_true]at h
     rwa[show-(n.natAbs:Int)=n by omega]at h
   · simp only[hn,decide_false,Bool.false_eq_true,if_false]at h
     rwa[show(n.natAbs:Int)=n by omega]at h
theorem clamp_sgn{n:Int}:imin (imax n (-1)) 1=sgn n 0:=by
 unfold imin imax sgn
 by_cases h:-1>n<;>simp only[h,if_true,if_false]<;>(repeat' split)<;>omega
theorem bcompare_tm{a b:List Int}(ha:InB W32 a)(hb:InB W32 b)(na:Nrm a)(nb:Nrm b)(hl:a.length≤35184372088832)(hl':b.length≤35184372088832):Tm (fun N=>bcompare N a b) (fun r=>r=sgn (val W32 a) (val W32 b)):=by
 unfold bcompare
 refine Tm.ite (fun h=>?_) (fun h=>?_)
 · unfold bsign
   refine Tm.step rfl (Tm.pure ?_)
   rw[iw_eq (by omega) (by omega),clamp_sgn]
   unfold sgn
   rcases Nat.lt_or_ge a.length b.length with h'|h'
   · have:=len_cmp w32_pos ha hb nb h'
     rw[if_pos this];(repeat' split)<;>omega
   · have:=len_cmp w32_pos hb ha na (by omega)
     rw[if_neg (by omega),if_pos this];(repeat' split)<;>omega
 · have hle:a.length=b.length:=by omega
   refine Tm.bind (Q:=fun r:Sum Unit Int=>(match r with|.inl _=>0|.inr z=>z)=sgn (val W32 a) (val W32 b))
    (Tm.loop (fun i:Int=>∃n:Nat,i=(n:Int)-1∧n≤a.length∧a.drop n=b.drop n) (fun i=>(i+1).toNat) ⟨a.length,by rw[iw_eq]<;>omega,Nat.le_refl _,by rw[List.drop_of_length_le (Nat.le_refl _),List.drop_of_length_le (by omega)]⟩ ?_) ?_
   · rintro _ ⟨n,rfl,hn,hd⟩
     dsimp only[bcompare_b1]
     refine Tm.ite (fun h1=>?_) (fun h1=>?_)
     · have hna:n-1<a.length:=by omega
       have hnb:n-1<b.length:=by omega
       refine Tm.step (idx_i (n:=n-1) (by omega) hna) (Tm.step (idx_i (n:=n-1) (by omega) hnb) (Tm.ite (fun h2=>?_) (fun h2=>?_)))
       · have:=val_cmp w32_pos ha hb hle hna (by rw[show n-1+1=n by omega];exact hd) h2
         refine Tm.pure ?_
         show(-1:Int)=_
         unfold sgn;rw[if_pos this]
       · refine Tm.step (idx_i (n:=n-1) (by omega) hna) (Tm.step (idx_i (n:=n-1) (by omega) hnb) (Tm.ite (fun h3=>?_) (fun h3=>?_)))
         · have:=val_cmp w32_pos hb ha hle.symm hnb (by rw[show n-1+1=n by omega];exact hd.symm) h3
           refine Tm.pure ?_
           show(1:Int)=_
           unfold sgn;rw[if_neg (by omega),if_pos this]
         · refine Tm.pure ⟨⟨n-1,by rw[iw_eq]<;>omega,by omega,?_⟩,?_⟩
           · rw[List.drop_eq_getElem_cons hna,List.drop_eq_getElem_cons hnb,show n-1+1=n by omega,hd,show a[n-1]=b[n-1] by omega]
           · show(iw ((n:Int)-1-1)+1).toNat<((n:Int)-1+1).toNat
             rw[iw_eq]<;>omega
     · have:n=0:=by omega
       subst this
       refine Tm.pure ?_
       show(0:Int)=_
       have:a=b:=by simpa using hd
       rw[this];unfold sgn;rw[if_neg (by omega),if_neg (by omega)]
   · rintro(_|z) h<;>exact Tm.pure h
theorem digit_tm{d:List Int}(hd:InB W32 d){i:Nat}:Tm (fun N=>digit N d (i:Int)) (fun r=>r=d.getD i 0):=by
 unfold digit
 have h0:=hd.getD (by decide) i
 refine Tm.ite (fun h=>?_) (fun h=>Tm.pure ?_)
 · refine Tm.step (idx_ok (by omega)) (Tm.pure ?_)
   rw[List.getD_eq_getElem?_getD,List.getElem?_eq_getElem (by omega)]at*
   simp only[Option.getD_some,W32]at*
   rw[uw_mod];omega
 · rw[List.getD_eq_getElem?_getD,List.getElem?_eq_none (by omega)];rfl
theorem bshr32{x:Int}:bshr .u64 x 32=x/4294967296:=by
 unfold bshr;rw[show((2:Int)^(min (32:Int).toNat IntKind.u64.bits))=4294967296 from rfl,Int.fdiv_eq_ediv_of_nonneg _ (by decide)]
theorem bshr63{x:Int}:bshr .u64 x 63=x/9223372036854775808:=by
 unfold bshr;rw[show((2:Int)^(min (63:Int).toNat IntKind.u64.bits))=9223372036854775808 from rfl,Int.fdiv_eq_ediv_of_nonneg _ (by decide)]
theorem take_set{l:List Int}{n:Nat}{y:Int}(h:n<l.length):val W32 ((l.set n y).take (n+1))=val W32 (l.take n)+W32^n*y:=by
 rw[val_take,List.take_set_of_le (Nat.le_refl n),List.getD_eq_getElem?_getD,List.getElem?_set_self h];rfl
theorem bplus_tm{a b:List Int}(ha:InB W32 a)(hb:InB W32 b)(hl:a.length≤17592186044416)(hl':b.length≤17592186044416):Tm (fun N=>bplus N a b) (fun r=>InB W32 r∧val W32 r=val W32 a+val W32 b∧r.length=max a.length b.length+1):=by
 unfold bplus
 have hi:iw (imax (a.length:Int) (b.length:Int)+1)=((max a.length b.length+1:Nat):Int):=by
  unfold imax;split<;>rw[iw_eq]<;>omega
 refine Tm.step (mk1_ok hi (by omega) (by decide)) ?_
 generalize hL:max a.length b.length+1=L
 refine Tm.bind (Q:=fun r=>InB W32 r∧val W32 r=val W32 a+val W32 b∧r.length=L)
  (Tm.loop (fun s:List Int×Int×Int=>∃n:Nat,s.2.2=n∧n≤L∧s.1.length=L∧InB W32 s.1∧0≤s.2.1∧s.2.1≤1∧val W32 (s.1.take n)+W32^n*s.2.1=val W32 (a.take n)+val W32 (b.take n)) (fun s=>L-s.2.2.toNat)
   ⟨0,rfl,Nat.zero_le _,by simp,InB.rep (by decide),by simp,by simp,by simp[val]⟩ ?_) (fun r h=>Tm.pure h)
 rintro⟨out,carry,i⟩ ⟨n,rfl,hn,ho,hB,h0,h1,hv⟩
 dsimp only[bplus_b1]at*
 simp only[List.length_replicate]
 refine Tm.ite (fun h=>?_) (fun h=>Tm.pure ?_)
 · refine Tm.bind (digit_tm ha) ?_
   rintro x rfl
   refine Tm.bind (digit_tm hb) ?_
   rintro y rfl
   refine Tm.step (idx_ok (by omega)) ?_
   refine Tm.step (upd1_i rfl (by omega)) (Tm.pure ?_)
   have hx:=ha.getD (by decide) n
   have hy:=hb.getD (by decide) n
   generalize ex:a.getD n 0=x at*
   generalize ey:b.getD n 0=y at*
   have e1:uw (carry+uw (x+y))=carry+x+y:=by
    simp only[W32]at*;rw[uw_mod,uw_mod];omega
   rw[e1,bshr32,uw32_mod]
   refine⟨⟨n+1,?_,by omega,by simp;omega,hB.set (by simp only[W32];omega),?_,?_,?_⟩,?_⟩
   · show iw ((n:Int)+1)=_
     rw[iw_eq]<;>omega
   · show 0≤(carry+x+y)/4294967296
     omega
   · show(carry+x+y)/4294967296≤1
     simp only[W32]at*;omega
   · show val W32 ((out.set n ((carry+x+y)%4294967296)).take (n+1))+W32^(n+1)*((carry+x+y)/4294967296)=_
     rw[take_set (by omega),val_take,val_take,ex,ey,Int.pow_succ]
     have:=Int.emod_add_mul_ediv (carry+x+y) 4294967296
     have hw:W32=4294967296:=rfl
     grind
   · show L-(iw ((n:Int)+1)).toNat<L-((n:Int)).toNat
     rw[iw_eq]<;>omega
 · have hnL:n=L:=by omega
   subst hnL
   rw[List.take_of_length_le (by omega),List.take_of_length_le (by omega),List.take_of_length_le (by omega)]at hv
   refine⟨hB,?_,ho⟩
   show val W32 out=_
   have l1:=val_lt (by decide) ha
   have l2:=val_lt (by decide) hb
   have l3:=val_nonneg (by decide) hB
   have p1:=pow_mono (B:=W32) (by decide) (show a.length≤n-1 by omega)
   have p2:=pow_mono (B:=W32) (by decide) (show b.length≤n-1 by omega)
   have p3:W32^n=W32^(n-1)*W32:=by rw[←Int.pow_succ];congr 1;omega
   have p4:=pow_pos' (B:=W32) (by decide) (n-1)
   have hc:carry=0∨carry=1:=by omega
   rcases hc with rfl|rfl
   · omega
   · simp only[W32]at*;omega
theorem bminus_tm{a b:List Int}(ha:InB W32 a)(hb:InB W32 b)(hl:a.length≤17592186044416)(hl':b.length≤a.length)(hv:val W32 b≤val W32 a):Tm (fun N=>bminus N a b) (fun r=>InB W32 r∧val W32 r=val W32 a-val W32 b∧r.length=a.length):=by
 unfold bminus
 refine Tm.step (mk1_ok rfl (by omega) (by decide)) ?_
 generalize hL:a.length=L
 refine Tm.bind (Q:=fun r=>InB W32 r∧val W32 r=val W32 a-val W32 b∧r.length=L)
  (Tm.loop (fun s:List Int×Int×Int=>∃n:Nat,s.2.2=n∧n≤L∧s.1.length=L∧InB W32 s.1∧0≤s.2.1∧s.2.1≤1∧val W32 (s.1.take n)=val W32 (a.take n)-val W32 (b.take n)+W32^n*s.2.1) (fun s=>L-s.2.2.toNat)
   ⟨0,rfl,Nat.zero_le _,by simp[hL],InB.rep (by decide),by simp,by simp,by simp[val]⟩ ?_) (fun r h=>Tm.pure h)
 rintro⟨out,borrow,i⟩ ⟨n,rfl,hn,ho,hB,h0,h1,hv'⟩
 dsimp only[bminus_b1]at*
 refine Tm.ite (fun h=>?_) (fun h=>Tm.pure ?_)
 · refine Tm.step (idx_ok (by omega)) ?_
   refine Tm.bind (digit_tm hb) ?_
   rintro y rfl
   refine Tm.step (idx_ok (by omega)) ?_
   refine Tm.step (upd1_i rfl (by omega)) (Tm.pure ?_)
   have hx:=ha.get (n:=n) (by omega)
   have hy:=hb.getD (by decide) n
   have ex:a.getD n 0=a[n]'(by omega):=by rw[List.getD_eq_getElem?_getD,List.getElem?_eq_getElem (by omega)];rfl
   generalize a[n]'(by omega)=x at*
   generalize ey:b.getD n 0=y at*
   have e1:uw (uw (uw x-y)-borrow)=(x-y-borrow)%18446744073709551616:=by
    simp only[W32]at*;rw[uw_mod,uw_mod,uw_mod];omega
   rw[e1,bshr63,uw32_mod]
   simp only[W32]at hx hy
   refine⟨⟨n+1,?_,by omega,by simp;omega,hB.set (by simp only[W32];omega),?_,?_,?_⟩,?_⟩
   · show iw ((n:Int)+1)=_
     rw[iw_eq]<;>omega
   · show 0≤(x-y-borrow)%18446744073709551616/9223372036854775808
     omega
   · show(x-y-borrow)%18446744073709551616/9223372036854775808≤1
     omega
   · show val W32 ((out.set n ((x-y-borrow)%18446744073709551616%4294967296)).take (n+1))=_+W32^(n+1)*((x-y-borrow)%18446744073709551616/9223372036854775808)
     rw[take_set (by omega),val_take,val_take,ex,ey,Int.pow_succ]
     have hd:(x-y-borrow)%18446744073709551616%4294967296=x-y-borrow+W32*((x-y-borrow)%18446744073709551616/9223372036854775808):=by
      simp only[W32];omega
     rw[hd]
     grind
   · show L-(iw ((n:Int)+1)).toNat<L-((n:Int)).toNat
     rw[iw_eq]<;>omega
 · have hnL:n=L:=by omega
   subst hnL
   rw[List.take_of_length_le (by omega),List.take_of_length_le (by omega),List.take_of_length_le (by omega)]at hv'
   refine⟨hB,?_,ho⟩
   show val W32 out=_
   have l1:=val_lt (by decide) hB
   rw[ho]at l1
   have hc:borrow=0∨borrow=1:=by omega
   rcases hc with rfl|rfl
   · omega
   · simp only[W32]at*;omega
theorem Is.val_pos{x:Big}{v:Int}(h:Is x v):val W32 x.Digits=if v<0 then-v else v:=by rw[h.dg.val];split<;>omega
theorem bAdd_tm{a b:Big}(ha:InB W32 a.Digits)(hb:InB W32 b.Digits)(hl:a.Digits.length≤17592186044416)(hl':b.Digits.length≤17592186044416):
 Tm (fun N=>bAdd N a b) (fun r=>Is r (bv a+bv b)∧r.Digits.length≤max a.Digits.length b.Digits.length+1):=by
 unfold bAdd
 refine Tm.bind (bNormal_tm ha (by omega)) ?_
 rintro x ⟨hx,hxl⟩
 refine Tm.bind (bNormal_tm hb (by omega)) ?_
 rintro y ⟨hy,hyl⟩
 have vx:=hx.val_pos
 have vy:=hy.val_pos
 have n1:=hx.neg
 have n2:=hy.neg
 refine Tm.ite (fun h=>?_) (fun h=>?_)
 · have hn:x.Negative=y.Negative:=by simpa using h
   refine Tm.bind (bplus_tm hx.dg.inB hy.dg.inB (by omega) (by omega)) ?_
   rintro s ⟨hs,sv,sl⟩
   refine Tm.bind (bnormal_tm hs (by omega)) (fun r hr=>Tm.pure ⟨?_,by omega⟩)
   have hr:=hr.1
   rw[sv,vx,vy]at hr
   by_cases p:bv a<0<;>by_cases q:bv b<0<;>simp only[p,q,decide_true,decide_false]at n1 n2 hn
   · simp only[n1,p,q,if_true]at hr
     rwa[show-(-bv a+-bv b)=bv a+bv b by omega]at hr
   · rw[n1,n2]at hn;cases hn
   · rw[n1,n2]at hn;cases hn
   · simpa only[n1,p,q,if_false,Bool.false_eq_true]using hr
 · have hn:¬x.Negative=y.Negative:=by simpa using h
   refine Tm.bind (bcompare_tm hx.dg.inB hy.dg.inB hx.dg.nrm hy.dg.nrm (by omega) (by omega)) ?_
   rintro c rfl
   refine Tm.ite (fun hc=>?_) (fun hc=>?_)
   · have hlt:val W32 x.Digits<val W32 y.Digits:=by revert hc;unfold sgn;split<;>(try split)<;>omega
     have hle:x.Digits.length≤y.Digits.length:=by
      rcases Nat.lt_or_ge y.Digits.length x.Digits.length with h'|h'
      · have:=len_cmp w32_pos hy.dg.inB hx.dg.inB hx.dg.nrm h';omega
      · exact h'
     refine Tm.bind (bminus_tm hy.dg.inB hx.dg.inB (by omega) hle (by omega)) ?_
     rintro s ⟨hs,sv,sl⟩
     refine Tm.bind (bnormal_tm hs (by omega)) (fun r hr=>Tm.pure ⟨?_,by omega⟩)
     have hr:=hr.1
     rw[sv,vx,vy]at hr
     by_cases p:bv a<0<;>by_cases q:bv b<0<;>simp only[p,q,decide_true,decide_false]at n1 n2 hn
     · rw[n1,n2]at hn;exact absurd rfl hn
     · simp only[n2,p,q,if_true,if_false,Bool.false_eq_true]at hr
       rwa[show bv b- -bv a=bv a+bv b by omega]at hr
     · simp only[n2,p,q,if_true,if_false]at hr
       rwa[show-(-bv b-bv a)=bv a+bv b by omega]at hr
     · rw[n1,n2]at hn;exact absurd rfl hn
   · have hge:val W32 y.Digits≤val W32 x.Digits:=by revert hc;unfold sgn;split<;>(try split)<;>omega
     have hle:y.Digits.length≤x.Digits.length:=by
      rcases Nat.lt_or_ge x.Digits.length y.Digits.length with h'|h'
      · have:=len_cmp w32_pos hx.dg.inB hy.dg.inB hy.dg.nrm h';omega
      · exact h'
     refine Tm.bind (bminus_tm hx.dg.inB hy.dg.inB (by omega) hle hge) ?_
     rintro s ⟨hs,sv,sl⟩
     refine Tm.bind (bnormal_tm hs (by omega)) (fun r hr=>Tm.pure ⟨?_,by omega⟩)
     have hr:=hr.1
     rw[sv,vx,vy]at hr
     by_cases p:bv a<0<;>by_cases q:bv b<0<;>simp only[p,q,decide_true,decide_false]at n1 n2 hn
     · rw[n1,n2]at hn;exact absurd rfl hn
     · simp only[n1,p,q,if_true,if_false]at hr
       rwa[show-(-bv a-bv b)=bv a+bv b by omega]at hr
     · simp only[n1,p,q,if_true,if_false,Bool.false_eq_true]at hr
       rwa[show bv a- -bv b=bv a+bv b by omega]at hr
     · rw[n1,n2]at hn;exact absurd rfl hn
theorem bSub_tm{a b:Big}(ha:InB W32 a.Digits)(hb:InB W32 b.Digits)(hl:a.Digits.length≤17592186044416)(hl':b.Digits.length≤17592186044416):
 Tm (fun N=>bSub N a b) (fun r=>Is r (bv a-bv b)∧r.Digits.length≤max a.Digits.length b.Digits.length+1):=by
 unfold bSub
 refine Tm.bind (bNeg_tm hb (by omega)) ?_
 rintro y ⟨hy,hyl⟩
 refine Tm.bind (bAdd_tm ha hy.dg.inB (by omega) (by omega)) (fun r h=>Tm.pure ⟨?_,by omega⟩)
 have:=h.1
 rwa[hy.bv,←Int.sub_eq_add_neg]at this
theorem btimes_tm{a b:List Int}(ha:InB W32 a)(hb:InB W32 b)(hl:a.length≤17592186044416)(hl':b.length≤17592186044416):
 Tm (fun N=>btimes N a b) (fun r=>InB W32 r∧val W32 r=val W32 a*val W32 b∧r.length=a.length+b.length):=by
 unfold btimes
 refine Tm.step (mk1_ok (n:=a.length+b.length) (by rw[iw_eq]<;>omega) (by omega) (by decide)) ?_
 refine Tm.bind (Q:=fun r=>InB W32 r∧val W32 r=val W32 a*val W32 b∧r.length=a.length+b.length)
  (Tm.loop (fun s:List Int×Int=>∃n:Nat,s.2=n∧n≤a.length∧s.1.length=a.length+b.length∧InB W32 s.1∧val W32 s.1=val W32 (a.take n)*val W32 b∧∀k,n+b.length≤k→(hk:k<s.1.length)→s.1[k]=0) (fun s=>a.length-s.2.toNat)
   ⟨0,rfl,Nat.zero_le _,by simp,InB.rep (by decide),by simp[val,val_rep],by simp⟩ ?_) (fun r h=>Tm.pure h)
 rintro⟨out,i⟩ ⟨n,rfl,hn,ho,hB,hv,hz⟩
 dsimp only[btimes_b1]at*
 refine Tm.ite (fun h=>?_) (fun h=>Tm.pure ?_)
 · refine Tm.step (idx_ok (by omega)) ?_
   have hx:=ha.get (n:=n) (by omega)
   have ex:a.getD n 0=a[n]'(by omega):=by rw[List.getD_eq_getElem?_getD,List.getElem?_eq_getElem (by omega)];rfl
   generalize a[n]'(by omega)=x at*
   refine Tm.bind (Q:=fun r:List Int×Int=>InB W32 r.1∧r.1.length=a.length+b.length∧0≤r.2∧r.2<W32∧val W32 r.1+W32^(n+b.length)*r.2=val W32 (a.take n)*val W32 b+W32^n*x*val W32 b∧∀k,n+b.length≤k→(hk:k<r.1.length)→r.1[k]=0)
    (Tm.loop (fun s:List Int×Int×Int=>∃m:Nat,s.2.2=m∧m≤b.length∧s.1.length=a.length+b.length∧InB W32 s.1∧0≤s.2.1∧s.2.1<W32∧val W32 s.1+W32^(n+m)*s.2.1=val W32 (a.take n)*val W32 b+W32^n*x*val W32 (b.take m)∧∀k,n+b.length≤k→(hk:k<s.1.length)→s.1[k]=0) (fun s=>b.length-s.2.2.toNat)
     ⟨0,rfl,Nat.zero_le _,ho,hB,by simp,(by decide:(0:Int)<W32),by simpa[val]using hv,hz⟩ ?_) ?_
   · rintro⟨out1,carry,j⟩ ⟨m,rfl,hm,ho1,hB1,c0,c1,hv1,hz1⟩
     dsimp only[btimes_b2]at*
     refine Tm.ite (fun h1=>?_) (fun h1=>Tm.pure ?_)
     · refine Tm.step (idx_ok (by omega)) ?_
       have hi:iw ((n:Int)+(m:Int))=((n+m:Nat):Int):=by rw[iw_eq]<;>omega
       have hy:=hb.get (n:=m) (by omega)
       have ey:b.getD m 0=b[m]'(by omega):=by rw[List.getD_eq_getElem?_getD,List.getElem?_eq_getElem (by omega)];rfl
       generalize b[m]'(by omega)=y at*
       refine Tm.step (idx_i (n:=n+m) hi (by omega)) (Tm.step (idx_i (n:=n+m) hi (by omega)) (Tm.step (upd1_i (n:=n+m) hi (by omega)) (Tm.pure ?_)))
       have hz':=hB1.get (n:=n+m) (by omega)
       have hvs:=fun y'=>val_set (B:=W32) (l:=out1) (n:=n+m) (y:=y') (by omega)
       generalize out1[n+m]'(by omega)=z at*
       have hxy:0≤x*y∧x*y≤4294967295*4294967295:=by
        refine⟨Int.mul_nonneg hx.1 hy.1,?_⟩
        exact Int.mul_le_mul (by simp only[W32]at hx;omega) (by simp only[W32]at hy;omega) hy.1 (by decide)
       generalize exy:x*y=xy at*
       have e1:uw (carry+uw (uw (uw x*uw y)+uw z))=carry+xy+z:=by
        simp only[W32]at*
        rw[show uw x=x by rw[uw_mod];omega,show uw y=y by rw[uw_mod];omega,exy,uw_mod,uw_mod,uw_mod,uw_mod];omega
       rw[e1,bshr32,uw32_mod]
       simp only[W32]at hz' c1
       refine⟨⟨m+1,?_,by omega,by simp;omega,hB1.set (by simp only[W32];omega),?_,?_,?_,?_⟩,?_⟩
       · show iw ((m:Int)+1)=_
         rw[iw_eq]<;>omega
       · show 0≤(carry+xy+z)/4294967296
         omega
       · show(carry+xy+z)/4294967296<W32
         simp only[W32];omega
       · show val W32 (out1.set (n+m) ((carry+xy+z)%4294967296))+W32^(n+(m+1))*((carry+xy+z)/4294967296)=_
         rw[hvs,val_take,ey,←Nat.add_assoc,Int.pow_succ]
         have:=Int.emod_add_mul_ediv (carry+xy+z) 4294967296
         have hw:W32=4294967296:=rfl
         have hp:W32^(n+m)=W32^n*W32^m:=Int.pow_add ..
         grind
       · intro k hk hk'
         rw[List.getElem_set_ne (by omega)]
         exact hz1 k hk (by simpa using hk')
       · show b.length-(iw ((m:Int)+1)).toNat<b.length-((m:Int)).toNat
         rw[iw_eq]<;>omega
     · have hmL:m=b.length:=by omega
       subst hmL
       rw[List.take_of_length_le (Nat.le_refl _)]at hv1
       exact⟨hB1,ho1,c0,c1,hv1,hz1⟩
   · rintro⟨out2,carry⟩ ⟨hB2,ho2,c0,c1,hv2,hz2⟩
     dsimp only at*
     have hi:iw ((n:Int)+(b.length:Int))=((n+b.length:Nat):Int):=by rw[iw_eq]<;>omega
     refine Tm.step (idx_i hi (by omega)) (Tm.step (upd1_i hi (by omega)) (Tm.pure ?_))
     have e1:uw32 carry=carry:=by rw[uw32_mod];simp only[W32]at c1;omega
     rw[e1]
     refine⟨⟨n+1,?_,by omega,by simp;omega,hB2.set ⟨c0,c1⟩,?_,?_⟩,?_⟩
     · show iw ((n:Int)+1)=_
       rw[iw_eq]<;>omega
     · show val W32 (out2.set (n+b.length) carry)=_
       rw[val_set (by omega),hz2 _ (Nat.le_refl _) (by omega),val_take,ex]
       grind
     · intro k hk hk'
       rw[List.getElem_set_ne (by omega)]
       exact hz2 k (by omega) (by simpa using hk')
     · show a.length-(iw ((n:Int)+1)).toNat<a.length-((n:Int)).toNat
       rw[iw_eq]<;>omega
 · have hnL:n=a.length:=by omega
   subst hnL
   rw[List.take_of_length_le (Nat.le_refl _)]at hv
   exact⟨hB,hv,ho⟩
theorem bv_mul{a b:Big}:bv a*bv b=if(!(a.Negative==b.Negative))=true then-(val W32 a.Digits*val W32 b.Digits)else val W32 a.Digits*val W32 b.Digits:=by
 unfold bv
 cases a.Negative<;>cases b.Negative<;>simp[Int.neg_mul,Int.mul_neg]
theorem bMul_tm{a b:Big}(ha:InB W32 a.Digits)(hb:InB W32 b.Digits)(hl:a.Digits.length≤8796093022208)(hl':b.Digits.length≤8796093022208):
 Tm (fun N=>bMul N a b) (fun r=>Is r (bv a*bv b)∧r.Digits.length≤a.Digits.length+b.Digits.length):=by
 unfold bMul
 refine Tm.bind (btimes_tm ha hb (by omega) (by omega)) ?_
 rintro s ⟨hs,sv,sl⟩
 refine Tm.bind (bnormal_tm hs (by omega)) (fun r h=>Tm.pure ⟨?_,by omega⟩)
 rw[bv_mul,←sv]
 exact h.1
open Go Go.X
abbrev W16:Int:=65536
theorem tmod16{x:Int}(h:0≤x):Int.tmod x 65536=x%65536:=Int.tmod_eq_emod_of_nonneg h
theorem tdiv16{x:Int}(h:0≤x):Int.tdiv x 65536=x/65536:=Int.tdiv_eq_ediv_of_nonneg h
theorem rtrim_tm{l:List Int}(hd:InB W16 l)(hl:l.length≤35184372088832):Tm (fun N=>rtrim N l) (fun r=>Dg W16 r (val W16 l)∧r.length≤l.length):=by
 unfold rtrim
 refine Tm.bind (Tm.loop (fun s:List Int=>∃n:Nat,n≤l.length∧s=l.take n∧(∀j,(hj:j<l.length)→n≤j→l[j]=0)) (fun s=>s.length) (Q:=fun r=>Dg W16 r (val W16 l)∧r.length≤l.length) ⟨l.length,Nat.le_refl _,by simp,fun j h1 h2=>absurd h1 (by omega)⟩ ?_) (fun r h=>Tm.pure h)
 rintro _ ⟨n,hn,rfl,h0⟩
 have hlen:(l.take n).length=n:=by simp;omega
 dsimp only[rtrim_b1]
 rcases Nat.eq_zero_or_pos n with rfl|hk0
 · refine Tm.bind (Q:=(·=false)) (Tm.neg (by simp) (Tm.pure rfl)) ?_
   rintro _ rfl
   exact Tm.neg (by simp) (Tm.pure ⟨dg_cut hn hd h0 (.inl rfl),by simp⟩)
 · refine Tm.bind (Q:=(·=decide (l[n-1]=0))) (Tm.pos (by omega) (Tm.step (idx_i (n:=n-1) (by rw[iw_eq]<;>omega) (by omega)) (Tm.pure ?_))) ?_
   · rw[List.getElem_take]
   rintro _ rfl
   by_cases h:l[n-1]=0
   · refine Tm.pos (by simpa using h) (Tm.step (cut_i (m:=0) (n:=n-1) rfl (by rw[iw_eq]<;>omega) (by omega) (by omega)) (Tm.pure ⟨⟨n-1,by omega,?_,fun j h1 h2=>?_⟩,?_⟩))
     · simp[List.take_take]
     · rcases Nat.eq_or_lt_of_le h2 with rfl|h3
       · exact h
       · exact h0 j h1 (by omega)
     · simp;omega
   · exact Tm.neg (by simpa using h) (Tm.pure ⟨dg_cut hn hd h0 (.inr ⟨by omega,h⟩),by omega⟩)
theorem nrm_snoc{l:List Int}{d:Int}(h:d≠0):Nrm (l++[d]):=by simp[Nrm,h]
theorem rbig_tm{neg:Bool}{l:List Int}(hd:InB W16 l)(hl:l.length≤17592186044416):Tm (fun N=>rbig N neg l) (fun r=>Is r (if neg=true then-val W16 l else val W16 l)∧r.Digits.length≤(l.length+1)/2):=by
 unfold rbig
 refine Tm.bind (rtrim_tm hd (by omega)) ?_
 rintro t ⟨ht,htl⟩
 have h0:=ht.nonneg (by decide)
 have hz:=ht.zero (by decide)
 refine Tm.bind (Q:=(·=(neg&&decide (val W16 l≠0)))) (Tm.ite (fun h=>Tm.pure ?_) (fun h=>Tm.pure ?_)) ?_
 · rw[h]
   by_cases e:t=[]
   · have:=hz.1 e;simp[e,this]
   · have:val W16 l≠0:=fun e'=>e (hz.2 e')
     have:=List.length_pos_iff.2 e
     simp_all
 · simp at h;simp[h]
 rintro _ rfl
 refine Tm.bind (Tm.loop (fun s:List Int×Int=>∃n:Nat,s.2=((2*n:Nat):Int)∧2*n≤t.length+1∧s.1.length=n∧InB W32 s.1∧val W32 s.1=val W16 (t.take (2*n))∧(t.length≤2*n→Nrm s.1)) (fun s=>t.length+2-s.2.toNat) (Q:=fun r=>Dg W32 r (val W16 t)∧r.length≤(t.length+1)/2)
  ⟨0,rfl,by omega,rfl,.nil,by simp[val],fun _=>nrm_nil⟩ ?_) ?_
 · rintro⟨ds,i⟩ ⟨n,rfl,hn,ho,hB,hv,hN⟩
   dsimp only[rbig_b1]at*
   refine Tm.ite (fun h=>?_) (fun h=>Tm.pure ?_)
   · refine Tm.step (idx_ok (by omega)) ?_
     have hx:=ht.inB.get (n:=2*n) (by omega)
     have ex:t.getD (2*n) 0=t[2*n]'(by omega):=by rw[List.getD_eq_getElem?_getD,List.getElem?_eq_getElem (by omega)];rfl
     have hlast:t.length=2*n+1→t[2*n]'(by omega)≠0:=fun e h'=>ht.nrm (by rw[List.getLast?_eq_getElem?,e,Nat.add_sub_cancel,List.getElem?_eq_getElem (by omega),h'])
     generalize t[2*n]'(by omega)=x at*
     have hi:iw (((2*n:Nat):Int)+1)=((2*n+1:Nat):Int):=by rw[iw_eq]<;>omega
     refine Tm.bind (Q:=fun d=>d=x+65536*t.getD (2*n+1) 0∧(t.length≤2*n+2→d≠0)) ?_ ?_
     · refine Tm.ite (fun h1=>?_) (fun h1=>Tm.pure ?_)
       · refine Tm.step (idx_i hi (by omega)) (Tm.pure ?_)
         have hy:=ht.inB.get (n:=2*n+1) (by omega)
         have ey:t.getD (2*n+1) 0=t[2*n+1]'(by omega):=by rw[List.getD_eq_getElem?_getD,List.getElem?_eq_getElem (by omega)];rfl
         have hlast':t.length=2*n+2→t[2*n+1]'(by omega)≠0:=fun e h'=>ht.nrm (by rw[List.getLast?_eq_getElem?,e,show 2*n+2-1=2*n+1 by omega,List.getElem?_eq_getElem (by omega),h'])
         rw[ey]
         generalize t[2*n+1]'(by omega)=y at*
         simp only[W16]at hx hy
         have e1:uw32 (uw32 x+uw32 (65536*uw32 y))=x+65536*y:=by
          rw[uw32_mod,uw32_mod,uw32_mod,uw32_mod];omega
         rw[e1]
         exact⟨rfl,fun h'=>by have:=hlast' (by omega);omega⟩
       · have ey:t.getD (2*n+1) 0=0:=by rw[List.getD_eq_getElem?_getD,List.getElem?_eq_none (by omega)];rfl
         rw[ey]
         simp only[W16]at hx
         have:=hlast (by omega)
         rw[uw32_mod]
         exact⟨by omega,fun _=>by omega⟩
     · rintro _ ⟨rfl,hd0⟩
       have hy:=ht.inB.getD (by decide) (2*n+1)
       have et:val W16 (t.take (2*(n+1)))=val W16 (t.take (2*n))+W16^(2*n)*(x+65536*t.getD (2*n+1) 0):=by
        rw[show 2*(n+1)=2*n+1+1 by omega,val_take,val_take,ex,Int.pow_succ]
        have hw:W16=65536:=rfl
        grind
       generalize t.getD (2*n+1) 0=y at*
       simp only[W16]at hx hy
       refine Tm.step (apnd_ok (by simp only[List.length_cons,List.length_nil];omega) (by decide)) (Tm.pure ⟨⟨n+1,by dsimp only;rw[iw_eq]<;>omega,by omega,by simp;omega,hB.append (.cons (B:=4294967296) (by omega) .nil),?_,fun h'=>nrm_snoc (hd0 (by omega))⟩,?_⟩)
       · show val W32 (ds++[x+65536*y])=_
         rw[val_append,et,ho,hv,Int.pow_mul]
         have hw:W16^2=W32:=by decide
         rw[hw];simp only[val];simp
       · dsimp only;rw[iw_eq]<;>omega
   · rw[List.take_of_length_le (by omega)]at hv
     exact⟨⟨hB,hN (by omega),hv⟩,by omega⟩
 · rintro r ⟨hr,hrl⟩
   refine Tm.pure ⟨⟨?_,?_⟩,Nat.le_trans (show r.length≤_ from hrl) (Nat.div_le_div_right (by omega))⟩
   · have e:(((if neg=true then-val W16 l else val W16 l):Int).natAbs:Int)=val W16 t:=by rw[ht.val];cases neg<;>simp<;>omega
     rw[e];exact hr
   · show(neg&&decide (val W16 l≠0))=_
     by_cases e:val W16 l=0
     · cases neg<;>simp[e]
     · cases neg
       · simp;omega
       · have:-val W16 l<0:=by omega
         simp[e,this];omega
theorem getD_ok{l:List Int}{n:Nat}(h:n<l.length):l.getD n 0=l[n]:=by rw[List.getD_eq_getElem?_getD,List.getElem?_eq_getElem h];rfl
theorem getD_out{l:List Int}{n:Nat}(h:l.length≤n):l.getD n 0=0:=by rw[List.getD_eq_getElem?_getD,List.getElem?_eq_none h];rfl
theorem take_all{l:List Int}{n:Nat}(h:l.length≤n):l.take n=l:=List.take_of_length_le h
theorem rOf_tm{n:Int}(h1:-9223372036854775808≤n)(h2:n≤9223372036854775807):Tm (fun N=>rOf N n) (fun r=>Is r n∧r.Digits.length≤2):=by
 unfold rOf
 refine Tm.bind (Q:=(·=(n.natAbs:Int))) (Tm.ite (fun h=>Tm.pure ?_) (fun h=>Tm.pure ?_)) ?_
 · rw[iw_eq (z:=n+1) (by omega) (by omega),iw_eq (by omega) (by omega),uw_mod,uw_mod];omega
 · rw[uw_mod];omega
 rintro _ rfl
 refine Tm.bind (Tm.loop (fun s:Int×List Int=>∃m:Nat,m≤4∧s.2.length=m∧InB W16 s.2∧0≤s.1∧s.1<W16^(4-m)∧val W16 s.2+W16^m*s.1=n.natAbs) (fun s=>s.1.toNat) (Q:=fun r=>InB W16 r∧val W16 r=n.natAbs∧r.length≤4)
  ⟨0,by omega,rfl,.nil,by simp,by simp only[W16];omega,by simp[val]⟩ ?_) ?_
 · rintro⟨u,l⟩ ⟨m,hm,hl,hB,u0,u1,hv⟩
   dsimp only[rOf_b1]at*
   refine Tm.ite (fun h=>?_) (fun h=>Tm.pure ?_)
   · have hm':m≠4:=by rintro rfl;simp at u1;omega
     have hu:u<18446744073709551616:=by
      have:W16^(4-m)≤W16^4:=pow_mono (by decide) (by omega)
      have e:W16^4=18446744073709551616:=by decide
      omega
     rw[tmod16 u0,tdiv16 u0]
     have e1:iw (u%65536)=u%65536:=by rw[iw_eq]<;>omega
     have e2:uw (u/65536)=u/65536:=by rw[uw_mod];omega
     rw[e1,e2]
     refine Tm.step (apnd_ok (by simp only[List.length_cons,List.length_nil];omega) (by decide)) (Tm.pure ⟨⟨m+1,by omega,by simp;omega,hB.append (.cons (B:=65536) (by omega) .nil),?_,?_,?_⟩,?_⟩)
     · show 0≤u/65536
       omega
     · show u/65536<W16^(4-(m+1))
       have e:W16^(4-m)=W16^(4-(m+1))*65536:=by rw[show 4-m=4-(m+1)+1 by omega,Int.pow_succ]
       rw[e]at u1
       exact Int.ediv_lt_of_lt_mul (by decide) u1
     · show val W16 (l++[u%65536])+W16^(m+1)*(u/65536)=_
       rw[val_append,hl,Int.pow_succ]
       have:=Int.emod_add_mul_ediv u 65536
       have hw:W16=65536:=rfl
       simp only[val]
       grind
     · show(u/65536).toNat<u.toNat
       omega
   · have:u=0:=by omega
     subst this
     exact⟨hB,by show val W16 l=_;simpa using hv,by show l.length≤4;omega⟩
 · rintro l ⟨hB,hv,hl⟩
   refine Tm.bind (rbig_tm hB (by omega)) (fun r hr=>Tm.pure ⟨?_,by omega⟩)
   have hr:=hr.1
   rw[hv]at hr
   by_cases hn:n<0
   · simp only[hn,decide_true,if_true]at hr
     rwa[show-(n.natAbs:Int)=n by omega]at hr
   · simp only[hn,decide_false,Bool.false_eq_true,if_false]at hr
     rwa[show(n.natAbs:Int)=n by omega]at hr
open Go Go.X
def OkB(K:Nat)(x:Big):Prop:=InB W32 x.Digits∧x.Digits.length≤K
def OkI(K:Nat)(q:Ineq):Prop:=q.Coefs.length≤K∧(∀b∈q.Coefs,OkB K b)∧OkB K q.Bound
theorem OkB.mono{K K':Nat}{x:Big}(h:OkB K x)(hK:K≤K'):OkB K' x:=⟨h.1,by have:=h.2;omega⟩
theorem OkB.nil{K:Nat}{b:Bool}:OkB K ⟨b,[]⟩:=⟨.nil,Nat.zero_le _⟩
abbrev big0:Big:=⟨false,[]⟩
theorem bv_nil{b:Bool}:bv ⟨b,[]⟩=0:=by cases b<;>rfl
theorem Is.ok{x:Big}{v:Int}{K:Nat}(h:Is x v)(hl:x.Digits.length≤K):OkB K x:=⟨h.dg.inB,hl⟩
theorem Tm.each{α β:Type}{body:Nat→Int→Option (Stp Int (Sum Unit β))}(xs:List α)(P:α→Prop){Q:Sum Unit β→Prop}(hl:xs.length≤9223372036854775807)
 (step:∀(n:Nat) (hn:n<xs.length),(∀j,(hj:j<xs.length)→j<n→P xs[j])→Tm (fun N=>body N (n:Int)) (fun t=>(t=.next (iw ((n:Int)+1))∧P xs[n])∨(∃b,t=.done (.inr b)∧Q (.inr b))))
 (fin:(∀x∈xs,P x)→Tm (fun N=>body N (xs.length:Int)) (fun t=>∃r,t=.done r∧Q r)):Tm (fun N=>loopM (body N) N 0) Q:=by
 refine Tm.loop (fun i:Int=>∃n:Nat,i=n∧n≤xs.length∧∀j,(hj:j<xs.length)→j<n→P xs[j]) (fun i:Int=>xs.length-i.toNat) ⟨0,rfl,Nat.zero_le _,fun _ _ h=>absurd h (by omega)⟩ ?_
 rintro _ ⟨n,rfl,hn,hP⟩
 rcases Nat.lt_or_ge n xs.length with h|h
 · refine(step n h hP).mono ?_
   rintro t (⟨rfl,hp⟩|⟨b,rfl,hq⟩)
   · refine⟨⟨n+1,by rw[iw_eq]<;>omega,by omega,fun j hj hlt=>?_⟩,?_⟩
     · rcases Nat.lt_or_ge j n with h'|h'
       · exact hP j hj h'
       · obtain rfl:j=n:=by omega
         exact hp
     · show xs.length-(iw ((n:Int)+1)).toNat<xs.length-((n:Int)).toNat
       rw[iw_eq]<;>omega
   · exact hq
 · obtain rfl:n=xs.length:=by omega
   refine(fin fun x hx=>?_).mono ?_
   · obtain⟨j,hj,rfl⟩:=List.mem_iff_getElem.1 hx
     exact hP j hj hj
   · rintro t ⟨r,rfl,hq⟩
     exact hq
theorem rbigs_tm{l:List Big}(hl:l.length≤9223372036854775807):Tm (fun N=>rbigs N l) (fun r=>r=true→l.length≤6∧∀b∈l,b.Digits.length≤4):=by
 unfold rbigs
 refine Tm.bind (Tm.each (body:=fun N=>rbigs_b1 N l) l (fun b=>b.Digits.length≤4) (Q:=fun r=>r=.inr false∨(r=.inl ()∧∀b∈l,b.Digits.length≤4)) hl ?_ ?_) ?_
 · intro n hn _
   unfold rbigs_b1
   refine Tm.pos (by omega) (Tm.step (idx_ok hn) (Tm.ite (fun h=>Tm.pure (.inr ⟨_,rfl,.inl rfl⟩)) (fun h=>Tm.pure (.inl ⟨rfl,by omega⟩))))
 · intro h
   unfold rbigs_b1
   exact Tm.neg (by omega) (Tm.pure ⟨_,rfl,.inr ⟨rfl,h⟩⟩)
 · rintro _ (rfl|⟨rfl,h⟩)
   · exact Tm.pure (fun h=>by cases h)
   · exact Tm.pure (fun h'=>⟨by have:=of_decide_eq_true h';omega,h⟩)
def dot(a b:List Big):Nat→Int
 |0=>0
 |n+1=>dot a b n+bv (a.getD n big0)*bv (b.getD n big0)
theorem getDb{l:List Big}{n:Nat}(h:n<l.length):l.getD n big0=l[n]:=by rw[List.getD_eq_getElem?_getD,List.getElem?_eq_getElem h];rfl
def holdsV(q:Ineq)(x:List Big):Bool:=decide (q.Coefs.length=x.length)&&decide (dot q.Coefs x x.length≤bv q.Bound)
def badV(q:Ineq):Bool:=decide ((∀b∈q.Coefs,bv b=0)∧bv q.Bound<0)
theorem sgn_zero{a:Int}:sgn a 0=0↔a=0:=by unfold sgn;(repeat' split)<;>omega
theorem sgn_neg{a:Int}:sgn a 0<0↔a<0:=by unfold sgn;(repeat' split)<;>omega
theorem cContradictory_tm{K:Nat}{q:Ineq}(hK:K≤1073741824)(hq:OkI K q):Tm (fun N=>cContradictory N q) (fun r=>r=badV q):=by
 unfold cContradictory badV
 have hlK:=hq.1
 refine Tm.bind (Tm.each (body:=fun N=>cContradictory_b1 N q) q.Coefs (fun b=>bv b=0) (Q:=fun r=>(r=.inr false∧¬∀b∈q.Coefs,bv b=0)∨(r=.inl ()∧∀b∈q.Coefs,bv b=0)) (by omega) ?_ ?_) ?_
 · intro n hn _
   unfold cContradictory_b1
   have h1:=hq.2.1 _ (List.getElem_mem hn)
   refine Tm.pos (by omega) (Tm.step (idx_ok hn) (Tm.bind (bSign_tm h1.1 (by have:=h1.2;omega)) ?_))
   rintro _ rfl
   refine Tm.ite (fun h=>Tm.pure (.inr ⟨_,rfl,.inl ⟨rfl,fun h'=>h (sgn_zero.2 (h' _ (List.getElem_mem hn)))⟩⟩)) (fun h=>Tm.pure (.inl ⟨rfl,sgn_zero.1 (by omega)⟩))
 · intro h
   unfold cContradictory_b1
   exact Tm.neg (by omega) (Tm.pure ⟨_,rfl,.inr ⟨rfl,h⟩⟩)
 · rintro _ (⟨rfl,h⟩|⟨rfl,h⟩)
   · refine Tm.pure ?_
     simp only[h,false_and,decide_false]
   · refine Tm.bind (bSign_tm hq.2.2.1 (by have:=hq.2.2.2;omega)) ?_
     rintro _ rfl
     refine Tm.pure ?_
     simp only[sgn_neg]
     exact decide_eq_decide.2 ⟨fun h'=>⟨h,h'⟩,fun h'=>h'.2⟩
open Go Go.X
def RightP(c:Constraint)(n:Int):Prop:=(∀i,(h:i<c.Linear.Coefs.length)→0≤c.Linear.Coefs[i].Var∧c.Linear.Coefs[i].Var<n∧(∀(_:0<i),(c.Linear.Coefs[i-1]'(by omega)).Var<c.Linear.Coefs[i].Var))∧0≤n∧n≤512
theorem cvalid_tm{c:Constraint}{n:Int}(hl:c.Linear.Coefs.length≤9223372036854775807):Tm (fun N=>cvalid N c n) (fun r=>r=true↔RightP c n):=by
 unfold cvalid
 generalize hcs:c.Linear.Coefs=cs at hl
 have hR:RightP c n↔((∀i,(h:i<cs.length)→0≤cs[i].Var∧cs[i].Var<n∧(∀(_:0<i),(cs[i-1]'(by omega)).Var<cs[i].Var))∧0≤n∧n≤512):=by subst hcs;rfl
 refine Tm.bind (Tm.loop (fun s:Int×Int=>∃k:Nat,s.2=k∧k≤cs.length∧(k=0→s.1=-1)∧(∀h:0<k∧k-1<cs.length,s.1=cs[k-1].Var)∧∀i,(h:i<cs.length)→i<k→0≤cs[i].Var∧cs[i].Var<n∧(∀(_:0<i),(cs[i-1]'(by omega)).Var<cs[i].Var)) (fun s=>cs.length-s.2.toNat)
  (Q:=fun r=>(r=.inl ()∧∀i,(h:i<cs.length)→0≤cs[i].Var∧cs[i].Var<n∧(∀(_:0<i),(cs[i-1]'(by omega)).Var<cs[i].Var))∨(r=.inr false∧¬RightP c n)) ⟨0,rfl,Nat.zero_le _,fun _=>rfl,fun h=>absurd h.1 (by omega),fun i _ h=>absurd h (by omega)⟩ ?_) ?_
 · rintro⟨last,i⟩ ⟨k,rfl,hk,h0,h1,hP⟩
   dsimp only[cvalid_b1]at*
   rw[hcs]
   refine Tm.ite (fun h=>?_) (fun h=>Tm.pure (.inl ⟨rfl,fun i hi=>hP i hi (by omega)⟩))
   have hkl:k<cs.length:=by omega
   refine Tm.step (idx_ok hkl) (Tm.bind (Q:=(·=decide (cs[k].Var≤last∨cs[k].Var≥n))) (Tm.ite (fun h=>Tm.pure ?_) (fun h=>Tm.pure ?_)) ?_)
   · simp[h]
   · simp[h]
   rintro _ rfl
   refine Tm.ite (fun h=>Tm.pure (.inr ⟨rfl,fun hr=>?_⟩)) (fun h=>Tm.pure ⟨⟨k+1,by dsimp only;rw[iw_eq]<;>omega,by omega,fun h=>by omega,fun _=>rfl,fun i hi hik=>?_⟩,?_⟩)
   · have h:=of_decide_eq_true h
     have:=(hR.1 hr).1 k hkl
     rcases Nat.eq_zero_or_pos k with h'|h'
     · have:=h0 h';omega
     · have h2:=this.2.2 h'
       have h3:=h1 ⟨h',by omega⟩
       omega
   · have h:¬(cs[k].Var≤last∨cs[k].Var≥n):=fun e=>h (decide_eq_true e)
     rcases Nat.lt_or_ge i k with h'|h'
     · exact hP i hi h'
     · obtain rfl:i=k:=by omega
       rcases Nat.eq_zero_or_pos i with h'|h'
       · have:=h0 h';exact⟨by omega,by omega,fun e=>by omega⟩
       · have h3:=h1 ⟨h',by omega⟩
         have h4:=hP (i-1) (by omega) (by omega)
         exact⟨by omega,by omega,fun _=>by omega⟩
   · show cs.length-(iw ((k:Int)+1)).toNat<cs.length-((k:Int)).toNat
     rw[iw_eq]<;>omega
 · rintro _ (⟨rfl,h⟩|⟨rfl,h⟩)
   · refine Tm.ite (fun h1=>Tm.pure ?_) (fun h1=>Tm.pure ?_)
     · rw[hR];simp only[decide_eq_true_eq]
       exact⟨fun h2=>⟨h,by omega,h2⟩,fun h2=>h2.2.2⟩
     · rw[hR]
       exact⟨fun h2=>(by cases h2),fun h2=>absurd h2.2.1 (by omega)⟩
   · exact Tm.pure ⟨fun h'=>(by cases h'),fun h'=>absurd h' h⟩
def IsL(xs:List Big)(vs:List Int):Prop:=xs.length=vs.length∧∀j,(h:j<xs.length)→(h':j<vs.length)→Is xs[j] vs[j]
theorem IsL.nil:IsL [] []:=⟨rfl,fun j h=>absurd h (by simp)⟩
theorem is0:Is big0 0:=⟨Dg.nil,rfl⟩
theorem IsL.rep{n:Nat}:IsL (List.replicate n big0) (List.replicate n 0):=⟨by simp,fun j h h'=>by simpa using is0⟩
theorem IsL.set{xs:List Big}{vs:List Int}(h:IsL xs vs){k:Nat}{x:Big}{v:Int}(hx:Is x v):IsL (xs.set k x) (vs.set k v):=by
 refine⟨by simpa using h.1,fun j h1 h2=>?_⟩
 by_cases hj:k=j
 · subst hj;simpa using hx
 · rw[List.getElem_set_ne hj,List.getElem_set_ne hj]
   exact h.2 j (by simpa using h1) (by simpa using h2)
theorem IsL.snoc{xs:List Big}{vs:List Int}(h:IsL xs vs){x:Big}{v:Int}(hx:Is x v):IsL (xs++[x]) (vs++[v]):=by
 refine⟨by simp[h.1],fun j h1 h2=>?_⟩
 rcases Nat.lt_or_ge j xs.length with hj|hj
 · rw[List.getElem_append_left hj,List.getElem_append_left (by rw[←h.1];exact hj)]
   exact h.2 j hj _
 · simp only[List.length_append,List.length_singleton]at h1 h2
   have hj':j=xs.length:=by omega
   have hj2:j=vs.length:=by rw[←h.1];exact hj'
   have e1:(xs++[x])[j]?=some x:=by rw[hj'];simp
   have e2:(vs++[v])[j]?=some v:=by rw[hj2];simp
   rw[(List.getElem?_eq_some_iff.1 e1).2,(List.getElem?_eq_some_iff.1 e2).2]
   exact hx
theorem Is.len{x:Big}{v:Int}(h:Is x v){k:Nat}(hv:(v.natAbs:Int)<W32^k):x.Digits.length≤k:=nrm_len w32_pos h.dg.inB h.dg.nrm (by rw[h.dg.val];exact hv)
def IsI(q:Ineq)(vs:List Int)(b:Int):Prop:=IsL q.Coefs vs∧Is q.Bound b
def I64(z:Int):Prop:=-9223372036854775808≤z∧z≤9223372036854775807
structure OkC (c:Constraint):Prop where
 len:c.Linear.Coefs.length≤9223372036854775807
 const:I64 c.Linear.Const
 coef:∀k∈c.Linear.Coefs,I64 k.N
def setv(l:List Int)(k:Coef):List Int:=l.set k.Var.toNat k.N
def vals(c:Constraint)(n:Int)(k:Nat):List Int:=(c.Linear.Coefs.take k).foldl setv (List.replicate n.toNat 0)
theorem vals_succ{c:Constraint}{n:Int}{k:Nat}(h:k<c.Linear.Coefs.length):vals c n (k+1)=setv (vals c n k) c.Linear.Coefs[k]:=by
 unfold vals;rw[List.take_succ_eq_append_getElem h,List.foldl_append];rfl
theorem vals_len{c:Constraint}{n:Int}{k:Nat}:(vals c n k).length=n.toNat:=by
 unfold vals
 generalize c.Linear.Coefs.take k=l
 have:∀(l:List Coef) (v:List Int),(l.foldl setv v).length=v.length:=by
  intro l
  induction l with
  |nil=>intro v;rfl
  |cons x l ih=>intro v;rw[List.foldl_cons,ih];simp[setv]
 rw[this];simp
def OfP(c:Constraint)(n:Int)(r:List Ineq):Prop:=
 (¬RightP c n∧r=[])∨(RightP c n∧∃q,IsI q (vals c n c.Linear.Coefs.length) (-c.Linear.Const)∧((c.Equal=false∧r=[q])∨(c.Equal=true∧∃q',IsI q' ((vals c n c.Linear.Coefs.length).map (fun v=>-v)) c.Linear.Const∧r=[q,q'])))
theorem negI64{z:Int}{x:Big}(h:Is x z)(hz:I64 z):InB W32 x.Digits∧x.Digits.length≤2:=⟨h.dg.inB,h.len (by unfold I64 at hz;have e:W32^2=18446744073709551616:=(by decide);omega)⟩
theorem negated_tm{l:List Big}{vs:List Int}{bound:Big}{z:Int}(hl:IsL l vs)(hv:∀v∈vs,I64 v)(hb:Is bound z)(hz:I64 z)(hn:l.length≤512):Tm (fun N=>negated N l bound) (fun r=>IsI r (vs.map (fun v=>-v)) z):=by
 unfold negated
 refine Tm.bind (bNormal_tm hb.dg.inB (by have:=(negI64 hb hz).2;omega)) ?_
 rintro b ⟨hb',-⟩
 rw[hb.bv]at hb'
 refine Tm.bind (Tm.loop (fun s:List Big×Int=>∃k:Nat,s.2=k∧k≤l.length∧IsL s.1 ((vs.take k).map (fun v=>-v))) (fun s=>l.length-s.2.toNat) (Q:=fun r=>IsL r (vs.map (fun v=>-v))) ⟨0,rfl,Nat.zero_le _,by simpa using IsL.nil⟩ ?_) (fun r h=>Tm.pure ⟨h,hb'⟩)
 rintro⟨cs,i⟩ ⟨k,rfl,hk,h⟩
 have hlv:=hl.1
 dsimp only[negated_b1]at*
 refine Tm.ite (fun h1=>?_) (fun h1=>Tm.pure ?_)
 · have hkl:k<l.length:=by omega
   have hx:=hl.2 k hkl (by omega)
   have hxv:=hv _ (List.getElem_mem (show k<vs.length by omega))
   refine Tm.step (idx_ok hkl) (Tm.bind (bNeg_tm hx.dg.inB (by have:=(negI64 hx hxv).2;omega)) ?_)
   rintro m ⟨hm,-⟩
   rw[hx.bv]at hm
   have hcl:=h.1
   simp only[List.length_map,List.length_take]at hcl
   refine Tm.step (apnd_ok (by simp only[List.length_cons,List.length_nil];omega) (by decide)) (Tm.pure ⟨⟨k+1,by dsimp only;rw[iw_eq]<;>omega,by omega,?_⟩,?_⟩)
   · rw[List.take_succ_eq_append_getElem (by omega),List.map_append]
     exact h.snoc hm
   · show l.length-(iw ((k:Int)+1)).toNat<l.length-((k:Int)).toNat
     rw[iw_eq]<;>omega
 · show IsL cs _
   rwa[List.take_of_length_le (by omega)]at h
theorem vals_I64{c:Constraint}{n:Int}{k:Nat}(hc:OkC c):∀v∈vals c n k,I64 v:=by
 induction k with
 |zero=>
  intro v hv
  simp only[vals,List.take_zero,List.foldl_nil]at hv
  rw[(List.mem_replicate.1 hv).2];unfold I64;omega
 |succ k ih=>
  rcases Nat.lt_or_ge k c.Linear.Coefs.length with h|h
  · rw[vals_succ h]
    intro v hv
    rcases List.mem_or_eq_of_mem_set hv with hv|rfl
    · exact ih v hv
    · exact hc.coef _ (List.getElem_mem h)
  · have e:vals c n (k+1)=vals c n k:=by
     unfold vals;rw[List.take_of_length_le (by omega),List.take_of_length_le h]
    rw[e];exact ih
theorem cOf_tm{c:Constraint}{n:Int}(hc:OkC c):Tm (fun N=>cOf N c n) (OfP c n):=by
 unfold cOf
 refine Tm.bind (cvalid_tm hc.len) ?_
 intro r hr
 refine Tm.ite (fun h=>Tm.pure (.inl ⟨fun e=>(by rw[hr.2 e]at h;cases h),rfl⟩)) (fun h=>?_)
 have hR:RightP c n:=hr.1 (by simpa using h)
 refine Tm.step (mk1_ok (n:=n.toNat) (by have:=hR.2;omega) (by have:=hR.2;omega) (by decide)) ?_
 have hn:n.toNat≤512:=by have:=hR.2;omega
 refine Tm.bind (bOf_tm hc.const.1 hc.const.2) ?_
 rintro k0 ⟨hk0,hk0l⟩
 refine Tm.bind (bNeg_tm hk0.dg.inB (by omega)) ?_
 rintro b ⟨hb,-⟩
 rw[hk0.bv]at hb
 refine Tm.bind (Tm.loop (fun s:List Big×Int=>∃k:Nat,s.2=k∧k≤c.Linear.Coefs.length∧IsL s.1 (vals c n k)) (fun s=>c.Linear.Coefs.length-s.2.toNat) (Q:=fun r=>IsL r (vals c n c.Linear.Coefs.length)) ⟨0,rfl,Nat.zero_le _,by simpa[vals]using IsL.rep⟩ ?_) ?_
 · rintro⟨cs,i⟩ ⟨k,rfl,hk,h⟩
   dsimp only[cOf_b1]at*
   refine Tm.ite (fun h1=>?_) (fun h1=>Tm.pure ?_)
   · have hkl:k<c.Linear.Coefs.length:=by omega
     have hv:=hR.1 k hkl
     have hx:=hc.coef _ (List.getElem_mem hkl)
     have hcl:=h.1
     rw[vals_len]at hcl
     refine Tm.step (idx_ok hkl) (Tm.bind (bOf_tm hx.1 hx.2) ?_)
     rintro m ⟨hm,-⟩
     refine Tm.step (idx_i (n:=c.Linear.Coefs[k].Var.toNat) (by omega) (by omega)) (Tm.step (upd1_i (n:=c.Linear.Coefs[k].Var.toNat) (by omega) (by omega)) (Tm.pure ⟨⟨k+1,by have:=hc.len;dsimp only;rw[iw_eq]<;>omega,by omega,?_⟩,?_⟩))
     · rw[vals_succ hkl];exact h.set hm
     · show c.Linear.Coefs.length-(iw ((k:Int)+1)).toNat<c.Linear.Coefs.length-((k:Int)).toNat
       have:=hc.len
       rw[iw_eq]<;>omega
   · obtain rfl:k=c.Linear.Coefs.length:=by omega
     exact h
 · rintro cs hcs
   refine Tm.ite (fun h1=>Tm.pure (.inr ⟨hR,_,⟨hcs,hb⟩,.inl ⟨by simpa using h1,rfl⟩⟩)) (fun h1=>?_)
   refine Tm.bind (bOf_tm hc.const.1 hc.const.2) ?_
   rintro k1 ⟨hk1,-⟩
   refine Tm.bind (negated_tm hcs (vals_I64 hc) hk1 hc.const (by rw[hcs.1,vals_len];exact hn)) ?_
   rintro q' hq'
   exact Tm.pure (.inr ⟨hR,_,⟨hcs,hb⟩,.inr ⟨by simpa using h1,q',hq',rfl⟩⟩)
open Go Go.X
theorem IsI.same{q:Ineq}{vs:List Int}{b:Int}(h:IsI q vs b)(hv:∀v∈vs,(v.natAbs:Int)<W32^2)(hb:(b.natAbs:Int)<W32^2)(hl:vs.length≤512):OkI 512 q:=by
 refine⟨by rw[h.1.1];exact hl,fun x hx=>?_,h.2.dg.inB,by have:=h.2.len hb;omega⟩
 obtain⟨j,hj,rfl⟩:=List.mem_iff_getElem.1 hx
 have:=h.1.2 j hj (by rw[←h.1.1];exact hj)
 exact⟨this.dg.inB,by have:=this.len (hv _ (List.getElem_mem _));omega⟩
theorem abs64{z:Int}(h:I64 z):(z.natAbs:Int)<W32^2:=by unfold I64 at h;have e:W32^2=18446744073709551616:=(by decide);omega
theorem abs64'{z:Int}(h:I64 z):((-z).natAbs:Int)<W32^2:=by unfold I64 at h;have e:W32^2=18446744073709551616:=(by decide);omega
theorem OfP.ok{c:Constraint}{n:Int}{r:List Ineq}(hc:OkC c)(h:OfP c n r):r.length≤2∧∀q∈r,OkI 512 q:=by
 rcases h with⟨_,rfl⟩|⟨hR,q,hq,h⟩
 · exact⟨by simp,fun q hq=>by cases hq⟩
 · have hn:(vals c n c.Linear.Coefs.length).length≤512:=by rw[vals_len];have:=hR.2;omega
   have h1:OkI 512 q:=hq.same (fun v hv=>abs64 (vals_I64 hc v hv)) (abs64' hc.const) hn
   rcases h with⟨_,rfl⟩|⟨_,q',hq',rfl⟩
   · exact⟨by simp,fun p hp=>by simp at hp;exact hp▸h1⟩
   · have h2:OkI 512 q':=hq'.same (fun v hv=>by obtain⟨u,hu,rfl⟩:=List.mem_map.1 hv;exact abs64' (vals_I64 hc u hu)) (abs64 hc.const) (by simpa using hn)
     refine⟨by simp,fun p hp=>?_⟩
     simp only[List.mem_cons,List.not_mem_nil,or_false]at hp
     rcases hp with rfl|rfl
     · exact h1
     · exact h2
def SysL(n:Int):List Constraint→List Ineq→Prop
 |[],r=>r=[]
 |c::l,r=>∃a b,OfP c n a∧SysL n l b∧r=a++b
theorem SysL.snoc{n:Int}:∀{l:List Constraint} {c:Constraint} {r a:List Ineq},SysL n l r→OfP c n a→SysL n (l++[c]) (r++a)
 |[],_,_,a,h,h'=>⟨a,[],h',rfl,by rw[show _=[] from h];simp⟩
 |_::_,_,_,_,⟨x,y,h1,h2,h3⟩,h'=>⟨x,_,h1,h2.snoc h',by rw[h3];simp⟩
theorem SysL.ok{n:Int}:∀{l:List Constraint} {r:List Ineq},(∀c∈l,OkC c)→SysL n l r→r.length≤2*l.length∧∀q∈r,OkI 512 q
 |[],_,_,h=>by rw[show _=[] from h];exact⟨by simp,fun q hq=>by cases hq⟩
 |c::l,_,hc,⟨a,b,h1,h2,h3⟩=>by
  have e1:=h1.ok (hc c List.mem_cons_self)
  have e2:=h2.ok (fun c h=>hc c (List.mem_cons_of_mem _ h))
  subst h3
  refine⟨by simp;omega,fun q hq=>?_⟩
  rcases List.mem_append.1 hq with h|h
  · exact e1.2 q h
  · exact e2.2 q h
def SysP(l:List Constraint)(n:Int)(r:List Ineq):Prop:=((∀c∈l,RightP c n)∧SysL n l r)∨(¬(∀c∈l,RightP c n)∧r=[])
theorem SysP.ok{l:List Constraint}{n:Int}{r:List Ineq}(hc:∀c∈l,OkC c)(h:SysP l n r):r.length≤2*l.length∧∀q∈r,OkI 512 q:=by
 rcases h with⟨_,h⟩|⟨_,rfl⟩
 · exact h.ok hc
 · exact⟨by simp,fun q hq=>by cases hq⟩
theorem cSystem_tm{l:List Constraint}{n:Int}(hc:∀c∈l,OkC c)(hl:l.length≤1000):Tm (fun N=>cSystem N l n) (SysP l n):=by
 unfold cSystem
 refine Tm.bind (Tm.loop (fun s:List Ineq×Int=>∃k:Nat,s.2=k∧k≤l.length∧(∀c∈l.take k,RightP c n)∧SysL n (l.take k) s.1) (fun s=>l.length-s.2.toNat)
  (Q:=fun r=>SysP l n (match r with|.inl a=>a|.inr a=>a)) ⟨0,rfl,Nat.zero_le _,by simp,rfl⟩ ?_) (fun r h=>by cases r<;>exact Tm.pure h)
 rintro⟨out,i⟩ ⟨k,rfl,hk,hR,hS⟩
 dsimp only[cSystem_b1]at*
 refine Tm.ite (fun h1=>?_) (fun h1=>Tm.pure ?_)
 · have hkl:k<l.length:=by omega
   have hck:=hc _ (List.getElem_mem hkl)
   refine Tm.step (idx_ok hkl) (Tm.bind (cvalid_tm hck.len) ?_)
   intro r hr
   refine Tm.ite (fun h=>Tm.pure (.inr ⟨fun e=>?_,rfl⟩)) (fun h=>Tm.bind (cOf_tm hck) ?_)
   · rw[hr.2 (e _ (List.getElem_mem hkl))]at h;cases h
   · intro a ha
     have h2:=hS.ok (fun c h=>hc c (List.mem_of_mem_take h))
     have h3:=ha.ok hck
     have h4:(l.take k).length≤1000:=by simp;omega
     refine Tm.step (apnd_ok (by omega) (by decide)) (Tm.pure ⟨⟨k+1,by dsimp only;rw[iw_eq]<;>omega,by omega,?_,?_⟩,?_⟩)
     · rw[List.take_succ_eq_append_getElem hkl]
       intro c hc'
       rcases List.mem_append.1 hc' with h'|h'
       · exact hR c h'
       · rw[List.mem_singleton.1 h'];exact hr.1 (by simpa using h)
     · rw[List.take_succ_eq_append_getElem hkl];exact hS.snoc ha
     · show l.length-(iw ((k:Int)+1)).toNat<l.length-((k:Int)).toNat
       rw[iw_eq]<;>omega
 · rw[List.take_of_length_le (by omega)]at hR hS
   exact .inl ⟨hR,hS⟩
open Go Go.X
def dotI(vs xs:List Int):Nat→Int
 |0=>0
 |n+1=>dotI vs xs n+vs.getD n 0*xs.getD n 0
theorem IsL.getD{cs:List Big}{vs:List Int}(h:IsL cs vs)(n:Nat):bv (cs.getD n big0)=vs.getD n 0:=by
 rcases Nat.lt_or_ge n cs.length with hn|hn
 · rw[getDb hn,getD_ok (by rw[←h.1];exact hn)]
   exact(h.2 n hn _).bv
 · rw[getD_out (by rw[←h.1];exact hn),List.getD_eq_getElem?_getD,List.getElem?_eq_none hn]
   rfl
theorem dot_eq{cs ys:List Big}{vs xs:List Int}(h:IsL cs vs)(h':IsL ys xs):∀n,dot cs ys n=dotI vs xs n
 |0=>rfl
 |n+1=>by rw[dot,dotI,dot_eq h h' n,h.getD,h'.getD]
theorem dotI_neg{vs xs:List Int}:∀n,dotI (vs.map (fun v=>-v)) xs n=-dotI vs xs n
 |0=>rfl
 |n+1=>by
  rw[dotI,dotI,dotI_neg n]
  have:(vs.map (fun v=>-v)).getD n 0=-vs.getD n 0:=by
   rcases Nat.lt_or_ge n vs.length with hn|hn
   · rw[getD_ok (by simpa using hn),getD_ok hn];simp
   · rw[getD_out (by simpa using hn),getD_out hn];rfl
  rw[this];grind
theorem dotI_set{l xs:List Int}{v:Nat}{y:Int}(hv:v<l.length):∀n,dotI (l.set v y) xs n=dotI l xs n+(if v<n then(y-l.getD v 0)*xs.getD v 0 else 0)
 |0=>by simp[dotI]
 |n+1=>by
  rw[dotI,dotI,dotI_set hv n]
  rcases Nat.lt_trichotomy v n with h|h|h
  · have:(l.set v y).getD n 0=l.getD n 0:=by rw[List.getD_eq_getElem?_getD,List.getD_eq_getElem?_getD,List.getElem?_set_ne (by omega)]
    rw[this,if_pos h,if_pos (by omega)];grind
  · subst h
    have:(l.set v y).getD v 0=y:=by rw[List.getD_eq_getElem?_getD,List.getElem?_set_self hv];rfl
    rw[this,if_neg (by omega),if_pos (by omega)];grind
  · have:(l.set v y).getD n 0=l.getD n 0:=by rw[List.getD_eq_getElem?_getD,List.getD_eq_getElem?_getD,List.getElem?_set_ne (by omega)]
    rw[this,if_neg (by omega),if_neg (by omega)];grind
theorem dotI_rep{xs:List Int}{m:Nat}:∀n,dotI (List.replicate m 0) xs n=0
 |0=>rfl
 |n+1=>by
  rw[dotI,dotI_rep n]
  have:(List.replicate m (0:Int)).getD n 0=0:=by
   rcases Nat.lt_or_ge n m with hn|hn
   · rw[getD_ok (by simpa using hn)];simp
   · rw[getD_out (by simpa using hn)]
  rw[this];simp
theorem right_lt{c:Constraint}{n:Int}(h:RightP c n):∀{i k:Nat},(hik:i<k)→(hk:k<c.Linear.Coefs.length)→(c.Linear.Coefs[i]'(by omega)).Var<c.Linear.Coefs[k].Var:=by
 intro i k
 induction k with
 |zero=>intro h;omega
 |succ k ih=>
  intro hik hk
  have h1:=(h.1 (k+1) hk).2.2 (by omega)
  simp only[Nat.add_sub_cancel]at h1
  rcases Nat.lt_or_ge i k with h2|h2
  · have:=ih h2 (by omega);omega
  · obtain rfl:i=k:=by omega
    exact h1
theorem vals_zero{c:Constraint}{n:Int}(h:RightP c n){k:Nat}(hk:k≤c.Linear.Coefs.length){j:Nat}(hj:∀i,(hi:i<k)→(c.Linear.Coefs[i]'(by omega)).Var≠j):(vals c n k).getD j 0=0:=by
 induction k with
 |zero=>
  simp only[vals,List.take_zero,List.foldl_nil]
  rcases Nat.lt_or_ge j n.toNat with hn|hn
  · rw[getD_ok (by simpa using hn)];simp
  · rw[getD_out (by simpa using hn)]
 |succ k ih=>
  rw[vals_succ (by omega),setv,List.getD_eq_getElem?_getD,List.getElem?_set_ne]
  · rw[←List.getD_eq_getElem?_getD]
    exact ih (by omega) (fun i hi=>hj i (by omega))
  · have h1:=hj k (by omega)
    have h2:=(h.1 k (by omega)).1
    omega
def wsum(c:Constraint)(x:List Int):Nat→Int
 |0=>0
 |k+1=>wsum c x k+(c.Linear.Coefs.getD k ⟨0,0⟩).N*x.getD (c.Linear.Coefs.getD k ⟨0,0⟩).Var.toNat 0
theorem getDc{l:List Coef}{n:Nat}(h:n<l.length):l.getD n ⟨0,0⟩=l[n]:=by rw[List.getD_eq_getElem?_getD,List.getElem?_eq_getElem h];rfl
theorem dot_vals{c:Constraint}{x:List Int}(h:RightP c x.length):∀{k:Nat},k≤c.Linear.Coefs.length→dotI (vals c x.length k) x x.length=wsum c x k:=by
 intro k
 induction k with
 |zero=>intro _;simp only[vals,List.take_zero,List.foldl_nil];rw[dotI_rep];rfl
 |succ k ih=>
  intro hk
  have hv:=h.1 k (by omega)
  have hz:(vals c x.length k).getD c.Linear.Coefs[k].Var.toNat 0=0:=vals_zero h (by omega) (fun i hi=>by have:=right_lt h hi (by omega);omega)
  rw[vals_succ (by omega),setv,dotI_set (by rw[vals_len];omega),ih (by omega),if_pos (by omega),hz,wsum,getDc (by omega)]
  grind
theorem holds_is{q:Ineq}{vs xs:List Int}{values:List Big}{b:Int}(hq:IsI q vs b)(hl:vs.length=xs.length)(hv:IsL values xs):holdsV q values=decide (dotI vs xs xs.length≤b):=by
 unfold holdsV
 rw[dot_eq hq.1 hv,hq.2.bv,hq.1.1,hv.1]
 simp[hl]
end Go.D

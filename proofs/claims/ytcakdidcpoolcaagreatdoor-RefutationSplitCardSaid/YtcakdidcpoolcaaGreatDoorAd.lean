/- Plain theorems and definitions of this seat, several texts in one. -/
import Derived.Test.YtcakdidcpoolcaaGreatDoorAa
import Derived.Lib.ItoaNum
set_option linter.unusedVariables false
set_option linter.unusedSimpArgs false
set_option linter.unusedSectionVars false
namespace Go.D
open Go Go.X
structure Big where
 Negative:Bool
 Digits:(List Int)
 deriving DecidableEq
def rBig:Rep Big:=⟨2,fun H vs x=>∃v0,vs=[Value.bool x.Negative,v0]∧Rs (rInt .u32) H v0 x.Digits∧True,
 fun H H' vs x hle h=>by obtain⟨v0,h0,k0,-⟩:=h;exact⟨v0,h0,k0.mono hle,trivial⟩,
 fun H vs x h=>by obtain⟨v0,h0,k0,-⟩:=h;rw[h0];rfl,
 fun H vs x h=>by obtain⟨v0,h0,k0,-⟩:=h;rw[h0];exact(ones_cons rfl (ones_cons k0.one ones_nil))⟩
theorem rBig_open{H:Hp}{vs:List Value}{x:Big}(h:rBig.R H vs x):∃v0,vs=[Value.bool x.Negative,v0]∧Rs (rInt .u32) H v0 x.Digits∧True:=h
theorem rBig_close{H:Hp}{vs:List Value}{x:Big}(h:∃v0,vs=[Value.bool x.Negative,v0]∧Rs (rInt .u32) H v0 x.Digits∧True):rBig.R H vs x:=h
structure Coef where
 Var:Int
 N:Int
 deriving DecidableEq
def rCoef:Rep Coef:=⟨2,fun H vs x=>vs=[Value.int .i64 x.Var,Value.int .i64 x.N]∧True,
 fun H H' vs x hle h=>by obtain⟨h0,-⟩:=h;exact⟨h0,trivial⟩,
 fun H vs x h=>by obtain⟨h0,-⟩:=h;rw[h0];rfl,
 fun H vs x h=>by obtain⟨h0,-⟩:=h;rw[h0];exact(ones_cons rfl (ones_cons rfl ones_nil))⟩
theorem rCoef_open{H:Hp}{vs:List Value}{x:Coef}(h:rCoef.R H vs x):vs=[Value.int .i64 x.Var,Value.int .i64 x.N]∧True:=h
theorem rCoef_close{H:Hp}{vs:List Value}{x:Coef}(h:vs=[Value.int .i64 x.Var,Value.int .i64 x.N]∧True):rCoef.R H vs x:=h
structure Linear where
 Const:Int
 Coefs:(List Coef)
 deriving DecidableEq
def rLinear:Rep Linear:=⟨2,fun H vs x=>∃v0,vs=[Value.int .i64 x.Const,v0]∧Rs rCoef H v0 x.Coefs∧True,
 fun H H' vs x hle h=>by obtain⟨v0,h0,k0,-⟩:=h;exact⟨v0,h0,k0.mono hle,trivial⟩,
 fun H vs x h=>by obtain⟨v0,h0,k0,-⟩:=h;rw[h0];rfl,
 fun H vs x h=>by obtain⟨v0,h0,k0,-⟩:=h;rw[h0];exact(ones_cons rfl (ones_cons k0.one ones_nil))⟩
theorem rLinear_open{H:Hp}{vs:List Value}{x:Linear}(h:rLinear.R H vs x):∃v0,vs=[Value.int .i64 x.Const,v0]∧Rs rCoef H v0 x.Coefs∧True:=h
theorem rLinear_close{H:Hp}{vs:List Value}{x:Linear}(h:∃v0,vs=[Value.int .i64 x.Const,v0]∧Rs rCoef H v0 x.Coefs∧True):rLinear.R H vs x:=h
structure Constraint where
 Linear:Linear
 Equal:Bool
 deriving DecidableEq
def rConstraint:Rep Constraint:=⟨3,fun H vs x=>∃v0,vs=[Value.int .i64 x.Linear.Const,v0,Value.bool x.Equal]∧Rs rCoef H v0 x.Linear.Coefs∧True,
 fun H H' vs x hle h=>by obtain⟨v0,h0,k0,-⟩:=h;exact⟨v0,h0,k0.mono hle,trivial⟩,
 fun H vs x h=>by obtain⟨v0,h0,k0,-⟩:=h;rw[h0];rfl,
 fun H vs x h=>by obtain⟨v0,h0,k0,-⟩:=h;rw[h0];exact(ones_cons rfl (ones_cons k0.one (ones_cons rfl ones_nil)))⟩
theorem rConstraint_open{H:Hp}{vs:List Value}{x:Constraint}(h:rConstraint.R H vs x):∃v0,vs=[Value.int .i64 x.Linear.Const,v0,Value.bool x.Equal]∧Rs rCoef H v0 x.Linear.Coefs∧True:=h
theorem rConstraint_close{H:Hp}{vs:List Value}{x:Constraint}(h:∃v0,vs=[Value.int .i64 x.Linear.Const,v0,Value.bool x.Equal]∧Rs rCoef H v0 x.Linear.Coefs∧True):rConstraint.R H vs x:=h
structure Ineq where
 Coefs:(List Big)
 Bound:Big
 deriving DecidableEq
def rIneq:Rep Ineq:=⟨3,fun H vs x=>∃v0 v1,vs=[v0,Value.bool x.Bound.Negative,v1]∧Rs rBig H v0 x.Coefs∧Rs (rInt .u32) H v1 x.Bound.Digits∧True,
 fun H H' vs x hle h=>by obtain⟨v0,v1,h0,k0,k1,-⟩:=h;exact⟨v0,v1,h0,k0.mono hle,k1.mono hle,trivial⟩,
 fun H vs x h=>by obtain⟨v0,v1,h0,k0,k1,-⟩:=h;rw[h0];rfl,
 fun H vs x h=>by obtain⟨v0,v1,h0,k0,k1,-⟩:=h;rw[h0];exact(ones_cons k0.one (ones_cons rfl (ones_cons k1.one ones_nil)))⟩
theorem rIneq_open{H:Hp}{vs:List Value}{x:Ineq}(h:rIneq.R H vs x):∃v0 v1,vs=[v0,Value.bool x.Bound.Negative,v1]∧Rs rBig H v0 x.Coefs∧Rs (rInt .u32) H v1 x.Bound.Digits∧True:=h
theorem rIneq_close{H:Hp}{vs:List Value}{x:Ineq}(h:∃v0 v1,vs=[v0,Value.bool x.Bound.Negative,v1]∧Rs rBig H v0 x.Coefs∧Rs (rInt .u32) H v1 x.Bound.Digits∧True):rIneq.R H vs x:=h
structure Use where
 Index:Int
 N:Big
 deriving DecidableEq
def rUse:Rep Use:=⟨3,fun H vs x=>∃v0,vs=[Value.int .i64 x.Index,Value.bool x.N.Negative,v0]∧Rs (rInt .u32) H v0 x.N.Digits∧True,
 fun H H' vs x hle h=>by obtain⟨v0,h0,k0,-⟩:=h;exact⟨v0,h0,k0.mono hle,trivial⟩,
 fun H vs x h=>by obtain⟨v0,h0,k0,-⟩:=h;rw[h0];rfl,
 fun H vs x h=>by obtain⟨v0,h0,k0,-⟩:=h;rw[h0];exact(ones_cons rfl (ones_cons rfl (ones_cons k0.one ones_nil)))⟩
theorem rUse_open{H:Hp}{vs:List Value}{x:Use}(h:rUse.R H vs x):∃v0,vs=[Value.int .i64 x.Index,Value.bool x.N.Negative,v0]∧Rs (rInt .u32) H v0 x.N.Digits∧True:=h
theorem rUse_close{H:Hp}{vs:List Value}{x:Use}(h:∃v0,vs=[Value.int .i64 x.Index,Value.bool x.N.Negative,v0]∧Rs (rInt .u32) H v0 x.N.Digits∧True):rUse.R H vs x:=h
structure Step where
 Uses:(List Use)
 Divisor:Big
 deriving DecidableEq
def rStep:Rep Step:=⟨3,fun H vs x=>∃v0 v1,vs=[v0,Value.bool x.Divisor.Negative,v1]∧Rs rUse H v0 x.Uses∧Rs (rInt .u32) H v1 x.Divisor.Digits∧True,
 fun H H' vs x hle h=>by obtain⟨v0,v1,h0,k0,k1,-⟩:=h;exact⟨v0,v1,h0,k0.mono hle,k1.mono hle,trivial⟩,
 fun H vs x h=>by obtain⟨v0,v1,h0,k0,k1,-⟩:=h;rw[h0];rfl,
 fun H vs x h=>by obtain⟨v0,v1,h0,k0,k1,-⟩:=h;rw[h0];exact(ones_cons k0.one (ones_cons rfl (ones_cons k1.one ones_nil)))⟩
theorem rStep_open{H:Hp}{vs:List Value}{x:Step}(h:rStep.R H vs x):∃v0 v1,vs=[v0,Value.bool x.Divisor.Negative,v1]∧Rs rUse H v0 x.Uses∧Rs (rInt .u32) H v1 x.Divisor.Digits∧True:=h
theorem rStep_close{H:Hp}{vs:List Value}{x:Step}(h:∃v0 v1,vs=[v0,Value.bool x.Divisor.Negative,v1]∧Rs rUse H v0 x.Uses∧Rs (rInt .u32) H v1 x.Divisor.Digits∧True):rStep.R H vs x:=h
structure Proof where
 Steps:(List Step)
 Form:(List Big)
 Bound:Big
 Children:(List Proof)
def RProof:Nat→Hp→List Value→Proof→Prop
 |0,_,_,_=>False
 |n+1,H,vs,x=>∃v0 v1 v2 v3,vs=[v0,v1,Value.bool x.Bound.Negative,v2,v3]∧Rs rStep H v0 x.Steps∧Rs rBig H v1 x.Form∧Rs (rInt .u32) H v2 x.Bound.Digits∧Sl 5 (RProof n) H v3 x.Children∧True
theorem RProof_mono:∀(n:Nat) {H H':Hp} {vs:List Value} {x:Proof},Le H H'→RProof n H vs x→RProof n H' vs x
 |0,_,_,_,_,_,h=>h.elim
 |n+1,_,_,_,_,hle,h=>by obtain⟨v0,v1,v2,v3,h0,k0,k1,k2,k3,-⟩:=h;exact⟨v0,v1,v2,v3,h0,k0.mono hle,k1.mono hle,k2.mono hle,Sl.mono (R:=RProof n) (fun _ _ _ _ a b=>RProof_mono n a b) hle k3,trivial⟩
theorem RProof_up:∀{n m:Nat} {H:Hp} {vs:List Value} {x:Proof},n≤m→RProof n H vs x→RProof m H vs x
 |0,_,_,_,_,_,h=>h.elim
 |n+1,0,_,_,_,hm,_=>by omega
 |n+1,m+1,_,_,_,hm,h=>by have hm:n≤m:=(by omega);obtain⟨v0,v1,v2,v3,h0,k0,k1,k2,k3,-⟩:=h;exact⟨v0,v1,v2,v3,h0,k0,k1,k2,sl_imp (fun _ _=>RProof_up hm) k3,trivial⟩
def rProof:Rep Proof:=⟨5,fun H vs x=>∃n,RProof n H vs x,fun _ _ _ _ hle ⟨n,h⟩=>⟨n,RProof_mono n hle h⟩,
 fun H vs x h=>by obtain⟨n,h⟩:=h;cases n with|zero=>exact h.elim|succ n=>obtain⟨v0,v1,v2,v3,h0,k0,k1,k2,k3,-⟩:=h;rw[h0];rfl,
 fun H vs x h=>by obtain⟨n,h⟩:=h;cases n with|zero=>exact h.elim|succ n=>obtain⟨v0,v1,v2,v3,h0,k0,k1,k2,k3,-⟩:=h;rw[h0];exact(ones_cons k0.one (ones_cons k1.one (ones_cons rfl (ones_cons k2.one (ones_cons (Sl.one k3) ones_nil)))))⟩
theorem rProof_open{H:Hp}{vs:List Value}{x:Proof}(h:rProof.R H vs x):∃v0 v1 v2 v3,vs=[v0,v1,Value.bool x.Bound.Negative,v2,v3]∧Rs rStep H v0 x.Steps∧Rs rBig H v1 x.Form∧Rs (rInt .u32) H v2 x.Bound.Digits∧Rs rProof H v3 x.Children∧True:=by
 obtain⟨n,h⟩:=h;cases n with|zero=>exact h.elim|succ n=>obtain⟨v0,v1,v2,v3,h0,k0,k1,k2,k3,-⟩:=h;exact⟨v0,v1,v2,v3,h0,k0,k1,k2,sl_imp (fun _ _ h=>⟨n,h⟩) k3,trivial⟩
theorem rProof_close{H:Hp}{vs:List Value}{x:Proof}(h:∃v0 v1 v2 v3,vs=[v0,v1,Value.bool x.Bound.Negative,v2,v3]∧Rs rStep H v0 x.Steps∧Rs rBig H v1 x.Form∧Rs (rInt .u32) H v2 x.Bound.Digits∧Rs rProof H v3 x.Children∧True):rProof.R H vs x:=by
 obtain⟨v0,v1,v2,v3,h0,k0,k1,k2,k3,-⟩:=h
 obtain⟨n,hn⟩:=sl_bound (Rn:=RProof) (fun _ _ _ _ hm h=>RProof_up hm h) k3
 exact⟨n+1,v0,v1,v2,v3,h0,k0,k1,k2,hn,trivial⟩
structure TTest where
 Var:Int
 Kind:Int
 Negated:Bool
 Text:(List UInt8)
 deriving DecidableEq
def rTTest:Rep TTest:=⟨4,fun H vs x=>vs=[Value.int .i64 x.Var,Value.int .i64 x.Kind,Value.bool x.Negated,Value.string (s8 x.Text)]∧True,
 fun H H' vs x hle h=>by obtain⟨h0,-⟩:=h;exact⟨h0,trivial⟩,
 fun H vs x h=>by obtain⟨h0,-⟩:=h;rw[h0];rfl,
 fun H vs x h=>by obtain⟨h0,-⟩:=h;rw[h0];exact(ones_cons rfl (ones_cons rfl (ones_cons rfl (ones_cons rfl ones_nil))))⟩
theorem rTTest_open{H:Hp}{vs:List Value}{x:TTest}(h:rTTest.R H vs x):vs=[Value.int .i64 x.Var,Value.int .i64 x.Kind,Value.bool x.Negated,Value.string (s8 x.Text)]∧True:=h
theorem rTTest_close{H:Hp}{vs:List Value}{x:TTest}(h:vs=[Value.int .i64 x.Var,Value.int .i64 x.Kind,Value.bool x.Negated,Value.string (s8 x.Text)]∧True):rTTest.R H vs x:=h
structure TFinder where
 tests:(List TTest)
 most:Int
 out:(List (List UInt8))
 dead:(List ((List UInt8)×Bool))
structure Arr2Int where
 e0:Int
 e1:Int
 deriving DecidableEq
def rArr2Int:Rep Arr2Int:=⟨2,fun H vs x=>vs=[Value.int .i64 x.e0,Value.int .i64 x.e1]∧True,
 fun H H' vs x hle h=>by obtain⟨h0,-⟩:=h;exact⟨h0,trivial⟩,
 fun H vs x h=>by obtain⟨h0,-⟩:=h;rw[h0];rfl,
 fun H vs x h=>by obtain⟨h0,-⟩:=h;rw[h0];exact(ones_cons rfl (ones_cons rfl ones_nil))⟩
theorem rArr2Int_open{H:Hp}{vs:List Value}{x:Arr2Int}(h:rArr2Int.R H vs x):vs=[Value.int .i64 x.e0,Value.int .i64 x.e1]∧True:=h
theorem rArr2Int_close{H:Hp}{vs:List Value}{x:Arr2Int}(h:vs=[Value.int .i64 x.e0,Value.int .i64 x.e1]∧True):rArr2Int.R H vs x:=h
structure TProb where
 Min:(List Int)
 Max:(List Int)
 Tests:(List TTest)
 Same:(List Arr2Int)
 Different:(List Arr2Int)
 deriving DecidableEq
def rTProb:Rep TProb:=⟨5,fun H vs x=>∃v0 v1 v2 v3 v4,vs=[v0,v1,v2,v3,v4]∧Rs (rInt .i64) H v0 x.Min∧Rs (rInt .i64) H v1 x.Max∧Rs rTTest H v2 x.Tests∧Rs rArr2Int H v3 x.Same∧Rs rArr2Int H v4 x.Different∧True,
 fun H H' vs x hle h=>by obtain⟨v0,v1,v2,v3,v4,h0,k0,k1,k2,k3,k4,-⟩:=h;exact⟨v0,v1,v2,v3,v4,h0,k0.mono hle,k1.mono hle,k2.mono hle,k3.mono hle,k4.mono hle,trivial⟩,
 fun H vs x h=>by obtain⟨v0,v1,v2,v3,v4,h0,k0,k1,k2,k3,k4,-⟩:=h;rw[h0];rfl,
 fun H vs x h=>by obtain⟨v0,v1,v2,v3,v4,h0,k0,k1,k2,k3,k4,-⟩:=h;rw[h0];exact(ones_cons k0.one (ones_cons k1.one (ones_cons k2.one (ones_cons k3.one (ones_cons k4.one ones_nil)))))⟩
theorem rTProb_open{H:Hp}{vs:List Value}{x:TProb}(h:rTProb.R H vs x):∃v0 v1 v2 v3 v4,vs=[v0,v1,v2,v3,v4]∧Rs (rInt .i64) H v0 x.Min∧Rs (rInt .i64) H v1 x.Max∧Rs rTTest H v2 x.Tests∧Rs rArr2Int H v3 x.Same∧Rs rArr2Int H v4 x.Different∧True:=h
theorem rTProb_close{H:Hp}{vs:List Value}{x:TProb}(h:∃v0 v1 v2 v3 v4,vs=[v0,v1,v2,v3,v4]∧Rs (rInt .i64) H v0 x.Min∧Rs (rInt .i64) H v1 x.Max∧Rs rTTest H v2 x.Tests∧Rs rArr2Int H v3 x.Same∧Rs rArr2Int H v4 x.Different∧True):rTProb.R H vs x:=h
structure TClass where
 low:Int
 high:Int
 tests:(List TTest)
 words:(List (List UInt8))
 apart:(List Int)
 deriving DecidableEq
def rTClass:Rep TClass:=⟨5,fun H vs x=>∃v0 v1 v2,vs=[Value.int .i64 x.low,Value.int .i64 x.high,v0,v1,v2]∧Rs rTTest H v0 x.tests∧Rs rStr H v1 x.words∧Rs (rInt .i64) H v2 x.apart∧True,
 fun H H' vs x hle h=>by obtain⟨v0,v1,v2,h0,k0,k1,k2,-⟩:=h;exact⟨v0,v1,v2,h0,k0.mono hle,k1.mono hle,k2.mono hle,trivial⟩,
 fun H vs x h=>by obtain⟨v0,v1,v2,h0,k0,k1,k2,-⟩:=h;rw[h0];rfl,
 fun H vs x h=>by obtain⟨v0,v1,v2,h0,k0,k1,k2,-⟩:=h;rw[h0];exact(ones_cons rfl (ones_cons rfl (ones_cons k0.one (ones_cons k1.one (ones_cons k2.one ones_nil)))))⟩
theorem rTClass_open{H:Hp}{vs:List Value}{x:TClass}(h:rTClass.R H vs x):∃v0 v1 v2,vs=[Value.int .i64 x.low,Value.int .i64 x.high,v0,v1,v2]∧Rs rTTest H v0 x.tests∧Rs rStr H v1 x.words∧Rs (rInt .i64) H v2 x.apart∧True:=h
theorem rTClass_close{H:Hp}{vs:List Value}{x:TClass}(h:∃v0 v1 v2,vs=[Value.int .i64 x.low,Value.int .i64 x.high,v0,v1,v2]∧Rs rTTest H v0 x.tests∧Rs rStr H v1 x.words∧Rs (rInt .i64) H v2 x.apart∧True):rTClass.R H vs x:=h
structure RAux where
 Of:Linear
 By:Int
 Text:Int
 deriving DecidableEq
def rRAux:Rep RAux:=⟨4,fun H vs x=>∃v0,vs=[Value.int .i64 x.Of.Const,v0,Value.int .i64 x.By,Value.int .i64 x.Text]∧Rs rCoef H v0 x.Of.Coefs∧True,
 fun H H' vs x hle h=>by obtain⟨v0,h0,k0,-⟩:=h;exact⟨v0,h0,k0.mono hle,trivial⟩,
 fun H vs x h=>by obtain⟨v0,h0,k0,-⟩:=h;rw[h0];rfl,
 fun H vs x h=>by obtain⟨v0,h0,k0,-⟩:=h;rw[h0];exact(ones_cons rfl (ones_cons k0.one (ones_cons rfl (ones_cons rfl ones_nil))))⟩
theorem rRAux_open{H:Hp}{vs:List Value}{x:RAux}(h:rRAux.R H vs x):∃v0,vs=[Value.int .i64 x.Of.Const,v0,Value.int .i64 x.By,Value.int .i64 x.Text]∧Rs rCoef H v0 x.Of.Coefs∧True:=h
theorem rRAux_close{H:Hp}{vs:List Value}{x:RAux}(h:∃v0,vs=[Value.int .i64 x.Of.Const,v0,Value.int .i64 x.By,Value.int .i64 x.Text]∧Rs rCoef H v0 x.Of.Coefs∧True):rRAux.R H vs x:=h
structure RClause where
 Null:(List Int)
 NotNull:(List Int)
 Auxiliary:(List RAux)
 Ints:(List Constraint)
 Tests:(List TTest)
 Same:(List Arr2Int)
 Different:(List Arr2Int)
 deriving DecidableEq
def rRClause:Rep RClause:=⟨7,fun H vs x=>∃v0 v1 v2 v3 v4 v5 v6,vs=[v0,v1,v2,v3,v4,v5,v6]∧Rs (rInt .i64) H v0 x.Null∧Rs (rInt .i64) H v1 x.NotNull∧Rs rRAux H v2 x.Auxiliary∧Rs rConstraint H v3 x.Ints∧Rs rTTest H v4 x.Tests∧Rs rArr2Int H v5 x.Same∧Rs rArr2Int H v6 x.Different∧True,
 fun H H' vs x hle h=>by obtain⟨v0,v1,v2,v3,v4,v5,v6,h0,k0,k1,k2,k3,k4,k5,k6,-⟩:=h;exact⟨v0,v1,v2,v3,v4,v5,v6,h0,k0.mono hle,k1.mono hle,k2.mono hle,k3.mono hle,k4.mono hle,k5.mono hle,k6.mono hle,trivial⟩,
 fun H vs x h=>by obtain⟨v0,v1,v2,v3,v4,v5,v6,h0,k0,k1,k2,k3,k4,k5,k6,-⟩:=h;rw[h0];rfl,
 fun H vs x h=>by obtain⟨v0,v1,v2,v3,v4,v5,v6,h0,k0,k1,k2,k3,k4,k5,k6,-⟩:=h;rw[h0];exact(ones_cons k0.one (ones_cons k1.one (ones_cons k2.one (ones_cons k3.one (ones_cons k4.one (ones_cons k5.one (ones_cons k6.one ones_nil)))))))⟩
theorem rRClause_open{H:Hp}{vs:List Value}{x:RClause}(h:rRClause.R H vs x):∃v0 v1 v2 v3 v4 v5 v6,vs=[v0,v1,v2,v3,v4,v5,v6]∧Rs (rInt .i64) H v0 x.Null∧Rs (rInt .i64) H v1 x.NotNull∧Rs rRAux H v2 x.Auxiliary∧Rs rConstraint H v3 x.Ints∧Rs rTTest H v4 x.Tests∧Rs rArr2Int H v5 x.Same∧Rs rArr2Int H v6 x.Different∧True:=h
theorem rRClause_close{H:Hp}{vs:List Value}{x:RClause}(h:∃v0 v1 v2 v3 v4 v5 v6,vs=[v0,v1,v2,v3,v4,v5,v6]∧Rs (rInt .i64) H v0 x.Null∧Rs (rInt .i64) H v1 x.NotNull∧Rs rRAux H v2 x.Auxiliary∧Rs rConstraint H v3 x.Ints∧Rs rTTest H v4 x.Tests∧Rs rArr2Int H v5 x.Same∧Rs rArr2Int H v6 x.Different∧True):rRClause.R H vs x:=h
structure RVar where
 Ty:Int
 Low:Int
 High:Int
 Max:Int
 Nullable:Bool
 deriving DecidableEq
def rRVar:Rep RVar:=⟨5,fun H vs x=>vs=[Value.int .i64 x.Ty,Value.int .i64 x.Low,Value.int .i64 x.High,Value.int .i64 x.Max,Value.bool x.Nullable]∧True,
 fun H H' vs x hle h=>by obtain⟨h0,-⟩:=h;exact⟨h0,trivial⟩,
 fun H vs x h=>by obtain⟨h0,-⟩:=h;rw[h0];rfl,
 fun H vs x h=>by obtain⟨h0,-⟩:=h;rw[h0];exact(ones_cons rfl (ones_cons rfl (ones_cons rfl (ones_cons rfl (ones_cons rfl ones_nil)))))⟩
theorem rRVar_open{H:Hp}{vs:List Value}{x:RVar}(h:rRVar.R H vs x):vs=[Value.int .i64 x.Ty,Value.int .i64 x.Low,Value.int .i64 x.High,Value.int .i64 x.Max,Value.bool x.Nullable]∧True:=h
theorem rRVar_close{H:Hp}{vs:List Value}{x:RVar}(h:vs=[Value.int .i64 x.Ty,Value.int .i64 x.Low,Value.int .i64 x.High,Value.int .i64 x.Max,Value.bool x.Nullable]∧True):rRVar.R H vs x:=h
structure RVal where
 Kind:Int
 Int:Int
 Text:(List UInt8)
 deriving DecidableEq
def rRVal:Rep RVal:=⟨3,fun H vs x=>vs=[Value.int .i64 x.Kind,Value.int .i64 x.Int,Value.string (s8 x.Text)]∧True,
 fun H H' vs x hle h=>by obtain⟨h0,-⟩:=h;exact⟨h0,trivial⟩,
 fun H vs x h=>by obtain⟨h0,-⟩:=h;rw[h0];rfl,
 fun H vs x h=>by obtain⟨h0,-⟩:=h;rw[h0];exact(ones_cons rfl (ones_cons rfl (ones_cons rfl ones_nil)))⟩
theorem rRVal_open{H:Hp}{vs:List Value}{x:RVal}(h:rRVal.R H vs x):vs=[Value.int .i64 x.Kind,Value.int .i64 x.Int,Value.string (s8 x.Text)]∧True:=h
theorem rRVal_close{H:Hp}{vs:List Value}{x:RVal}(h:vs=[Value.int .i64 x.Kind,Value.int .i64 x.Int,Value.string (s8 x.Text)]∧True):rRVal.R H vs x:=h
structure Refut where
 Kind:Int
 Var:Int
 At:Int
 Proof:Proof
 Children:(List Refut)
def RRefut:Nat→Hp→List Value→Refut→Prop
 |0,_,_,_=>False
 |n+1,H,vs,x=>∃v0 v1 v2 v3 v4,vs=[Value.int .i64 x.Kind,Value.int .i64 x.Var,Value.int .i64 x.At,v0,v1,Value.bool x.Proof.Bound.Negative,v2,v3,v4]∧Rs rStep H v0 x.Proof.Steps∧Rs rBig H v1 x.Proof.Form∧Rs (rInt .u32) H v2 x.Proof.Bound.Digits∧Rs rProof H v3 x.Proof.Children∧Sl 9 (RRefut n) H v4 x.Children∧True
theorem RRefut_mono:∀(n:Nat) {H H':Hp} {vs:List Value} {x:Refut},Le H H'→RRefut n H vs x→RRefut n H' vs x
 |0,_,_,_,_,_,h=>h.elim
 |n+1,_,_,_,_,hle,h=>by obtain⟨v0,v1,v2,v3,v4,h0,k0,k1,k2,k3,k4,-⟩:=h;exact⟨v0,v1,v2,v3,v4,h0,k0.mono hle,k1.mono hle,k2.mono hle,k3.mono hle,Sl.mono (R:=RRefut n) (fun _ _ _ _ a b=>RRefut_mono n a b) hle k4,trivial⟩
theorem RRefut_up:∀{n m:Nat} {H:Hp} {vs:List Value} {x:Refut},n≤m→RRefut n H vs x→RRefut m H vs x
 |0,_,_,_,_,_,h=>h.elim
 |n+1,0,_,_,_,hm,_=>by omega
 |n+1,m+1,_,_,_,hm,h=>by have hm:n≤m:=(by omega);obtain⟨v0,v1,v2,v3,v4,h0,k0,k1,k2,k3,k4,-⟩:=h;exact⟨v0,v1,v2,v3,v4,h0,k0,k1,k2,k3,sl_imp (fun _ _=>RRefut_up hm) k4,trivial⟩
def rRefut:Rep Refut:=⟨9,fun H vs x=>∃n,RRefut n H vs x,fun _ _ _ _ hle ⟨n,h⟩=>⟨n,RRefut_mono n hle h⟩,
 fun H vs x h=>by obtain⟨n,h⟩:=h;cases n with|zero=>exact h.elim|succ n=>obtain⟨v0,v1,v2,v3,v4,h0,k0,k1,k2,k3,k4,-⟩:=h;rw[h0];rfl,
 fun H vs x h=>by obtain⟨n,h⟩:=h;cases n with|zero=>exact h.elim|succ n=>obtain⟨v0,v1,v2,v3,v4,h0,k0,k1,k2,k3,k4,-⟩:=h;rw[h0];exact(ones_cons rfl (ones_cons rfl (ones_cons rfl (ones_cons k0.one (ones_cons k1.one (ones_cons rfl (ones_cons k2.one (ones_cons k3.one (ones_cons (Sl.one k4) ones_nil)))))))))⟩
theorem rRefut_open{H:Hp}{vs:List Value}{x:Refut}(h:rRefut.R H vs x):∃v0 v1 v2 v3 v4,vs=[Value.int .i64 x.Kind,Value.int .i64 x.Var,Value.int .i64 x.At,v0,v1,Value.bool x.Proof.Bound.Negative,v2,v3,v4]∧Rs rStep H v0 x.Proof.Steps∧Rs rBig H v1 x.Proof.Form∧Rs (rInt .u32) H v2 x.Proof.Bound.Digits∧Rs rProof H v3 x.Proof.Children∧Rs rRefut H v4 x.Children∧True:=by
 obtain⟨n,h⟩:=h;cases n with|zero=>exact h.elim|succ n=>obtain⟨v0,v1,v2,v3,v4,h0,k0,k1,k2,k3,k4,-⟩:=h;exact⟨v0,v1,v2,v3,v4,h0,k0,k1,k2,k3,sl_imp (fun _ _ h=>⟨n,h⟩) k4,trivial⟩
theorem rRefut_close{H:Hp}{vs:List Value}{x:Refut}(h:∃v0 v1 v2 v3 v4,vs=[Value.int .i64 x.Kind,Value.int .i64 x.Var,Value.int .i64 x.At,v0,v1,Value.bool x.Proof.Bound.Negative,v2,v3,v4]∧Rs rStep H v0 x.Proof.Steps∧Rs rBig H v1 x.Proof.Form∧Rs (rInt .u32) H v2 x.Proof.Bound.Digits∧Rs rProof H v3 x.Proof.Children∧Rs rRefut H v4 x.Children∧True):rRefut.R H vs x:=by
 obtain⟨v0,v1,v2,v3,v4,h0,k0,k1,k2,k3,k4,-⟩:=h
 obtain⟨n,hn⟩:=sl_bound (Rn:=RRefut) (fun _ _ _ _ hm h=>RRefut_up hm h) k4
 exact⟨n+1,v0,v1,v2,v3,v4,h0,k0,k1,k2,k3,hn,trivial⟩
structure RCase where
 L:(List RVar)
 C:RClause
 Ranges:(List Arr2Int)
 R:(List RVal)
 deriving DecidableEq
def rRCase:Rep RCase:=⟨10,fun H vs x=>∃v0 v1 v2 v3 v4 v5 v6 v7 v8 v9,vs=[v0,v1,v2,v3,v4,v5,v6,v7,v8,v9]∧Rs rRVar H v0 x.L∧Rs (rInt .i64) H v1 x.C.Null∧Rs (rInt .i64) H v2 x.C.NotNull∧Rs rRAux H v3 x.C.Auxiliary∧Rs rConstraint H v4 x.C.Ints∧Rs rTTest H v5 x.C.Tests∧Rs rArr2Int H v6 x.C.Same∧Rs rArr2Int H v7 x.C.Different∧Rs rArr2Int H v8 x.Ranges∧Rs rRVal H v9 x.R∧True,
 fun H H' vs x hle h=>by obtain⟨v0,v1,v2,v3,v4,v5,v6,v7,v8,v9,h0,k0,k1,k2,k3,k4,k5,k6,k7,k8,k9,-⟩:=h;exact⟨v0,v1,v2,v3,v4,v5,v6,v7,v8,v9,h0,k0.mono hle,k1.mono hle,k2.mono hle,k3.mono hle,k4.mono hle,k5.mono hle,k6.mono hle,k7.mono hle,k8.mono hle,k9.mono hle,trivial⟩,
 fun H vs x h=>by obtain⟨v0,v1,v2,v3,v4,v5,v6,v7,v8,v9,h0,k0,k1,k2,k3,k4,k5,k6,k7,k8,k9,-⟩:=h;rw[h0];rfl,
 fun H vs x h=>by obtain⟨v0,v1,v2,v3,v4,v5,v6,v7,v8,v9,h0,k0,k1,k2,k3,k4,k5,k6,k7,k8,k9,-⟩:=h;rw[h0];exact(ones_cons k0.one (ones_cons k1.one (ones_cons k2.one (ones_cons k3.one (ones_cons k4.one (ones_cons k5.one (ones_cons k6.one (ones_cons k7.one (ones_cons k8.one (ones_cons k9.one ones_nil))))))))))⟩
theorem rRCase_open{H:Hp}{vs:List Value}{x:RCase}(h:rRCase.R H vs x):∃v0 v1 v2 v3 v4 v5 v6 v7 v8 v9,vs=[v0,v1,v2,v3,v4,v5,v6,v7,v8,v9]∧Rs rRVar H v0 x.L∧Rs (rInt .i64) H v1 x.C.Null∧Rs (rInt .i64) H v2 x.C.NotNull∧Rs rRAux H v3 x.C.Auxiliary∧Rs rConstraint H v4 x.C.Ints∧Rs rTTest H v5 x.C.Tests∧Rs rArr2Int H v6 x.C.Same∧Rs rArr2Int H v7 x.C.Different∧Rs rArr2Int H v8 x.Ranges∧Rs rRVal H v9 x.R∧True:=h
theorem rRCase_close{H:Hp}{vs:List Value}{x:RCase}(h:∃v0 v1 v2 v3 v4 v5 v6 v7 v8 v9,vs=[v0,v1,v2,v3,v4,v5,v6,v7,v8,v9]∧Rs rRVar H v0 x.L∧Rs (rInt .i64) H v1 x.C.Null∧Rs (rInt .i64) H v2 x.C.NotNull∧Rs rRAux H v3 x.C.Auxiliary∧Rs rConstraint H v4 x.C.Ints∧Rs rTTest H v5 x.C.Tests∧Rs rArr2Int H v6 x.C.Same∧Rs rArr2Int H v7 x.C.Different∧Rs rArr2Int H v8 x.Ranges∧Rs rRVal H v9 x.R∧True):rRCase.R H vs x:=h
structure RClaim where
 L:(List RVar)
 C:RClause
 F:Refut
 R:(List RVal)
def rRClaim:Rep RClaim:=⟨18,fun H vs x=>∃v0 v1 v2 v3 v4 v5 v6 v7 v8 v9 v10 v11 v12 v13,vs=[v0,v1,v2,v3,v4,v5,v6,v7,Value.int .i64 x.F.Kind,Value.int .i64 x.F.Var,Value.int .i64 x.F.At,v8,v9,Value.bool x.F.Proof.Bound.Negative,v10,v11,v12,v13]∧Rs rRVar H v0 x.L∧Rs (rInt .i64) H v1 x.C.Null∧Rs (rInt .i64) H v2 x.C.NotNull∧Rs rRAux H v3 x.C.Auxiliary∧Rs rConstraint H v4 x.C.Ints∧Rs rTTest H v5 x.C.Tests∧Rs rArr2Int H v6 x.C.Same∧Rs rArr2Int H v7 x.C.Different∧Rs rStep H v8 x.F.Proof.Steps∧Rs rBig H v9 x.F.Proof.Form∧Rs (rInt .u32) H v10 x.F.Proof.Bound.Digits∧Rs rProof H v11 x.F.Proof.Children∧Rs rRefut H v12 x.F.Children∧Rs rRVal H v13 x.R∧True,
 fun H H' vs x hle h=>by obtain⟨v0,v1,v2,v3,v4,v5,v6,v7,v8,v9,v10,v11,v12,v13,h0,k0,k1,k2,k3,k4,k5,k6,k7,k8,k9,k10,k11,k12,k13,-⟩:=h;exact⟨v0,v1,v2,v3,v4,v5,v6,v7,v8,v9,v10,v11,v12,v13,h0,k0.mono hle,k1.mono hle,k2.mono hle,k3.mono hle,k4.mono hle,k5.mono hle,k6.mono hle,k7.mono hle,k8.mono hle,k9.mono hle,k10.mono hle,k11.mono hle,k12.mono hle,k13.mono hle,trivial⟩,
 fun H vs x h=>by obtain⟨v0,v1,v2,v3,v4,v5,v6,v7,v8,v9,v10,v11,v12,v13,h0,k0,k1,k2,k3,k4,k5,k6,k7,k8,k9,k10,k11,k12,k13,-⟩:=h;rw[h0];rfl,
 fun H vs x h=>by obtain⟨v0,v1,v2,v3,v4,v5,v6,v7,v8,v9,v10,v11,v12,v13,h0,k0,k1,k2,k3,k4,k5,k6,k7,k8,k9,k10,k11,k12,k13,-⟩:=h;rw[h0];exact(ones_cons k0.one (ones_cons k1.one (ones_cons k2.one (ones_cons k3.one (ones_cons k4.one (ones_cons k5.one (ones_cons k6.one (ones_cons k7.one (ones_cons rfl (ones_cons rfl (ones_cons rfl (ones_cons k8.one (ones_cons k9.one (ones_cons rfl (ones_cons k10.one (ones_cons k11.one (ones_cons k12.one (ones_cons k13.one ones_nil))))))))))))))))))⟩
theorem rRClaim_open{H:Hp}{vs:List Value}{x:RClaim}(h:rRClaim.R H vs x):∃v0 v1 v2 v3 v4 v5 v6 v7 v8 v9 v10 v11 v12 v13,vs=[v0,v1,v2,v3,v4,v5,v6,v7,Value.int .i64 x.F.Kind,Value.int .i64 x.F.Var,Value.int .i64 x.F.At,v8,v9,Value.bool x.F.Proof.Bound.Negative,v10,v11,v12,v13]∧Rs rRVar H v0 x.L∧Rs (rInt .i64) H v1 x.C.Null∧Rs (rInt .i64) H v2 x.C.NotNull∧Rs rRAux H v3 x.C.Auxiliary∧Rs rConstraint H v4 x.C.Ints∧Rs rTTest H v5 x.C.Tests∧Rs rArr2Int H v6 x.C.Same∧Rs rArr2Int H v7 x.C.Different∧Rs rStep H v8 x.F.Proof.Steps∧Rs rBig H v9 x.F.Proof.Form∧Rs (rInt .u32) H v10 x.F.Proof.Bound.Digits∧Rs rProof H v11 x.F.Proof.Children∧Rs rRefut H v12 x.F.Children∧Rs rRVal H v13 x.R∧True:=h
theorem rRClaim_close{H:Hp}{vs:List Value}{x:RClaim}(h:∃v0 v1 v2 v3 v4 v5 v6 v7 v8 v9 v10 v11 v12 v13,vs=[v0,v1,v2,v3,v4,v5,v6,v7,Value.int .i64 x.F.Kind,Value.int .i64 x.F.Var,Value.int .i64 x.F.At,v8,v9,Value.bool x.F.Proof.Bound.Negative,v10,v11,v12,v13]∧Rs rRVar H v0 x.L∧Rs (rInt .i64) H v1 x.C.Null∧Rs (rInt .i64) H v2 x.C.NotNull∧Rs rRAux H v3 x.C.Auxiliary∧Rs rConstraint H v4 x.C.Ints∧Rs rTTest H v5 x.C.Tests∧Rs rArr2Int H v6 x.C.Same∧Rs rArr2Int H v7 x.C.Different∧Rs rStep H v8 x.F.Proof.Steps∧Rs rBig H v9 x.F.Proof.Form∧Rs (rInt .u32) H v10 x.F.Proof.Bound.Digits∧Rs rProof H v11 x.F.Proof.Children∧Rs rRefut H v12 x.F.Children∧Rs rRVal H v13 x.R∧True):rRClaim.R H vs x:=h
def dkTClass:DRep TClass where
 r:=rTClass
 nf:=2
 R vs bs c x:=∃v0 b0 k0 v1 b1 k1,vs=[Value.int .i64 x.low,Value.int .i64 x.high,v0,Value.slice none 0 0,v1]∧bs=[b0,b1]∧c=[k0,k1]∧DS rTTest v0 b0 k0 x.tests∧DS (rInt .i64) v1 b1 k1 x.apart∧x.words=[]
 len:=by
  rintro _ _ _ x ⟨v0,b0,k0,v1,b1,k1,rfl,rfl,rfl,d0,d1,w0⟩;exact⟨rfl,rfl,rfl⟩
 toR:=by
  rintro _ _ _ x H ⟨v0,b0,k0,v1,b1,k1,rfl,rfl,rfl,d0,d1,w0⟩ ho
  exact rTClass_close ⟨v0,Value.slice none 0 0,v1,rfl,d0.rs rfl (fun _ _ _ _ h=>h) (ho 0 _ _ rfl rfl),w0▸Rs.nil,d1.rs rfl (fun _ _ _ _ h=>h) (ho 1 _ _ rfl rfl),trivial⟩
def fmtI(N:Nat)(n:Int):Option (List UInt8):=if 0≤n∧n<100 then some (Go.Lib.decDigits n.toNat)else none
open Go Go.X
def cloneU32(N:Nat)(s:(List Int)):Option (List Int):=
 (apnd 4 ([]:(List Int)) s).bind fun a=>
 some a
def digit(N:Nat)(d:(List Int))(i:Int):Option Int:=
 (if(i:Int)<(List.length d:Int)then
  (idx d i).bind fun x2=>
  some (uw x2)
 else
  some 0)
def bsign(N:Nat)(n:Int):Option Int:=
 some (imin (imax n (-1)) 1)
def btrim_b1(N:Nat)(d:(List Int)):Int→Option (Stp Int Int)
 |a=>
  (((if(a:Int)>0 then
   (idx d (iw (a-1))).bind fun b=>
   some (decide ((b:Int)=0))
  else
   some false):Option Bool)).bind fun ss=>
   match ss with
   |c=>
    (if c=true then
     some (Stp.next (iw (a-1)))
    else
     some (Stp.done a))
def btrim(N:Nat)(d:(List Int)):Option (List Int):=
 (loopM (btrim_b1 N d) N (List.length d:Int)).bind fun ss=>
  match ss with
  |a=>
   (cut d 0 a).bind fun b=>
   (cloneU32 N b).bind fun c=>
   some c
def bnormal(N:Nat)(negative:Bool)(d:(List Int)):Option Big:=
 (btrim N d).bind fun r6=>
 (if((List.length r6:Int):Int)=0 then
  some (Big.mk false [])
 else
  some (Big.mk negative r6))
def bcompare_b1(N:Nat)(a:(List Int))(b:(List Int)):Int→Option (Stp Int (Sum Unit Int))
 |c=>
  (if(c:Int)≥0 then
   (idx a c).bind fun d=>
   (idx b c).bind fun e=>
   (if(d:Int)<e then
    some (Stp.done (Sum.inr (-1)))
   else
    (idx a c).bind fun f=>
    (idx b c).bind fun g=>
    (if(f:Int)>g then
     some (Stp.done (Sum.inr 1))
    else
     some (Stp.next (iw (c-1)))))
  else
   some (Stp.done (Sum.inl ())))
def bcompare(N:Nat)(a:(List Int))(b:(List Int)):Option Int:=
 (if((List.length a:Int):Int)≠(List.length b:Int)then
  (bsign N (iw ((List.length a:Int)-(List.length b:Int)))).bind fun r2=>
  some r2
 else
  (loopM (bcompare_b1 N a b) N (iw ((List.length a:Int)-1))).bind fun ss=>
   match ss with
   |(Sum.inl _)=>
    some 0
   |(Sum.inr c)=>some c)
def bplus_b1(N:Nat)(a:(List Int))(b:(List Int))(x2:(List Int)):((List Int)×Int×Int)→Option (Stp ((List Int)×Int×Int) (List Int))
 |(d,e,c)=>
  (if(c:Int)<(List.length x2:Int)then
   (digit N a c).bind fun f=>
   (digit N b c).bind fun g=>
   (idx d c).bind fun j=>
   (upd1 d c (uw32 (uw (e+(uw (f+g)))))).bind fun i=>
   some (Stp.next (i,(bshr .u64 (uw (e+(uw (f+g)))) 32),(iw (c+1))))
  else
   some (Stp.done d))
def bplus(N:Nat)(a:(List Int))(b:(List Int)):Option (List Int):=
 (mk1 (α:=Int) 4 0 (iw ((imax (List.length a:Int) (List.length b:Int))+1))).bind fun x2=>
 (loopM (bplus_b1 N a b x2) N (x2,0,0)).bind fun ss=>
  match ss with
  |c=>
   some c
def bminus_b1(N:Nat)(a:(List Int))(b:(List Int)):((List Int)×Int×Int)→Option (Stp ((List Int)×Int×Int) (List Int))
 |(d,e,c)=>
  (if(c:Int)<(List.length a:Int)then
   (idx a c).bind fun f=>
   (digit N b c).bind fun g=>
   (idx d c).bind fun j=>
   (upd1 d c (uw32 (uw ((uw ((uw f)-g))-e)))).bind fun i=>
   some (Stp.next (i,(bshr .u64 (uw ((uw ((uw f)-g))-e)) 63),(iw (c+1))))
  else
   some (Stp.done d))
def bminus(N:Nat)(a:(List Int))(b:(List Int)):Option (List Int):=
 (mk1 (α:=Int) 4 0 (List.length a:Int)).bind fun x2=>
 (loopM (bminus_b1 N a b) N (x2,0,0)).bind fun ss=>
  match ss with
  |c=>
   some c
def btimes_b2(N:Nat)(b:(List Int))(d:Int)(f:Int):((List Int)×Int×Int)→Option (Stp ((List Int)×Int×Int) ((List Int)×Int))
 |(c,e,a)=>
  (if(a:Int)<(List.length b:Int)then
   (idx b a).bind fun g=>
   (idx c (iw (d+a))).bind fun i=>
   (idx c (iw (d+a))).bind fun k=>
   (upd1 c (iw (d+a)) (uw32 (uw (e+(uw ((uw ((uw f)*(uw g)))+(uw i))))))).bind fun j=>
   some (Stp.next (j,(bshr .u64 (uw (e+(uw ((uw ((uw f)*(uw g)))+(uw i))))) 32),(iw (a+1))))
  else
   some (Stp.done (c,e)))
def btimes_b1(N:Nat)(a:(List Int))(b:(List Int)):((List Int)×Int)→Option (Stp ((List Int)×Int) (List Int))
 |(d,c)=>
  (if(c:Int)<(List.length a:Int)then
   (idx a c).bind fun f=>
   (loopM (btimes_b2 N b c f) N (d,0,0)).bind fun ss=>
    match ss with
    |(e,g)=>
     (idx e (iw (c+(List.length b:Int)))).bind fun j=>
     (upd1 e (iw (c+(List.length b:Int))) (uw32 g)).bind fun i=>
     some (Stp.next (i,(iw (c+1))))
  else
   some (Stp.done d))
def btimes(N:Nat)(a:(List Int))(b:(List Int)):Option (List Int):=
 (mk1 (α:=Int) 4 0 (iw ((List.length a:Int)+(List.length b:Int)))).bind fun x2=>
 (loopM (btimes_b1 N a b) N (x2,0)).bind fun ss=>
  match ss with
  |c=>
   some c
def bshort_b1(N:Nat)(a:(List Int))(pb:Int):((List Int)×Int×Int)→Option (Stp ((List Int)×Int×Int) ((List Int)×Int))
 |(d,c,b)=>
  (if(b:Int)≥0 then
   (idx a b).bind fun e=>
   (sdiv .u64 (bor .u64 (bshl .u64 c 32) (uw e)) (uw pb)).bind fun f=>
   (idx d b).bind fun i=>
   (upd1 d b (uw32 f)).bind fun g=>
   (srem (bor .u64 (bshl .u64 c 32) (uw e)) (uw pb)).bind fun j=>
   some (Stp.next (g,(Int.tmod (bor .u64 (bshl .u64 c 32) (uw e)) (uw pb)),(iw (b-1))))
  else
   some (Stp.done (d,c)))
def bshort(N:Nat)(a:(List Int))(pb:Int):Option ((List Int)×Int):=
 (mk1 (α:=Int) 4 0 (List.length a:Int)).bind fun x2=>
 (loopM (bshort_b1 N a pb) N (x2,0,(iw ((List.length a:Int)-1)))).bind fun ss=>
  match ss with
  |(b,c)=>
   some (b,(uw32 c))
open Go Go.X
def rtrim_b1(N:Nat):(List Int)→Option (Stp (List Int) (List Int))
 |a=>
  (((if((List.length a:Int):Int)>0 then
   (idx a (iw ((List.length a:Int)-1))).bind fun b=>
   some (decide ((b:Int)=0))
  else
   some false):Option Bool)).bind fun ss=>
   match ss with
   |c=>
    (if c=true then
     (cut a 0 (iw ((List.length a:Int)-1))).bind fun d=>
     some (Stp.next d)
    else
     some (Stp.done a))
def rtrim(N:Nat)(l:(List Int)):Option (List Int):=
 (loopM (rtrim_b1 N) N l).bind fun ss=>
  match ss with
  |a=>
   some a
def rbig_b1(N:Nat)(r6:(List Int)):((List Int)×Int)→Option (Stp ((List Int)×Int) (List Int))
 |(b,a)=>
  (if(a:Int)<(List.length r6:Int)then
   (idx r6 a).bind fun c=>
   (((if((iw (a+1)):Int)<(List.length r6:Int)then
    (idx r6 (iw (a+1))).bind fun d=>
    some (uw32 ((uw32 c)+(uw32 (65536*(uw32 d)))))
   else
    some (uw32 c)):Option Int)).bind fun ss=>
    match ss with
    |e=>
     (apnd 4 b [e]).bind fun f=>
     some (Stp.next (f,(iw (a+2))))
  else
   some (Stp.done b))
def rbig(N:Nat)(negative:Bool)(l:(List Int)):Option Big:=
 (rtrim N l).bind fun r6=>
 (((if negative=true then
  some (decide (((List.length r6:Int):Int)>0))
 else
  some false):Option Bool)).bind fun ss=>
  match ss with
  |a=>
   (loopM (rbig_b1 N r6) N (([]:(List Int)),0)).bind fun ss=>
    match ss with
    |b=>
     some (Big.mk a b)
def rOf_b1(N:Nat):(Int×(List Int))→Option (Stp (Int×(List Int)) (List Int))
 |(a,b)=>
  (if(a:Int)>0 then
   (apnd 8 b [(iw (Int.tmod a 65536))]).bind fun c=>
   some (Stp.next ((uw (Int.tdiv a 65536)),c))
  else
   some (Stp.done b))
def rOf(N:Nat)(n:Int):Option Big:=
 (((if(n:Int)<0 then
  some (uw ((uw (iw (0-(iw (n+1)))))+1))
 else
  some (uw n)):Option Int)).bind fun ss=>
  match ss with
  |u8=>
   (loopM (rOf_b1 N) N (u8,([]:(List Int)))).bind fun ss=>
    match ss with
    |a=>
     (rbig N (decide ((n:Int)<0)) a).bind fun b=>
     some b
open Go Go.X
def bdivide(N:Nat)(a:(List Int))(b:(List Int)):Option ((List Int)×(List Int)):=
 (bcompare N a b).bind fun r1=>
 (if(r1:Int)<0 then
  (btrim N a).bind fun r9=>
  some (([]:(List Int)),r9)
 else
  (if((List.length b:Int):Int)=1 then
   (idx b 0).bind fun d=>
   (bshort N a d).bind fun c=>
   (btrim N c.1).bind fun e=>
   (btrim N [c.2]).bind fun f=>
   some (e,f)
  else
   (idx b (iw ((List.length b:Int)-1))).bind fun g=>
   none))
def bOf(N:Nat)(n:Int):Option Big:=
 (((if(n:Int)<0 then
  some (uw (0-(uw n)))
 else
  some (uw n)):Option Int)).bind fun ss=>
  match ss with
  |u8=>
   (bnormal N (decide ((n:Int)<0)) [(uw32 u8),(uw32 (bshr .u64 u8 32))]).bind fun a=>
   some a
def bNormal(N:Nat)(x:Big):Option Big:=
 (bnormal N x.Negative x.Digits).bind fun a=>
 some a
def bSign(N:Nat)(x:Big):Option Int:=
 (bNormal N x).bind fun r6=>
 (if((List.length r6.Digits:Int):Int)=0 then
  some 0
 else
  (if r6.Negative=true then
   some (-1)
  else
   some 1))
def bNeg(N:Nat)(x:Big):Option Big:=
 (bnormal N (!x.Negative) x.Digits).bind fun a=>
 some a
def bAdd(N:Nat)(a:Big)(b:Big):Option Big:=
 (bNormal N a).bind fun c=>
 (bNormal N b).bind fun d=>
 (if(c.Negative==d.Negative)=true then
  (bplus N c.Digits d.Digits).bind fun e=>
  (bnormal N c.Negative e).bind fun f=>
  some f
 else
  (bcompare N c.Digits d.Digits).bind fun g=>
  (if(g:Int)<0 then
   (bminus N d.Digits c.Digits).bind fun i=>
   (bnormal N d.Negative i).bind fun j=>
   some j
  else
   (bminus N c.Digits d.Digits).bind fun k=>
   (bnormal N c.Negative k).bind fun l=>
   some l))
def bSub(N:Nat)(a:Big)(b:Big):Option Big:=
 (bNeg N b).bind fun c=>
 (bAdd N a c).bind fun d=>
 some d
def bMul(N:Nat)(a:Big)(b:Big):Option Big:=
 (btimes N a.Digits b.Digits).bind fun c=>
 (bnormal N (!(a.Negative==b.Negative)) c).bind fun d=>
 some d
def bDivFloor(N:Nat)(a:Big)(b:Big):Option (Big×Big×Bool):=
 (bNormal N a).bind fun e=>
 (bNormal N b).bind fun d=>
 (if((List.length d.Digits:Int):Int)=0 then
  some ((Big.mk false []),(Big.mk false []),false)
 else
  (bdivide N e.Digits d.Digits).bind fun c=>
  (if(!(e.Negative==d.Negative))=true then
   (((if((List.length c.2:Int):Int)>0 then
    (bplus N c.1 [1]).bind fun f=>
    (bminus N d.Digits c.2).bind fun g=>
    some (f,g)
   else
    some (c.1,c.2)):Option ((List Int)×(List Int)))).bind fun ss=>
    match ss with
    |(i,j)=>
     (bnormal N true i).bind fun k=>
     (bnormal N d.Negative j).bind fun l=>
     some (k,l,true)
  else
   (bnormal N false c.1).bind fun m=>
   (bnormal N d.Negative c.2).bind fun n=>
   some (m,n,true)))
open Go Go.X
def cvalid_b1(N:Nat)(c:Constraint)(n:Int):(Int×Int)→Option (Stp (Int×Int) (Sum Unit Bool))
 |(d,a)=>
  (if(a:Int)<(List.length c.Linear.Coefs:Int)then
   (idx c.Linear.Coefs a).bind fun b=>
   (((if(b.Var:Int)≤d then
    some true
   else
    some (decide ((b.Var:Int)≥n))):Option Bool)).bind fun ss=>
    match ss with
    |e=>
     (if e=true then
      some (Stp.done (Sum.inr false))
     else
      some (Stp.next (b.Var,(iw (a+1)))))
  else
   some (Stp.done (Sum.inl ())))
def cvalid(N:Nat)(c:Constraint)(n:Int):Option Bool:=
 (loopM (cvalid_b1 N c n) N ((-1),0)).bind fun ss=>
  match ss with
  |(Sum.inl _)=>
   (if(n:Int)≥0 then
    some (decide ((n:Int)≤512))
   else
    some false)
  |(Sum.inr a)=>some a
def negated_b1(N:Nat)(l:(List Big)):((List Big)×Int)→Option (Stp ((List Big)×Int) (List Big))
 |(b,a)=>
  (if(a:Int)<(List.length l:Int)then
   (idx l a).bind fun c=>
   (bNeg N c).bind fun d=>
   (apnd 32 b [d]).bind fun e=>
   some (Stp.next (e,(iw (a+1))))
  else
   some (Stp.done b))
def negated(N:Nat)(l:(List Big))(bound:Big):Option Ineq:=
 (bNormal N bound).bind fun a=>
 (loopM (negated_b1 N l) N (([]:(List Big)),0)).bind fun ss=>
  match ss with
  |b=>
   some (Ineq.mk b a)
def cOf_b1(N:Nat)(c:Constraint):((List Big)×Int)→Option (Stp ((List Big)×Int) (List Big))
 |(a,b)=>
  (if(b:Int)<(List.length c.Linear.Coefs:Int)then
   (idx c.Linear.Coefs b).bind fun d=>
   (bOf N d.N).bind fun e=>
   (idx a d.Var).bind fun g=>
   (upd1 a d.Var e).bind fun f=>
   some (Stp.next (f,(iw (b+1))))
  else
   some (Stp.done a))
def cOf(N:Nat)(c:Constraint)(n:Int):Option (List Ineq):=
 (cvalid N c n).bind fun r6=>
 (if(!r6)=true then
  some ([]:(List Ineq))
 else
  (mk1 (α:=Big) 32 (Big.mk false []) n).bind fun d=>
  (bOf N c.Linear.Const).bind fun e=>
  (bNeg N e).bind fun b=>
  (loopM (cOf_b1 N c) N (d,0)).bind fun ss=>
   match ss with
   |a=>
    (if(!c.Equal)=true then
     some [(Ineq.mk a b)]
    else
     (bOf N c.Linear.Const).bind fun f=>
     (negated N a f).bind fun g=>
     some [(Ineq.mk a b),g]))
def cSystem_b1(N:Nat)(l:(List Constraint))(n:Int):((List Ineq)×Int)→Option (Stp ((List Ineq)×Int) (Sum (List Ineq) (List Ineq)))
 |(b,a)=>
  (if(a:Int)<(List.length l:Int)then
   (idx l a).bind fun c=>
   (cvalid N c n).bind fun d=>
   (if(!d)=true then
    some (Stp.done (Sum.inr ([]:(List Ineq))))
   else
    (cOf N c n).bind fun e=>
    (apnd 56 b e).bind fun f=>
    some (Stp.next (f,(iw (a+1)))))
  else
   some (Stp.done (Sum.inl b)))
def cSystem(N:Nat)(l:(List Constraint))(n:Int):Option (List Ineq):=
 (loopM (cSystem_b1 N l n) N (([]:(List Ineq)),0)).bind fun ss=>
  match ss with
  |(Sum.inl a)=>
   some a
  |(Sum.inr b)=>some b
def cloneIneq(N:Nat)(s:(List Ineq)):Option (List Ineq):=
 (apnd 56 ([]:(List Ineq)) s).bind fun a=>
 some a
def indexIneq_b1(N:Nat)(f:(Ineq→Option Bool))(s:(List Ineq)):Int→Option (Stp Int (Sum Unit Int))
 |a=>
  (if(a:Int)<(List.length s:Int)then
   (idx s a).bind fun b=>
   (f b).bind fun c=>
   (if c=true then
    some (Stp.done (Sum.inr a))
   else
    some (Stp.next (iw (a+1))))
  else
   some (Stp.done (Sum.inl ())))
def indexIneq(N:Nat)(s:(List Ineq))(f:(Ineq→Option Bool)):Option Int:=
 (loopM (indexIneq_b1 N f s) N 0).bind fun ss=>
  match ss with
  |(Sum.inl _)=>
   some (-1)
  |(Sum.inr a)=>some a
def containsIneq(N:Nat)(s:(List Ineq))(f:(Ineq→Option Bool)):Option Bool:=
 (indexIneq N s f).bind fun r1=>
 some (decide ((r1:Int)≥0))
def width1(N:Nat)(q:Ineq)(ca:Int):Option Bool:=
 some (decide (((List.length q.Coefs:Int):Int)≠ca))
def cwidth(N:Nat)(l:(List Ineq)):Option (Int×Bool):=
 (if((List.length l:Int):Int)=0 then
  some (0,true)
 else
  (idx l 0).bind fun x2=>
  (containsIneq N l (fun a=>width1 N a (List.length x2.Coefs:Int))).bind fun b=>
  some ((List.length x2.Coefs:Int),(!b)))
def cApply_b2(N:Nat)(d:Use)(c:Ineq):((List Big)×Int)→Option (Stp ((List Big)×Int) (List Big))
 |(b,a)=>
  (if(a:Int)<(List.length c.Coefs:Int)then
   (idx c.Coefs a).bind fun e=>
   (idx b a).bind fun f=>
   (bMul N d.N e).bind fun g=>
   (bAdd N f g).bind fun i=>
   (idx b a).bind fun k=>
   (upd1 b a i).bind fun j=>
   some (Stp.next (j,(iw (a+1))))
  else
   some (Stp.done b))
def cApply_b1(N:Nat)(l:(List Ineq))(s:Step):((List Big)×Bool×(List Int)×Int)→Option (Stp ((List Big)×Bool×(List Int)×Int) (Sum ((List Big)×Bool×(List Int)) (Ineq×Bool)))
 |(c,d,e,b)=>
  (if(b:Int)<(List.length s.Uses:Int)then
   (idx s.Uses b).bind fun a=>
   (((if(a.Index:Int)<0 then
    some true
   else
    (if(a.Index:Int)≥(List.length l:Int)then
     some true
    else
     (bSign N a.N).bind fun i=>
     some (decide ((i:Int)<0)))):Option Bool)).bind fun ss=>
    match ss with
    |j=>
     (if j=true then
      some (Stp.done (Sum.inr ((Ineq.mk [] (Big.mk false [])),false)))
     else
      (idx l a.Index).bind fun f=>
      (loopM (cApply_b2 N a f) N (c,0)).bind fun ss=>
       match ss with
       |k=>
        (bMul N a.N f.Bound).bind fun m=>
        (bAdd N (Big.mk d e) m).bind fun g=>
        some (Stp.next (k,g.Negative,g.Digits,(iw (b+1)))))
  else
   some (Stp.done (Sum.inl (c,d,e))))
def cApply_b3(N:Nat)(s:Step)(d:(List Big)):((List Big)×Int)→Option (Stp ((List Big)×Int) (Sum (List Big) (Ineq×Bool)))
 |(b,a)=>
  (if(a:Int)<(List.length d:Int)then
   (idx b a).bind fun e=>
   (bDivFloor N e s.Divisor).bind fun c=>
   (bSign N c.2.1).bind fun f=>
   (if(f:Int)≠0 then
    some (Stp.done (Sum.inr ((Ineq.mk [] (Big.mk false [])),false)))
   else
    (idx b a).bind fun i=>
    (upd1 b a c.1).bind fun g=>
    some (Stp.next (g,(iw (a+1)))))
  else
   some (Stp.done (Sum.inl b)))
def cApply(N:Nat)(l:(List Ineq))(s:Step):Option (Ineq×Bool):=
 (cwidth N l).bind fun a=>
 (((if(!a.2)=true then
  some true
 else
  (bSign N s.Divisor).bind fun c=>
  some (decide ((c:Int)<1))):Option Bool)).bind fun ss=>
  match ss with
  |d=>
   (if d=true then
    some ((Ineq.mk [] (Big.mk false [])),false)
   else
    (mk1 (α:=Big) 32 (Big.mk false []) a.1).bind fun e=>
    (loopM (cApply_b1 N l s) N (e,false,[],0)).bind fun ss=>
     match ss with
     |(Sum.inl (b,f,g))=>
      (loopM (cApply_b3 N s b) N (b,0)).bind fun ss=>
       match ss with
       |(Sum.inl i)=>
        (bDivFloor N (Big.mk f g) s.Divisor).bind fun j=>
        some ((Ineq.mk i j.1),true)
       |(Sum.inr k)=>some k
     |(Sum.inr m)=>some m)
def cContradictory_b1(N:Nat)(q:Ineq):Int→Option (Stp Int (Sum Unit Bool))
 |a=>
  (if(a:Int)<(List.length q.Coefs:Int)then
   (idx q.Coefs a).bind fun b=>
   (bSign N b).bind fun c=>
   (if(c:Int)≠0 then
    some (Stp.done (Sum.inr false))
   else
    some (Stp.next (iw (a+1))))
  else
   some (Stp.done (Sum.inl ())))
def cContradictory(N:Nat)(q:Ineq):Option Bool:=
 (loopM (cContradictory_b1 N q) N 0).bind fun ss=>
  match ss with
  |(Sum.inl _)=>
   (bSign N q.Bound).bind fun a=>
   some (decide ((a:Int)<0))
  |(Sum.inr b)=>some b
def cCheck_b1(N:Nat)(p:Proof):((List Ineq)×Int)→Option (Stp ((List Ineq)×Int) (Sum (List Ineq) Bool))
 |(a,b)=>
  (if(b:Int)<(List.length p.Steps:Int)then
   (idx p.Steps b).bind fun d=>
   (cApply N a d).bind fun c=>
   (if(!c.2)=true then
    some (Stp.done (Sum.inr false))
   else
    (apnd 56 a [c.1]).bind fun e=>
    some (Stp.next (e,(iw (b+1)))))
  else
   some (Stp.done (Sum.inl a)))
def cCheck_step(N:Nat)(self:(List Ineq)→Proof→Option Bool)(l:(List Ineq))(p:Proof):Option Bool:=
 (cwidth N l).bind fun r6=>
 (if(!r6.2)=true then
  some false
 else
  (cloneIneq N l).bind fun b=>
  (loopM (cCheck_b1 N p) N (b,0)).bind fun ss=>
   match ss with
   |(Sum.inl a)=>
    (if((List.length p.Children:Int):Int)=0 then
     (containsIneq N a (fun c=>cContradictory N c)).bind fun d=>
     some d
    else
     (if((List.length p.Children:Int):Int)=2 then
      (cwidth N a).bind fun e=>
      (((if((List.length a:Int):Int)>0 then
       some (decide (((List.length p.Form:Int):Int)≠e.1))
      else
       some false):Option Bool)).bind fun ss=>
       match ss with
       |f=>
        (if f=true then
         some false
        else
         (bNeg N p.Bound).bind fun g=>
         (bOf N 1).bind fun i=>
         (bSub N g i).bind fun j=>
         (negated N p.Form j).bind fun m=>
         none)
     else
      some false))
   |(Sum.inr k)=>some k)
def cCheck:Nat→(List Ineq)→Proof→Option Bool
 |0=>fun _ _=>none
 |N+1=>cCheck_step N (cCheck N)
def cSize_b1(N:Nat)(self:Proof→Option Int)(p:Proof):(Int×Int)→Option (Stp (Int×Int) Int)
 |(b,a)=>
  (if(a:Int)<(List.length p.Children:Int)then
   (idx p.Children a).bind fun c=>
   (self c).bind fun d=>
   some (Stp.next ((iw (b+d)),(iw (a+1))))
  else
   some (Stp.done b))
def cSize_step(N:Nat)(self:Proof→Option Int)(p:Proof):Option Int:=
 (((if((List.length p.Children:Int):Int)>0 then
  some (iw ((List.length p.Steps:Int)+1))
 else
  some (List.length p.Steps:Int)):Option Int)).bind fun ss=>
  match ss with
  |a=>
   (loopM (cSize_b1 N self p) N (a,0)).bind fun ss=>
    match ss with
    |b=>
     some b
def cSize:Nat→Proof→Option Int
 |0=>fun _=>none
 |N+1=>cSize_step N (cSize N)
open Go Go.X
def rbigs_b1(N:Nat)(l:(List Big)):Int→Option (Stp Int (Sum Unit Bool))
 |a=>
  (if(a:Int)<(List.length l:Int)then
   (idx l a).bind fun b=>
   (if((List.length b.Digits:Int):Int)>4 then
    some (Stp.done (Sum.inr false))
   else
    some (Stp.next (iw (a+1))))
  else
   some (Stp.done (Sum.inl ())))
def rbigs(N:Nat)(l:(List Big)):Option Bool:=
 (loopM (rbigs_b1 N l) N 0).bind fun ss=>
  match ss with
  |(Sum.inl _)=>
   some (decide (((List.length l:Int):Int)≤6))
  |(Sum.inr a)=>some a
def rSmallStep_b1(N:Nat)(s:Step):Int→Option (Stp Int (Sum Unit Bool))
 |a=>
  (if(a:Int)<(List.length s.Uses:Int)then
   (idx s.Uses a).bind fun b=>
   (if((List.length b.N.Digits:Int):Int)>4 then
    some (Stp.done (Sum.inr false))
   else
    some (Stp.next (iw (a+1))))
  else
   some (Stp.done (Sum.inl ())))
def rSmallStep(N:Nat)(s:Step):Option Bool:=
 (loopM (rSmallStep_b1 N s) N 0).bind fun ss=>
  match ss with
  |(Sum.inl _)=>
   (if((List.length s.Uses:Int):Int)≤12 then
    some (decide (((List.length s.Divisor.Digits:Int):Int)≤4))
   else
    some false)
  |(Sum.inr a)=>some a
def rweight_b1(N:Nat)(p:Proof):Int→Option (Stp Int (Sum Unit Int))
 |a=>
  (((if(a:Int)<(List.length p.Steps:Int)then
   some (decide (((iw (1+(List.length p.Steps:Int))):Int)≤100))
  else
   some false):Option Bool)).bind fun ss=>
   match ss with
   |b=>
    (if b=true then
     (idx p.Steps a).bind fun c=>
     (rSmallStep N c).bind fun d=>
     (if(!d)=true then
      some (Stp.done (Sum.inr 101))
     else
      some (Stp.next (iw (a+1))))
    else
     some (Stp.done (Sum.inl ())))
def rweight_b2(N:Nat)(self:Proof→Option Int)(p:Proof):(Int×Int)→Option (Stp (Int×Int) Int)
 |(a,b)=>
  (((if(b:Int)<(List.length p.Children:Int)then
   some (decide ((a:Int)≤100))
  else
   some false):Option Bool)).bind fun ss=>
   match ss with
   |c=>
    (if c=true then
     (idx p.Children b).bind fun d=>
     (self d).bind fun e=>
     some (Stp.next ((iw (a+e)),(iw (b+1))))
    else
     some (Stp.done a))
def rweight_step(N:Nat)(self:Proof→Option Int)(p:Proof):Option Int:=
 (((rbigs N p.Form).bind fun a=>
 (if(!a)=true then
  some true
 else
  some (decide (((List.length p.Bound.Digits:Int):Int)>4))):Option Bool)).bind fun ss=>
  match ss with
  |b=>
   (if b=true then
    some 101
   else
    (loopM (rweight_b1 N p) N 0).bind fun ss=>
     match ss with
     |(Sum.inl _)=>
      (loopM (rweight_b2 N self p) N ((iw (1+(List.length p.Steps:Int))),0)).bind fun ss=>
       match ss with
       |c=>
        some c
     |(Sum.inr d)=>some d)
def rweight:Nat→Proof→Option Int
 |0=>fun _=>none
 |N+1=>rweight_step N (rweight N)
def rSmallProof(N:Nat)(p:Proof):Option Bool:=
 (rweight N p).bind fun r6=>
 some (decide ((r6:Int)≤40))
open Go Go.X
def indexOf_b1(N:Nat)(pb:Int)(s:(List Int)):Int→Option (Stp Int (Sum Unit Int))
 |a=>
  (if(a:Int)<(List.length s:Int)then
   (idx s a).bind fun b=>
   (if(pb:Int)=b then
    some (Stp.done (Sum.inr a))
   else
    some (Stp.next (iw (a+1))))
  else
   some (Stp.done (Sum.inl ())))
def indexOf(N:Nat)(s:(List Int))(pb:Int):Option Int:=
 (loopM (indexOf_b1 N pb s) N 0).bind fun ss=>
  match ss with
  |(Sum.inl _)=>
   some (-1)
  |(Sum.inr a)=>some a
def containsOf(N:Nat)(s:(List Int))(pb:Int):Option Bool:=
 (indexOf N s pb).bind fun r1=>
 some (decide ((r1:Int)≥0))
open Go Go.X
def pClosure_b1(N:Nat)(pattern:(List UInt8)):(Int×Int)→Option (Stp (Int×Int) Int)
 |(b,a)=>
  (if(a:Int)<(List.length pattern:Int)then
   (((idx pattern a).bind fun c=>
   (if((UInt8.toNat c:Int):Int)=37 then
    (chk (¬(a:Int)<0)).bind fun _=>
    some (decide (((band .u32 (bshr .u32 b a) 1):Int)=1))
   else
    some false):Option Bool)).bind fun ss=>
    match ss with
    |d=>
     (if d=true then
      (chk (¬((iw (a+1)):Int)<0)).bind fun _=>
      some (Stp.next ((bor .u32 b (bshl .u32 1 (iw (a+1)))),(iw (a+1))))
     else
      some (Stp.next (b,(iw (a+1)))))
  else
   some (Stp.done b))
def pClosure(N:Nat)(pattern:(List UInt8))(vset:Int):Option Int:=
 (loopM (pClosure_b1 N pattern) N (vset,0)).bind fun ss=>
  match ss with
  |a=>
   some a
def pBegin(N:Nat)(t:TTest):Option Int:=
 (if(t.Kind:Int)=1 then
  (pClosure N t.Text 1).bind fun r7=>
  some r7
 else
  some 0)
def pNext_b1(N:Nat)(c:Int)(s:Int)(t:TTest):(Int×Int)→Option (Stp (Int×Int) Int)
 |(b,a)=>
  (if(a:Int)<(List.length t.Text:Int)then
   (chk (¬(a:Int)<0)).bind fun _=>
   (if((band .u32 (bshr .u32 s a) 1):Int)=0 then
    some (Stp.next (b,(iw (a+1))))
   else
    (idx t.Text a).bind fun d=>
    (if((UInt8.toNat d:Int):Int)=37 then
     (chk (¬(a:Int)<0)).bind fun _=>
     some (Stp.next ((bor .u32 b (bshl .u32 1 a)),(iw (a+1))))
    else
     (((if((UInt8.toNat d:Int):Int)=95 then
      some true
     else
      some (decide (((UInt8.toNat d:Int):Int)=c))):Option Bool)).bind fun ss=>
      match ss with
      |e=>
       (if e=true then
        (chk (¬((iw (a+1)):Int)<0)).bind fun _=>
        some (Stp.next ((bor .u32 b (bshl .u32 1 (iw (a+1)))),(iw (a+1))))
       else
        some (Stp.next (b,(iw (a+1)))))))
  else
   some (Stp.done b))
def pNext(N:Nat)(t:TTest)(s:Int)(c:Int):Option Int:=
 (if(t.Kind:Int)=1 then
  (loopM (pNext_b1 N c s t) N (0,0)).bind fun ss=>
   match ss with
   |a=>
    (pClosure N t.Text a).bind fun b=>
    some b
 else
  (if(s:Int)≥100 then
   some s
  else
   (((if((iw s):Int)=(List.length t.Text:Int)then
    some true
   else
    (idx t.Text s).bind fun d=>
    some (decide ((c:Int)>(UInt8.toNat d:Int)))):Option Bool)).bind fun ss=>
    match ss with
    |e=>
     (if e=true then
      some 101
     else
      (idx t.Text s).bind fun f=>
      (if(c:Int)<(UInt8.toNat f:Int)then
       some 100
      else
       some (uw32 (s+1))))))
def pPassed(N:Nat)(t:TTest)(s:Int):Option Bool:=
 (((if(t.Kind:Int)=1 then
  (chk (¬((List.length t.Text:Int):Int)<0)).bind fun _=>
  some (decide (((band .u32 (bshr .u32 s (List.length t.Text:Int)) 1):Int)=1))
 else
  (if(t.Kind:Int)=0 then
   some (decide (((iw s):Int)=(List.length t.Text:Int)))
  else
   (if(t.Kind:Int)=2 then
    (if(s:Int)=100 then
     some true
    else
     some (decide (((iw s):Int)<(List.length t.Text:Int))))
   else
    (if(s:Int)=100 then
     some true
    else
     some (decide (((iw s):Int)≤(List.length t.Text:Int))))))):Option Bool)).bind fun ss=>
  match ss with
  |a=>
   some (!(a==t.Negated))
def pKey_b1(N:Nat)(l:(List Int)):((List Int)×Int)→Option (Stp ((List Int)×Int) (List Int))
 |(c,a)=>
  (if(a:Int)<(List.length l:Int)then
   (idx l a).bind fun b=>
   (apnd 1 c [(uw8 b),(uw8 (bshr .u32 b 8)),(uw8 (bshr .u32 b 16))]).bind fun d=>
   some (Stp.next (d,(iw (a+1))))
  else
   some (Stp.done c))
def pKey(N:Nat)(l:(List Int))(left:Int):Option (List UInt8):=
 (loopM (pKey_b1 N l) N ([(uw8 left)],0)).bind fun ss=>
  match ss with
  |a=>
   some (bstr a)
def pFind_b1(N:Nat)(f:TFinder)(l:(List Int)):Int→Option (Stp Int (Sum Unit (Bool×(List (List UInt8))×(List ((List UInt8)×Bool)))))
 |a=>
  (if(a:Int)<(List.length f.tests:Int)then
   (idx f.tests a).bind fun b=>
   (idx l a).bind fun c=>
   (pPassed N b c).bind fun d=>
   (if(!d)=true then
    some (Stp.done (Sum.inr (false,f.out,f.dead)))
   else
    some (Stp.next (iw (a+1))))
  else
   some (Stp.done (Sum.inl ())))
def pFind_b3(N:Nat)(f:TFinder)(l:(List Int))(c:Int):((List Int)×Int)→Option (Stp ((List Int)×Int) (List Int))
 |(b,a)=>
  (if(a:Int)<(List.length f.tests:Int)then
   (idx f.tests a).bind fun d=>
   (idx l a).bind fun e=>
   (pNext N d e (uw8 c)).bind fun g=>
   (idx b a).bind fun j=>
   (upd1 b a g).bind fun i=>
   some (Stp.next (i,(iw (a+1))))
  else
   some (Stp.done b))
def pFind_b2(N:Nat)(self:TFinder→(List Int)→(List Int)→Int→Option (Bool×(List (List UInt8))×(List ((List UInt8)×Bool))))(f:TFinder)(l:(List Int))(left:Int)(text:(List Int)):((List (List UInt8))×(List ((List UInt8)×Bool))×Bool×Int)→Option (Stp ((List (List UInt8))×(List ((List UInt8)×Bool))×Bool×Int) ((List (List UInt8))×(List ((List UInt8)×Bool))×Bool))
 |(c,d,e,a)=>
  (((if(a:Int)≤126 then
   some (decide (((List.length c:Int):Int)<f.most))
  else
   some false):Option Bool)).bind fun ss=>
   match ss with
   |g=>
    (if g=true then
     (mk1 (α:=Int) 4 0 (List.length l:Int)).bind fun i=>
     (loopM (pFind_b3 N f l a) N (i,0)).bind fun ss=>
      match ss with
      |j=>
       (apnd 1 text [(uw8 a)]).bind fun k=>
       (self (TFinder.mk f.tests f.most c d) j k (iw (left-1))).bind fun b=>
       (if b.1=true then
        some (Stp.next (b.2.1,b.2.2,true,(iw32 (a+1))))
       else
        some (Stp.next (b.2.1,b.2.2,e,(iw32 (a+1)))))
    else
     some (Stp.done (c,d,e)))
def pFind_step(N:Nat)(self:TFinder→(List Int)→(List Int)→Int→Option (Bool×(List (List UInt8))×(List ((List UInt8)×Bool))))(f:TFinder)(l:(List Int))(text:(List Int))(left:Int):Option (Bool×(List (List UInt8))×(List ((List UInt8)×Bool))):=
 (if(left:Int)=0 then
  (loopM (pFind_b1 N f l) N 0).bind fun ss=>
   match ss with
   |(Sum.inl _)=>
    (apnd 16 f.out [(bstr text)]).bind fun e=>
    some (true,e,f.dead)
   |(Sum.inr g)=>some g
 else
  (pKey N l left).bind fun b=>
  (if(mget f.dead b false).1=true then
   some (false,f.out,f.dead)
  else
   (loopM (pFind_b2 N self f l left text) N (f.out,f.dead,false,32)).bind fun ss=>
    match ss with
    |(c,d,a)=>
     (if(!a)=true then
      some (a,c,(mput d b true))
     else
      some (a,c,d))))
def pFind:Nat→TFinder→(List Int)→(List Int)→Int→Option (Bool×(List (List UInt8))×(List ((List UInt8)×Bool)))
 |0=>fun _ _ _ _=>none
 |N+1=>pFind_step N (pFind N)
def pFBegin_b1(N:Nat)(f:TFinder):((List Int)×Int)→Option (Stp ((List Int)×Int) (List Int))
 |(b,a)=>
  (if(a:Int)<(List.length f.tests:Int)then
   (idx f.tests a).bind fun c=>
   (pBegin N c).bind fun d=>
   (apnd 4 b [d]).bind fun e=>
   some (Stp.next (e,(iw (a+1))))
  else
   some (Stp.done b))
def pFBegin(N:Nat)(f:TFinder):Option ((List Int)×(List (List UInt8))×(List ((List UInt8)×Bool))):=
 (loopM (pFBegin_b1 N f) N (([]:(List Int)),0)).bind fun ss=>
  match ss with
  |a=>
   some (a,f.out,f.dead)
def pWords(N:Nat)(l:(List TTest))(length:Int)(most:Int):Option (List (List UInt8)):=
 (((if(length:Int)<0 then
  some true
 else
  some (decide ((most:Int)≤0))):Option Bool)).bind fun ss=>
  match ss with
  |x2=>
   (if x2=true then
    some ([]:(List (List UInt8)))
   else
    (pFBegin N (TFinder.mk l most ([]:(List (List UInt8))) ([]:(List ((List UInt8)×Bool))))).bind fun a=>
    (pFind N (TFinder.mk l most a.2.1 a.2.2) a.1 ([]:(List Int)) length).bind fun b=>
    some b.2.1)
open Go Go.X
def indexInt_b1(N:Nat)(f:(Int→Option Bool))(s:(List Int)):Int→Option (Stp Int (Sum Unit Int))
 |a=>
  (if(a:Int)<(List.length s:Int)then
   (idx s a).bind fun b=>
   (f b).bind fun c=>
   (if c=true then
    some (Stp.done (Sum.inr a))
   else
    some (Stp.next (iw (a+1))))
  else
   some (Stp.done (Sum.inl ())))
def indexInt(N:Nat)(s:(List Int))(f:(Int→Option Bool)):Option Int:=
 (loopM (indexInt_b1 N f s) N 0).bind fun ss=>
  match ss with
  |(Sum.inl _)=>
   some (-1)
  |(Sum.inr a)=>some a
def containsInt(N:Nat)(s:(List Int))(f:(Int→Option Bool)):Option Bool:=
 (indexInt N s f).bind fun r1=>
 some (decide ((r1:Int)≥0))
def tclasses_b1(N:Nat)(x8:(List Int)):((List Int)×Int)→Option (Stp ((List Int)×Int) (List Int))
 |(b,a)=>
  (if(a:Int)<(List.length x8:Int)then
   (idx b a).bind fun d=>
   (upd1 b a a).bind fun c=>
   some (Stp.next (c,(iw (a+1))))
  else
   some (Stp.done b))
def tclasses_b3(N:Nat)(p:TProb):((List Int)×Bool×Int)→Option (Stp ((List Int)×Bool×Int) ((List Int)×Bool))
 |(a,f,c)=>
  (if(c:Int)<(List.length p.Same:Int)then
   (idx p.Same c).bind fun b=>
   (idx a b.e0).bind fun d=>
   (idx a b.e1).bind fun e=>
   (if(d:Int)≠e then
    (idx a b.e0).bind fun j=>
    (upd1 a b.e0 (imin d e)).bind fun g=>
    (idx g b.e1).bind fun k=>
    (upd1 g b.e1 (imin d e)).bind fun i=>
    some (Stp.next (i,true,(iw (c+1))))
   else
    some (Stp.next (a,f,(iw (c+1)))))
  else
   some (Stp.done (a,f)))
def tclasses_b2(N:Nat)(p:TProb):((List Int)×Bool)→Option (Stp ((List Int)×Bool) (List Int))
 |(a,b)=>
  (if b=true then
   (loopM (tclasses_b3 N p) N (a,false,0)).bind fun ss=>
    match ss with
    |(c,d)=>
     some (Stp.next (c,d))
  else
   some (Stp.done a))
def tclasses_b4(N:Nat)(d:(List Int)):((List Int)×Int×Int)→Option (Stp ((List Int)×Int×Int) ((List Int)×Int))
 |(b,c,a)=>
  (if(a:Int)<(List.length d:Int)then
   (idx d a).bind fun e=>
   (if(e:Int)=a then
    (idx b a).bind fun j=>
    (upd1 b a c).bind fun f=>
    some (Stp.next (f,(iw (c+1)),(iw (a+1))))
   else
    (idx b e).bind fun g=>
    (idx b a).bind fun k=>
    (upd1 b a g).bind fun i=>
    some (Stp.next (i,c,(iw (a+1)))))
  else
   some (Stp.done (b,c)))
def tclasses(N:Nat)(p:TProb):Option ((List Int)×Int):=
 (mk1 (α:=Int) 8 0 (List.length p.Min:Int)).bind fun x8=>
 (loopM (tclasses_b1 N x8) N (x8,0)).bind fun ss=>
  match ss with
  |b=>
   (loopM (tclasses_b2 N p) N (b,true)).bind fun ss=>
    match ss with
    |a=>
     (mk1 (α:=Int) 8 0 (List.length a:Int)).bind fun c=>
     (loopM (tclasses_b4 N a) N (c,0,0)).bind fun ss=>
      match ss with
      |(d,e)=>
       some (d,e)
def cloneTest(N:Nat)(s:(List TTest)):Option (List TTest):=
 (apnd 40 ([]:(List TTest)) s).bind fun a=>
 some a
def tgathered_b1(N:Nat)(d:(List TClass)):((List TClass)×Int)→Option (Stp ((List TClass)×Int) (List TClass))
 |(c,a)=>
  (if(a:Int)<(List.length d:Int)then
   (idx c a).bind fun b=>
   (upd1 c a (TClass.mk b.low 16 b.tests b.words b.apart)).bind fun e=>
   some (Stp.next (e,(iw (a+1))))
  else
   some (Stp.done c))
def tgathered_b2(N:Nat)(p:TProb)(r6:((List Int)×Int)):((List TClass)×Int)→Option (Stp ((List TClass)×Int) (List TClass))
 |(b,c)=>
  (if(c:Int)<(List.length r6.1:Int)then
   (idx r6.1 c).bind fun a=>
   (idx b a).bind fun g=>
   (idx p.Min c).bind fun i=>
   (idx b a).bind fun j=>
   (idx p.Max c).bind fun k=>
   (idx b a).bind fun d=>
   (upd1 b a (TClass.mk (imax g.low i) d.high d.tests d.words d.apart)).bind fun f=>
   (idx f a).bind fun e=>
   (upd1 f a (TClass.mk e.low (imin j.high k) e.tests e.words e.apart)).bind fun l=>
   some (Stp.next (l,(iw (c+1))))
  else
   some (Stp.done b))
def tgathered_b3(N:Nat)(p:TProb)(r6:((List Int)×Int)):((List TClass)×Int)→Option (Stp ((List TClass)×Int) (List TClass))
 |(a,d)=>
  (if(d:Int)<(List.length p.Tests:Int)then
   (idx p.Tests d).bind fun e=>
   (idx r6.1 e.Var).bind fun b=>
   (idx a b).bind fun f=>
   (idx a b).bind fun j=>
   (apnd 40 f.tests [e]).bind fun g=>
   (idx a b).bind fun c=>
   (upd1 a b (TClass.mk c.low c.high g c.words c.apart)).bind fun i=>
   some (Stp.next (i,(iw (d+1))))
  else
   some (Stp.done a))
def tgathered_b4(N:Nat)(p:TProb)(r6:((List Int)×Int)):((List TClass)×Int)→Option (Stp ((List TClass)×Int) (Sum (List TClass) ((List TClass)×(List Int)×Bool)))
 |(a,d)=>
  (if(d:Int)<(List.length p.Different:Int)then
   (idx p.Different d).bind fun g=>
   (idx r6.1 g.e0).bind fun b=>
   (idx r6.1 g.e1).bind fun c=>
   (if(b:Int)=c then
    some (Stp.done (Sum.inr (a,r6.1,false)))
   else
    (idx a b).bind fun j=>
    (idx a b).bind fun s=>
    (containsOf N j.apart c).bind fun k=>
    (if(!k)=true then
     (idx a b).bind fun l=>
     (idx a c).bind fun m=>
     (idx a b).bind fun u=>
     (apnd 8 l.apart [c]).bind fun n=>
     (idx a c).bind fun v=>
     (apnd 8 m.apart [b]).bind fun o=>
     (idx a b).bind fun e=>
     (upd1 a b (TClass.mk e.low e.high e.tests e.words n)).bind fun i=>
     (idx i c).bind fun f=>
     (upd1 i c (TClass.mk f.low f.high f.tests f.words o)).bind fun q=>
     some (Stp.next (q,(iw (d+1))))
    else
     some (Stp.next (a,(iw (d+1))))))
  else
   some (Stp.done (Sum.inl a)))
def tgathered(N:Nat)(p:TProb):Option ((List TClass)×(List Int)×Bool):=
 (tclasses N p).bind fun r6=>
 (mk1 (α:=TClass) 88 (TClass.mk 0 0 [] [] []) r6.2).bind fun a=>
 (loopM (tgathered_b1 N a) N (a,0)).bind fun ss=>
  match ss with
  |b=>
   (loopM (tgathered_b2 N p r6) N (b,0)).bind fun ss=>
    match ss with
    |c=>
     (loopM (tgathered_b3 N p r6) N (c,0)).bind fun ss=>
      match ss with
      |d=>
       (loopM (tgathered_b4 N p r6) N (d,0)).bind fun ss=>
        match ss with
        |(Sum.inl e)=>
         some (e,r6.1,true)
        |(Sum.inr f)=>some f
def tfirst_b2(N:Nat)(c:TClass)(most:Int)(e:Int):((List (List UInt8))×(List TTest))→Option (Stp ((List (List UInt8))×(List TTest)) (List (List UInt8)))
 |(a,f)=>
  (if((List.length a:Int):Int)<most then
   (pWords N f e (imin 100 (iw (most-(List.length a:Int))))).bind fun b=>
   (apnd 16 a b).bind fun d=>
   (if((List.length b:Int):Int)<100 then
    some (Stp.done d)
   else
    (cloneTest N c.tests).bind fun g=>
    (idx b (iw ((List.length b:Int)-1))).bind fun i=>
    (apnd 40 g [(TTest.mk 0 3 true i)]).bind fun j=>
    some (Stp.next (d,j)))
  else
   some (Stp.done a))
def tfirst_b1(N:Nat)(c:TClass)(most:Int):((List (List UInt8))×Int)→Option (Stp ((List (List UInt8))×Int) (List (List UInt8)))
 |(a,b)=>
  (((if(b:Int)≤c.high then
   some (decide (((List.length a:Int):Int)<most))
  else
   some false):Option Bool)).bind fun ss=>
   match ss with
   |d=>
    (if d=true then
     (cloneTest N c.tests).bind fun e=>
     (loopM (tfirst_b2 N c most b) N (a,e)).bind fun ss=>
      match ss with
      |f=>
       some (Stp.next (f,(iw (b+1))))
    else
     some (Stp.done a))
def tfirst(N:Nat)(c:TClass)(most:Int):Option (List (List UInt8)):=
 (loopM (tfirst_b1 N c most) N (([]:(List (List UInt8))),c.low)).bind fun ss=>
  match ss with
  |a=>
   some a
def revInt_b1(N:Nat):((List Int)×Int×Int)→Option (Stp ((List Int)×Int×Int) (List Int))
 |(a,b,c)=>
  (if(b:Int)<c then
   (idx a c).bind fun e=>
   (idx a b).bind fun f=>
   (idx a b).bind fun i=>
   (upd1 a b e).bind fun d=>
   (idx d c).bind fun j=>
   (upd1 d c f).bind fun g=>
   some (Stp.next (g,(iw (b+1)),(iw (c-1))))
  else
   some (Stp.done a))
def revInt(N:Nat)(s:(List Int)):Option (List Int):=
 (loopM (revInt_b1 N) N (s,0,(iw ((List.length s:Int)-1)))).bind fun ss=>
  match ss with
  |a=>
   some a
def tchoose1(N:Nat)(other:Int)(ca:(List Bool))(cb:(List (List UInt8)))(cc:(List UInt8)):Option Bool:=
 (idx ca other).bind fun x1=>
 (if x1=true then
  (idx cb other).bind fun a=>
  some (decide (a=cc))
 else
  some false)
def tchoose_b1(N:Nat)(self:(List TClass)→(List Int)→(List (List UInt8))→(List Bool)→Option (Bool×Bool×(List (List UInt8))×(List Bool)))(l:(List TClass))(order:(List Int))(words:(List (List UInt8)))(e:Int)(f:TClass):((List (List UInt8))×(List Bool)×Int)→Option (Stp ((List (List UInt8))×(List Bool)×Int) (Sum ((List (List UInt8))×(List Bool)) (Bool×Bool×(List (List UInt8))×(List Bool))))
 |(b,c,d)=>
  (if(d:Int)<(List.length f.words:Int)then
   (idx f.words d).bind fun g=>
   (idx l e).bind fun i=>
   (containsInt N i.apart (fun j=>tchoose1 N j c b g)).bind fun k=>
   (if k=true then
    some (Stp.next (b,c,(iw (d+1))))
   else
    (idx b e).bind fun o=>
    (upd1 b e g).bind fun m=>
    (cut order 1 (List.length order:Int)).bind fun n=>
    (self l n m c).bind fun a=>
    (if a.2.1=true then
     some (Stp.done (Sum.inr (a.1,true,a.2.2.1,a.2.2.2)))
    else
     some (Stp.next (a.2.2.1,a.2.2.2,(iw (d+1))))))
  else
   some (Stp.done (Sum.inl (b,c))))
def tchoose_step(N:Nat)(self:(List TClass)→(List Int)→(List (List UInt8))→(List Bool)→Option (Bool×Bool×(List (List UInt8))×(List Bool)))(l:(List TClass))(order:(List Int))(words:(List (List UInt8)))(known:(List Bool)):Option (Bool×Bool×(List (List UInt8))×(List Bool)):=
 (if((List.length order:Int):Int)=0 then
  some (true,true,words,known)
 else
  (idx order 0).bind fun a=>
  (idx known a).bind fun i=>
  (upd1 known a true).bind fun c=>
  (idx l a).bind fun d=>
  (loopM (tchoose_b1 N self l order words a d) N (words,c,0)).bind fun ss=>
   match ss with
   |(Sum.inl (e,b))=>
    (idx b a).bind fun j=>
    (upd1 b a false).bind fun f=>
    some (false,false,e,f)
   |(Sum.inr g)=>some g)
def tchoose:Nat→(List TClass)→(List Int)→(List (List UInt8))→(List Bool)→Option (Bool×Bool×(List (List UInt8))×(List Bool))
 |0=>fun _ _ _ _=>none
 |N+1=>tchoose_step N (tchoose N)
def insSort_b2(N:Nat)(a:Int)(cmp:(Int→Int→Option Int)):((List Int)×Int)→Option (Stp ((List Int)×Int) (List Int))
 |(c,b)=>
  (((if(b:Int)>a then
   (idx c b).bind fun e=>
   (idx c (iw (b-1))).bind fun f=>
   (cmp e f).bind fun g=>
   some (decide ((g:Int)<0))
  else
   some false):Option Bool)).bind fun ss=>
   match ss with
   |i=>
    (if i=true then
     (idx c (iw (b-1))).bind fun j=>
     (idx c b).bind fun k=>
     (idx c b).bind fun m=>
     (upd1 c b j).bind fun d=>
     (idx d (iw (b-1))).bind fun n=>
     (upd1 d (iw (b-1)) k).bind fun l=>
     some (Stp.next (l,(iw (b-1))))
    else
     some (Stp.done c))
def insSort_b1(N:Nat)(a:Int)(b:Int)(cmp:(Int→Int→Option Int)):((List Int)×Int)→Option (Stp ((List Int)×Int) (List Int))
 |(d,c)=>
  (if(c:Int)<b then
   (loopM (insSort_b2 N a cmp) N (d,c)).bind fun ss=>
    match ss with
    |e=>
     some (Stp.next (e,(iw (c+1))))
  else
   some (Stp.done d))
def insSort(N:Nat)(data:(List Int))(a:Int)(b:Int)(cmp:(Int→Int→Option Int)):Option (List Int):=
 (loopM (insSort_b1 N a b cmp) N (data,(iw (a+1)))).bind fun ss=>
  match ss with
  |c=>
   some c
def stableSort_b1(N:Nat)(cmp:(Int→Int→Option Int))(n:Int):((List Int)×Int×Int)→Option (Stp ((List Int)×Int×Int) ((List Int)×Int))
 |(b,c,a)=>
  (if(a:Int)≤n then
   (insSort N b c a cmp).bind fun d=>
   some (Stp.next (d,a,(iw (a+20))))
  else
   some (Stp.done (b,c)))
def stableSort_b3(N:Nat)(n:Int)(a:Int):Unit→Option (Stp Unit Unit)
 |_=>
  (if((iw (2*a)):Int)≤n then
   none
  else
   some (Stp.done ()))
def stableSort_b2(N:Nat)(n:Int):Int→Option (Stp Int Unit)
 |a=>
  (if(a:Int)<n then
   (loopM (stableSort_b3 N n a) N ()).bind fun ss=>
    match ss with
    |_=>
     (if((iw (0+a)):Int)<n then
      none
     else
      some (Stp.next (iw (a*2))))
  else
   some (Stp.done ()))
def stableSort(N:Nat)(data:(List Int))(n:Int)(cmp:(Int→Int→Option Int)):Option (List Int):=
 (loopM (stableSort_b1 N cmp n) N (data,0,20)).bind fun ss=>
  match ss with
  |(a,b)=>
   (insSort N a b n cmp).bind fun c=>
   (loopM (stableSort_b2 N n) N 20).bind fun ss=>
    match ss with
    |_=>
     some c
def sortStable(N:Nat)(x:(List Int))(cmp:(Int→Int→Option Int)):Option (List Int):=
 (stableSort N x (List.length x:Int) cmp).bind fun r2=>
 some r2
def tSolve1(N:Nat)(a:Int)(b:Int)(ca:(List TClass)):Option Int:=
 (idx ca a).bind fun x1=>
 (idx ca b).bind fun c=>
 some (iw ((List.length x1.words:Int)-(List.length c.words:Int)))
def tSolve_b1(N:Nat)(r6:((List TClass)×(List Int)×Bool)):((List TClass)×Int)→Option (Stp ((List TClass)×Int) (Sum (List TClass) ((List (List UInt8))×Bool)))
 |(b,a)=>
  (if(a:Int)<(List.length r6.1:Int)then
   (idx b a).bind fun e=>
   (idx b a).bind fun f=>
   (tfirst N e (iw ((List.length f.apart:Int)+1))).bind fun g=>
   (idx b a).bind fun c=>
   (upd1 b a (TClass.mk c.low c.high c.tests g c.apart)).bind fun d=>
   (idx d a).bind fun i=>
   (if((List.length i.words:Int):Int)=0 then
    some (Stp.done (Sum.inr (([]:(List (List UInt8))),false)))
   else
    some (Stp.next (d,(iw (a+1)))))
  else
   some (Stp.done (Sum.inl b)))
def tSolve_b2(N:Nat)(c:(List TClass)):((List Int)×Int)→Option (Stp ((List Int)×Int) (List Int))
 |(b,a)=>
  (if(a:Int)<(List.length c:Int)then
   (idx c a).bind fun d=>
   (idx b a).bind fun f=>
   (upd1 b a (List.length d.apart:Int)).bind fun e=>
   some (Stp.next (e,(iw (a+1))))
  else
   some (Stp.done b))
def tSolve_b5(N:Nat)(d:TClass):((List Int)×Int)→Option (Stp ((List Int)×Int) (List Int))
 |(a,b)=>
  (if(b:Int)<(List.length d.apart:Int)then
   (idx d.apart b).bind fun c=>
   (idx a c).bind fun e=>
   (idx a c).bind fun g=>
   (upd1 a c (iw (e-1))).bind fun f=>
   some (Stp.next (f,(iw (b+1))))
  else
   some (Stp.done a))
def tSolve_b4(N:Nat)(d:(List TClass)):((List Int)×(List Int)×(List Bool)×Bool×Int)→Option (Stp ((List Int)×(List Int)×(List Bool)×Bool×Int) ((List Int)×(List Int)×(List Bool)×Bool))
 |(e,c,b,f,a)=>
  (if(a:Int)<(List.length d:Int)then
   (((idx b a).bind fun g=>
   (if(!g)=true then
    (idx d a).bind fun i=>
    (idx c a).bind fun j=>
    some (decide (((List.length i.words:Int):Int)>j))
   else
    some false):Option Bool)).bind fun ss=>
    match ss with
    |k=>
     (if k=true then
      (idx b a).bind fun p=>
      (upd1 b a true).bind fun l=>
      (apnd 8 e [a]).bind fun m=>
      (idx d a).bind fun n=>
      (loopM (tSolve_b5 N n) N (c,0)).bind fun ss=>
       match ss with
       |o=>
        some (Stp.next (m,o,l,true,(iw (a+1))))
     else
      some (Stp.next (e,c,b,f,(iw (a+1)))))
  else
   some (Stp.done (e,c,b,f)))
def tSolve_b3(N:Nat)(c:(List TClass)):((List Int)×(List Int)×(List Bool)×Bool)→Option (Stp ((List Int)×(List Int)×(List Bool)×Bool) ((List Int)×(List Bool)))
 |(a,d,b,e)=>
  (if e=true then
   (loopM (tSolve_b4 N c) N (a,d,b,false,0)).bind fun ss=>
    match ss with
    |(f,g,i,j)=>
     some (Stp.next (f,g,i,j))
  else
   some (Stp.done (a,b)))
def tSolve_b6(N:Nat)(c:(List TClass))(d:(List Bool)):((List Int)×Int)→Option (Stp ((List Int)×Int) (List Int))
 |(b,a)=>
  (if(a:Int)<(List.length c:Int)then
   (idx d a).bind fun e=>
   (if(!e)=true then
    (apnd 8 b [a]).bind fun f=>
    some (Stp.next (f,(iw (a+1))))
   else
    some (Stp.next (b,(iw (a+1)))))
  else
   some (Stp.done b))
def tSolve_b7(N:Nat)(r6:((List TClass)×(List Int)×Bool))(c:(Bool×Bool×(List (List UInt8))×(List Bool))):((List (List UInt8))×Int)→Option (Stp ((List (List UInt8))×Int) (List (List UInt8)))
 |(b,a)=>
  (if(a:Int)<(List.length r6.2.1:Int)then
   (idx r6.2.1 a).bind fun d=>
   (idx c.2.2.1 d).bind fun e=>
   (idx b a).bind fun g=>
   (upd1 b a e).bind fun f=>
   some (Stp.next (f,(iw (a+1))))
  else
   some (Stp.done b))
def tSolve(N:Nat)(p:TProb):Option ((List (List UInt8))×Bool):=
 (tgathered N p).bind fun r6=>
 (if(!r6.2.2)=true then
  some (([]:(List (List UInt8))),false)
 else
  (loopM (tSolve_b1 N r6) N (r6.1,0)).bind fun ss=>
   match ss with
   |(Sum.inl a)=>
    (mk1 (α:=Int) 8 0 (List.length a:Int)).bind fun c=>
    (mk1 (α:=Bool) 1 false (List.length a:Int)).bind fun d=>
    (loopM (tSolve_b2 N a) N (c,0)).bind fun ss=>
     match ss with
     |e=>
      (loopM (tSolve_b3 N a) N (([]:(List Int)),e,d,true)).bind fun ss=>
       match ss with
       |(f,g)=>
        (loopM (tSolve_b6 N a g) N (([]:(List Int)),0)).bind fun ss=>
         match ss with
         |i=>
          (sortStable N i (fun j k=>tSolve1 N j k a)).bind fun l=>
          (revInt N f).bind fun m=>
          (apnd 8 l m).bind fun n=>
          (mk1 (α:=(List UInt8)) 16 [] (List.length a:Int)).bind fun o=>
          (mk1 (α:=Bool) 1 false (List.length a:Int)).bind fun q=>
          (tchoose N a n o q).bind fun b=>
          (if(!b.2.1)=true then
           some (([]:(List (List UInt8))),false)
          else
           (chk (b.1=true)).bind fun _=>
           (mk1 (α:=(List UInt8)) 16 [] (List.length r6.2.1:Int)).bind fun s=>
           (loopM (tSolve_b7 N r6 b) N (s,0)).bind fun ss=>
            match ss with
            |u=>
             some (u,true))
   |(Sum.inr v)=>some v)
open Go Go.X
def sAbs(N:Nat)(n:Int):Option Int:=
 (if(n:Int)<0 then
  some (iw (0-n))
 else
  some n)
def sWithin(N:Nat)(n:Int)(low:Int)(high:Int):Option Bool:=
 (if(n:Int)≥low then
  some (decide ((n:Int)≤high))
 else
  some false)
def sHas_b1(N:Nat)(l:(List Int))(n:Int):Int→Option (Stp Int (Sum Unit Bool))
 |a=>
  (if(a:Int)<(List.length l:Int)then
   (idx l a).bind fun b=>
   (if(b:Int)=n then
    some (Stp.done (Sum.inr true))
   else
    some (Stp.next (iw (a+1))))
  else
   some (Stp.done (Sum.inl ())))
def sHas(N:Nat)(l:(List Int))(n:Int):Option Bool:=
 (loopM (sHas_b1 N l n) N 0).bind fun ss=>
  match ss with
  |(Sum.inl _)=>
   some false
  |(Sum.inr a)=>some a
def sForm_b1(N:Nat)(bounds:(List Int))(c:RClause)(f:Linear)(l:(List RVar)):(Int×Int)→Option (Stp (Int×Int) (Sum Int Int))
 |(d,b)=>
  (if(b:Int)<(List.length f.Coefs:Int)then
   (idx f.Coefs b).bind fun a=>
   (((if(a.Var:Int)<0 then
    some true
   else
    (if(a.Var:Int)≥(iw ((List.length l:Int)+(List.length bounds:Int)))then
     some true
    else
     (if(b:Int)>0 then
      (idx f.Coefs (iw (b-1))).bind fun i=>
      (if(i.Var:Int)≥a.Var then
       some true
      else
       (if(a.N:Int)=0 then
        some true
       else
        (sWithin N a.N (-1048576) 1048576).bind fun j=>
        some (!j)))
     else
      (if(a.N:Int)=0 then
       some true
      else
       (sWithin N a.N (-1048576) 1048576).bind fun k=>
       some (!k))))):Option Bool)).bind fun ss=>
    match ss with
    |m=>
     (if m=true then
      some (Stp.done (Sum.inr (-1)))
     else
      (((if(a.Var:Int)≥(List.length l:Int)then
       (idx bounds (iw (a.Var-(List.length l:Int)))).bind fun n=>
       some (Sum.inl n)
      else
       (((idx l a.Var).bind fun o=>
       (if(o.Ty:Int)≠1 then
        some true
       else
        (sHas N c.NotNull a.Var).bind fun p=>
        some (!p)):Option Bool)).bind fun ss=>
        match ss with
        |q=>
         (if q=true then
          some (Sum.inr (-1))
         else
          some (Sum.inl 2147483648))):Option (Sum Int Int))).bind fun ss=>
       match ss with
       |(Sum.inl e)=>
        (sAbs N a.N).bind fun s=>
        (sdiv .i64 1152921504606846977 s).bind fun u=>
        (if(e:Int)>u then
         some (Stp.done (Sum.inr (-1)))
        else
         (sAbs N a.N).bind fun g=>
         (if((iw (d+(iw (g*e)))):Int)>1152921504606846977 then
          some (Stp.done (Sum.inr (-1)))
         else
          some (Stp.next ((iw (d+(iw (g*e)))),(iw (b+1))))))
       |(Sum.inr v)=>some (Stp.done (Sum.inr v)))
  else
   some (Stp.done (Sum.inl d)))
def sForm(N:Nat)(f:Linear)(c:RClause)(l:(List RVar))(bounds:(List Int)):Option Int:=
 (sWithin N f.Const (-1099511627777) 1099511627777).bind fun a=>
 (if(!a)=true then
  some (-1)
 else
  (sAbs N f.Const).bind fun b=>
  (loopM (sForm_b1 N bounds c f l) N (b,0)).bind fun ss=>
   match ss with
   |(Sum.inl d)=>
    some d
   |(Sum.inr e)=>some e)
def sAscending_b1(N:Nat)(l:(List Int))(n:Int):Int→Option (Stp Int (Sum Unit Bool))
 |a=>
  (if(a:Int)<(List.length l:Int)then
   (((idx l a).bind fun b=>
   (if(b:Int)<0 then
    some true
   else
    (idx l a).bind fun c=>
    (if(c:Int)≥n then
     some true
    else
     (if(a:Int)>0 then
      (idx l (iw (a-1))).bind fun d=>
      (idx l a).bind fun e=>
      some (decide ((d:Int)≥e))
     else
      some false))):Option Bool)).bind fun ss=>
    match ss with
    |f=>
     (if f=true then
      some (Stp.done (Sum.inr false))
     else
      some (Stp.next (iw (a+1))))
  else
   some (Stp.done (Sum.inl ())))
def sAscending(N:Nat)(l:(List Int))(n:Int):Option Bool:=
 (loopM (sAscending_b1 N l n) N 0).bind fun ss=>
  match ss with
  |(Sum.inl _)=>
   some true
  |(Sum.inr a)=>some a
def sText(N:Nat)(pa:Int)(c:RClause)(l:(List RVar)):Option Bool:=
 (if(pa:Int)≥0 then
  (if(pa:Int)<(List.length l:Int)then
   (idx l pa).bind fun x9=>
   (if(x9.Ty:Int)=2 then
    (sHas N c.NotNull pa).bind fun a=>
    some a
   else
    some false)
  else
   some false)
 else
  some false)
def sPairs_b1(N:Nat)(c:RClause)(l:(List RVar))(p:(List Arr2Int)):Int→Option (Stp Int (Sum Unit Bool))
 |a=>
  (if(a:Int)<(List.length p:Int)then
   (((idx p a).bind fun b=>
   (sText N b.e0 c l).bind fun d=>
   (if(!d)=true then
    some true
   else
    (idx p a).bind fun e=>
    (sText N e.e1 c l).bind fun f=>
    (if(!f)=true then
     some true
    else
     (idx p a).bind fun g=>
     (idx p a).bind fun i=>
     some (decide ((g.e0:Int)≥i.e1)))):Option Bool)).bind fun ss=>
    match ss with
    |j=>
     (if j=true then
      some (Stp.done (Sum.inr false))
     else
      some (Stp.next (iw (a+1))))
  else
   some (Stp.done (Sum.inl ())))
def sPairs(N:Nat)(p:(List Arr2Int))(c:RClause)(l:(List RVar)):Option Bool:=
 (loopM (sPairs_b1 N c l p) N 0).bind fun ss=>
  match ss with
  |(Sum.inl _)=>
   some true
  |(Sum.inr a)=>some a
def sTested_b1(N:Nat)(t:TTest):Int→Option (Stp Int (Sum Unit Bool))
 |a=>
  (if(a:Int)<(List.length t.Text:Int)then
   (((idx t.Text a).bind fun b=>
   (if((UInt8.toNat b:Int):Int)<32 then
    some true
   else
    (idx t.Text a).bind fun c=>
    some (decide (((UInt8.toNat c:Int):Int)>126))):Option Bool)).bind fun ss=>
    match ss with
    |d=>
     (if d=true then
      some (Stp.done (Sum.inr false))
     else
      some (Stp.next (iw (a+1))))
  else
   some (Stp.done (Sum.inl ())))
def sTested(N:Nat)(t:TTest):Option Bool:=
 (loopM (sTested_b1 N t) N 0).bind fun ss=>
  match ss with
  |(Sum.inl _)=>
   (if(t.Kind:Int)≥0 then
    (if(t.Kind:Int)≤3 then
     some (decide (((List.length t.Text:Int):Int)≤16))
    else
     some false)
   else
    some false)
  |(Sum.inr a)=>some a
def sValid_b1(N:Nat)(c:RClause)(l:(List RVar)):((List Int)×Int)→Option (Stp ((List Int)×Int) (Sum (List Int) Bool))
 |(b,d)=>
  (if(d:Int)<(List.length c.Auxiliary:Int)then
   (idx c.Auxiliary d).bind fun a=>
   (if(a.By:Int)=0 then
    (((if((List.length a.Of.Coefs:Int):Int)>0 then
     some true
    else
     (if(a.Of.Const:Int)≠0 then
      some true
     else
      (sText N a.Text c l).bind fun f=>
      some (!f))):Option Bool)).bind fun ss=>
     match ss with
     |g=>
      (if g=true then
       some (Stp.done (Sum.inr false))
      else
       (apnd 8 b [16]).bind fun i=>
       some (Stp.next (i,(iw (d+1)))))
   else
    (sForm N a.Of c l b).bind fun e=>
    (((sWithin N a.By 1 1000).bind fun j=>
    (if(!j)=true then
     some true
    else
     (if(a.Text:Int)≠0 then
      some true
     else
      some (decide ((e:Int)<0)))):Option Bool)).bind fun ss=>
     match ss with
     |k=>
      (if k=true then
       some (Stp.done (Sum.inr false))
      else
       (sdiv .i64 e a.By).bind fun m=>
       (apnd 8 b [(iw (m+1))]).bind fun n=>
       some (Stp.next (n,(iw (d+1))))))
  else
   some (Stp.done (Sum.inl b)))
def sValid_b2(N:Nat)(c:RClause)(l:(List RVar))(b:(List Int)):Int→Option (Stp Int (Sum Unit Bool))
 |a=>
  (if(a:Int)<(List.length c.Ints:Int)then
   (idx c.Ints a).bind fun d=>
   (sForm N d.Linear c l b).bind fun e=>
   (if(e:Int)<0 then
    some (Stp.done (Sum.inr false))
   else
    some (Stp.next (iw (a+1))))
  else
   some (Stp.done (Sum.inl ())))
def sValid_b3(N:Nat)(c:RClause)(l:(List RVar)):Int→Option (Stp Int (Sum Unit Bool))
 |a=>
  (if(a:Int)<(List.length c.Tests:Int)then
   (((idx c.Tests a).bind fun b=>
   (sTested N b).bind fun d=>
   (if(!d)=true then
    some true
   else
    (idx c.Tests a).bind fun e=>
    (sText N e.Var c l).bind fun f=>
    some (!f)):Option Bool)).bind fun ss=>
    match ss with
    |g=>
     (if g=true then
      some (Stp.done (Sum.inr false))
     else
      some (Stp.next (iw (a+1))))
  else
   some (Stp.done (Sum.inl ())))
def sValid(N:Nat)(c:RClause)(l:(List RVar)):Option Bool:=
 (((sAscending N c.Null (List.length l:Int)).bind fun a=>
 (if(!a)=true then
  some true
 else
  (sAscending N c.NotNull (List.length l:Int)).bind fun b=>
  some (!b)):Option Bool)).bind fun ss=>
  match ss with
  |d=>
   (if d=true then
    some false
   else
    (loopM (sValid_b1 N c l) N (([]:(List Int)),0)).bind fun ss=>
     match ss with
     |(Sum.inl e)=>
      (loopM (sValid_b2 N c l e) N 0).bind fun ss=>
       match ss with
       |(Sum.inl _)=>
        (loopM (sValid_b3 N c l) N 0).bind fun ss=>
         match ss with
         |(Sum.inl _)=>
          (sPairs N c.Same c l).bind fun f=>
          (if f=true then
           (sPairs N c.Different c l).bind fun g=>
           some g
          else
           some false)
         |(Sum.inr i)=>some i
       |(Sum.inr j)=>some j
     |(Sum.inr k)=>some k)
def sFew_b1(N:Nat)(c:RClause):(Int×Int)→Option (Stp (Int×Int) Int)
 |(a,i64)=>
  (if(i64:Int)<(List.length c.Auxiliary:Int)then
   (idx c.Auxiliary i64).bind fun b=>
   some (Stp.next ((iw (a+(List.length b.Of.Coefs:Int))),(iw (i64+1))))
  else
   some (Stp.done a))
def sFew_b2(N:Nat)(c:RClause):(Int×Int)→Option (Stp (Int×Int) Int)
 |(b,a)=>
  (if(a:Int)<(List.length c.Ints:Int)then
   (idx c.Ints a).bind fun d=>
   some (Stp.next ((iw (b+(List.length d.Linear.Coefs:Int))),(iw (a+1))))
  else
   some (Stp.done b))
def sFew_b3(N:Nat)(c:RClause):Int→Option (Stp Int (Sum Unit Bool))
 |a=>
  (if(a:Int)<(List.length c.Tests:Int)then
   (idx c.Tests a).bind fun b=>
   (if((List.length b.Text:Int):Int)>40 then
    some (Stp.done (Sum.inr false))
   else
    some (Stp.next (iw (a+1))))
  else
   some (Stp.done (Sum.inl ())))
def sFew(N:Nat)(c:RClause):Option Bool:=
 (if((iw ((iw ((iw ((iw ((iw ((iw ((List.length c.Null:Int)+(List.length c.NotNull:Int)))+(List.length c.Auxiliary:Int)))+(List.length c.Ints:Int)))+(List.length c.Tests:Int)))+(List.length c.Same:Int)))+(List.length c.Different:Int))):Int)>80 then
  some false
 else
  (loopM (sFew_b1 N c) N ((iw ((iw ((iw ((iw ((iw ((iw ((List.length c.Null:Int)+(List.length c.NotNull:Int)))+(List.length c.Auxiliary:Int)))+(List.length c.Ints:Int)))+(List.length c.Tests:Int)))+(List.length c.Same:Int)))+(List.length c.Different:Int))),0)).bind fun ss=>
   match ss with
   |a=>
    (loopM (sFew_b2 N c) N (a,0)).bind fun ss=>
     match ss with
     |b=>
      (loopM (sFew_b3 N c) N 0).bind fun ss=>
       match ss with
       |(Sum.inl _)=>
        some (decide ((b:Int)≤400))
       |(Sum.inr d)=>some d)
open Go Go.X
def cloneCoef(N:Nat)(s:(List Coef)):Option (List Coef):=
 (apnd 16 ([]:(List Coef)) s).bind fun a=>
 some a
def clonePair(N:Nat)(s:(List Arr2Int)):Option (List Arr2Int):=
 (apnd 16 ([]:(List Arr2Int)) s).bind fun a=>
 some a
def vfirst_b1(N:Nat)(l:(List RVar)):((List Arr2Int)×Int)→Option (Stp ((List Arr2Int)×Int) (List Arr2Int))
 |(b,a)=>
  (if(a:Int)<(List.length l:Int)then
   (idx l a).bind fun c=>
   (if(c.Ty:Int)=2 then
    (idx b a).bind fun d=>
    (upd1 b a (Arr2Int.mk d.e0 c.Max)).bind fun e=>
    some (Stp.next (e,(iw (a+1))))
   else
    some (Stp.next (b,(iw (a+1)))))
  else
   some (Stp.done b))
def vfirst(N:Nat)(l:(List RVar)):Option (List Arr2Int):=
 (mk1 (α:=Arr2Int) 16 (Arr2Int.mk 0 0) (List.length l:Int)).bind fun x2=>
 (loopM (vfirst_b1 N l) N (x2,0)).bind fun ss=>
  match ss with
  |a=>
   some a
def vhigh(N:Nat)(l:(List RVar))(ranges:(List Arr2Int))(pc:Int):Option Int:=
 (idx ranges pc).bind fun x1=>
 (idx l pc).bind fun a=>
 some (imin x1.e1 a.Max)
def vbounds(N:Nat)(pa:Int)(low:Int)(high:Int):Option (List Constraint):=
 some [(Constraint.mk (Linear.mk low [(Coef.mk pa (-1))]) false),(Constraint.mk (Linear.mk (iw (0-high)) [(Coef.mk pa 1)]) false)]
def vquotient_b1(N:Nat)(pb:Linear):((List Coef)×(List Coef)×Int)→Option (Stp ((List Coef)×(List Coef)×Int) ((List Coef)×(List Coef)))
 |(c,d,a)=>
  (if(a:Int)<(List.length pb.Coefs:Int)then
   (idx pb.Coefs a).bind fun b=>
   (apnd 16 c [(Coef.mk b.Var (iw (0-b.N)))]).bind fun e=>
   (apnd 16 d [b]).bind fun f=>
   some (Stp.next (e,f,(iw (a+1))))
  else
   some (Stp.done (c,d)))
def vquotient(N:Nat)(q:Int)(pb:Linear)(pc:Int):Option (List Constraint):=
 (loopM (vquotient_b1 N pb) N (([]:(List Coef)),([]:(List Coef)),0)).bind fun ss=>
  match ss with
  |(a,b)=>
   (apnd 16 a [(Coef.mk q pc)]).bind fun c=>
   (apnd 16 b [(Coef.mk q (iw (0-pc)))]).bind fun d=>
   some [(Constraint.mk (Linear.mk (iw (0-pb.Const)) c) false),(Constraint.mk (Linear.mk (iw (pb.Const-(iw (pc-1)))) d) false)]
def vInts_b1(N:Nat)(c:RClause)(l:(List RVar)):((List Constraint)×Int)→Option (Stp ((List Constraint)×Int) (List Constraint))
 |(d,a)=>
  (if(a:Int)<(List.length c.NotNull:Int)then
   (idx c.NotNull a).bind fun b=>
   (idx l b).bind fun e=>
   (if(e.Ty:Int)=1 then
    (idx l b).bind fun f=>
    (idx l b).bind fun g=>
    (vbounds N b f.Low g.High).bind fun i=>
    (apnd 40 d i).bind fun j=>
    some (Stp.next (j,(iw (a+1))))
   else
    some (Stp.next (d,(iw (a+1)))))
  else
   some (Stp.done d))
def vInts_b2(N:Nat)(c:RClause)(l:(List RVar))(ranges:(List Arr2Int)):((List Constraint)×Int)→Option (Stp ((List Constraint)×Int) (List Constraint))
 |(d,a)=>
  (if(a:Int)<(List.length c.Auxiliary:Int)then
   (idx c.Auxiliary a).bind fun b=>
   (if(b.By:Int)=0 then
    (idx ranges b.Text).bind fun e=>
    (vhigh N l ranges b.Text).bind fun f=>
    (vbounds N (iw ((List.length l:Int)+a)) e.e0 f).bind fun g=>
    (apnd 40 d g).bind fun i=>
    some (Stp.next (i,(iw (a+1))))
   else
    (vquotient N (iw ((List.length l:Int)+a)) b.Of b.By).bind fun j=>
    (apnd 40 d j).bind fun k=>
    some (Stp.next (k,(iw (a+1)))))
  else
   some (Stp.done d))
def vInts_b3(N:Nat)(c:RClause):((List Constraint)×Int)→Option (Stp ((List Constraint)×Int) (List Constraint))
 |(d,a)=>
  (if(a:Int)<(List.length c.Ints:Int)then
   (idx c.Ints a).bind fun b=>
   (cloneCoef N b.Linear.Coefs).bind fun e=>
   (apnd 40 d [(Constraint.mk (Linear.mk b.Linear.Const e) b.Equal)]).bind fun f=>
   some (Stp.next (f,(iw (a+1))))
  else
   some (Stp.done d))
def vInts(N:Nat)(l:(List RVar))(c:RClause)(ranges:(List Arr2Int)):Option (Int×(List Constraint)):=
 (loopM (vInts_b1 N c l) N (([]:(List Constraint)),0)).bind fun ss=>
  match ss with
  |a=>
   (loopM (vInts_b2 N c l ranges) N (a,0)).bind fun ss=>
    match ss with
    |b=>
     (loopM (vInts_b3 N c) N (b,0)).bind fun ss=>
      match ss with
      |d=>
       some ((iw ((List.length l:Int)+(List.length c.Auxiliary:Int))),d)
def vTexts_b1(N:Nat)(c:RClause)(l:(List RVar))(ranges:(List Arr2Int)):((List Int)×(List Int)×(List Int)×(List (Int×Int))×Int)→Option (Stp ((List Int)×(List Int)×(List Int)×(List (Int×Int))×Int) ((List Int)×(List Int)×(List Int)×(List (Int×Int))))
 |(e,f,b,g,d)=>
  (if(d:Int)<(List.length c.NotNull:Int)then
   (idx c.NotNull d).bind fun a=>
   (idx l a).bind fun i=>
   (if(i.Ty:Int)=2 then
    (apnd 8 b [a]).bind fun j=>
    (idx ranges a).bind fun k=>
    (apnd 8 e [k.e0]).bind fun m=>
    (vhigh N l ranges a).bind fun n=>
    (apnd 8 f [n]).bind fun o=>
    some (Stp.next (m,o,j,(mput g a (List.length b:Int)),(iw (d+1))))
   else
    some (Stp.next (e,f,b,g,(iw (d+1)))))
  else
   some (Stp.done (e,f,b,g)))
def vTexts_b2(N:Nat)(c:RClause)(e:(List (Int×Int))):((List TTest)×Int)→Option (Stp ((List TTest)×Int) (List TTest))
 |(d,b)=>
  (if(b:Int)<(List.length c.Tests:Int)then
   (idx c.Tests b).bind fun a=>
   (apnd 40 d [(TTest.mk ((mget e a.Var 0).1) a.Kind a.Negated a.Text)]).bind fun f=>
   some (Stp.next (f,(iw (b+1))))
  else
   some (Stp.done d))
def vTexts_b3(N:Nat)(c:RClause)(b:(List (Int×Int))):((List Arr2Int)×Int)→Option (Stp ((List Arr2Int)×Int) (List Arr2Int))
 |(d,a)=>
  (if(a:Int)<(List.length c.Same:Int)then
   (idx c.Same a).bind fun e=>
   (apnd 16 d [(Arr2Int.mk ((mget b e.e0 0).1) ((mget b e.e1 0).1))]).bind fun f=>
   some (Stp.next (f,(iw (a+1))))
  else
   some (Stp.done d))
def vTexts_b4(N:Nat)(c:RClause)(b:(List (Int×Int))):((List Arr2Int)×Int)→Option (Stp ((List Arr2Int)×Int) (List Arr2Int))
 |(d,a)=>
  (if(a:Int)<(List.length c.Different:Int)then
   (idx c.Different a).bind fun e=>
   (apnd 16 d [(Arr2Int.mk ((mget b e.e0 0).1) ((mget b e.e1 0).1))]).bind fun f=>
   some (Stp.next (f,(iw (a+1))))
  else
   some (Stp.done d))
def vTexts(N:Nat)(l:(List RVar))(c:RClause)(ranges:(List Arr2Int)):Option (TProb×(List Int)):=
 (loopM (vTexts_b1 N c l ranges) N (([]:(List Int)),([]:(List Int)),([]:(List Int)),([]:(List (Int×Int))),0)).bind fun ss=>
  match ss with
  |(b,d,e,a)=>
   (loopM (vTexts_b2 N c a) N (([]:(List TTest)),0)).bind fun ss=>
    match ss with
    |f=>
     (loopM (vTexts_b3 N c a) N (([]:(List Arr2Int)),0)).bind fun ss=>
      match ss with
      |g=>
       (loopM (vTexts_b4 N c a) N (([]:(List Arr2Int)),0)).bind fun ss=>
        match ss with
        |i=>
         some ((TProb.mk b d f g i),e)
def vcheck_step(N:Nat)(self:(List RVar)→RClause→Refut→(List Arr2Int)→Option Bool)(l:(List RVar))(c:RClause)(pc:Refut)(ranges:(List Arr2Int)):Option Bool:=
 (if(pc.Kind:Int)=0 then
  (containsOf N c.Null pc.Var).bind fun e=>
  (if e=true then
   (containsOf N c.NotNull pc.Var).bind fun f=>
   (if f=true then
    some true
   else
    (idx l pc.Var).bind fun g=>
    some (!g.Nullable))
  else
   some false)
 else
  (if(pc.Kind:Int)=1 then
   (vTexts N l c ranges).bind fun i=>
   (tSolve N i.1).bind fun j=>
   some (!j.2)
  else
   (if(pc.Kind:Int)=2 then
    (vInts N l c ranges).bind fun a=>
    (cSystem N a.2 a.1).bind fun k=>
    (cCheck N k pc.Proof).bind fun m=>
    some m
   else
    (if(pc.Kind:Int)=3 then
     (((containsOf N c.NotNull pc.Var).bind fun n=>
     (if(!n)=true then
      some true
     else
      (idx l pc.Var).bind fun o=>
      (if(o.Ty:Int)≠2 then
       some true
      else
       (idx ranges pc.Var).bind fun p=>
       (if(pc.At:Int)<p.e0 then
        some true
       else
        (idx ranges pc.Var).bind fun q=>
        (if(pc.At:Int)≥q.e1 then
         some true
        else
         some (decide (((List.length pc.Children:Int):Int)≠2)))))):Option Bool)).bind fun ss=>
      match ss with
      |s=>
       (if s=true then
        some false
       else
        (clonePair N ranges).bind fun b=>
        (clonePair N ranges).bind fun d=>
        (idx b pc.Var).bind fun u=>
        (upd1 b pc.Var (Arr2Int.mk u.e0 pc.At)).bind fun v=>
        (idx d pc.Var).bind fun y=>
        (upd1 d pc.Var (Arr2Int.mk (iw (pc.At+1)) y.e1)).bind fun a0=>
        (idx pc.Children 0).bind fun a1=>
        (self l c a1 v).bind fun a2=>
        (if a2=true then
         (idx pc.Children 1).bind fun a3=>
         (self l c a3 a0).bind fun a4=>
         some a4
        else
         some false))
    else
     some false))))
def vcheck:Nat→(List RVar)→RClause→Refut→(List Arr2Int)→Option Bool
 |0=>fun _ _ _ _=>none
 |N+1=>vcheck_step N (vcheck N)
def vCheck(N:Nat)(l:(List RVar))(c:RClause)(pc:Refut):Option Bool:=
 (vfirst N l).bind fun a=>
 (vcheck N l c pc a).bind fun b=>
 some b
def vFormat_step(N:Nat)(self:Refut→Option (List UInt8))(pa:Refut):Option (List UInt8):=
 (if(pa.Kind:Int)=0 then
  (fmtI N pa.Var).bind fun r7=>
  (chk ((List.length ([110,117,108,108,32,120]:List UInt8):Int)+List.length r7≤9223372036854775807)).bind fun _=>
  some (([110,117,108,108,32,120]:List UInt8)++r7)
 else
  (if(pa.Kind:Int)=1 then
   some ([116,101,120,116]:List UInt8)
  else
   (if(pa.Kind:Int)=2 then
    (cSize N pa.Proof).bind fun c=>
    (fmtI N c).bind fun b=>
    (chk ((List.length ([105,110,116,101,103,101,114,115,32]:List UInt8):Int)+List.length b≤9223372036854775807)).bind fun _=>
    some (([105,110,116,101,103,101,114,115,32]:List UInt8)++b)
   else
    (if(pa.Kind:Int)=3 then
     (fmtI N pa.Var).bind fun a=>
     (chk ((List.length ([108,101,110,103,116,104,32,120]:List UInt8):Int)+List.length a≤9223372036854775807)).bind fun _=>
     (chk ((List.length (([108,101,110,103,116,104,32,120]:List UInt8)++a):Int)+List.length ([32,60,61,32]:List UInt8)≤9223372036854775807)).bind fun _=>
     (fmtI N pa.At).bind fun d=>
     (chk ((List.length ((([108,101,110,103,116,104,32,120]:List UInt8)++a)++([32,60,61,32]:List UInt8)):Int)+List.length d≤9223372036854775807)).bind fun _=>
     none
    else
     some ([105,110,118,97,108,105,100]:List UInt8)))))
def vFormat:Nat→Refut→Option (List UInt8)
 |0=>fun _=>none
 |N+1=>vFormat_step N (vFormat N)
open Go Go.X
def wRanges_b1(N:Nat)(l:(List RVar)):((List Arr2Int)×Int)→Option (Stp ((List Arr2Int)×Int) (List Arr2Int))
 |(b,a)=>
  (if(a:Int)<(List.length l:Int)then
   (idx l a).bind fun c=>
   (((if(c.Ty:Int)=2 then
    (idx l a).bind fun d=>
    some (Arr2Int.mk 0 d.Max)
   else
    some (Arr2Int.mk 0 0)):Option Arr2Int)).bind fun ss=>
    match ss with
    |e=>
     (apnd 16 b [e]).bind fun f=>
     some (Stp.next (f,(iw (a+1))))
  else
   some (Stp.done b))
def wRanges(N:Nat)(l:(List RVar)):Option (List Arr2Int):=
 (loopM (wRanges_b1 N l) N (([]:(List Arr2Int)),0)).bind fun ss=>
  match ss with
  |a=>
   some a
def wparts_b1(N:Nat)(self:Refut→Option Int)(pa:Refut):(Int×Int)→Option (Stp (Int×Int) Int)
 |(a,b)=>
  (((if(b:Int)<(List.length pa.Children:Int)then
   some (decide ((a:Int)≤100))
  else
   some false):Option Bool)).bind fun ss=>
   match ss with
   |c=>
    (if c=true then
     (idx pa.Children b).bind fun d=>
     (self d).bind fun e=>
     some (Stp.next ((iw (a+e)),(iw (b+1))))
    else
     some (Stp.done a))
def wparts_step(N:Nat)(self:Refut→Option Int)(pa:Refut):Option Int:=
 (rSmallProof N pa.Proof).bind fun r6=>
 (if(!r6)=true then
  some 101
 else
  (loopM (wparts_b1 N self pa) N (1,0)).bind fun ss=>
   match ss with
   |a=>
    some a)
def wparts:Nat→Refut→Option Int
 |0=>fun _=>none
 |N+1=>wparts_step N (wparts N)
def wSmall(N:Nat)(pa:Refut):Option Bool:=
 (wparts N pa).bind fun r6=>
 some (decide ((r6:Int)≤30))
def wRight_b1(N:Nat)(ranges:(List Arr2Int)):Int→Option (Stp Int (Sum Unit Bool))
 |a=>
  (if(a:Int)<(List.length ranges:Int)then
   (((idx ranges a).bind fun b=>
   (if(b.e0:Int)<0 then
    some true
   else
    (idx ranges a).bind fun c=>
    (if(c.e0:Int)>16 then
     some true
    else
     (idx ranges a).bind fun d=>
     (if(d.e1:Int)<0 then
      some true
     else
      (idx ranges a).bind fun e=>
      some (decide ((e.e1:Int)>16))))):Option Bool)).bind fun ss=>
    match ss with
    |f=>
     (if f=true then
      some (Stp.done (Sum.inr false))
     else
      some (Stp.next (iw (a+1))))
  else
   some (Stp.done (Sum.inl ())))
def wRight(N:Nat)(l:(List RVar))(ranges:(List Arr2Int)):Option Bool:=
 (if((List.length ranges:Int):Int)≠(List.length l:Int)then
  some false
 else
  (loopM (wRight_b1 N ranges) N 0).bind fun ss=>
   match ss with
   |(Sum.inl _)=>
    some true
   |(Sum.inr a)=>some a)
def wShort_b1(N:Nat)(l:(List RVar)):(Int×Int)→Option (Stp (Int×Int) (Sum Int Bool))
 |(b,a)=>
  (if(a:Int)<(List.length l:Int)then
   (idx l a).bind fun c=>
   (if(c.Ty:Int)=2 then
    (idx l a).bind fun d=>
    (if(d.Max:Int)>2 then
     some (Stp.done (Sum.inr false))
    else
     some (Stp.next ((iw (b+1)),(iw (a+1)))))
   else
    some (Stp.next (b,(iw (a+1)))))
  else
   some (Stp.done (Sum.inl b)))
def wShort(N:Nat)(l:(List RVar))(c:RClause):Option Bool:=
 (loopM (wShort_b1 N l) N (0,0)).bind fun ss=>
  match ss with
  |(Sum.inl a)=>
   (if(a:Int)≤3 then
    some (decide (((iw ((List.length l:Int)+(List.length c.Auxiliary:Int))):Int)≤6))
   else
    some false)
  |(Sum.inr b)=>some b
def wDomains_b1(N:Nat)(l:(List RVar)):Int→Option (Stp Int (Sum Unit Bool))
 |b=>
  (if(b:Int)<(List.length l:Int)then
   (idx l b).bind fun a=>
   (((if(a.Ty:Int)=1 then
    (if(a.Low:Int)<(-2147483648)then
     some true
    else
     (if(a.Low:Int)>2147483647 then
      some true
     else
      (if(a.High:Int)<(-2147483648)then
       some true
      else
       some (decide ((a.High:Int)>2147483647)))))
   else
    some false):Option Bool)).bind fun ss=>
    match ss with
    |c=>
     (if c=true then
      some (Stp.done (Sum.inr false))
     else
      (((if(a.Ty:Int)=2 then
       (if(a.Max:Int)<0 then
        some true
       else
        (if(a.Max:Int)>16 then
         some true
        else
         (if(a.Ty:Int)≠1 then
          some (decide ((a.Ty:Int)≠2))
         else
          some false)))
      else
       (if(a.Ty:Int)≠1 then
        some (decide ((a.Ty:Int)≠2))
       else
        some false)):Option Bool)).bind fun ss=>
       match ss with
       |d=>
        (if d=true then
         some (Stp.done (Sum.inr false))
        else
         some (Stp.next (iw (b+1)))))
  else
   some (Stp.done (Sum.inl ())))
def wDomains(N:Nat)(l:(List RVar)):Option Bool:=
 (loopM (wDomains_b1 N l) N 0).bind fun ss=>
  match ss with
  |(Sum.inl _)=>
   some (decide (((List.length l:Int):Int)≤10))
  |(Sum.inr a)=>some a
open Go Go.X
def lbig(N:Nat)(n:Int):Option Big:=
 (rOf N n).bind fun r6=>
 some r6
def awake(N:Nat):Option Bool:=
 (lbig N 1).bind fun a=>
 (lbig N 2).bind fun b=>
 (lbig N 1).bind fun c=>
 (lbig N 2).bind fun d=>
 (lbig N 1).bind fun e=>
 (lbig N 1).bind fun f=>
 (lbig N 1).bind fun g=>
 (vCheck N [(RVar.mk 1 (-9) 9 0 false)] (RClause.mk [] [0] [] [(Constraint.mk (Linear.mk (-5) [(Coef.mk 0 2)]) true)] [] [] []) (Refut.mk 2 0 0 (Proof.mk [(Step.mk [(Use.mk 2 a)] b),(Step.mk [(Use.mk 3 c)] d),(Step.mk [(Use.mk 4 e),(Use.mk 5 f)] g)] [] (Big.mk false []) []) [])).bind fun i=>
 (if i=true then
  (vFormat N (Refut.mk 2 0 0 (Proof.mk [(Step.mk [(Use.mk 2 a)] b),(Step.mk [(Use.mk 3 c)] d),(Step.mk [(Use.mk 4 e),(Use.mk 5 f)] g)] [] (Big.mk false []) []) [])).bind fun j=>
  (if j=([105,110,116,101,103,101,114,115,32,51]:List UInt8)then
   (vCheck N [(RVar.mk 1 (-9) 9 0 false)] (RClause.mk [0] [] [] [] [] [] []) (Refut.mk 0 0 0 (Proof.mk [] [] (Big.mk false []) []) [])).bind fun k=>
   (if k=true then
    (vCheck N [(RVar.mk 1 (-9) 9 0 false)] (RClause.mk [] [0] [] [] [] [] []) (Refut.mk 0 0 0 (Proof.mk [] [] (Big.mk false []) []) [])).bind fun l=>
    some (!l)
   else
    some false)
  else
   some false)
 else
  some false)
def lright(N:Nat)(x:RCase):Option Bool:=
 (wDomains N x.L).bind fun r6=>
 (if r6=true then
  (sFew N x.C).bind fun a=>
  (if a=true then
   (sValid N x.C x.L).bind fun b=>
   (if b=true then
    (wRight N x.L x.Ranges).bind fun c=>
    some c
   else
    some false)
  else
   some false)
 else
  some false)
def lawSplit_b1(N:Nat)(c:RClause)(l:(List RVar))(pc:Refut):Int→Option (Stp Int (Sum Unit Bool))
 |a=>
  (if(a:Int)<(List.length c.NotNull:Int)then
   (idx c.NotNull a).bind fun b=>
   (((idx l b).bind fun d=>
   (if(d.Ty:Int)=2 then
    (idx l b).bind fun e=>
    (if(e.Max:Int)>0 then
     (vCheck N l c (Refut.mk 3 b 0 (Proof.mk [] [] (Big.mk false []) []) [pc,pc])).bind fun f=>
     some (!f)
    else
     some false)
   else
    some false):Option Bool)).bind fun ss=>
    match ss with
    |g=>
     (if g=true then
      some (Stp.done (Sum.inr false))
     else
      some (Stp.next (iw (a+1))))
  else
   some (Stp.done (Sum.inl ())))
def lawSplit(N:Nat)(l:(List RVar))(c:RClause)(pc:Refut):Option Bool:=
 (wRanges N l).bind fun a=>
 (((awake N).bind fun b=>
 (if(!b)=true then
  some true
 else
  (wShort N l c).bind fun d=>
  (if(!d)=true then
   some true
  else
   (lright N (RCase.mk l c a [])).bind fun e=>
   (if(!e)=true then
    some true
   else
    (wSmall N pc).bind fun f=>
    (if(!f)=true then
     some true
    else
     (if(pc.Kind:Int)=2 then
      some true
     else
      (if(pc.Kind:Int)=3 then
       some true
      else
       (vCheck N l c pc).bind fun g=>
       some (!g))))))):Option Bool)).bind fun ss=>
  match ss with
  |i=>
   (if i=true then
    (awake N).bind fun j=>
    some j
   else
    (loopM (lawSplit_b1 N c l pc) N 0).bind fun ss=>
     match ss with
     |(Sum.inl _)=>
      some true
     |(Sum.inr k)=>some k)
open Go Go.X
def Bg:Nat:=9223372036854775807
theorem getD_n{α:Type}{l:List α}{n:Nat}{d:α}(h:n<l.length):l.getD n d=l[n]:=by rw[List.getD_eq_getElem?_getD,List.getElem?_eq_getElem h];rfl
theorem var_n{v:Int}{n:Nat}(h:0≤v∧v<n):∃k:Nat,v=(k:Int)∧k<n:=⟨v.toNat,by omega,by omega⟩
theorem sWithin_tm{n a b:Int}:Tm (fun N=>sWithin N n a b) (·=decide (a≤n∧n≤b)):=by
 unfold sWithin
 by_cases hn:n≥a
 · exact Tm.pos hn (Tm.some (decide_eq_decide.2 (by omega)))
 · exact Tm.neg hn (Tm.some (by rw[decide_eq_false];omega))
theorem sHas_tm{l:List Int}{n:Int}(hl:l.length≤Bg):Tm (fun N=>sHas N l n) (·=decide (n∈l)):=by
 have hb:Bg=9223372036854775807:=rfl
 unfold sHas
 refine(Tm.findL (b:=fun N=>sHas_b1 N l n) l (fun y=>decide (y=n)) (fun _=>true) (by omega) (fun k hk=>?_) ?_).bind fun o ho=>?_
 · unfold sHas_b1
   refine Tm.pos (by omega) (Tm.step (idx_n hk) ?_)
   by_cases e:l[k]=n
   · rw[decide_eq_true e];exact Tm.pos e (Tm.some rfl)
   · rw[decide_eq_false e];exact Tm.neg e (Tm.some rfl)
 · unfold sHas_b1
   exact Tm.neg (by omega) (Tm.some rfl)
 · rcases ho with⟨h1,rfl⟩|⟨k,hk,h1,_,rfl⟩
   · refine Tm.some ?_
     rw[decide_eq_false]
     intro h
     have:=List.any_eq_false.1 h1 n h
     simp at this
   · refine Tm.some ?_
     rw[decide_eq_true]
     rw[←of_decide_eq_true h1];exact List.getElem_mem hk
def TxtOk(c:RClause)(l:List RVar)(v:Int):Prop:=∃k:Nat,v=(k:Int)∧(∃x,l[k]?=some x∧x.Ty=2)∧v∈c.NotNull
theorem sText_tm{c:RClause}{l:List RVar}{v:Int}(hn:c.NotNull.length≤Bg):Tm (fun N=>sText N v c l) (fun r=>r=true→TxtOk c l v):=by
 unfold sText
 by_cases h1:v≥0
 · refine Tm.pos h1 ?_
   by_cases h2:v<(l.length:Int)
   · obtain⟨k,rfl,hk⟩:=var_n (n:=l.length) ⟨h1,h2⟩
     refine Tm.pos h2 (Tm.step (idx_n hk) ?_)
     by_cases h3:l[k].Ty=2
     · exact Tm.pos h3 ((sHas_tm hn).bind fun r hr=>Tm.some fun e=>⟨k,rfl,⟨_,List.getElem?_eq_getElem hk,h3⟩,of_decide_eq_true (by rw[←hr];exact e)⟩)
     · exact Tm.neg h3 (Tm.some fun e=>by simp at e)
   · exact Tm.neg h2 (Tm.some fun e=>by simp at e)
 · exact Tm.neg h1 (Tm.some fun e=>by simp at e)
structure FrmOk (f:Linear)(m:Nat):Prop where
 cst:-1099511627777≤f.Const∧f.Const≤1099511627777
 len:f.Coefs.length≤m
 cf:∀x∈f.Coefs,(0≤x.Var∧x.Var<m)∧x.N≠0∧-1048576≤x.N∧x.N≤1048576
theorem sAbsE_tm{n:Int}(h:-1152921504606846976≤n∧n≤1152921504606846976):Tm (fun N=>sAbs N n) (·=(n.natAbs:Int)):=by
 unfold sAbs
 by_cases hn:n<0
 · refine Tm.pos hn (Tm.some ?_)
   rw[iw_eq (by omega) (by omega)];omega
 · exact Tm.neg hn (Tm.some (by omega))
def bnd(l:List RVar)(bs:List Int)(v:Int):Int:=if v≥(l.length:Int)then bs.getD (v.toNat-l.length) 0 else 2147483648
def sumB(l:List RVar)(bs:List Int)(c0:Int)(cs:List Coef):Int:=(c0.natAbs:Int)+(cs.map fun x=>(x.N.natAbs:Int)*bnd l bs x.Var).sum
structure FrmX (f:Linear)(c:RClause)(l:List RVar)(bs:List Int)(r:Int):Prop where
 asc:∀i j (hi:i<f.Coefs.length) (hj:j<f.Coefs.length),i<j→f.Coefs[i].Var<f.Coefs[j].Var
 ty:∀x∈f.Coefs,x.Var<(l.length:Int)→(∃y,l[x.Var.toNat]?=some y∧y.Ty=1)∧x.Var∈c.NotNull
 sum:r=sumB l bs f.Const f.Coefs
 le:r≤1152921504606846977
theorem sumB_snoc{l:List RVar}{bs:List Int}{c0:Int}{cs:List Coef}{x:Coef}:sumB l bs c0 (cs++[x])=sumB l bs c0 cs+(x.N.natAbs:Int)*bnd l bs x.Var:=by
 unfold sumB;simp[Int.add_assoc]
theorem sForm_tm{f:Linear}{c:RClause}{l:List RVar}{bs:List Int}(hn:c.NotNull.length≤Bg)(hf:f.Coefs.length≤Bg)(hl:l.length≤1000)(hbs:bs.length≤1000)(hb0:∀b∈bs,0≤b):
 Tm (fun N=>sForm N f c l bs) (fun r=>0≤r→FrmOk f (l.length+bs.length)∧FrmX f c l bs r):=by
 have hb:Bg=9223372036854775807:=rfl
 unfold sForm
 refine sWithin_tm.eq ?_
 by_cases hc:-1099511627777≤f.Const∧f.Const≤1099511627777
 · rw[decide_eq_true hc]
   refine Tm.neg (by simp) ((sAbsE_tm (by omega)).eq ?_)
   refine Tm.bind (Q:=fun o=>match o with|.inl s=>FrmOk f (l.length+bs.length)∧FrmX f c l bs s|.inr z=>z=-1) ?_ fun o ho=>?_
   · refine Tm.up f.Coefs.length (fun k s=>s.2=(k:Int)∧(s.1=sumB l bs f.Const (f.Coefs.take k)∧0≤s.1∧s.1≤1152921504606846977)∧∀j (hj:j<f.Coefs.length),j<k→((0≤f.Coefs[j].Var∧f.Coefs[j].Var<((l.length+bs.length:Nat):Int))∧f.Coefs[j].N≠0∧(-1048576≤f.Coefs[j].N∧f.Coefs[j].N≤1048576)∧(j:Int)≤f.Coefs[j].Var∧∀i (hi:i<f.Coefs.length),i<j→f.Coefs[i].Var<f.Coefs[j].Var)∧(f.Coefs[j].Var<(l.length:Int)→(∃y,l[f.Coefs[j].Var.toNat]?=some y∧y.Ty=1)∧f.Coefs[j].Var∈c.NotNull)) ⟨rfl,⟨by simp[sumB],by dsimp only;omega,by dsimp only;omega⟩,fun j _ hj=>by omega⟩ ?_
     rintro k hk ⟨s,i⟩ ⟨hi,⟨hs,hs0,hs1⟩,hJ⟩
     dsimp only at hi hs hs0 hs1 hJ;subst hi
     unfold sForm_b1
     dsimp only
     rcases Nat.lt_or_ge k f.Coefs.length with hlt|hge
     · refine Tm.pos (by omega) (Tm.step (idx_n hlt) ?_)
       have e1:iw ((l.length:Int)+(bs.length:Int))=((l.length+bs.length:Nat):Int):=by rw[iw_eq]<;>omega
       refine Tm.bind (Q:=fun b=>b=false→(0≤f.Coefs[k].Var∧f.Coefs[k].Var<((l.length+bs.length:Nat):Int))∧f.Coefs[k].N≠0∧(-1048576≤f.Coefs[k].N∧f.Coefs[k].N≤1048576)∧(k:Int)≤f.Coefs[k].Var∧∀i (hi:i<f.Coefs.length),i<k→f.Coefs[i].Var<f.Coefs[k].Var) ?_ fun b hb'=>?_
       · rw[e1]
         by_cases g1:f.Coefs[k].Var<0
         · exact Tm.pos g1 (Tm.some fun e=>by simp at e)
         · refine Tm.neg g1 ?_
           by_cases g2:f.Coefs[k].Var≥((l.length+bs.length:Nat):Int)
           · exact Tm.pos g2 (Tm.some fun e=>by simp at e)
           · refine Tm.neg g2 ?_
             by_cases g3:(k:Int)>0
             · refine Tm.pos g3 ?_
               have e2:iw ((k:Int)-1)=((k-1:Nat):Int):=by rw[iw_eq]<;>omega
               rw[e2]
               refine Tm.step (idx_n (by omega)) ?_
               by_cases g4:(f.Coefs[k-1]'(by omega)).Var≥f.Coefs[k].Var
               · exact Tm.pos g4 (Tm.some fun e=>by simp at e)
               · refine Tm.neg g4 ?_
                 by_cases g5:f.Coefs[k].N=0
                 · exact Tm.pos g5 (Tm.some fun e=>by simp at e)
                 · refine Tm.neg g5 (sWithin_tm.bind fun r hr=>Tm.some fun e=>?_)
                   have g6:=of_decide_eq_true (show decide (-1048576≤f.Coefs[k].N∧f.Coefs[k].N≤1048576)=true by rw[←hr];simpa using e)
                   obtain⟨_,_,_,g7,g8⟩:=(hJ (k-1) (by omega) (by omega)).1
                   refine⟨⟨by omega,by omega⟩,g5,g6,by omega,fun i hi hik=>?_⟩
                   by_cases ei:i=k-1
                   · subst ei;omega
                   · have:=g8 i hi (by omega);omega
             · refine Tm.neg g3 ?_
               by_cases g5:f.Coefs[k].N=0
               · exact Tm.pos g5 (Tm.some fun e=>by simp at e)
               · refine Tm.neg g5 (sWithin_tm.bind fun r hr=>Tm.some fun e=>?_)
                 have g6:=of_decide_eq_true (show decide (-1048576≤f.Coefs[k].N∧f.Coefs[k].N≤1048576)=true by rw[←hr];simpa using e)
                 exact⟨⟨by omega,by omega⟩,g5,g6,by omega,fun i hi hik=>by omega⟩
       · cases b with
         |true=>exact Tm.pos rfl (Tm.some rfl)
         |false=>
          have hk':=hb' rfl
          obtain⟨⟨v0,v1⟩,n0,n1,_⟩:=hb' rfl
          refine Tm.neg (by simp) ?_
          refine Tm.bind (Q:=fun o=>match o with|.inl b0=>(b0=bnd l bs f.Coefs[k].Var∧0≤b0)∧(f.Coefs[k].Var<(l.length:Int)→(∃y,l[f.Coefs[k].Var.toNat]?=some y∧y.Ty=1)∧f.Coefs[k].Var∈c.NotNull)|.inr z=>z=-1) ?_ fun o ho=>?_
          · by_cases g1:f.Coefs[k].Var≥(l.length:Int)
            · have e2:iw (f.Coefs[k].Var-(l.length:Int))=((f.Coefs[k].Var.toNat-l.length:Nat):Int):=by rw[iw_eq]<;>omega
              rw[e2]
              refine Tm.pos g1 (Tm.step (idx_n (by omega)) (Tm.some ⟨⟨?_,hb0 _ (List.getElem_mem _)⟩,fun g=>by omega⟩))
              unfold bnd
              rw[if_pos g1,getD_n (by omega)]
            · obtain⟨q,eq,hq⟩:=var_n (n:=l.length) ⟨v0,by omega⟩
              refine Tm.neg g1 ?_
              rw[eq]
              refine Tm.bind (Q:=fun b=>b=false→l[q].Ty=1∧(q:Int)∈c.NotNull) (Tm.step (idx_n hq) ?_) fun b hbq=>?_
              · by_cases g2:l[q].Ty≠1
                · exact Tm.pos g2 (Tm.some fun e=>by simp at e)
                · exact Tm.neg g2 ((sHas_tm hn).bind fun r hr=>Tm.some fun e=>⟨by omega,of_decide_eq_true (show decide ((q:Int)∈c.NotNull)=true by rw[←hr];simpa using e)⟩)
              · cases b with
                |true=>exact Tm.pos rfl (Tm.some rfl)
                |false=>
                 obtain⟨q1,q2⟩:=hbq rfl
                 refine Tm.neg (by simp) (Tm.some ⟨⟨?_,by decide⟩,fun _=>⟨⟨_,by rw[Int.toNat_natCast];exact List.getElem?_eq_getElem hq,q1⟩,q2⟩⟩)
                 unfold bnd
                 rw[if_neg (by omega)]
          · cases o with
            |inr z=>exact Tm.some ho
            |inl b0=>
             obtain⟨⟨hbe,hbp⟩,hty⟩:=ho
             refine(sAbsE_tm (by omega)).eq ?_
             have hr0:((f.Coefs[k].N.natAbs:Nat):Int)≠0:=by omega
             have hsd:sdiv .i64 1152921504606846977 ((f.Coefs[k].N.natAbs:Nat):Int)=some (1152921504606846977/((f.Coefs[k].N.natAbs:Nat):Int)):=by
              unfold sdiv
              rw[if_neg hr0,Int.tdiv_eq_ediv_of_nonneg (by decide)]
              congr 1
              have h1:=Int.ediv_nonneg (a:=1152921504606846977) (b:=((f.Coefs[k].N.natAbs:Nat):Int)) (by decide) (by omega)
              have h2:=Int.ediv_le_self (a:=1152921504606846977) ((f.Coefs[k].N.natAbs:Nat):Int) (by decide)
              exact iw_eq (by omega) (by omega)
             refine Tm.step hsd ?_
             by_cases g3:b0>1152921504606846977/((f.Coefs[k].N.natAbs:Nat):Int)
             · exact Tm.pos g3 (Tm.some rfl)
             · refine Tm.neg g3 ((sAbsE_tm (by omega)).eq ?_)
               have p0:0≤((f.Coefs[k].N.natAbs:Nat):Int)*b0:=Int.mul_nonneg (by omega) hbp
               have p1:((f.Coefs[k].N.natAbs:Nat):Int)*b0≤1152921504606846977:=by
                have h1:=(Int.le_ediv_iff_mul_le (a:=b0) (b:=1152921504606846977) (c:=((f.Coefs[k].N.natAbs:Nat):Int)) (by omega)).1 (by omega)
                rw[Int.mul_comm];exact h1
               rw[iw_eq (z:=((f.Coefs[k].N.natAbs:Nat):Int)*b0) (by omega) (by omega),iw_eq (z:=s+((f.Coefs[k].N.natAbs:Nat):Int)*b0) (by omega) (by omega)]
               by_cases g4:s+((f.Coefs[k].N.natAbs:Nat):Int)*b0>1152921504606846977
               · exact Tm.pos g4 (Tm.some rfl)
               · refine Tm.neg g4 (Tm.some ⟨hlt,iw_n (by omega),⟨?_,by dsimp only;omega,by dsimp only;omega⟩,fun j hj hjk=>?_⟩)
                 · dsimp only
                   rw[List.take_succ_eq_append_getElem hlt,sumB_snoc,←hs,←hbe]
                 · by_cases ejk:j=k
                   · subst ejk;exact⟨hk',hty⟩
                   · exact hJ j hj (by omega)
     · have:k=f.Coefs.length:=by omega
       subst this
       refine Tm.neg (by omega) (Tm.some ⟨⟨hc,?_,fun x hx=>?_⟩,⟨fun i j hi hj hij=>((hJ j hj hj).1).2.2.2.2 i hi hij,fun x hx=>?_,by rw[hs,List.take_length],hs1⟩⟩)
       · rcases Nat.eq_zero_or_pos f.Coefs.length with h0|h0
         · omega
         · obtain⟨⟨g1,_,_,g2,_⟩,_⟩:=hJ (f.Coefs.length-1) (by omega) (by omega)
           omega
       · obtain⟨j,hj,rfl⟩:=List.getElem_of_mem hx
         obtain⟨⟨g1,g2,g3,_⟩,_⟩:=hJ j hj hj
         exact⟨g1,g2,g3⟩
       · obtain⟨j,hj,rfl⟩:=List.getElem_of_mem hx
         exact(hJ j hj hj).2
   · cases o with
     |inl s=>exact Tm.some fun _=>ho
     |inr z=>
      have ho:z=-1:=ho
      subst ho
      exact Tm.some fun h=>by omega
 · rw[decide_eq_false hc]
   exact Tm.pos rfl (Tm.some fun h=>by omega)
structure AscOk (l:List Int)(n:Nat):Prop where
 bd:∀x∈l,0≤x∧x<n
 asc:∀i j (hi:i<l.length) (hj:j<l.length),i<j→l[i]<l[j]
 len:l.length≤n
theorem sAscending_tm{l:List Int}{n:Nat}(hl:l.length≤Bg):Tm (fun N=>sAscending N l (n:Int)) (fun r=>r=true→AscOk l n):=by
 have hb:Bg=9223372036854775807:=rfl
 unfold sAscending
 refine Tm.bind (Q:=fun o=>match o with|.inl _=>AscOk l n|.inr z=>z=false) ?_ fun o ho=>?_
 · refine Tm.up l.length (fun k s=>s=(k:Int)∧∀j (hj:j<l.length),j<k→(0≤l[j]∧l[j]<(n:Int))∧(j:Int)≤l[j]∧∀i (hi:i<l.length),i<j→l[i]<l[j]) ⟨rfl,fun j _ hj=>by omega⟩ ?_
   rintro k hk i ⟨rfl,hJ⟩
   unfold sAscending_b1
   rcases Nat.lt_or_ge k l.length with hlt|hge
   · refine Tm.pos (by omega) ?_
     refine Tm.bind (Q:=fun b=>b=false→(0≤l[k]∧l[k]<(n:Int))∧(k:Int)≤l[k]∧∀i (hi:i<l.length),i<k→l[i]<l[k]) ?_ fun b hb'=>?_
     · refine Tm.step (idx_n hlt) ?_
       by_cases g1:l[k]<0
       · exact Tm.pos g1 (Tm.some fun e=>by simp at e)
       · refine Tm.neg g1 (Tm.step (idx_n hlt) ?_)
         by_cases g2:l[k]≥(n:Int)
         · exact Tm.pos g2 (Tm.some fun e=>by simp at e)
         · refine Tm.neg g2 ?_
           by_cases g3:(k:Int)>0
           · refine Tm.pos g3 ?_
             have e2:iw ((k:Int)-1)=((k-1:Nat):Int):=by rw[iw_eq]<;>omega
             rw[e2]
             refine Tm.step (idx_n (by omega)) (Tm.step (idx_n hlt) (Tm.some fun e=>?_))
             have e:=of_decide_eq_false e
             obtain⟨_,g5,g6⟩:=hJ (k-1) (by omega) (by omega)
             refine⟨⟨by omega,by omega⟩,by omega,fun i hi hik=>?_⟩
             by_cases ei:i=k-1
             · subst ei;omega
             · have:=g6 i hi (by omega);omega
           · refine Tm.neg g3 (Tm.some fun _=>⟨⟨by omega,by omega⟩,by omega,fun i hi hik=>by omega⟩)
     · cases b with
       |true=>exact Tm.pos rfl (Tm.some rfl)
       |false=>
        refine Tm.neg (by simp) (Tm.some ⟨hlt,iw_n (by omega),fun j hj hjk=>?_⟩)
        by_cases ejk:j=k
        · subst ejk;exact hb' rfl
        · exact hJ j hj (by omega)
   · have:k=l.length:=by omega
     subst this
     refine Tm.neg (by omega) (Tm.some ⟨fun x hx=>?_,fun i j hi hj hij=>(hJ j hj hj).2.2 i hi hij,?_⟩)
     · obtain⟨j,hj,rfl⟩:=List.getElem_of_mem hx
       exact(hJ j hj hj).1
     · rcases Nat.eq_zero_or_pos l.length with h0|h0
       · omega
       · obtain⟨g1,g2,_⟩:=hJ (l.length-1) (by omega) (by omega)
         omega
 · cases o with
   |inl _=>exact Tm.some fun _=>ho
   |inr z=>
    have ho:z=false:=ho
    subst ho
    exact Tm.some fun h=>by simp at h
open Go Go.X
def prn(b:UInt8):Bool:=decide (32≤b.toNat∧b.toNat≤126)
def okT(t:TTest):Bool:=decide (0≤t.Kind∧t.Kind≤3∧t.Text.length≤16)&&t.Text.all prn
theorem prn_bad{b:UInt8}:(decide ((UInt8.toNat b:Int)<32∨(UInt8.toNat b:Int)>126))=!prn b:=by
 unfold prn
 by_cases h:32≤b.toNat∧b.toNat≤126
 · rw[decide_eq_true h,decide_eq_false (by omega)];rfl
 · rw[decide_eq_false h,decide_eq_true (by omega)];rfl
theorem sTested_tm{t:TTest}(hl:t.Text.length≤Bg):Tm (fun N=>sTested N t) (·=okT t):=by
 have hb:Bg=9223372036854775807:=rfl
 unfold sTested
 refine(Tm.allL (b:=fun N=>sTested_b1 N t) t.Text prn (by omega) (fun k hk=>?_) ?_).eq ?_
 · unfold sTested_b1
   refine Tm.pos (by omega) ?_
   simp only[idx_n hk,Option.bind_some,or_if,prn_bad]
   cases prn t.Text[k]<;>exact Tm.some rfl
 · unfold sTested_b1
   exact Tm.neg (by omega) (Tm.some rfl)
 · cases h:t.Text.all prn with
   |false=>exact Tm.some (by simp[okT,h])
   |true=>
    by_cases h1:t.Kind≥0
    · refine Tm.pos h1 ?_
      by_cases h2:t.Kind≤3
      · refine Tm.pos h2 (Tm.some ?_)
        simp only[okT,h,Bool.and_true]
        exact decide_eq_decide.2 (by omega)
      · exact Tm.neg h2 (Tm.some (by simp[okT,h2]))
    · refine Tm.neg h1 (Tm.some ?_)
      have:¬0≤t.Kind:=h1
      simp[okT,this]
theorem sPairs_tm{p:List Arr2Int}{c:RClause}{l:List RVar}(hn:c.NotNull.length≤Bg)(hp:p.length≤Bg):Tm (fun N=>sPairs N p c l) (fun r=>r=true→∀e∈p,TxtOk c l e.e0∧TxtOk c l e.e1∧e.e0<e.e1):=by
 have hb:Bg=9223372036854775807:=rfl
 unfold sPairs
 refine Tm.bind (Q:=fun o=>match o with|.inl _=>∀e∈p,TxtOk c l e.e0∧TxtOk c l e.e1∧e.e0<e.e1|.inr z=>z=false) ?_ fun o ho=>?_
 · refine Tm.up p.length (fun k s=>s=(k:Int)∧∀j (hj:j<p.length),j<k→TxtOk c l p[j].e0∧TxtOk c l p[j].e1∧p[j].e0<p[j].e1) ⟨rfl,fun j _ hj=>by omega⟩ ?_
   rintro k hk i ⟨rfl,hJ⟩
   unfold sPairs_b1
   rcases Nat.lt_or_ge k p.length with hlt|hge
   · refine Tm.pos (by omega) ?_
     refine Tm.bind (Q:=fun b=>b=false→TxtOk c l p[k].e0∧TxtOk c l p[k].e1∧p[k].e0<p[k].e1) ?_ fun b hb'=>?_
     · refine Tm.step (idx_n hlt) ((sText_tm hn).bind fun r hr=>?_)
       cases r with
       |false=>exact Tm.pos rfl (Tm.some fun e=>by simp at e)
       |true=>
        refine Tm.neg (by simp) (Tm.step (idx_n hlt) ((sText_tm hn).bind fun r2 hr2=>?_))
        cases r2 with
        |false=>exact Tm.pos rfl (Tm.some fun e=>by simp at e)
        |true=>
         refine Tm.neg (by simp) (Tm.step (idx_n hlt) (Tm.step (idx_n hlt) (Tm.some fun e=>?_)))
         have e:=of_decide_eq_false e
         exact⟨hr rfl,hr2 rfl,by omega⟩
     · cases b with
       |true=>exact Tm.pos rfl (Tm.some rfl)
       |false=>
        refine Tm.neg (by simp) (Tm.some ⟨hlt,iw_n (by omega),fun j hj hjk=>?_⟩)
        by_cases ejk:j=k
        · subst ejk;exact hb' rfl
        · exact hJ j hj (by omega)
   · refine Tm.neg (by omega) (Tm.some fun e he=>?_)
     obtain⟨j,hj,rfl⟩:=List.getElem_of_mem he
     exact hJ j hj (by omega)
 · cases o with
   |inl _=>exact Tm.some fun _=>ho
   |inr z=>
    have ho:z=false:=ho
    subst ho
    exact Tm.some fun h=>by simp at h
def AuxOk(c:RClause)(l:List RVar)(i:Nat)(a:RAux):Prop:=
 (a.By=0∧a.Of.Coefs=[]∧a.Of.Const=0∧TxtOk c l a.Text)∨(a.By≠0∧(1≤a.By∧a.By≤1000)∧a.Text=0∧FrmOk a.Of (l.length+i))
structure BdsOk (c:RClause)(l:List RVar)(bs:List Int):Prop where
 len:bs.length=c.Auxiliary.length
 nn:∀b∈bs,0≤b
 at':∀i (hi:i<c.Auxiliary.length),(c.Auxiliary[i].By=0∧bs.getD i 0=16)∨(c.Auxiliary[i].By≠0∧∃r,0≤r∧FrmX c.Auxiliary[i].Of c l (bs.take i) r∧bs.getD i 0=r/c.Auxiliary[i].By+1)
structure ClOk (c:RClause)(l:List RVar):Prop where
 bx:∃bs,BdsOk c l bs∧∀k∈c.Ints,∃r,FrmX k.Linear c l bs r
 nl:AscOk c.Null l.length
 nn:AscOk c.NotNull l.length
 ax:∀i (hi:i<c.Auxiliary.length),AuxOk c l i c.Auxiliary[i]
 it:∀k∈c.Ints,FrmOk k.Linear (l.length+c.Auxiliary.length)
 ts:∀t∈c.Tests,okT t=true∧TxtOk c l t.Var
 sm:∀e∈c.Same,TxtOk c l e.e0∧TxtOk c l e.e1∧e.e0<e.e1
 df:∀e∈c.Different,TxtOk c l e.e0∧TxtOk c l e.e1∧e.e0<e.e1
structure LimC (c:RClause):Prop where
 nl:c.Null.length≤Bg
 nn:c.NotNull.length≤Bg
 ax:∀a∈c.Auxiliary,a.Of.Coefs.length≤Bg
 it:∀k∈c.Ints,k.Linear.Coefs.length≤Bg
 ts:∀t∈c.Tests,t.Text.length≤Bg
structure SmC (c:RClause):Prop where
 ax:c.Auxiliary.length≤80
 it:c.Ints.length≤80
 ts:c.Tests.length≤80
 sm:c.Same.length≤80
 df:c.Different.length≤80
theorem sValid_b1_tm{c:RClause}{l:List RVar}(hc:LimC c)(hs:SmC c)(hl:l.length≤10):
 Tm (fun N=>loopM (sValid_b1 N c l) N (([]:List Int),0)) (fun o=>match o with|.inl bs=>BdsOk c l bs∧∀i (hi:i<c.Auxiliary.length),AuxOk c l i c.Auxiliary[i]|.inr z=>z=false):=by
 have hb:Bg=9223372036854775807:=rfl
 have hax:=hs.ax
 refine Tm.up c.Auxiliary.length (fun k s=>s.2=(k:Int)∧(s.1.length=k∧(∀b∈s.1,0≤b)∧∀i (hi:i<c.Auxiliary.length),i<k→(c.Auxiliary[i].By=0∧s.1.getD i 0=16)∨(c.Auxiliary[i].By≠0∧∃r,0≤r∧FrmX c.Auxiliary[i].Of c l (s.1.take i) r∧s.1.getD i 0=r/c.Auxiliary[i].By+1))∧∀j (hj:j<c.Auxiliary.length),j<k→AuxOk c l j c.Auxiliary[j]) ⟨rfl,⟨rfl,fun b hb=>by(cases hb),fun i _ hi=>by omega⟩,fun j _ hj=>by omega⟩ ?_
 rintro k hk ⟨s,i⟩ ⟨hi,⟨hsl,hsn,hsb⟩,hJ⟩
 dsimp only at hi hsl hsn hsb hJ;subst hi
 have grow:∀(b:Int),0≤b→(∀(hlt:k<c.Auxiliary.length),(c.Auxiliary[k].By=0∧b=16)∨(c.Auxiliary[k].By≠0∧∃r,0≤r∧FrmX c.Auxiliary[k].Of c l s r∧b=r/c.Auxiliary[k].By+1))→(s++[b]).length=k+1∧(∀b'∈s++[b],0≤b')∧∀i (hi:i<c.Auxiliary.length),i<k+1→(c.Auxiliary[i].By=0∧(s++[b]).getD i 0=16)∨(c.Auxiliary[i].By≠0∧∃r,0≤r∧FrmX c.Auxiliary[i].Of c l ((s++[b]).take i) r∧(s++[b]).getD i 0=r/c.Auxiliary[i].By+1):=by
  intro b b0 hbk
  refine⟨by simp[hsl],fun b' hb'=>?_,fun i hi hik=>?_⟩
  · rcases List.mem_append.1 hb' with h|h
    · exact hsn _ h
    · rw[List.mem_singleton.1 h];exact b0
  · rcases Nat.lt_or_ge i k with h|h
    · have e1:(s++[b]).getD i 0=s.getD i 0:=by rw[List.getD_eq_getElem?_getD,List.getD_eq_getElem?_getD,List.getElem?_append_left (by omega)]
      have e2:(s++[b]).take i=s.take i:=by rw[List.take_append_of_le_length (by omega)]
      rw[e1,e2];exact hsb i hi h
    · have:i=k:=by omega
      subst this
      have e1:(s++[b]).getD i 0=b:=by rw[List.getD_eq_getElem?_getD,List.getElem?_append_right (by omega)];simp[hsl]
      have e2:(s++[b]).take i=s:=by rw[List.take_append_of_le_length (by omega),List.take_of_length_le (by omega)]
      rw[e1,e2];exact hbk hi
 unfold sValid_b1
 dsimp only
 rcases Nat.lt_or_ge k c.Auxiliary.length with hlt|hge
 · refine Tm.pos (by omega) (Tm.step (idx_n hlt) ?_)
   have hlim:=hc.ax _ (List.getElem_mem hlt)
   have hnext:AuxOk c l k c.Auxiliary[k]→∀j (hj:j<c.Auxiliary.length),j<k+1→AuxOk c l j c.Auxiliary[j]:=fun hk' j hj hjk=>by
    by_cases ejk:j=k
    · subst ejk;exact hk'
    · exact hJ j hj (by omega)
   by_cases g1:c.Auxiliary[k].By=0
   · refine Tm.pos g1 ?_
     refine Tm.bind (Q:=fun b=>b=false→AuxOk c l k c.Auxiliary[k]) ?_ fun b hb'=>?_
     · by_cases g2:(c.Auxiliary[k].Of.Coefs.length:Int)>0
       · exact Tm.pos g2 (Tm.some fun e=>by simp at e)
       · refine Tm.neg g2 ?_
         by_cases g3:c.Auxiliary[k].Of.Const≠0
         · exact Tm.pos g3 (Tm.some fun e=>by simp at e)
         · refine Tm.neg g3 ((sText_tm hc.nn).bind fun r hr=>Tm.some fun e=>?_)
           exact .inl ⟨g1,List.eq_nil_of_length_eq_zero (by omega),by omega,hr (by simpa using e)⟩
     · cases b with
       |true=>exact Tm.pos rfl (Tm.some rfl)
       |false=>
        refine Tm.neg (by simp) ?_
        rw[apnd_ok (by simp only[List.length_singleton];omega) (by decide)]
        exact Tm.some ⟨hlt,iw_n (by omega),grow 16 (by decide) (fun _=>.inl ⟨g1,rfl⟩),hnext (hb' rfl)⟩
   · refine Tm.neg g1 ((sForm_tm hc.nn hlim (by omega) (by omega) hsn).bind fun r hr=>?_)
     refine Tm.bind (Q:=fun b=>b=false→AuxOk c l k c.Auxiliary[k]∧FrmX c.Auxiliary[k].Of c l s r∧0≤r∧1≤c.Auxiliary[k].By) ?_ fun b hb'=>?_
     · refine sWithin_tm.eq ?_
       by_cases g2:1≤c.Auxiliary[k].By∧c.Auxiliary[k].By≤1000
       · rw[decide_eq_true g2]
         refine Tm.neg (by simp) ?_
         by_cases g3:c.Auxiliary[k].Text≠0
         · exact Tm.pos g3 (Tm.some fun e=>by simp at e)
         · refine Tm.neg g3 (Tm.some fun e=>?_)
           have e:=of_decide_eq_false e
           obtain⟨h2,h3⟩:=hr (by omega)
           refine⟨.inr ⟨g1,g2,by omega,?_⟩,h3,by omega,g2.1⟩
           rw[hsl]at h2;exact h2
       · rw[decide_eq_false g2]
         exact Tm.pos rfl (Tm.some fun e=>by simp at e)
     · cases b with
       |true=>exact Tm.pos rfl (Tm.some rfl)
       |false=>
        refine Tm.neg (by simp) ?_
        obtain⟨q1,q2,q3,q4⟩:=hb' rfl
        have q5:=q2.le
        have q6:=Int.ediv_nonneg (a:=r) (b:=c.Auxiliary[k].By) q3 (by omega)
        have q7:=Int.ediv_le_self (a:=r) c.Auxiliary[k].By q3
        have hsd:sdiv .i64 r c.Auxiliary[k].By=some (r/c.Auxiliary[k].By):=by
         unfold sdiv
         rw[if_neg g1,Int.tdiv_eq_ediv_of_nonneg q3]
         congr 1
         exact iw_eq (by omega) (by omega)
        refine Tm.step hsd ?_
        rw[apnd_ok (by simp only[List.length_singleton];omega) (by decide),iw_eq (by omega) (by omega)]
        exact Tm.some ⟨hlt,iw_n (by omega),grow _ (by omega) (fun _=>.inr ⟨g1,r,q3,q2,rfl⟩),hnext q1⟩
 · have:k=c.Auxiliary.length:=by omega
   subst this
   exact Tm.neg (by omega) (Tm.some ⟨⟨hsl,hsn,fun i hi=>hsb i hi hi⟩,fun j hj=>hJ j hj hj⟩)
theorem sValid_tm{c:RClause}{l:List RVar}(hc:LimC c)(hs:SmC c)(hl:l.length≤10):Tm (fun N=>sValid N c l) (fun r=>r=true→ClOk c l):=by
 have hb:Bg=9223372036854775807:=rfl
 have:=hs.ax;have:=hs.it;have:=hs.ts;have:=hs.sm;have:=hs.df
 unfold sValid
 refine Tm.bind (Q:=fun b=>b=false→AscOk c.Null l.length∧AscOk c.NotNull l.length) ?_ fun b hb'=>?_
 · refine(sAscending_tm hc.nl).bind fun r hr=>?_
   cases r with
   |false=>exact Tm.pos rfl (Tm.some fun e=>by simp at e)
   |true=>exact Tm.neg (by simp) ((sAscending_tm hc.nn).bind fun r2 hr2=>Tm.some fun e=>⟨hr rfl,hr2 (by simpa using e)⟩)
 · cases b with
   |true=>exact Tm.pos rfl (Tm.some fun e=>by simp at e)
   |false=>
    obtain⟨q1,q2⟩:=hb' rfl
    refine Tm.neg (by simp) ((sValid_b1_tm hc hs hl).bind fun o ho=>?_)
    cases o with
    |inr z=>
     have ho:z=false:=ho
     subst ho
     exact Tm.some fun h=>by simp at h
    |inl bs=>
     obtain⟨hbo,hax⟩:=ho
     have hbl:=hbo.len
     refine Tm.bind (Q:=fun o=>match o with|.inl _=>∀k∈c.Ints,FrmOk k.Linear (l.length+c.Auxiliary.length)∧∃r,FrmX k.Linear c l bs r|.inr z=>z=false) ?_ fun o ho=>?_
     · refine Tm.up c.Ints.length (fun k s=>s=(k:Int)∧∀j (hj:j<c.Ints.length),j<k→FrmOk c.Ints[j].Linear (l.length+c.Auxiliary.length)∧∃r,FrmX c.Ints[j].Linear c l bs r) ⟨rfl,fun j _ hj=>by omega⟩ ?_
       rintro k hk i ⟨rfl,hJ⟩
       unfold sValid_b2
       rcases Nat.lt_or_ge k c.Ints.length with hlt|hge
       · refine Tm.pos (by omega) (Tm.step (idx_n hlt) ((sForm_tm hc.nn (hc.it _ (List.getElem_mem hlt)) (by omega) (by omega) hbo.nn).bind fun r hr=>?_))
         by_cases g:r<0
         · exact Tm.pos g (Tm.some rfl)
         · refine Tm.neg g (Tm.some ⟨hlt,iw_n (by omega),fun j hj hjk=>?_⟩)
           by_cases ejk:j=k
           · subst ejk;obtain⟨q1,q2⟩:=hr (by omega);exact⟨hbl▸q1,r,q2⟩
           · exact hJ j hj (by omega)
       · refine Tm.neg (by omega) (Tm.some fun x hx=>?_)
         obtain⟨j,hj,rfl⟩:=List.getElem_of_mem hx
         exact hJ j hj (by omega)
     · cases o with
       |inr z=>
        have ho:z=false:=ho
        subst ho
        exact Tm.some fun h=>by simp at h
       |inl _=>
        have hit:∀k∈c.Ints,FrmOk k.Linear (l.length+c.Auxiliary.length)∧∃r,FrmX k.Linear c l bs r:=ho
        refine Tm.bind (Q:=fun o=>match o with|.inl _=>∀t∈c.Tests,okT t=true∧TxtOk c l t.Var|.inr z=>z=false) ?_ fun o ho=>?_
        · refine Tm.up c.Tests.length (fun k s=>s=(k:Int)∧∀j (hj:j<c.Tests.length),j<k→okT c.Tests[j]=true∧TxtOk c l c.Tests[j].Var) ⟨rfl,fun j _ hj=>by omega⟩ ?_
          rintro k hk i ⟨rfl,hJ⟩
          unfold sValid_b3
          rcases Nat.lt_or_ge k c.Tests.length with hlt|hge
          · refine Tm.pos (by omega) ?_
            refine Tm.bind (Q:=fun b=>b=false→okT c.Tests[k]=true∧TxtOk c l c.Tests[k].Var) ?_ fun b hb'=>?_
            · refine Tm.step (idx_n hlt) ((sTested_tm (hc.ts _ (List.getElem_mem hlt))).bind fun r hr=>?_)
              cases r with
              |false=>exact Tm.pos rfl (Tm.some fun e=>by simp at e)
              |true=>exact Tm.neg (by simp) (Tm.step (idx_n hlt) ((sText_tm hc.nn).bind fun r2 hr2=>Tm.some fun e=>⟨hr.symm,hr2 (by simpa using e)⟩))
            · cases b with
              |true=>exact Tm.pos rfl (Tm.some rfl)
              |false=>
               refine Tm.neg (by simp) (Tm.some ⟨hlt,iw_n (by omega),fun j hj hjk=>?_⟩)
               by_cases ejk:j=k
               · subst ejk;exact hb' rfl
               · exact hJ j hj (by omega)
          · refine Tm.neg (by omega) (Tm.some fun x hx=>?_)
            obtain⟨j,hj,rfl⟩:=List.getElem_of_mem hx
            exact hJ j hj (by omega)
        · cases o with
          |inr z=>
           have ho:z=false:=ho
           subst ho
           exact Tm.some fun h=>by simp at h
          |inl _=>
           have hts:∀t∈c.Tests,okT t=true∧TxtOk c l t.Var:=ho
           refine(sPairs_tm hc.nn (by omega)).bind fun r hr=>?_
           cases r with
           |false=>exact Tm.neg (by simp) (Tm.some fun e=>by simp at e)
           |true=>
            refine Tm.pos rfl ((sPairs_tm hc.nn (by omega)).bind fun r2 hr2=>Tm.some fun e=>?_)
            exact⟨⟨bs,hbo,fun k hk=>(hit k hk).2⟩,q1,q2,hax,fun k hk=>(hit k hk).1,hts,hr rfl,hr2 e⟩
structure LwC (c:RClause):Prop where
 nl:c.Null.length≤17592186043904
 nn:c.NotNull.length≤17592186043904
 ax:c.Auxiliary.length≤17592186043904
 it:c.Ints.length≤17592186043904
 ts:c.Tests.length≤17592186043904
 sm:c.Same.length≤17592186043904
 df:c.Different.length≤17592186043904
theorem sFew_tm{c:RClause}(h:LwC c):Tm (fun N=>sFew N c) (fun r=>r=true→SmC c):=by
 have:=h.nl;have:=h.nn;have:=h.ax;have:=h.it;have:=h.ts;have:=h.sm;have:=h.df
 unfold sFew
 have e1:iw ((c.Null.length:Int)+(c.NotNull.length:Int))=((c.Null.length+c.NotNull.length:Nat):Int):=by rw[iw_eq]<;>omega
 have e2:iw (((c.Null.length+c.NotNull.length:Nat):Int)+(c.Auxiliary.length:Int))=((c.Null.length+c.NotNull.length+c.Auxiliary.length:Nat):Int):=by rw[iw_eq]<;>omega
 have e3:iw (((c.Null.length+c.NotNull.length+c.Auxiliary.length:Nat):Int)+(c.Ints.length:Int))=((c.Null.length+c.NotNull.length+c.Auxiliary.length+c.Ints.length:Nat):Int):=by rw[iw_eq]<;>omega
 have e4:iw (((c.Null.length+c.NotNull.length+c.Auxiliary.length+c.Ints.length:Nat):Int)+(c.Tests.length:Int))=((c.Null.length+c.NotNull.length+c.Auxiliary.length+c.Ints.length+c.Tests.length:Nat):Int):=by rw[iw_eq]<;>omega
 have e5:iw (((c.Null.length+c.NotNull.length+c.Auxiliary.length+c.Ints.length+c.Tests.length:Nat):Int)+(c.Same.length:Int))=((c.Null.length+c.NotNull.length+c.Auxiliary.length+c.Ints.length+c.Tests.length+c.Same.length:Nat):Int):=by rw[iw_eq]<;>omega
 have e6:iw (((c.Null.length+c.NotNull.length+c.Auxiliary.length+c.Ints.length+c.Tests.length+c.Same.length:Nat):Int)+(c.Different.length:Int))=((c.Null.length+c.NotNull.length+c.Auxiliary.length+c.Ints.length+c.Tests.length+c.Same.length+c.Different.length:Nat):Int):=by rw[iw_eq]<;>omega
 rw[e1,e2,e3,e4,e5,e6]
 by_cases hz:((c.Null.length+c.NotNull.length+c.Auxiliary.length+c.Ints.length+c.Tests.length+c.Same.length+c.Different.length:Nat):Int)>80
 · exact Tm.pos hz (Tm.some fun e=>by simp at e)
 · refine Tm.neg hz ?_
   have hsm:SmC c:=⟨by omega,by omega,by omega,by omega,by omega⟩
   refine Tm.bind (Q:=fun _=>True) ?_ fun n1 _=>?_
   · refine Tm.up c.Auxiliary.length (fun k s=>s.2=(k:Int)) rfl ?_
     rintro k hk ⟨s,i⟩ hi
     dsimp only at hi;subst hi
     unfold sFew_b1
     dsimp only
     rcases Nat.lt_or_ge k c.Auxiliary.length with hlt|hge
     · exact Tm.pos (by omega) (Tm.step (idx_n hlt) (Tm.some ⟨hlt,iw_n (by omega)⟩))
     · exact Tm.neg (by omega) (Tm.some trivial)
   · refine Tm.bind (Q:=fun _=>True) ?_ fun n2 _=>?_
     · refine Tm.up c.Ints.length (fun k s=>s.2=(k:Int)) rfl ?_
       rintro k hk ⟨s,i⟩ hi
       dsimp only at hi;subst hi
       unfold sFew_b2
       dsimp only
       rcases Nat.lt_or_ge k c.Ints.length with hlt|hge
       · exact Tm.pos (by omega) (Tm.step (idx_n hlt) (Tm.some ⟨hlt,iw_n (by omega)⟩))
       · exact Tm.neg (by omega) (Tm.some trivial)
     · refine Tm.bind (Q:=fun _=>True) ?_ fun o _=>?_
       · refine Tm.up c.Tests.length (fun k s=>s=(k:Int)) rfl ?_
         rintro k hk i rfl
         unfold sFew_b3
         rcases Nat.lt_or_ge k c.Tests.length with hlt|hge
         · refine Tm.pos (by omega) (Tm.step (idx_n hlt) ?_)
           by_cases g:(c.Tests[k].Text.length:Int)>40
           · exact Tm.pos g (Tm.some trivial)
           · exact Tm.neg g (Tm.some ⟨hlt,iw_n (by omega)⟩)
         · exact Tm.neg (by omega) (Tm.some trivial)
       · cases o with
         |inl _=>exact Tm.some fun _=>hsm
         |inr z=>exact Tm.some fun _=>hsm
open Go Go.X
def okS(k:Int):Bool:=decide (0≤k∧k≤16)
def okV(n:Nat)(v:Int):Bool:=decide (0≤v∧v<n)
def ixB{α:Type}(f:α→Option Bool)(s:List α):Int→Option (Stp Int (Sum Unit Int)):=fun x=>
 if(x:Int)<(List.length s:Int)then
  (idx s x).bind fun y=>(f y).bind fun r=>if r=true then some (Stp.done (Sum.inr x))else some (Stp.next (iw (x+1)))
 else some (Stp.done (Sum.inl ()))
def ixF{α:Type}(N:Nat)(s:List α)(f:α→Option Bool):Option Int:=
 (loopM (ixB f s) N 0).bind fun ss=>match ss with
  |Sum.inl _=>some (-1)
  |Sum.inr z=>some z
theorem indexInt_eq(N:Nat)(s:List Int)(f:Int→Option Bool):indexInt N s f=ixF N s f:=rfl
theorem ixF_tm{α:Type}{s:List α}{f:Nat→α→Option Bool}{g:α→Bool}(hn:s.length≤Bg)(h:∀x∈s,Tm (fun N=>f N x) (·=g x)):Tm (fun N=>ixF N s (f N)) (fun r=>decide (r≥0)=s.any g):=by
 have hb:Bg=9223372036854775807:=rfl
 unfold ixF
 refine(Tm.findL (b:=fun N=>ixB (f N) s) s g (fun k=>(k:Int)) (by omega) (fun k hk=>?_) ?_).bind fun o ho=>?_
 · unfold ixB
   refine Tm.pos (by omega) (Tm.step (idx_n hk) ((h _ (List.getElem_mem hk)).eq ?_))
   cases g s[k]<;>exact Tm.some rfl
 · unfold ixB
   exact Tm.neg (by omega) (Tm.some rfl)
 · rcases ho with⟨h1,rfl⟩|⟨k,hk,h1,_,rfl⟩
   · refine Tm.some ?_
     rw[h1];rfl
   · refine Tm.some ?_
     rw[List.any_eq_true.2 ⟨_,List.getElem_mem hk,h1⟩]
     exact decide_eq_true (by omega)
theorem containsInt_tm{s:List Int}{f:Nat→Int→Option Bool}{g:Int→Bool}(hn:s.length≤Bg)(h:∀x∈s,Tm (fun N=>f N x) (·=g x)):Tm (fun N=>containsInt N s (f N)) (·=s.any g):=by
 unfold containsInt
 simp only[indexInt_eq]
 exact(ixF_tm hn h).bind fun r hr=>Tm.some hr
theorem not_any_not{α:Type}{l:List α}{f:α→Bool}:(!l.any fun x=>!f x)=l.all f:=by
 rw[Bool.eq_iff_iff]
 simp
open Go Go.X
def bits(S:Nat→Bool):Nat→Nat
 |0=>0
 |n+1=>bits S n|||(if S n then 2^n else 0)
theorem bits_test{S:Nat→Bool}:∀{n i:Nat},(bits S n).testBit i=(decide (i<n)&&S i)
 |0,i=>by simp[bits]
 |n+1,i=>by
  rw[bits,Nat.testBit_or,bits_test]
  by_cases hS:S n
  · rw[if_pos hS,Nat.testBit_two_pow]
    by_cases hi:i=n
    · subst hi;simp[hS]
    · have h1:decide (n=i)=false:=decide_eq_false (fun h=>hi h.symm)
      have h2:decide (i<n+1)=decide (i<n):=decide_eq_decide.2 (by omega)
      rw[h1,h2];simp
  · rw[if_neg hS]
    by_cases hi:i=n
    · subst hi;simp[hS]
    · have h2:decide (i<n+1)=decide (i<n):=decide_eq_decide.2 (by omega)
      rw[h2];simp
theorem bits_lt{S:Nat→Bool}{n:Nat}:bits S n<2^n:=Nat.lt_pow_two_of_testBit _ fun i hi=>by
 rw[bits_test,decide_eq_false (by omega)];rfl
theorem bits_eq{S:Nat→Bool}{n m:Nat}(hm:m<2^n)(h:∀i,i<n→m.testBit i=S i):m=bits S n:=by
 apply Nat.eq_of_testBit_eq
 intro i
 rw[bits_test]
 by_cases hi:i<n
 · rw[decide_eq_true hi,h i hi];rfl
 · rw[decide_eq_false hi,Nat.testBit_lt_two_pow (Nat.lt_of_lt_of_le hm (Nat.pow_le_pow_right (by decide) (by omega)))];rfl
theorem bshr_u32{x:Int}{n:Nat}(h:n≤32):bshr .u32 x n=x/2^n:=by
 unfold bshr
 rw[show min ((n:Int)).toNat IntKind.u32.bits=n by show min _ 32=n;omega]
 exact Int.fdiv_eq_ediv_of_nonneg _ (Int.le_of_lt (Int.pow_pos (by decide)))
theorem u32_n{a:Nat}(h:a<4294967296):IntKind.u32.wrap (a:Int)=(a:Int):=wq_u32 rfl h
theorem bt{m i:Nat}(hm:m<4294967296)(hi:i≤31):(band .u32 (bshr .u32 (m:Int) (i:Int)) 1:Int)=if m.testBit i then 1 else 0:=by
 rw[bshr_u32 (by omega)]
 have e:((m:Int)/2^i)=((m/2^i:Nat):Int):=by simp
 have hle:m/2^i<4294967296:=Nat.lt_of_le_of_lt (Nat.div_le_self _ _) hm
 rw[e,show(1:Int)=((1:Nat):Int) from rfl,band_nat (u32_n hle) (u32_n (by decide)),Nat.and_one_is_mod,Nat.testBit_eq_decide_div_mod_eq]
 by_cases h:m/2^i%2=1
 · rw[h];simp
 · have:m/2^i%2=0:=by omega
   rw[this];simp
theorem bsh{i:Nat}(hi:i≤31):bshl .u32 1 (i:Int)=((2^i:Nat):Int):=by
 unfold bshl
 rw[show min ((i:Int)).toNat IntKind.u32.bits=i by show min _ 32=i;omega]
 have h:2^i<4294967296:=Nat.lt_of_le_of_lt (Nat.pow_le_pow_right (by decide) hi) (by decide)
 rw[Int.one_mul,show((2:Int)^i)=((2^i:Nat):Int) by simp]
 exact u32_n h
theorem bs{m i n:Nat}(hm:m<2^(n+1))(hi:i≤n)(hn:n≤16):bor .u32 (m:Int) (bshl .u32 1 (i:Int))=((m|||2^i:Nat):Int)∧m|||2^i<2^(n+1):=by
 have h17:2^(n+1)≤2^17:=Nat.pow_le_pow_right (by decide) (by omega)
 have h2:2^i<2^(n+1):=Nat.pow_lt_pow_right (by decide) (by omega)
 refine⟨?_,Nat.or_lt_two_pow hm h2⟩
 rw[bsh (by omega),bor_nat (u32_n (by omega)) (u32_n (by omega))]
theorem bs_test{m i j:Nat}:(m|||2^i).testBit j=(m.testBit j||decide (i=j)):=by rw[Nat.testBit_or,Nat.testBit_two_pow]
def isP(o:Option UInt8):Bool:=decide (o=some 37)
def clo(p:List UInt8)(S:Nat→Bool):Nat→Bool
 |0=>S 0
 |i+1=>S (i+1)||(clo p S i&&isP p[i]?)
def hit(o:Option UInt8)(c:Int):Bool:=match o with
 |some b=>decide (b≠37)&&(decide (b=95)||decide ((b.toNat:Int)=c))
 |none=>false
def nxs(p:List UInt8)(S:Nat→Bool)(c:Int):Nat→Bool:=fun j=>(S j&&isP p[j]?)||(match j with|0=>false|i+1=>S i&&hit p[i]? c)
theorem u8_37{b:UInt8}:((b.toNat:Int)=37)↔b=37:=by
 constructor
 · intro h;apply UInt8.toNat_inj.1;show b.toNat=37;omega
 · rintro rfl;rfl
theorem u8_95{b:UInt8}:((b.toNat:Int)=95)↔b=95:=by
 constructor
 · intro h;apply UInt8.toNat_inj.1;show b.toNat=95;omega
 · rintro rfl;rfl
theorem pClosure_tm{p:List UInt8}{m:Nat}(hp:p.length≤16)(hm:m<2^(p.length+1)):Tm (fun N=>pClosure N p (m:Int)) (·=((bits (clo p m.testBit) (p.length+1):Nat):Int)):=by
 unfold pClosure
 have h17:2^(p.length+1)≤2^17:=Nat.pow_le_pow_right (by decide) (by omega)
 refine Tm.eq (a:=((bits (clo p m.testBit) (p.length+1):Nat):Int)) ?_ (Tm.some rfl)
 refine Tm.up p.length (fun k s=>s.2=(k:Int)∧∃a:Nat,s.1=(a:Int)∧a<2^(p.length+1)∧(∀i,i≤k→a.testBit i=clo p m.testBit i)∧(∀i,k<i→a.testBit i=m.testBit i)) ⟨rfl,m,rfl,hm,fun i hi=>by rw[Nat.le_zero.1 hi];rfl,fun _ _=>rfl⟩ ?_
 rintro k hk ⟨s,i⟩ ⟨hi,a,ha,hal,h1,h2⟩
 dsimp only at hi ha;subst hi;subst ha
 unfold pClosure_b1
 rcases Nat.lt_or_ge k p.length with hlt|hge
 · refine Tm.pos (by omega) ?_
   simp only[idx_n hlt,Option.bind_some]
   by_cases hp1:((p[k]).toNat:Int)=37
   · have hp2:isP p[k]?=true:=by rw[List.getElem?_eq_getElem hlt,u8_37.1 hp1];rfl
     simp only[if_pos hp1,chk_ok (show¬(k:Int)<0 by omega),Option.bind_some,bt (m:=a) (i:=k) (by omega) (by omega)]
     by_cases hb:a.testBit k=true
     · simp only[hb,if_true,decide_true,iw_n (k:=k) (by omega),chk_ok (show¬((k+1:Nat):Int)<0 by omega),Option.bind_some]
       obtain⟨e1,e2⟩:=bs (n:=p.length) hal (show k+1≤p.length by omega) hp
       rw[e1]
       refine Tm.some ⟨hlt,rfl,_,rfl,e2,fun i hi=>?_,fun i hi=>?_⟩
       · rw[bs_test]
         by_cases hik:i≤k
         · rw[h1 i hik,decide_eq_false (by omega)];simp
         · obtain rfl:i=k+1:=by omega
           have:=h1 k (Nat.le_refl _)
           rw[decide_eq_true rfl,clo,←this,hb,hp2];simp
       · rw[bs_test,h2 i (by omega),decide_eq_false (by omega)];simp
     · have hb':a.testBit k=false:=by simpa using hb
       simp only[hb',Bool.false_eq_true,if_false,decide_eq_false (show¬(0:Int)=1 by decide),Option.bind_some]
       refine Tm.some ⟨hlt,iw_n (by omega),a,rfl,hal,fun i hi=>?_,fun i hi=>h2 i (by omega)⟩
       by_cases hik:i≤k
       · exact h1 i hik
       · obtain rfl:i=k+1:=by omega
         have:=h1 k (Nat.le_refl _)
         rw[clo,←this,hb',h2 (k+1) (by omega)];simp
   · have hp2:isP p[k]?=false:=by
      rw[List.getElem?_eq_getElem hlt]
      refine decide_eq_false fun h=>hp1 (u8_37.2 (Option.some.inj h))
     simp only[if_neg hp1,Option.bind_some,Bool.false_eq_true,if_false]
     refine Tm.some ⟨hlt,iw_n (by omega),a,rfl,hal,fun i hi=>?_,fun i hi=>h2 i (by omega)⟩
     by_cases hik:i≤k
     · exact h1 i hik
     · obtain rfl:i=k+1:=by omega
       rw[clo,hp2,h2 (k+1) (by omega)];simp
 · refine Tm.neg (by omega) (Tm.some ?_)
   have:k=p.length:=by omega
   subst this
   show(a:Int)=_
   rw[bits_eq hal fun i hi=>h1 i (by omega)]
structure StOk (t:TTest)(s:Int):Prop where
 lk:t.Kind=1→∃m:Nat,s=(m:Int)∧m<2^(t.Text.length+1)
 cm:t.Kind≠1→s=100∨s=101∨(0≤s∧s≤t.Text.length)
def sp0(t:TTest):Int:=if t.Kind=1 then((bits (clo t.Text (Nat.testBit 1)) (t.Text.length+1):Nat):Int)else 0
def cmpN(x:List UInt8)(s c:Int):Int:=if s≥100 then s else if s=x.length∨c>((x.getD s.toNat 0).toNat:Int)then 101 else if c<((x.getD s.toNat 0).toNat:Int)then 100 else s+1
def spN(t:TTest)(s c:Int):Int:=if t.Kind=1 then((bits (clo t.Text (Nat.testBit (bits (nxs t.Text (Nat.testBit s.toNat) c) (t.Text.length+1)))) (t.Text.length+1):Nat):Int)else cmpN t.Text s c
def spF(t:TTest)(s:Int):Bool:=
 let ok:=if t.Kind=1 then s.toNat.testBit t.Text.length else if t.Kind=0 then decide (s=t.Text.length)else if t.Kind=2 then decide (s=100∨s<t.Text.length)else decide (s=100∨s≤t.Text.length)
 !(ok==t.Negated)
theorem okT_len{t:TTest}(h:okT t=true):0≤t.Kind∧t.Kind≤3∧t.Text.length≤16:=by
 simp only[okT,Bool.and_eq_true,decide_eq_true_eq]at h;exact h.1
theorem st0_ok{t:TTest}(h:okT t=true):StOk t (sp0 t):=by
 constructor
 · intro hk;unfold sp0;rw[if_pos hk];exact⟨_,rfl,bits_lt⟩
 · intro hk;unfold sp0;rw[if_neg hk];exact .inr (.inr ⟨by decide,by omega⟩)
theorem stN_ok{t:TTest}{s:Int}(c:Int)(h:okT t=true)(hs:StOk t s):StOk t (spN t s c):=by
 constructor
 · intro hk;unfold spN;rw[if_pos hk];exact⟨_,rfl,bits_lt⟩
 · intro hk
   unfold spN;rw[if_neg hk]
   unfold cmpN
   have h16:=(okT_len h).2.2
   rcases hs.cm hk with h1|h1|h1
   · rw[if_pos (by omega)];exact .inl h1
   · rw[if_pos (by omega)];exact .inr (.inl h1)
   · rw[if_neg (by omega)]
     split
     · exact .inr (.inl rfl)
     · rename_i hn
       split
       · exact .inl rfl
       · exact .inr (.inr ⟨by omega,by omega⟩)
theorem pBegin_tm{t:TTest}(h:okT t=true):Tm (fun N=>pBegin N t) (·=sp0 t):=by
 unfold pBegin sp0
 by_cases hk:t.Kind=1
 · simp only[if_pos hk]
   exact(pClosure_tm (m:=1) (okT_len h).2.2 (Nat.one_lt_two_pow (by omega))).eq (Tm.some rfl)
 · simp only[if_neg hk]
   exact Tm.some rfl
theorem pNext_b1_tm{t:TTest}{m:Nat}{c:Int}(hp:t.Text.length≤16)(hm:m<2^(t.Text.length+1)):Tm (fun N=>loopM (pNext_b1 N c (m:Int) t) N (0,0)) (·=((bits (nxs t.Text m.testBit c) (t.Text.length+1):Nat):Int)):=by
 generalize hx:t.Text=p at*
 have h17:2^(p.length+1)≤2^17:=Nat.pow_le_pow_right (by decide) (by omega)
 refine Tm.up p.length (fun k s=>s.2=(k:Int)∧∃a:Nat,s.1=(a:Int)∧a<2^(p.length+1)∧∀j,a.testBit j=((decide (j<k)&&m.testBit j&&isP p[j]?)||(match j with|0=>false|i+1=>decide (i<k)&&m.testBit i&&hit p[i]? c))) ⟨rfl,0,rfl,Nat.two_pow_pos _,fun j=>by cases j<;>simp⟩ ?_
 rintro k hk ⟨s,i⟩ ⟨hi,a,ha,hal,h1⟩
 dsimp only at hi ha;subst hi;subst ha
 unfold pNext_b1
 rw[hx]
 rcases Nat.lt_or_ge k p.length with hlt|hge
 · refine Tm.pos (by omega) ?_
   have hpk:p[k]?=some p[k]:=List.getElem?_eq_getElem hlt
   simp only[chk_ok (show¬(k:Int)<0 by omega),Option.bind_some,bt (m:=m) (i:=k) (by omega) (by omega)]
   have upto:∀(a':Nat),(∀j,a'.testBit j=(a.testBit j||(decide (j=k)&&m.testBit k&&isP p[k]?)||(decide (j=k+1)&&m.testBit k&&hit p[k]? c)))→∀j,a'.testBit j=((decide (j<k+1)&&m.testBit j&&isP p[j]?)||(match j with|0=>false|i+1=>decide (i<k+1)&&m.testBit i&&hit p[i]? c)):=by
    intro a' h j
    rw[h j,h1 j]
    cases j with
    |zero=>
     by_cases h0:k=0
     · subst h0;simp
     · have e1:decide (0<k)=true:=decide_eq_true (by omega)
       have e2:decide (0=k)=false:=decide_eq_false (by omega)
       rw[e1,e2];simp
    |succ i=>
     dsimp only
     by_cases e:i+1=k
     · subst e
       have e1:decide (i+1<i+1)=false:=decide_eq_false (by omega)
       have e2:decide (i<i+1)=true:=decide_eq_true (by omega)
       have e3:decide (i+1<i+1+1)=true:=decide_eq_true (by omega)
       have e4:decide (i<i+1+1)=true:=decide_eq_true (by omega)
       have e5:decide (i+1=i+1+1)=false:=decide_eq_false (by omega)
       rw[e1,e2,e3,e4,e5,decide_eq_true rfl]
       simp only[Bool.false_and,Bool.true_and,Bool.false_or,Bool.or_false]
       exact Bool.or_comm _ _
     · by_cases e':i=k
       · subst e'
         have e1:decide (i+1<i)=false:=decide_eq_false (by omega)
         have e2:decide (i<i)=false:=decide_eq_false (by omega)
         have e3:decide (i+1=i)=false:=decide_eq_false (by omega)
         have e4:decide (i+1<i+1)=false:=decide_eq_false (by omega)
         have e5:decide (i<i+1)=true:=decide_eq_true (by omega)
         rw[e1,e2,e3,e4,e5,decide_eq_true rfl];simp
       · have e1:decide (i+1<k+1)=decide (i+1<k):=decide_eq_decide.2 (by omega)
         have e2:decide (i<k+1)=decide (i<k):=decide_eq_decide.2 (by omega)
         have e3:decide (i+1=k)=false:=decide_eq_false (by omega)
         have e4:decide (i+1=k+1)=false:=decide_eq_false (by omega)
         rw[e1,e2,e3,e4];simp
   by_cases hb:m.testBit k=true
   · rw[hb]
     simp only[if_true,show((1:Int)=0)=False by simp,if_false,idx_n hlt,Option.bind_some]
     by_cases hp1:((p[k]).toNat:Int)=37
     · rw[if_pos hp1]
       have e37:=u8_37.1 hp1
       obtain⟨e1,e2⟩:=bs (n:=p.length) hal (show k≤p.length by omega) hp
       rw[e1]
       refine Tm.some ⟨hlt,iw_n (by omega),_,rfl,e2,upto _ fun j=>?_⟩
       rw[bs_test,hb,hpk,e37]
       have:decide (k=j)=decide (j=k):=decide_eq_decide.2 eq_comm
       simp[isP,hit,this]
     · rw[if_neg hp1]
       have n37:p[k]≠37:=fun h=>hp1 (u8_37.2 h)
       have e:(if((p[k]).toNat:Int)=95 then some true else some (decide (((p[k]).toNat:Int)=c)))=some (hit p[k]? c):=by
        rw[or_if,hpk]
        simp only[hit,n37,ne_eq,not_false_eq_true,decide_true,Bool.true_and]
        rw[←Bool.decide_or]
        exact congrArg some (decide_eq_decide.2 (by rw[u8_95]))
       rw[e]
       simp only[Option.bind_some]
       cases hh:hit p[k]? c with
       |true=>
        simp only[if_true,iw_n (k:=k) (by omega),chk_ok (show¬((k+1:Nat):Int)<0 by omega),Option.bind_some]
        obtain⟨e1,e2⟩:=bs (n:=p.length) hal (show k+1≤p.length by omega) hp
        rw[e1]
        refine Tm.some ⟨hlt,rfl,_,rfl,e2,upto _ fun j=>?_⟩
        rw[bs_test,hb,hh]
        have e3:decide (k+1=j)=decide (j=k+1):=decide_eq_decide.2 eq_comm
        have e4:isP p[k]?=false:=by rw[hpk];exact decide_eq_false (fun h=>n37 (Option.some.inj h))
        rw[e3,e4];simp
       |false=>
        simp only[Bool.false_eq_true,if_false]
        refine Tm.some ⟨hlt,iw_n (by omega),a,rfl,hal,upto _ fun j=>?_⟩
        have e4:isP p[k]?=false:=by rw[hpk];exact decide_eq_false (fun h=>n37 (Option.some.inj h))
        rw[e4,hh];simp
   · have hb':m.testBit k=false:=by simpa using hb
     rw[hb']
     simp only[Bool.false_eq_true,if_false,if_true]
     exact Tm.some ⟨hlt,iw_n (by omega),a,rfl,hal,upto _ fun j=>by rw[hb'];simp⟩
 · refine Tm.neg (by omega) (Tm.some ?_)
   have:k=p.length:=by omega
   subst this
   show(a:Int)=_
   rw[bits_eq (S:=nxs p m.testBit c) hal fun j hj=>?_]
   rw[h1 j]
   unfold nxs
   have e0:(decide (j<p.length)&&m.testBit j&&isP p[j]?)=(m.testBit j&&isP p[j]?):=by
    by_cases hjl:j<p.length
    · rw[decide_eq_true hjl];simp
    · rw[List.getElem?_eq_none (by omega)];simp[isP]
   rw[e0]
   cases j with
   |zero=>rfl
   |succ i=>
    have:decide (i<p.length)=true:=decide_eq_true (by omega)
    simp only[this,Bool.true_and]
theorem pNext_tm{t:TTest}{s c:Int}(h:okT t=true)(hs:StOk t s):Tm (fun N=>pNext N t s c) (·=spN t s c):=by
 have h16:=(okT_len h).2.2
 unfold pNext spN
 by_cases hk:t.Kind=1
 · obtain⟨m,rfl,hm⟩:=hs.lk hk
   simp only[if_pos hk]
   refine(pNext_b1_tm h16 hm).eq ?_
   exact(pClosure_tm h16 bits_lt).eq (Tm.some rfl)
 · simp only[if_neg hk]
   unfold cmpN
   rcases hs.cm hk with h1|h1|h1
   · simp only[if_pos (show s≥100 by omega)];exact Tm.some rfl
   · simp only[if_pos (show s≥100 by omega)];exact Tm.some rfl
   · simp only[if_neg (show¬s≥100 by omega)]
     obtain⟨i,rfl⟩:=Int.eq_ofNat_of_zero_le h1.1
     have e0:iw (i:Int)=(i:Int):=iw_eq (by omega) (by omega)
     simp only[e0]
     by_cases hl:(i:Int)=(t.Text.length:Int)
     · simp only[if_pos hl,Option.bind_some,if_true]
       rw[if_pos (.inl hl)];exact Tm.some rfl
     · have hlt:i<t.Text.length:=by omega
       have eg:t.Text.getD i 0=t.Text[i]:=by rw[List.getD_eq_getElem?_getD,List.getElem?_eq_getElem hlt];rfl
       simp only[if_neg hl,idx_n hlt,Option.bind_some,Int.toNat_natCast,eg,false_or]
       by_cases g1:c>((t.Text[i]).toNat:Int)
       · rw[decide_eq_true g1,if_pos (show(i:Int)=(t.Text.length:Int)∨c>((t.Text[i]).toNat:Int) from .inr g1)];exact Tm.some rfl
       · rw[decide_eq_false g1,if_neg (show¬((i:Int)=(t.Text.length:Int)∨c>((t.Text[i]).toNat:Int)) from fun h=>h.elim hl g1)]
         by_cases g2:c<((t.Text[i]).toNat:Int)
         · rw[if_pos g2,if_pos g2];exact Tm.some rfl
         · rw[if_neg g2,if_neg g2]
           exact Tm.some (uw32_eq (z:=(i:Int)+1) (by omega) (by omega))
theorem pPassed_tm{t:TTest}{s:Int}(h:okT t=true)(hs:StOk t s):Tm (fun N=>pPassed N t s) (·=spF t s):=by
 have h16:=(okT_len h).2.2
 have h17:2^(t.Text.length+1)≤2^17:=Nat.pow_le_pow_right (by decide) (by omega)
 unfold pPassed spF
 by_cases hk:t.Kind=1
 · obtain⟨m,rfl,hm⟩:=hs.lk hk
   simp only[if_pos hk,chk_ok (show¬(t.Text.length:Int)<0 by omega),Option.bind_some,bt (m:=m) (i:=t.Text.length) (by omega) (by omega),Int.toNat_natCast]
   refine Tm.some ?_
   cases m.testBit t.Text.length<;>rfl
 · simp only[if_neg hk]
   have e0:iw s=s:=by rcases hs.cm hk with h1|h1|h1<;>exact iw_eq (by omega) (by omega)
   rw[e0]
   by_cases h0:t.Kind=0
   · simp only[if_pos h0,Option.bind_some];exact Tm.some rfl
   · simp only[if_neg h0]
     by_cases h2:t.Kind=2
     · simp only[if_pos h2,or_if,Option.bind_some];exact Tm.some rfl
     · simp only[if_neg h2,or_if,Option.bind_some];exact Tm.some rfl
def run(t:TTest)(s:Int)(x:List Int):Int:=x.foldl (spN t) s
def pas(t:TTest)(x:List UInt8):Bool:=spF t (run t (sp0 t) (sby x))
open Go Go.X
def sI(S:Nat→Bool)(n:Nat):List Int:=(List.range (n+1)).map fun i=>if S i then(1:Int)else 0
def enc(t:TTest)(s:Int):List UInt8:=if t.Kind=1 then bstr (sI s.toNat.testBit t.Text.length)else if s=100 then[60]else if s=101 then[62]else[61,UInt8.ofNat s.toNat]
open Go Go.X
def gL(p:TProb)(x:List (List UInt8))(i:Nat):Bool:=decide (p.Min.getD i 0≤((x.getD i []).length:Int)∧((x.getD i []).length:Int)≤p.Max.getD i 0)&&(x.getD i []).all prn
def gT(x:List (List UInt8))(t:TTest):Bool:=pas t (x.getD t.Var.toNat [])
def gS(x:List (List UInt8))(e:Arr2Int):Bool:=decide (x.getD e.e0.toNat []=x.getD e.e1.toNat [])
def gD(x:List (List UInt8))(e:Arr2Int):Bool:=!gS x e
def sat(p:TProb)(x:List (List UInt8)):Bool:=decide (x.length=p.Min.length)&&(List.range x.length).all (gL p x)&&p.Tests.all (gT x)&&p.Same.all (gS x)&&p.Different.all (gD x)
structure OkP (p:TProb):Prop where
 len:p.Max.length=p.Min.length
 le:p.Min.length≤128
 mn:∀k∈p.Min,0≤k∧k≤16
 mx:∀k∈p.Max,0≤k∧k≤16
 ts:∀t∈p.Tests,okT t=true∧0≤t.Var∧t.Var<p.Min.length
 sm:∀e∈p.Same,(0≤e.e0∧e.e0<p.Min.length)∧0≤e.e1∧e.e1<p.Min.length
 df:∀e∈p.Different,(0≤e.e0∧e.e0<p.Min.length)∧0≤e.e1∧e.e1<p.Min.length
section
variable {p:TProb} {x:List (List UInt8)}
structure Lms (p:TProb):Prop where
 a:p.Min.length≤1000
 b:p.Max.length≤1000
 c:p.Tests.length≤1000
 d:p.Same.length≤1000
 e:p.Different.length≤1000
end
open Go Go.X
def lk:List UInt8→List UInt8→Bool
 |[],x=>x.isEmpty
 |b::p,x=>if b=37 then(List.range (x.length+1)).any fun i=>lk p (x.drop i)else match x with
  |[]=>false
  |c::y=>(decide (b=95)||decide (b=c))&&lk p y
def acc(p:List UInt8)(S:Nat→Bool):List Int→Bool
 |[]=>S p.length
 |c::x=>acc p (clo p (nxs p S c)) x
def cm:List UInt8→List UInt8→Int
 |[],[]=>0
 |[],_::_=>-1
 |_::_,[]=>1
 |c::x,b::q=>if c.toNat<b.toNat then-1 else if b.toNat<c.toNat then 1 else cm x q
def cst(n:Nat)(s v:Int):Prop:=(v=1∧s=101)∨(v=-1∧(s=100∨(0≤s∧s<n)))∨(v=0∧s=n)
def mean(t:TTest)(x:List UInt8):Bool:=
 !((if t.Kind=1 then lk t.Text x else if t.Kind=0 then decide (x=t.Text)else if t.Kind=2 then decide (cm x t.Text<0)else decide (cm x t.Text≤0))==t.Negated)
open Go Go.X
def vOk(v:RVal)(x:RVar):Prop:=
 (v.Kind=0∧v.Int=0∧v.Text=[]∧x.Nullable=true)∨(v.Kind=1∧v.Text=[]∧x.Ty=1∧x.Low≤v.Int∧v.Int≤x.High)∨(v.Kind=2∧v.Int=0∧x.Ty=2∧v.Text.all prn=true∧v.Text.length≤16∧(v.Text.length:Int)≤x.Max)
structure RowOk (R:List RVal)(l:List RVar):Prop where
 len:R.length=l.length
 at':∀i (h:i<R.length) (h':i<l.length),vOk R[i] l[i]
open Go Go.X
abbrev W32:Int:=4294967296
theorem w32_pos:(1:Int)<W32:=by decide
structure Is (x:Big)(v:Int):Prop where
 dg:Dg W32 x.Digits v.natAbs
 neg:x.Negative=decide (v<0)
open Go Go.X
def OkB(K:Nat)(x:Big):Prop:=InB W32 x.Digits∧x.Digits.length≤K
theorem OkB.mono{K K':Nat}{x:Big}(h:OkB K x)(hK:K≤K'):OkB K' x:=⟨h.1,by have:=h.2;omega⟩
theorem OkB.nil{K:Nat}{b:Bool}:OkB K ⟨b,[]⟩:=⟨.nil,Nat.zero_le _⟩
theorem Is.ok{x:Big}{v:Int}{K:Nat}(h:Is x v)(hl:x.Digits.length≤K):OkB K x:=⟨h.dg.inB,hl⟩
theorem Tm.each{α β:Type}{body:Nat→Int→Option (Stp Int (Sum Unit β))}(xs:List α)(P:α→Prop){Q:Sum Unit β→Prop}(hl:xs.length≤9223372036854775807)
 (step:∀(n:Nat) (hn:n<xs.length),(∀j,(hj:j<xs.length)→j<n→P xs[j])→Tm (fun N=>body N (n:Int)) (fun t=>(t=.next (iw ((n:Int)+1))∧P xs[n])∨(∃b,t=.done (.inr b)∧Q (.inr b))))
 (fin:(∀x∈xs,P x)→Tm (fun N=>body N (xs.length:Int)) (fun t=>∃r,t=.done r∧Q r)):Tm (fun N=>loopM (body N) N 0) Q:=by
 refine Tm.loop (fun i:Int=>∃n:Nat,i=n∧n≤xs.length∧∀j,(hj:j<xs.length)→j<n→P xs[j]) (fun i:Int=>xs.length-i.toNat) ⟨0,rfl,Nat.zero_le _,fun _ _ h=>absurd h (by omega)⟩ ?_
 rintro _ ⟨n,rfl,hn,hP⟩
 rcases Nat.lt_or_ge n xs.length with h|h
 · refine(step n h hP).mono ?_
   rintro t (⟨rfl,hp⟩|⟨b,rfl,hq⟩)
   · refine⟨⟨n+1,by rw[iw_eq]<;>omega,by omega,fun j hj hlt=>?_⟩,?_⟩
     · rcases Nat.lt_or_ge j n with h'|h'
       · exact hP j hj h'
       · obtain rfl:j=n:=by omega
         exact hp
     · show xs.length-(iw ((n:Int)+1)).toNat<xs.length-((n:Int)).toNat
       rw[iw_eq]<;>omega
   · exact hq
 · obtain rfl:n=xs.length:=by omega
   refine(fin fun x hx=>?_).mono ?_
   · obtain⟨j,hj,rfl⟩:=List.mem_iff_getElem.1 hx
     exact hP j hj hj
   · rintro t ⟨r,rfl,hq⟩
     exact hq
open Go Go.X
def RightP(c:Constraint)(n:Int):Prop:=(∀i,(h:i<c.Linear.Coefs.length)→0≤c.Linear.Coefs[i].Var∧c.Linear.Coefs[i].Var<n∧(∀(_:0<i),(c.Linear.Coefs[i-1]'(by omega)).Var<c.Linear.Coefs[i].Var))∧0≤n∧n≤512
def I64(z:Int):Prop:=-9223372036854775808≤z∧z≤9223372036854775807
structure OkC (c:Constraint):Prop where
 len:c.Linear.Coefs.length≤9223372036854775807
 const:I64 c.Linear.Const
 coef:∀k∈c.Linear.Coefs,I64 k.N
open Go Go.X
def vsOf(R:List RVal)(aux:List Int):List Int:=R.map RVal.Int++aux
def lin(cs:List Coef)(V:List Int):Int:=(cs.map fun x=>x.N*V.getD x.Var.toNat 0).sum
structure Bnds (R:List RVal)(l:List RVar)(bs aux:List Int):Prop where
 row:∀v∈R,v.Int.natAbs≤2147483648
 nn:∀b∈bs,0≤b
 len:R.length=l.length
 aux:∀k,k<aux.length→((aux.getD k 0).natAbs:Int)≤bs.getD k 0
variable {R:List RVal} {l:List RVar} {bs aux:List Int} {c:RClause} {f:Linear}
structure AxV (c:RClause)(R:List RVal)(l:List RVar)(bs aux:List Int):Prop where
 len:aux.length=c.Auxiliary.length
 at':∀i (hi:i<c.Auxiliary.length),(c.Auxiliary[i].By=0∧(∃v,R[c.Auxiliary[i].Text.toNat]?=some v∧v.Kind=2∧aux.getD i 0=(v.Text.length:Int)))∨(c.Auxiliary[i].By≠0∧aux.getD i 0=(c.Auxiliary[i].Of.Const+lin c.Auxiliary[i].Of.Coefs (vsOf R (aux.take i)))/c.Auxiliary[i].By)
 bnd:∀k,k<aux.length→((aux.getD k 0).natAbs:Int)≤bs.getD k 0
open Go Go.X
structure HoldOk (c:RClause)(R:List RVal)(a:List Int×Bool):Prop where
 nl:∀v∈c.Null,∀x,R[v.toNat]?=some x→x.Kind=0
 nn:∀v∈c.NotNull,∀x,R[v.toNat]?=some x→x.Kind≠0
 ax:a.2=true
 it:∀k∈c.Ints,k.Linear.Const+lin k.Linear.Coefs (vsOf R a.1)≤0∧(k.Equal=true→k.Linear.Const+lin k.Linear.Coefs (vsOf R a.1)=0)
 ts:∀t∈c.Tests,∃x,R[t.Var.toNat]?=some x∧mean t x.Text=true
 sm:∀e∈c.Same,∃x y,R[e.e0.toNat]?=some x∧R[e.e1.toNat]?=some y∧x.Text=y.Text
 df:∀e∈c.Different,∃x y,R[e.e0.toNat]?=some x∧R[e.e1.toNat]?=some y∧x.Text≠y.Text
variable {R:List RVal} {l:List RVar} {bs:List Int} {c:RClause}
open Go Go.X
def quo(q:Int)(f:Linear)(b:Int):List Constraint:=[Constraint.mk (Linear.mk (iw (0-f.Const)) ((f.Coefs.map fun x=>Coef.mk x.Var (iw (0-x.N)))++[Coef.mk q b])) false,Constraint.mk (Linear.mk (iw (f.Const-iw (b-1))) (f.Coefs++[Coef.mk q (iw (0-b))])) false]
def hiOf(l:List RVar)(rg:List Arr2Int)(v:Nat):Int:=match rg[v]?,l[v]?with
 |some r,some x=>imin r.e1 x.Max
 |_,_=>0
section
variable {l:List RVar} {c:RClause} {rg:List Arr2Int}
structure RgOk (l:List RVar)(rg:List Arr2Int):Prop where
 len:rg.length=l.length
 bd:∀r∈rg,(0≤r.e0∧r.e0≤16)∧0≤r.e1∧r.e1≤16
theorem vhigh_tm(hr:RgOk l rg){k:Nat}(hk:k<l.length):Tm (fun N=>vhigh N l rg (k:Int)) (·=hiOf l rg k):=by
 unfold vhigh
 have hk2:k<rg.length:=by rw[hr.len];exact hk
 refine Tm.step (idx_n hk2) (Tm.step (idx_n hk) (Tm.some ?_))
 unfold hiOf
 rw[List.getElem?_eq_getElem hk,List.getElem?_eq_getElem hk2]
end
open Go Go.X
def isT(l:List RVar)(v:Int):Bool:=match l[v.toNat]?with
 |some x=>decide (x.Ty=2)
 |none=>false
def e0Of(rg:List Arr2Int)(v:Int):Int:=match rg[v.toNat]?with
 |some r=>r.e0
 |none=>0
def pos(vs:List Int)(v:Int):Int:=((vs.idxOf v:Nat):Int)
def tvs(l:List RVar)(c:RClause):List Int:=c.NotNull.filter (isT l)
def txtsOf(l:List RVar)(c:RClause)(rg:List Arr2Int):TProb:=
 TProb.mk ((tvs l c).map (e0Of rg)) ((tvs l c).map fun v=>hiOf l rg v.toNat) (c.Tests.map fun t=>TTest.mk (pos (tvs l c) t.Var) t.Kind t.Negated t.Text) (c.Same.map fun e=>Arr2Int.mk (pos (tvs l c) e.e0) (pos (tvs l c) e.e1)) (c.Different.map fun e=>Arr2Int.mk (pos (tvs l c) e.e0) (pos (tvs l c) e.e1))
theorem mget_mput1{K V:Type}[DecidableEq K]{m:List (K×V)}{k k':K}{v z:V}:(mget (mput m k v) k' z).1=if k'=k then v else(mget m k' z).1:=by
 induction m with
 |nil=>
  simp only[mput,mget]
  by_cases h:k=k'
  · rw[if_pos h,if_pos h.symm]
  · rw[if_neg h,if_neg (fun e=>h e.symm)]
 |cons p m ih=>
  simp only[mput]
  by_cases h:p.1=k
  · rw[if_pos h]
    simp only[mget]
    by_cases h2:k=k'
    · rw[if_pos h2,if_pos h2.symm]
    · rw[if_neg h2,if_neg (fun e=>h2 e.symm),if_neg (by rw[h];exact h2)]
  · rw[if_neg h]
    simp only[mget]
    by_cases h2:p.1=k'
    · rw[if_pos h2,if_neg (by rw[←h2];exact h),if_pos h2]
    · rw[if_neg h2,if_neg h2];exact ih
section
variable {l:List RVar} {c:RClause} {rg:List Arr2Int}
theorem asc_nodup{l:List Int}{n:Nat}(h:AscOk l n):l.Nodup:=by
 rw[List.Nodup,List.pairwise_iff_getElem]
 intro i j hi hj hij
 have:=h.asc i j hi hj hij
 omega
theorem tvs_nodup(h:AscOk c.NotNull l.length):(tvs l c).Nodup:=(asc_nodup h).sublist List.filter_sublist
theorem tvs_len:(tvs l c).length≤c.NotNull.length:=List.length_filter_le _ _
theorem txt_mem{v:Int}(h:TxtOk c l v):v∈tvs l c:=by
 obtain⟨k,rfl,⟨x,ex,hx⟩,hm⟩:=h
 refine List.mem_filter.2 ⟨hm,?_⟩
 unfold isT
 rw[Int.toNat_natCast,ex]
 exact decide_eq_true hx
def MOk(m:List (Int×Int))(vs:List Int):Prop:=∀i (h:i<vs.length),(mget m vs[i] 0).1=(i:Int)
theorem MOk.pos{m:List (Int×Int)}{vs:List Int}(h:MOk m vs)(hn:vs.Nodup){v:Int}(hv:v∈vs):(mget m v 0).1=Go.D.pos vs v:=by
 obtain⟨i,hi,rfl⟩:=List.getElem_of_mem hv
 rw[h i hi]
 unfold Go.D.pos
 rw[List.Nodup.idxOf_getElem hn i hi]
theorem take_asc(h:AscOk c.NotNull l.length){k:Nat}(hk:k<c.NotNull.length):c.NotNull[k]∉c.NotNull.take k:=by
 intro hm
 obtain⟨j,hj,e⟩:=List.getElem_of_mem hm
 rw[List.length_take]at hj
 rw[List.getElem_take]at e
 have:=h.asc j k (by omega) hk (by omega)
 omega
theorem vTexts_b1_tm(h:AscOk c.NotNull l.length)(hr:RgOk l rg)(hl:l.length≤10):Tm (fun N=>loopM (vTexts_b1 N c l rg) N (([]:List Int),([]:List Int),([]:List Int),([]:List (Int×Int)),0)) (fun r=>r.1=(tvs l c).map (e0Of rg)∧r.2.1=((tvs l c).map fun v=>hiOf l rg v.toNat)∧r.2.2.1=tvs l c∧MOk r.2.2.2 (tvs l c)):=by
 have hcl:=h.len
 refine Tm.up c.NotNull.length (fun k s=>s.2.2.2.2=(k:Int)∧s.1=((c.NotNull.take k).filter (isT l)).map (e0Of rg)∧s.2.1=(((c.NotNull.take k).filter (isT l)).map fun v=>hiOf l rg v.toNat)∧s.2.2.1=(c.NotNull.take k).filter (isT l)∧MOk s.2.2.2.1 ((c.NotNull.take k).filter (isT l))) ⟨rfl,rfl,rfl,rfl,fun i hi=>by simp at hi⟩ ?_
 rintro k hk ⟨a,b,vs,m,i⟩ ⟨hi,h1,h2,h3,h4⟩
 dsimp only at hi h1 h2 h3 h4;subst hi
 unfold vTexts_b1
 dsimp only
 rcases Nat.lt_or_ge k c.NotNull.length with hlt|hge
 · obtain⟨q,eq,hq⟩:=var_n (h.bd _ (List.getElem_mem hlt))
   have hq2:q<rg.length:=by rw[hr.len];exact hq
   have hta:=take_asc h hlt
   have hfl:((c.NotNull.take k).filter (isT l)).length≤k:=by
    have:=List.length_filter_le (isT l) (c.NotNull.take k)
    rw[List.length_take]at this;omega
   refine Tm.pos (by omega) (Tm.step (idx_n hlt) ?_)
   rw[eq]
   refine Tm.step (idx_n hq) ?_
   rw[List.take_succ_eq_append_getElem hlt,List.filter_append]
   rw[eq]at hta⊢
   have eT:isT l (q:Int)=decide (l[q].Ty=2):=by unfold isT;rw[Int.toNat_natCast,List.getElem?_eq_getElem hq]
   by_cases g:l[q].Ty=2
   · refine Tm.pos g ?_
     rw[List.filter_cons_of_pos (by rw[eT];exact decide_eq_true g),List.filter_nil]
     rw[h1,h2,h3]at*
     rw[apnd_ok (by rw[List.length_singleton];omega) (by decide)]
     simp only[Option.bind_some]
     refine Tm.step (idx_n hq2) ?_
     rw[apnd_ok (by rw[List.length_map,List.length_singleton];omega) (by decide)]
     simp only[Option.bind_some]
     refine(vhigh_tm hr hq).eq ?_
     rw[apnd_ok (by rw[List.length_map,List.length_singleton];omega) (by decide)]
     refine Tm.some ⟨hlt,iw_n (by omega),?_,?_,rfl,fun i hi=>?_⟩
     · dsimp only
       rw[List.map_append]
       congr 1
       unfold e0Of
       simp[List.getElem?_eq_getElem hq2]
     · dsimp only
       rw[List.map_append];rfl
     · dsimp only
       rw[mget_mput1]
       rw[List.length_append,List.length_singleton]at hi
       by_cases hlast:i=((c.NotNull.take k).filter (isT l)).length
       · subst hlast
         rw[List.getElem_append_right (Nat.le_refl _)]
         simp
       · have hi2:i<((c.NotNull.take k).filter (isT l)).length:=by omega
         rw[List.getElem_append_left hi2,if_neg]
         · exact h4 i hi2
         · intro e
           apply hta
           rw[←e]
           exact(List.mem_filter.1 (List.getElem_mem hi2)).1
   · refine Tm.neg g ?_
     rw[List.filter_cons_of_neg (by rw[eT];simp[g]),List.filter_nil,List.append_nil]
     exact Tm.some ⟨hlt,iw_n (by omega),h1,h2,h3,h4⟩
 · rw[List.take_of_length_le hge]at h1 h2 h3 h4
   exact Tm.neg (by omega) (Tm.some ⟨h1,h2,h3,h4⟩)
theorem vTexts_tm(hv:ClOk c l)(hs:SmC c)(hr:RgOk l rg)(hl:l.length≤10):Tm (fun N=>vTexts N l c rg) (·=(txtsOf l c rg,tvs l c)):=by
 have h1:=hs.ts;have h2:=hs.sm;have h3:=hs.df
 have hn:=tvs_nodup hv.nn
 unfold vTexts
 refine(vTexts_b1_tm hv.nn hr hl).bind fun r hr'=>?_
 obtain⟨a,b,vs,m⟩:=r
 obtain⟨e1,e2,e3,hm⟩:=hr'
 dsimp only at e1 e2 e3 hm
 subst e1;subst e2;subst e3
 dsimp only
 refine Tm.bind (Q:=fun r=>r=c.Tests.map fun t=>TTest.mk (pos (tvs l c) t.Var) t.Kind t.Negated t.Text) ?_ fun r hr1=>?_
 · refine Tm.up c.Tests.length (fun k s=>s.2=(k:Int)∧s.1=(c.Tests.take k).map fun t=>TTest.mk (pos (tvs l c) t.Var) t.Kind t.Negated t.Text) ⟨rfl,rfl⟩ ?_
   rintro k hk ⟨s,i⟩ ⟨hi,hs⟩
   dsimp only at hi hs;subst hi;subst hs
   unfold vTexts_b2
   try dsimp only
   rcases Nat.lt_or_ge k c.Tests.length with hlt|hge
   · refine Tm.pos (by omega) (Tm.step (idx_n hlt) ?_)
     rw[apnd_ok (by rw[List.length_map,List.length_take,List.length_singleton];omega) (by decide)]
     refine Tm.some ⟨hlt,iw_n (by omega),?_⟩
     rw[List.take_succ_eq_append_getElem hlt,List.map_append,hm.pos hn (txt_mem (hv.ts _ (List.getElem_mem hlt)).2)];rfl
   · refine Tm.neg (by omega) (Tm.some ?_)
     show List.map _ _=_
     rw[List.take_of_length_le hge]
 · subst hr1
   try dsimp only
   refine Tm.bind (Q:=fun r=>r=c.Same.map fun e=>Arr2Int.mk (pos (tvs l c) e.e0) (pos (tvs l c) e.e1)) ?_ fun r hr1=>?_
   · refine Tm.up c.Same.length (fun k s=>s.2=(k:Int)∧s.1=(c.Same.take k).map fun e=>Arr2Int.mk (pos (tvs l c) e.e0) (pos (tvs l c) e.e1)) ⟨rfl,rfl⟩ ?_
     rintro k hk ⟨s,i⟩ ⟨hi,hs⟩
     dsimp only at hi hs;subst hi;subst hs
     unfold vTexts_b3
     try dsimp only
     rcases Nat.lt_or_ge k c.Same.length with hlt|hge
     · have hsm:=hv.sm _ (List.getElem_mem hlt)
       refine Tm.pos (by omega) (Tm.step (idx_n hlt) ?_)
       rw[apnd_ok (by rw[List.length_map,List.length_take,List.length_singleton];omega) (by decide)]
       refine Tm.some ⟨hlt,iw_n (by omega),?_⟩
       rw[List.take_succ_eq_append_getElem hlt,List.map_append,hm.pos hn (txt_mem hsm.1),hm.pos hn (txt_mem hsm.2.1)];rfl
     · refine Tm.neg (by omega) (Tm.some ?_)
       show List.map _ _=_
       rw[List.take_of_length_le hge]
   · subst hr1
     try dsimp only
     refine Tm.bind (Q:=fun r=>r=c.Different.map fun e=>Arr2Int.mk (pos (tvs l c) e.e0) (pos (tvs l c) e.e1)) ?_ fun r hr1=>?_
     · refine Tm.up c.Different.length (fun k s=>s.2=(k:Int)∧s.1=(c.Different.take k).map fun e=>Arr2Int.mk (pos (tvs l c) e.e0) (pos (tvs l c) e.e1)) ⟨rfl,rfl⟩ ?_
       rintro k hk ⟨s,i⟩ ⟨hi,hs⟩
       dsimp only at hi hs;subst hi;subst hs
       unfold vTexts_b4
       dsimp only
       rcases Nat.lt_or_ge k c.Different.length with hlt|hge
       · have hsm:=hv.df _ (List.getElem_mem hlt)
         refine Tm.pos (by omega) (Tm.step (idx_n hlt) ?_)
         rw[apnd_ok (by rw[List.length_map,List.length_take,List.length_singleton];omega) (by decide)]
         refine Tm.some ⟨hlt,iw_n (by omega),?_⟩
         rw[List.take_succ_eq_append_getElem hlt,List.map_append,hm.pos hn (txt_mem hsm.1),hm.pos hn (txt_mem hsm.2.1)];rfl
       · refine Tm.neg (by omega) (Tm.some ?_)
         show List.map _ _=_
         rw[List.take_of_length_le hge]
     · subst hr1
       exact Tm.some rfl
end
end Go.D
set_option maxRecDepth 100000
namespace Go.D
open Go Go.X
theorem awake_at(N:Nat):awake (N+100)=some true:=by kernel_rfl
theorem awake_tm:Tm (fun N=>awake N) (fun r=>r=true):=⟨true,100,rfl,fun N hN=>by rw[show N=(N-100)+100 by omega];exact awake_at _⟩
open Go Go.X
theorem awake_end{Q:Bool→Prop}(h:Q true):Tm (fun N=>(awake N).bind fun r=>some r) Q:=
 awake_tm.bind fun r hr=>by subst hr;exact Tm.some h
theorem wRight_tm{l:List RVar}{rg:List Arr2Int}(h:rg.length≤Bg):Tm (fun N=>wRight N l rg) (fun r=>r=true→RgOk l rg):=by
 have hb:Bg=9223372036854775807:=rfl
 unfold wRight
 by_cases h0:rg.length=l.length
 · refine Tm.neg (by simp[h0]) ?_
   refine Tm.bind (Q:=fun o=>match o with|.inl _=>∀r∈rg,(0≤r.e0∧r.e0≤16)∧0≤r.e1∧r.e1≤16|.inr z=>z=false) ?_ fun o ho=>?_
   · refine Tm.up rg.length (fun k s=>s=(k:Int)∧∀j (hj:j<rg.length),j<k→(0≤rg[j].e0∧rg[j].e0≤16)∧0≤rg[j].e1∧rg[j].e1≤16) ⟨rfl,fun j _ hj=>by omega⟩ ?_
     rintro k hk i ⟨rfl,hJ⟩
     unfold wRight_b1
     rcases Nat.lt_or_ge k rg.length with hlt|hge
     · refine Tm.pos (by omega) ?_
       simp only[idx_n hlt,Option.bind_some]
       refine Tm.bind (Q:=fun b=>b=false→(0≤rg[k].e0∧rg[k].e0≤16)∧0≤rg[k].e1∧rg[k].e1≤16) ?_ fun b hb'=>?_
       · by_cases g1:rg[k].e0<0
         · exact Tm.pos g1 (Tm.some fun e=>by simp at e)
         · refine Tm.neg g1 ?_
           by_cases g2:rg[k].e0>16
           · exact Tm.pos g2 (Tm.some fun e=>by simp at e)
           · refine Tm.neg g2 ?_
             by_cases g3:rg[k].e1<0
             · exact Tm.pos g3 (Tm.some fun e=>by simp at e)
             · refine Tm.neg g3 (Tm.some fun e=>?_)
               have e:=of_decide_eq_false e
               omega
       · cases b with
         |true=>exact Tm.pos rfl (Tm.some rfl)
         |false=>
          refine Tm.neg (by simp) (Tm.some ⟨hlt,iw_n (by omega),fun j hj hjk=>?_⟩)
          by_cases ejk:j=k
          · subst ejk;exact hb' rfl
          · exact hJ j hj (by omega)
     · refine Tm.neg (by omega) (Tm.some fun x hx=>?_)
       obtain⟨j,hj,rfl⟩:=List.getElem_of_mem hx
       exact hJ j hj (by omega)
   · cases o with
     |inl _=>exact Tm.some fun _=>⟨h0,ho⟩
     |inr z=>
      have ho:z=false:=ho
      subst ho
      exact Tm.some fun h=>by simp at h
 · exact Tm.pos (by omega) (Tm.some fun e=>by simp at e)
structure DmOk (l:List RVar):Prop where
 len:l.length≤10
 ty:∀x∈l,(x.Ty=1∧(-2147483648≤x.Low∧x.Low≤2147483647)∧-2147483648≤x.High∧x.High≤2147483647)∨(x.Ty=2∧0≤x.Max∧x.Max≤16)
theorem wDomains_tm{l:List RVar}(h:l.length≤Bg):Tm (fun N=>wDomains N l) (fun r=>r=true→DmOk l):=by
 have hb:Bg=9223372036854775807:=rfl
 unfold wDomains
 refine Tm.bind (Q:=fun o=>match o with|.inl _=>∀x∈l,(x.Ty=1∧(-2147483648≤x.Low∧x.Low≤2147483647)∧-2147483648≤x.High∧x.High≤2147483647)∨(x.Ty=2∧0≤x.Max∧x.Max≤16)|.inr z=>z=false) ?_ fun o ho=>?_
 · refine Tm.up l.length (fun k s=>s=(k:Int)∧∀j (hj:j<l.length),j<k→(l[j].Ty=1∧(-2147483648≤l[j].Low∧l[j].Low≤2147483647)∧-2147483648≤l[j].High∧l[j].High≤2147483647)∨(l[j].Ty=2∧0≤l[j].Max∧l[j].Max≤16)) ⟨rfl,fun j _ hj=>by omega⟩ ?_
   rintro k hk i ⟨rfl,hJ⟩
   unfold wDomains_b1
   rcases Nat.lt_or_ge k l.length with hlt|hge
   · refine Tm.pos (by omega) (Tm.step (idx_n hlt) ?_)
     refine Tm.bind (Q:=fun b=>b=false→l[k].Ty=1→(-2147483648≤l[k].Low∧l[k].Low≤2147483647)∧-2147483648≤l[k].High∧l[k].High≤2147483647) ?_ fun b hb'=>?_
     · by_cases g0:l[k].Ty=1
       · refine Tm.pos g0 ?_
         by_cases g1:l[k].Low< -2147483648
         · exact Tm.pos g1 (Tm.some fun e=>by simp at e)
         · refine Tm.neg g1 ?_
           by_cases g2:l[k].Low>2147483647
           · exact Tm.pos g2 (Tm.some fun e=>by simp at e)
           · refine Tm.neg g2 ?_
             by_cases g3:l[k].High< -2147483648
             · exact Tm.pos g3 (Tm.some fun e=>by simp at e)
             · refine Tm.neg g3 (Tm.some fun e _=>?_)
               have e:=of_decide_eq_false e
               omega
       · exact Tm.neg g0 (Tm.some fun _ h=>absurd h g0)
     · cases b with
       |true=>exact Tm.pos rfl (Tm.some rfl)
       |false=>
        refine Tm.neg (by simp) ?_
        refine Tm.bind (Q:=fun b=>b=false→(l[k].Ty=1∨l[k].Ty=2)∧(l[k].Ty=2→0≤l[k].Max∧l[k].Max≤16)) ?_ fun b2 hb2=>?_
        · have hty:Tm (fun N=>(if l[k].Ty≠1 then some (decide (l[k].Ty≠2))else some false:Option Bool)) (fun b=>b=false→l[k].Ty=1∨l[k].Ty=2):=by
           by_cases g:l[k].Ty≠1
           · exact Tm.pos g (Tm.some fun e=>.inr (by have e:=of_decide_eq_false e;omega))
           · exact Tm.neg g (Tm.some fun _=>.inl (by omega))
          by_cases g0:l[k].Ty=2
          · refine Tm.pos g0 ?_
            by_cases g1:l[k].Max<0
            · exact Tm.pos g1 (Tm.some fun e=>by simp at e)
            · refine Tm.neg g1 ?_
              by_cases g2:l[k].Max>16
              · exact Tm.pos g2 (Tm.some fun e=>by simp at e)
              · exact Tm.neg g2 (hty.mono fun b hb e=>⟨hb e,fun _=>by omega⟩)
          · exact Tm.neg g0 (hty.mono fun b hb e=>⟨hb e,fun h=>absurd h g0⟩)
        · cases b2 with
          |true=>exact Tm.pos rfl (Tm.some rfl)
          |false=>
           refine Tm.neg (by simp) (Tm.some ⟨hlt,iw_n (by omega),fun j hj hjk=>?_⟩)
           by_cases ejk:j=k
           · subst ejk
             obtain⟨p1,p2⟩:=hb2 rfl
             rcases p1 with p1|p1
             · exact .inl ⟨p1,hb' rfl p1⟩
             · exact .inr ⟨p1,p2 p1⟩
           · exact hJ j hj (by omega)
   · refine Tm.neg (by omega) (Tm.some fun x hx=>?_)
     obtain⟨j,hj,rfl⟩:=List.getElem_of_mem hx
     exact hJ j hj (by omega)
 · cases o with
   |inl _=>exact Tm.some fun e=>⟨by have:=of_decide_eq_true e;omega,ho⟩
   |inr z=>
    have ho:z=false:=ho
    subst ho
    exact Tm.some fun h=>by simp at h
structure LimX (x:RCase):Prop where
 l:x.L.length≤Bg
 rg:x.Ranges.length≤Bg
 c:LimC x.C
 w:LwC x.C
structure Rgt (x:RCase):Prop where
 d:DmOk x.L
 s:SmC x.C
 v:ClOk x.C x.L
 r:RgOk x.L x.Ranges
theorem lright_tm{x:RCase}(h:LimX x):Tm (fun N=>lright N x) (fun r=>r=true→Rgt x):=by
 unfold lright
 refine(wDomains_tm h.l).bind fun r1 h1=>?_
 cases r1 with
 |false=>exact Tm.neg (by simp) (Tm.some fun e=>by simp at e)
 |true=>
  refine Tm.pos rfl ((sFew_tm h.w).bind fun r2 h2=>?_)
  cases r2 with
  |false=>exact Tm.neg (by simp) (Tm.some fun e=>by simp at e)
  |true=>
   refine Tm.pos rfl ((sValid_tm h.c (h2 rfl) (h1 rfl).len).bind fun r3 h3=>?_)
   cases r3 with
   |false=>exact Tm.neg (by simp) (Tm.some fun e=>by simp at e)
   |true=>exact Tm.pos rfl ((wRight_tm h.rg).bind fun r4 h4=>Tm.some fun e=>⟨h1 rfl,h2 rfl,h3 rfl,h4 e⟩)
open Go Go.X
structure CGood (k:Constraint)(n:Nat)(V:List Int):Prop where
 right:RightP k (n:Int)
 ok:OkC k
 val:k.Linear.Const+lin k.Linear.Coefs V≤0
 eq:k.Equal=true→k.Linear.Const+lin k.Linear.Coefs V=0
theorem CGood.one{q n:Nat}{N C:Int}{V:List Int}(hq:q<n)(hn:n≤512)(hN:I64 N)(hC:I64 C)(hv:C+N*V.getD q 0≤0):CGood ⟨⟨C,[⟨(q:Int),N⟩]⟩,false⟩ n V:=by
 refine⟨⟨fun i h=>?_,by omega,by omega⟩,⟨?_,hC,fun k hk=>?_⟩,?_,fun h=>by cases h⟩
 · have h:i<1:=h
   have:i=0:=by omega
   subst this
   exact⟨by show(0:Int)≤(q:Int);omega,by show(q:Int)<(n:Int);omega,fun h=>by omega⟩
 · show 1≤9223372036854775807;omega
 · rw[List.mem_singleton.1 hk];exact hN
 · show C+lin [⟨(q:Int),N⟩] V≤0
   unfold lin;simpa using hv
variable {R:List RVal} {l:List RVar} {bs aux:List Int} {c:RClause} {f:Linear} {rg:List Arr2Int}
open Go Go.X
variable {R:List RVal} {l:List RVar} {c:RClause} {rg:List Arr2Int}
theorem pos_at{vs:List Int}{v:Int}(hn:vs.Nodup)(hv:v∈vs):∃i:Nat,∃hi:i<vs.length,vs[i]=v∧pos vs v=(i:Int):=by
 obtain⟨i,hi,rfl⟩:=List.getElem_of_mem hv
 exact⟨i,hi,rfl,by unfold pos;rw[List.Nodup.idxOf_getElem hn i hi]⟩
theorem tvs_at(hv:ClOk c l){v:Int}(h:v∈tvs l c):∃k:Nat,∃hk:k<l.length,v=(k:Int)∧l[k].Ty=2∧TxtOk c l v:=by
 obtain⟨h1,h2⟩:=List.mem_filter.1 h
 obtain⟨k,rfl,hk⟩:=var_n (n:=l.length) (hv.nn.bd v h1)
 unfold isT at h2
 rw[Int.toNat_natCast,List.getElem?_eq_getElem hk]at h2
 have h2:=of_decide_eq_true h2
 exact⟨k,hk,rfl,h2,k,rfl,⟨_,List.getElem?_eq_getElem hk,h2⟩,h1⟩
theorem hiOf_at(hr:RgOk l rg){k:Nat}(hk:k<l.length):hiOf l rg k=imin (rg[k]'(by rw[hr.len];exact hk)).e1 l[k].Max:=by
 unfold hiOf;rw[List.getElem?_eq_getElem hk,List.getElem?_eq_getElem (by rw[hr.len];exact hk)]
theorem e0Of_at(hr:RgOk l rg){k:Nat}(hk:k<l.length):e0Of rg (k:Int)=(rg[k]'(by rw[hr.len];exact hk)).e0:=by
 unfold e0Of;rw[Int.toNat_natCast,List.getElem?_eq_getElem (by rw[hr.len];exact hk)]
theorem txts_okP(hd:DmOk l)(hv:ClOk c l)(hr:RgOk l rg):OkP (txtsOf l c rg):=by
 have hn:=tvs_nodup hv.nn
 have hl:=hd.len
 have h1:=tvs_len (l:=l) (c:=c)
 have h2:=hv.nn.len
 have two:∀{v:Int},TxtOk c l v→0≤pos (tvs l c) v∧pos (tvs l c) v<(((tvs l c).map (e0Of rg)).length:Int):=fun h=>by
  obtain⟨i,hi,_,e⟩:=pos_at hn (txt_mem h)
  rw[e,List.length_map];omega
 refine⟨?_,?_,fun k hk=>?_,fun k hk=>?_,fun t ht=>?_,fun e he=>?_,fun e he=>?_⟩
 · show(List.map _ _).length=(List.map _ _).length
   rw[List.length_map,List.length_map]
 · show(List.map _ _).length≤_
   rw[List.length_map];omega
 · obtain⟨v,hvm,rfl⟩:=List.mem_map.1 hk
   obtain⟨q,hq,rfl,_⟩:=tvs_at hv hvm
   rw[e0Of_at hr hq]
   exact(hr.bd _ (List.getElem_mem _)).1
 · obtain⟨v,hvm,rfl⟩:=List.mem_map.1 hk
   obtain⟨q,hq,rfl,hty,_⟩:=tvs_at hv hvm
   rw[Int.toNat_natCast,hiOf_at hr hq]
   have g1:=(hr.bd _ (List.getElem_mem (show q<rg.length by rw[hr.len];exact hq))).2
   rcases hd.ty _ (List.getElem_mem hq)with⟨g,_⟩|⟨_,g2,g3⟩
   · omega
   · unfold imin;split<;>omega
 · obtain⟨t0,ht0,rfl⟩:=List.mem_map.1 ht
   obtain⟨h3,h4⟩:=hv.ts t0 ht0
   exact⟨h3,(two h4).1,(two h4).2⟩
 · obtain⟨e0,he0,rfl⟩:=List.mem_map.1 he
   obtain⟨h3,h4,_⟩:=hv.sm e0 he0
   exact⟨two h3,two h4⟩
 · obtain⟨e0,he0,rfl⟩:=List.mem_map.1 he
   obtain⟨h3,h4,_⟩:=hv.df e0 he0
   exact⟨two h3,two h4⟩
open Go Go.X
def kb(s:Int):List Int:=[s%256,s/256%256,s/65536%256]
def keyI(l:List Int)(n:Nat):List UInt8:=bstr ((n:Int)::l.flatMap kb)
theorem pKey_tm{l:List Int}{n:Nat}(hn:n≤255)(hl:l.length≤1000)(h:∀s∈l,0≤s):Tm (fun N=>pKey N l (n:Int)) (·=keyI l n):=by
 unfold pKey
 have e0:uw8 (n:Int)=(n:Int):=uw8_eq (by omega) (by omega)
 rw[e0]
 refine Tm.eq (a:=(n:Int)::l.flatMap kb) ?_ (Tm.some rfl)
 have hlen:∀m:List Int,(m.flatMap kb).length=3*m.length:=fun m=>by
  induction m with
  |nil=>rfl
  |cons a m ih=>rw[List.flatMap_cons,List.length_append,ih,List.length_cons];simp[kb];omega
 refine Tm.up l.length (fun k s=>s.2=(k:Int)∧s.1=(n:Int)::(l.take k).flatMap kb) ⟨rfl,rfl⟩ ?_
 rintro k hk ⟨s,i⟩ ⟨hi,hs⟩
 dsimp only at hi hs;subst hi;subst hs
 unfold pKey_b1
 rcases Nat.lt_or_ge k l.length with hlt|hge
 · refine Tm.pos (by omega) (Tm.step (idx_n hlt) ?_)
   have h0:=h _ (List.getElem_mem hlt)
   have e1:bshr .u32 l[k] 8=l[k]/256:=bshr_u32 (n:=8) (by decide)
   have e2:bshr .u32 l[k] 16=l[k]/65536:=bshr_u32 (n:=16) (by decide)
   rw[e1,e2,uw8_mod,uw8_mod,uw8_mod]
   rw[apnd_ok (by simp only[List.length_cons,hlen,List.length_take,List.length_nil];omega) (by decide)]
   refine Tm.some ⟨hlt,iw_n (by omega),?_⟩
   rw[←List.take_append_getElem hlt,List.flatMap_append]
   simp[kb]
 · refine Tm.neg (by omega) (Tm.some ?_)
   show _=_
   rw[List.take_of_length_le (by omega)]
theorem u8_inj{a b:Int}(ha:0≤a∧a<256)(hb:0≤b∧b<256)(h:UInt8.ofNat a.toNat=UInt8.ofNat b.toNat):a=b:=by
 have h1:=congrArg UInt8.toNat h
 rw[UInt8.toNat_ofNat',UInt8.toNat_ofNat',Nat.mod_eq_of_lt (by omega),Nat.mod_eq_of_lt (by omega)]at h1
 omega
theorem kb_inj:∀{l l':List Int},l.length=l'.length→(∀s∈l,0≤s∧s<16777216)→(∀s∈l',0≤s∧s<16777216)→bstr (l.flatMap kb)=bstr (l'.flatMap kb)→l=l'
 |[],[],_,_,_,_=>rfl
 |a::l,b::l',hl,h1,h2,h=>by
  simp only[List.flatMap_cons,kb,bstr,List.cons_append,List.nil_append,List.map_cons,List.cons.injEq]at h
  obtain⟨g1,g2,g3,g4⟩:=h
  have ha:=h1 a List.mem_cons_self
  have hb:=h2 b List.mem_cons_self
  have e1:=u8_inj (by omega) (by omega) g1
  have e2:=u8_inj (by omega) (by omega) g2
  have e3:=u8_inj (by omega) (by omega) g3
  have:a=b:=by omega
  rw[this,kb_inj (by simpa using hl) (fun s hs=>h1 s (List.mem_cons_of_mem _ hs)) (fun s hs=>h2 s (List.mem_cons_of_mem _ hs)) g4]
 |[],_::_,hl,_,_,_=>by simp at hl
 |_::_,[],hl,_,_,_=>by simp at hl
theorem keyI_inj{l l':List Int}{n n':Nat}(hl:l.length=l'.length)(h1:∀s∈l,0≤s∧s<16777216)(h2:∀s∈l',0≤s∧s<16777216)(hn:n≤255)(hn':n'≤255)(h:keyI l n=keyI l' n'):l=l'∧n=n':=by
 unfold keyI bstr at h
 rw[List.map_cons,List.map_cons,List.cons.injEq]at h
 have:=u8_inj (a:=(n:Int)) (b:=(n':Int)) (by omega) (by omega) h.1
 exact⟨kb_inj hl h1 h2 h.2,by omega⟩
def allI:Nat→List (List Int)
 |0=>[[]]
 |n+1=>(List.range 95).flatMap fun(c:Nat)=>(allI n).map fun x=>((c:Int)+32)::x
def accT(ts:List TTest)(l:List Int)(x:List Int):Bool:=(ts.zip l).all fun q=>spF q.1 (run q.1 q.2 x)
def nextL(ts:List TTest)(l:List Int)(c:Int):List Int:=List.zipWith (fun t s=>spN t s c) ts l
def Rr(ts:List TTest)(l:List Int)(n:Nat)(text:List Int):List (List UInt8):=((allI n).filter (accT ts l)).map fun x=>bstr (text++x)
structure Sts (ts:List TTest)(l:List Int):Prop where
 len:l.length=ts.length
 ok:∀q∈ts.zip l,StOk q.1 q.2
theorem acc_cons:∀{ts:List TTest} {l:List Int} {c:Int} {x:List Int},accT ts l (c::x)=accT ts (nextL ts l c) x
 |[],_,_,_=>rfl
 |_::_,[],_,_=>rfl
 |t::ts,s::l,c,x=>by
  have:=acc_cons (ts:=ts) (l:=l) (c:=c) (x:=x)
  unfold accT nextL at*
  rw[List.zip_cons_cons,List.all_cons,List.zipWith_cons_cons,List.zip_cons_cons,List.all_cons,this]
  rfl
theorem nextL_ok:∀{ts:List TTest} {l:List Int} {c:Int},(∀t∈ts,okT t=true)→Sts ts l→Sts ts (nextL ts l c)
 |[],l,c,_,h=>⟨by simp[nextL],fun q hq=>by simp[nextL]at hq⟩
 |t::ts,[],c,_,h=>by have:=h.len;simp at this
 |t::ts,s::l,c,ho,h=>by
  have hs:Sts ts l:=⟨by have:=h.len;simpa using this,fun q hq=>h.ok q (by rw[List.zip_cons_cons];exact List.mem_cons_of_mem _ hq)⟩
  have ih:=nextL_ok (c:=c) (fun t ht=>ho t (List.mem_cons_of_mem _ ht)) hs
  refine⟨?_,fun q hq=>?_⟩
  · unfold nextL at*;rw[List.zipWith_cons_cons,List.length_cons,List.length_cons,ih.len]
  · unfold nextL at*
    rw[List.zipWith_cons_cons,List.zip_cons_cons]at hq
    rcases List.mem_cons.1 hq with e|e
    · subst e
      exact stN_ok c (ho t List.mem_cons_self) (h.ok (t,s) (by rw[List.zip_cons_cons];exact List.mem_cons_self))
    · exact ih.ok q e
theorem Sts.bnd{ts:List TTest}{l:List Int}(h:Sts ts l)(ho:∀t∈ts,okT t=true):∀s∈l,0≤s∧s<16777216:=by
 intro s hs
 obtain⟨i,hi,rfl⟩:=List.getElem_of_mem hs
 have hi':i<ts.length:=by rw[←h.len];exact hi
 have hz:i<(ts.zip l).length:=by rw[List.length_zip];omega
 have:=h.ok _ (List.getElem_mem hz)
 rw[List.getElem_zip]at this
 have h16:=(okT_len (ho _ (List.getElem_mem hi'))).2.2
 by_cases hk:ts[i].Kind=1
 · obtain⟨m,e,hm⟩:=this.lk hk
   have h17:2^(ts[i].Text.length+1)≤2^17:=Nat.pow_le_pow_right (by decide) (by omega)
   dsimp only at e hm
   omega
 · rcases this.cm hk with e|e|e<;>dsimp only at e<;>omega
theorem Rr_succ{ts:List TTest}{l:List Int}{n:Nat}{text:List Int}:Rr ts l (n+1) text=(List.range 95).flatMap fun(c:Nat)=>Rr ts (nextL ts l ((c:Int)+32)) n (text++[(c:Int)+32]):=by
 unfold Rr
 rw[show allI (n+1)=(List.range 95).flatMap fun(c:Nat)=>(allI n).map fun x=>((c:Int)+32)::x from rfl,List.filter_flatMap,List.map_flatMap]
 congr 1
 funext c
 rw[List.filter_map,List.map_map]
 have:(accT ts l∘fun x=>((c:Int)+32)::x)=accT ts (nextL ts l ((c:Int)+32)):=by funext x;exact acc_cons
 rw[this]
 congr 1
 funext x
 simp
def DOk(ts:List TTest)(dead:List (List UInt8×Bool)):Prop:=∀k,(mget dead k false).1=true→∃l n,Sts ts l∧n≤255∧keyI l n=k∧Rr ts l n []=[]
theorem Rr_nil{ts:List TTest}{l:List Int}{n:Nat}{text:List Int}:Rr ts l n text=[]↔Rr ts l n []=[]:=by
 unfold Rr;rw[List.map_eq_nil_iff,List.map_eq_nil_iff]
theorem pFind_b1_tm{f:TFinder}{l:List Int}(ho:∀t∈f.tests,okT t=true)(hs:Sts f.tests l)(hl:f.tests.length≤1000):
 Tm (fun N=>loopM (pFind_b1 N f l) N 0) (fun o=>o=if accT f.tests l []then Sum.inl ()else Sum.inr (false,f.out,f.dead)):=by
 have hz:(f.tests.zip l).length=f.tests.length:=by rw[List.length_zip,hs.len,Nat.min_self]
 refine(Tm.findL (b:=fun N=>pFind_b1 N f l) (f.tests.zip l) (fun q=>!spF q.1 q.2) (fun _=>(false,f.out,f.dead)) (by omega) (fun k hk=>?_) ?_).mono fun o h=>?_
 · unfold pFind_b1
   have h1:k<f.tests.length:=by omega
   have h2:k<l.length:=by rw[hs.len];exact h1
   have hq:(f.tests.zip l)[k]=(f.tests[k],l[k]):=List.getElem_zip
   have hok:=hs.ok _ (List.getElem_mem hk)
   rw[hq]at hok⊢
   refine Tm.pos (by omega) (Tm.step (idx_n h1) (Tm.step (idx_n h2) ((pPassed_tm (ho _ (List.getElem_mem h1)) hok).eq ?_)))
   cases spF f.tests[k] l[k]<;>exact Tm.some rfl
 · unfold pFind_b1
   exact Tm.neg (by rw[hz];omega) (Tm.some rfl)
 · have e:accT f.tests l []=!((f.tests.zip l).any fun q=>!spF q.1 q.2):=by rw[not_any_not];rfl
   rcases h with⟨h1,rfl⟩|⟨k,hk,h1,_,rfl⟩
   · rw[e,h1];rfl
   · rw[e,List.any_eq_true.2 ⟨_,List.getElem_mem hk,h1⟩];rfl
theorem pFind_b3_tm{f:TFinder}{l:List Int}{c:Nat}(hc:32≤c∧c≤126)(ho:∀t∈f.tests,okT t=true)(hs:Sts f.tests l)(hl:f.tests.length≤1000):
 Tm (fun N=>loopM (pFind_b3 N f l (c:Int)) N (List.replicate l.length 0,0)) (·=nextL f.tests l (c:Int)):=by
 have hlen:=hs.len
 have hn:(nextL f.tests l (c:Int)).length=f.tests.length:=by unfold nextL;rw[List.length_zipWith];omega
 refine Tm.up f.tests.length (fun k s=>s.2=(k:Int)∧s.1.length=f.tests.length∧∀j,j<k→s.1[j]?=(nextL f.tests l (c:Int))[j]?) ⟨rfl,by simp[hlen],fun j hj=>by omega⟩ ?_
 rintro k hk ⟨s,i⟩ ⟨hi,hsl,hsj⟩
 dsimp only at hi hsl hsj;subst hi
 unfold pFind_b3
 rcases Nat.lt_or_ge k f.tests.length with hlt|hge
 · have h2:k<l.length:=by omega
   have hz:k<(f.tests.zip l).length:=by rw[List.length_zip];omega
   have hok:=hs.ok _ (List.getElem_mem hz)
   rw[List.getElem_zip]at hok
   have e8:uw8 (c:Int)=(c:Int):=uw8_eq (by omega) (by omega)
   refine Tm.pos (by omega) (Tm.step (idx_n hlt) (Tm.step (idx_n h2) ?_))
   rw[e8]
   refine(pNext_tm (ho _ (List.getElem_mem hlt)) hok).eq ?_
   refine Tm.step (idx_n (by omega)) ?_
   rw[upd1_i (n:=k) rfl (by omega)]
   refine Tm.some ⟨hlt,iw_n (by omega),by rw[List.length_set];exact hsl,fun j hj=>?_⟩
   rw[List.getElem?_set]
   by_cases e:k=j
   · subst e
     rw[if_pos rfl,if_pos (by omega)]
     unfold nextL
     rw[List.getElem?_zipWith,List.getElem?_eq_getElem hlt,List.getElem?_eq_getElem h2]
   · rw[if_neg e];exact hsj j (by omega)
 · refine Tm.neg (by omega) (Tm.some ?_)
   show s=_
   apply List.ext_getElem?
   intro j
   by_cases hj:j<k
   · exact hsj j hj
   · rw[List.getElem?_eq_none (by omega),List.getElem?_eq_none (by omega)]
theorem take_lt{α:Type}{a b:List α}{n:Nat}(h:((a++b).take n).length<n):(a++b).take n=a++b:=by
 rw[List.length_take]at h
 exact List.take_of_length_le (by omega)
theorem pFind_tm{ts:List TTest}(ho:∀t∈ts,okT t=true)(hl:ts.length≤1000):∀(n:Nat) (f:TFinder) (l text:List Int),f.tests=ts→Sts ts l→n≤255→text.length+n≤1000→(∃m:Nat,f.most=(m:Int)∧m≤100000∧f.out.length<m)→DOk ts f.dead→
 Tm (fun N=>pFind N f l text (n:Int)) (fun r=>r.2.1=(f.out++Rr ts l n text).take f.most.toNat∧r.1=decide (Rr ts l n text≠[])∧DOk ts r.2.2)
 |0,f,l,text,hf,hs,hn,hx,⟨m,hm,hml,hout⟩,hd=>by
  apply Tm.succ
  show Tm (fun N=>pFind_step N (pFind N) f l text ((0:Nat):Int)) _
  unfold pFind_step
  refine Tm.pos rfl ?_
  refine(pFind_b1_tm (by rw[hf];exact ho) (by rw[hf];exact hs) (by rw[hf];exact hl)).eq ?_
  rw[hf,hm,Int.toNat_natCast]
  have e:Rr ts l 0 text=if accT ts l []then[bstr text]else[]:=by
   unfold Rr allI
   cases h:accT ts l []<;>simp[h]
  cases ha:accT ts l []with
  |true=>
   rw[ha]at e
   simp only[if_true]at e⊢
   rw[apnd_ok (by simp;omega) (by decide),e]
   refine Tm.some ⟨?_,by simp,hd⟩
   show f.out++[bstr text]=_
   rw[List.take_of_length_le (by simp;omega)]
  |false=>
   rw[ha]at e
   simp only[Bool.false_eq_true,if_false]at e⊢
   rw[e]
   refine Tm.some ⟨?_,by simp,hd⟩
   show f.out=_
   rw[List.append_nil,List.take_of_length_le (by omega)]
 |n+1,f,l,text,hf,hs,hn,hx,⟨m,hm,hml,hout⟩,hd=>by
  apply Tm.succ
  show Tm (fun N=>pFind_step N (pFind N) f l text ((n+1:Nat):Int)) _
  unfold pFind_step
  have hbn:=hs.bnd ho
  refine Tm.neg (by omega) ?_
  have hlen:=hs.len
  refine(pKey_tm hn (by omega) fun s h=>(hbn s h).1).eq ?_
  by_cases hg:(mget f.dead (keyI l (n+1)) false).1=true
  · refine Tm.pos hg (Tm.some ?_)
    obtain⟨l',n',h1,h2,h3,h4⟩:=hd _ hg
    obtain⟨rfl,rfl⟩:=keyI_inj (by rw[h1.len,hlen]) (h1.bnd ho) hbn h2 hn h3
    have e:=(Rr_nil (text:=text)).2 h4
    rw[e]
    refine⟨?_,by simp,hd⟩
    rw[List.append_nil,hm,Int.toNat_natCast,List.take_of_length_le (by omega)]
  · refine Tm.neg hg ?_
    rw[hm,Int.toNat_natCast]
    have key:Tm (fun N=>loopM (pFind_b2 N (pFind N) f l ((n+1:Nat):Int) text) N (f.out,f.dead,false,32)) (fun s=>s.1=(f.out++Rr ts l (n+1) text).take m∧s.2.2=decide (Rr ts l (n+1) text≠[])∧DOk ts s.2.1):=by
     have RR:=Rr_succ (ts:=ts) (l:=l) (n:=n) (text:=text)
     refine Tm.up 95 (fun k s=>s.2.2.2=((k+32:Nat):Int)∧s.1=(f.out++(List.range k).flatMap fun(c:Nat)=>Rr ts (nextL ts l ((c:Int)+32)) n (text++[(c:Int)+32])).take m∧s.2.2.1=decide ((List.range k).flatMap (fun(c:Nat)=>Rr ts (nextL ts l ((c:Int)+32)) n (text++[(c:Int)+32]))≠[])∧DOk ts s.2.1) ⟨rfl,?_,rfl,hd⟩ ?_
     · show f.out=_
       simp only[List.range_zero,List.flatMap_nil,List.append_nil]
       rw[List.take_of_length_le (by omega)]
     rintro k hk ⟨out,dead,found,c⟩ ⟨hc,hou,hfo,hde⟩
     dsimp only at hc hou hfo hde
     subst hc
     unfold pFind_b2
     dsimp only
     have hlm:out.length≤m:=by rw[hou,List.length_take];omega
     have pre:∃rest,Rr ts l (n+1) text=(List.range k).flatMap (fun(c:Nat)=>Rr ts (nextL ts l ((c:Int)+32)) n (text++[(c:Int)+32]))++rest:=by
      rw[RR]
      refine⟨((List.range 95).drop k).flatMap fun(c:Nat)=>Rr ts (nextL ts l ((c:Int)+32)) n (text++[(c:Int)+32]),?_⟩
      rw[←List.flatMap_append]
      congr 1
      conv=>lhs;rw[←List.take_append_drop k (List.range 95)]
      rw[List.take_range,Nat.min_eq_left hk]
     generalize hRk:(List.range k).flatMap (fun(c:Nat)=>Rr ts (nextL ts l ((c:Int)+32)) n (text++[(c:Int)+32]))=Rk at*
     by_cases hgo:k<95∧out.length<m
     · have e1:(if((k+32:Nat):Int)≤126 then some (decide ((out.length:Int)<f.most))else some false)=some true:=by
        rw[if_pos (by omega),hm,decide_eq_true (by omega)]
       rw[e1]
       simp only[Option.bind_some,if_true]
       rw[mk1_ok (n:=l.length) rfl (by omega) (by decide)]
       simp only[Option.bind_some]
       have hs':Sts f.tests l:=by rw[hf];exact hs
       refine(pFind_b3_tm (c:=k+32) (by omega) (by rw[hf];exact ho) hs' (by rw[hf];exact hl)).eq ?_
       have e8:uw8 ((k+32:Nat):Int)=((k+32:Nat):Int):=uw8_eq (by omega) (by omega)
       rw[e8,apnd_ok (by simp;omega) (by decide)]
       simp only[Option.bind_some]
       have e9:iw (((n+1:Nat):Int)-1)=(n:Int):=by rw[iw_eq]<;>omega
       rw[e9]
       have hoe:out=f.out++Rk:=by rw[hou];exact take_lt (by rw[←hou];exact hgo.2)
       refine(pFind_tm ho hl n (TFinder.mk f.tests f.most out dead) (nextL f.tests l ((k+32:Nat):Int)) (text++[((k+32:Nat):Int)]) hf (by rw[hf];exact nextL_ok ho hs) (by omega) (by simp;omega) ⟨m,hm,hml,hgo.2⟩ hde).bind fun r hr=>?_
       obtain⟨r1,r2,r3⟩:=hr
       dsimp only at r1
       rw[hm,Int.toNat_natCast,hf]at r1
       rw[hf]at r2
       have ek:((k+32:Nat):Int)=(k:Int)+32:=by omega
       rw[ek]at r1 r2
       have eR:(List.range (k+1)).flatMap (fun(c:Nat)=>Rr ts (nextL ts l ((c:Int)+32)) n (text++[(c:Int)+32]))=Rk++Rr ts (nextL ts l ((k:Int)+32)) n (text++[(k:Int)+32]):=by
        rw[List.range_succ,List.flatMap_append,hRk];simp
       have e32:iw32 (((k+32:Nat):Int)+1)=((k+1+32:Nat):Int):=by
        have:iw32 (((k+32:Nat):Int)+1)=((k+32:Nat):Int)+1:=by
         unfold iw32 IntKind.wrap;simp[IntKind.signed,IntKind.bits];split<;>omega
        rw[this];omega
       rw[hoe,List.append_assoc]at r1
       have fin:∀b,b=decide (Rk++Rr ts (nextL ts l ((k:Int)+32)) n (text++[(k:Int)+32])≠[])→(k<95∧(iw32 (((k+32:Nat):Int)+1)=((k+1+32:Nat):Int)∧r.2.1=(f.out++(List.range (k+1)).flatMap (fun(c:Nat)=>Rr ts (nextL ts l ((c:Int)+32)) n (text++[(c:Int)+32]))).take m∧b=decide ((List.range (k+1)).flatMap (fun(c:Nat)=>Rr ts (nextL ts l ((c:Int)+32)) n (text++[(c:Int)+32]))≠[])∧DOk ts r.2.2)):=fun b hb=>by
        rw[eR]
        exact⟨hgo.1,e32,r1,hb,r3⟩
       cases hr1:r.1 with
       |true=>
        rw[hr1]at r2
        have hne:=of_decide_eq_true r2.symm
        refine Tm.pos rfl (Tm.some (fin true ?_))
        rw[decide_eq_true]
        intro h;exact hne (List.append_eq_nil_iff.1 h).2
       |false=>
        rw[hr1]at r2
        have hne:=of_decide_eq_false r2.symm
        refine Tm.neg (by simp) (Tm.some (fin found ?_))
        rw[hfo]
        have:Rr ts (nextL ts l ((k:Int)+32)) n (text++[(k:Int)+32])=[]:=Classical.not_not.1 hne
        rw[this,List.append_nil]
     · have e1:(if((k+32:Nat):Int)≤126 then some (decide ((out.length:Int)<f.most))else some false)=some false:=by
        by_cases h95:k<95
        · rw[if_pos (by omega),hm,decide_eq_false (by omega)]
        · rw[if_neg (by omega)]
       rw[e1]
       simp only[Option.bind_some,Bool.false_eq_true,if_false]
       refine Tm.some ?_
       obtain⟨rest,hrest⟩:=pre
       by_cases h95:k<95
       · have hom:out.length=m:=by omega
         have hbig:m≤(f.out++Rk).length:=by rw[←hom,hou,List.length_take];omega
         have hne:Rk≠[]:=by
          intro h
          rw[h,List.append_nil]at hbig
          omega
         refine⟨?_,?_,hde⟩
         · show out=_
           rw[hou,hrest,←List.append_assoc,List.take_append_of_le_length hbig]
         · show found=_
           rw[hfo,decide_eq_true hne,decide_eq_true]
           rw[hrest]
           intro h;exact hne (List.append_eq_nil_iff.1 h).1
       · have hk95:k=95:=by omega
         subst hk95
         have:Rk=Rr ts l (n+1) text:=by rw[RR,←hRk]
         rw[←this]
         exact⟨hou,hfo,hde⟩
    refine key.bind fun s hs1=>?_
    obtain⟨out,dead,found⟩:=s
    obtain⟨h1,h2,h3⟩:=hs1
    dsimp only at h1 h2 h3⊢
    cases found with
    |true=>exact Tm.some ⟨h1,h2,h3⟩
    |false=>
     refine Tm.some ⟨h1,h2,fun k hk=>?_⟩
     rw[mget_mput1]at hk
     by_cases e:k=keyI l (n+1)
     · exact⟨l,n+1,hs,hn,e.symm,Rr_nil.1 (Classical.not_not.1 (of_decide_eq_false h2.symm))⟩
     · rw[if_neg e]at hk;exact h3 k hk
open Go Go.X
theorem mem_allI:∀{n:Nat} {x:List Int},x∈allI n↔x.length=n∧∀c∈x,32≤c∧c≤126
 |0,x=>by
  rw[show allI 0=[[]] from rfl,List.mem_singleton]
  constructor
  · rintro rfl;exact⟨rfl,fun _ h=>by cases h⟩
  · rintro⟨h,_⟩;exact List.eq_nil_of_length_eq_zero h
 |n+1,x=>by
  rw[show allI (n+1)=(List.range 95).flatMap fun(c:Nat)=>(allI n).map fun x=>((c:Int)+32)::x from rfl,List.mem_flatMap]
  constructor
  · rintro⟨c,hc,h⟩
    obtain⟨y,hy,rfl⟩:=List.mem_map.1 h
    obtain⟨h1,h2⟩:=mem_allI.1 hy
    have:=List.mem_range.1 hc
    refine⟨by rw[List.length_cons,h1],fun d hd=>?_⟩
    rcases List.mem_cons.1 hd with e|e
    · subst e;omega
    · exact h2 d e
  · rintro⟨h1,h2⟩
    cases x with
    |nil=>simp at h1
    |cons c y=>
     have hc:=h2 c List.mem_cons_self
     refine⟨(c-32).toNat,List.mem_range.2 (by omega),List.mem_map.2 ⟨y,mem_allI.2 ⟨by simpa using h1,fun d hd=>h2 d (List.mem_cons_of_mem _ hd)⟩,?_⟩⟩
     congr 1
     omega
theorem sby_bstr{x:List Int}(h:∀c∈x,0≤c∧c≤255):sby (bstr x)=x:=by
 unfold sby bstr
 rw[List.map_map]
 conv=>rhs;rw[←List.map_id x]
 apply List.map_congr_left
 intro c hc
 have:=h c hc
 show((UInt8.ofNat c.toNat).toNat:Int)=c
 rw[UInt8.toNat_ofNat',Nat.mod_eq_of_lt (by omega)]
 omega
theorem bstr_sby{s:List UInt8}:bstr (sby s)=s:=by
 unfold sby bstr
 rw[List.map_map]
 conv=>rhs;rw[←List.map_id s]
 apply List.map_congr_left
 intro c _
 apply UInt8.toNat_inj.1
 show(UInt8.ofNat ((c.toNat:Int)).toNat).toNat=c.toNat
 rw[UInt8.toNat_ofNat',Int.toNat_natCast,Nat.mod_eq_of_lt (UInt8.toNat_lt c)]
theorem nodup_flatMap{α β:Type}{f:α→List β}:∀{l:List α},l.Nodup→(∀a∈l,(f a).Nodup)→(∀a b,a∈l→b∈l→a≠b→∀x,x∈f a→x∉f b)→(l.flatMap f).Nodup
 |[],_,_,_=>by simp
 |a::l,h,h1,h2=>by
  rw[List.flatMap_cons,List.nodup_append]
  have h':=List.nodup_cons.1 h
  refine⟨h1 a List.mem_cons_self,nodup_flatMap h'.2 (fun b hb=>h1 b (List.mem_cons_of_mem _ hb)) (fun b c hb hc=>h2 b c (List.mem_cons_of_mem _ hb) (List.mem_cons_of_mem _ hc)),fun x hx y hy e=>?_⟩
  subst e
  obtain⟨b,hb,hxb⟩:=List.mem_flatMap.1 hy
  exact h2 a b List.mem_cons_self (List.mem_cons_of_mem _ hb) (fun e=>h'.1 (e▸hb)) x hx hxb
theorem nodup_map{α β:Type}{f:α→β}:∀{l:List α},l.Nodup→(∀a b,a∈l→b∈l→f a=f b→a=b)→(l.map f).Nodup
 |[],_,_=>by simp
 |a::l,h,h1=>by
  have h':=List.nodup_cons.1 h
  rw[List.map_cons,List.nodup_cons]
  refine⟨fun hm=>?_,nodup_map h'.2 fun b c hb hc=>h1 b c (List.mem_cons_of_mem _ hb) (List.mem_cons_of_mem _ hc)⟩
  obtain⟨b,hb,e⟩:=List.mem_map.1 hm
  exact h'.1 (h1 b a (List.mem_cons_of_mem _ hb) List.mem_cons_self e▸hb)
theorem allI_nodup:∀n,(allI n).Nodup
 |0=>by simp[allI]
 |n+1=>by
  rw[show allI (n+1)=(List.range 95).flatMap fun(c:Nat)=>(allI n).map fun x=>((c:Int)+32)::x from rfl]
  refine nodup_flatMap List.nodup_range (fun c _=>nodup_map (allI_nodup n) fun a b _ _ e=>(List.cons.inj e).2) fun a b _ _ hab x hx hx'=>?_
  obtain⟨y,_,rfl⟩:=List.mem_map.1 hx
  obtain⟨z,_,e⟩:=List.mem_map.1 hx'
  have:=(List.cons.inj e).1
  exact hab (by omega)
def wordsOf(ts:List TTest)(n:Nat):List (List UInt8):=Rr ts (ts.map sp0) n []
theorem acc_start:∀{ts:List TTest} {x:List Int},accT ts (ts.map sp0) x=ts.all fun t=>spF t (run t (sp0 t) x)
 |[],_=>rfl
 |t::ts,x=>by
  have:=acc_start (ts:=ts) (x:=x)
  unfold accT at*
  rw[List.map_cons,List.zip_cons_cons,List.all_cons,this,List.all_cons]
theorem prn_sby{s:List UInt8}:s.all prn=true↔∀c∈sby s,32≤c∧c≤126:=by
 rw[List.all_eq_true]
 unfold sby
 constructor
 · intro h c hc
   obtain⟨b,hb,rfl⟩:=List.mem_map.1 hc
   have:=of_decide_eq_true (h b hb)
   omega
 · intro h b hb
   have:=h _ (List.mem_map.2 ⟨b,hb,rfl⟩)
   exact decide_eq_true (by omega)
theorem mem_wordsOf{ts:List TTest}{n:Nat}{s:List UInt8}:s∈wordsOf ts n↔s.length=n∧s.all prn=true∧ts.all (fun t=>pas t s)=true:=by
 unfold wordsOf Rr
 rw[List.mem_map]
 constructor
 · rintro⟨x,hx,rfl⟩
   obtain⟨h1,h2⟩:=List.mem_filter.1 hx
   obtain⟨h3,h4⟩:=mem_allI.1 h1
   have e:sby (bstr x)=x:=sby_bstr fun c hc=>by have:=h4 c hc;omega
   rw[List.nil_append]
   refine⟨by rw[←h3];simp[bstr],prn_sby.2 (by rw[e];exact h4),?_⟩
   rw[acc_start]at h2
   unfold pas
   rw[e];exact h2
 · rintro⟨h1,h2,h3⟩
   refine⟨sby s,List.mem_filter.2 ⟨mem_allI.2 ⟨by rw[sby_len];exact h1,prn_sby.1 h2⟩,?_⟩,by rw[List.nil_append];exact bstr_sby⟩
   rw[acc_start];exact h3
theorem wordsOf_nodup{ts:List TTest}{n:Nat}:(wordsOf ts n).Nodup:=by
 unfold wordsOf Rr
 refine nodup_map ((allI_nodup n).sublist List.filter_sublist) fun a b ha hb e=>?_
 have ha:=(mem_allI.1 (List.mem_filter.1 ha).1).2
 have hb:=(mem_allI.1 (List.mem_filter.1 hb).1).2
 have e':=congrArg sby e
 rw[List.nil_append,List.nil_append,sby_bstr (fun c hc=>by have:=ha c hc;omega),sby_bstr (fun c hc=>by have:=hb c hc;omega)]at e'
 exact e'
theorem pFBegin_tm{f:TFinder}(ho:∀t∈f.tests,okT t=true)(hl:f.tests.length≤1000):Tm (fun N=>pFBegin N f) (·=(f.tests.map sp0,f.out,f.dead)):=by
 unfold pFBegin
 refine Tm.eq (a:=f.tests.map sp0) ?_ (Tm.some rfl)
 refine Tm.up f.tests.length (fun k s=>s.2=(k:Int)∧s.1=(f.tests.take k).map sp0) ⟨rfl,rfl⟩ ?_
 rintro k hk ⟨s,i⟩ ⟨hi,hs⟩
 dsimp only at hi hs;subst hi;subst hs
 unfold pFBegin_b1
 rcases Nat.lt_or_ge k f.tests.length with hlt|hge
 · refine Tm.pos (by omega) (Tm.step (idx_n hlt) ((pBegin_tm (ho _ (List.getElem_mem hlt))).eq ?_))
   rw[apnd_ok (by simp;omega) (by decide)]
   refine Tm.some ⟨hlt,iw_n (by omega),?_⟩
   show _=(f.tests.take (k+1)).map sp0
   rw[←List.take_append_getElem hlt,List.map_append];rfl
 · refine Tm.neg (by omega) (Tm.some ?_)
   show _=_
   rw[List.take_of_length_le (by omega)]
theorem pWords_tm{ts:List TTest}{n m:Nat}(ho:∀t∈ts,okT t=true)(hl:ts.length≤1000)(hn:n≤255)(hm:0<m∧m≤100000):Tm (fun N=>pWords N ts (n:Int) (m:Int)) (·=(wordsOf ts n).take m):=by
 unfold pWords
 have e1:(if(n:Int)<0 then some true else some (decide ((m:Int)≤0)))=some false:=by
  rw[if_neg (by omega),decide_eq_false (by omega)]
 rw[e1]
 simp only[Option.bind_some,Bool.false_eq_true,if_false]
 refine(pFBegin_tm (f:=TFinder.mk ts (m:Int) [] []) ho hl).eq ?_
 have hs:Sts ts (ts.map sp0):=by
  refine⟨by simp,fun q hq=>?_⟩
  obtain⟨i,hi,rfl⟩:=List.getElem_of_mem hq
  have hi':i<ts.length:=by rw[List.length_zip]at hi;omega
  rw[List.getElem_zip,List.getElem_map]
  exact st0_ok (ho _ (List.getElem_mem hi'))
 refine(pFind_tm ho hl n (TFinder.mk ts (m:Int) [] []) (ts.map sp0) [] rfl hs hn (by simp;omega) ⟨m,rfl,hm.2,hm.1⟩ (fun k hk=>by cases hk)).bind fun r hr=>Tm.some ?_
 rw[hr.1,Int.toNat_natCast,List.nil_append];rfl
open Go Go.X
inductive Cn (p:TProb):Nat→Nat→Prop
 |refl (a:Nat):Cn p a a
 |edge {e:Arr2Int}:e∈p.Same→Cn p e.e0.toNat e.e1.toNat
 |symm {a b:Nat}:Cn p a b→Cn p b a
 |trans {a b c:Nat}:Cn p a b→Cn p b c→Cn p a c
structure Lb (p:TProb)(L:List Int):Prop where
 len:L.length=p.Min.length
 ok:∀v,v<p.Min.length→∃k:Nat,L[v]?=some (k:Int)∧k≤v∧Cn p v k
def Fx(p:TProb)(L:List Int):Prop:=∀e∈p.Same,L[e.e0.toNat]?=L[e.e1.toNat]?
section
variable {p:TProb} {L L':List Int}
theorem Fx.cn(h:Fx p L){a b:Nat}(hc:Cn p a b):L[a]?=L[b]?:=by
 induction hc with
 |refl a=>rfl
 |edge he=>exact h _ he
 |symm _ ih=>exact ih.symm
 |trans _ _ i1 i2=>exact i1.trans i2
theorem Lb.le(h:Lb p L)(h':Lb p L')(hf:Fx p L){v k k':Nat}(hv:v<p.Min.length)(e:L[v]?=some (k:Int))(e':L'[v]?=some (k':Int)):k≤k':=by
 obtain⟨q,g1,g2,g3⟩:=h'.ok v hv
 rw[e']at g1
 have:k'=q:=by have:=Option.some.inj g1;omega
 subst this
 obtain⟨q2,f1,f2,f3⟩:=h.ok k' (by omega)
 rw[←hf.cn g3,e]at f1
 have:=Option.some.inj f1
 omega
theorem imin_n{x y:Nat}:imin (x:Int) (y:Int)=((min x y:Nat):Int):=by
 unfold imin
 by_cases h:y<x
 · rw[if_pos (by omega),Nat.min_eq_right (by omega)]
 · rw[if_neg (by omega),Nat.min_eq_left (by omega)]
theorem Lb.step(h:Lb p L){e:Arr2Int}(he:e∈p.Same){x y:Nat}(h0:e.e0.toNat<p.Min.length)(h1:e.e1.toNat<p.Min.length)(hx:L[e.e0.toNat]?=some (x:Int))(hy:L[e.e1.toNat]?=some (y:Int)):
 Lb p ((L.set e.e0.toNat ((min x y:Nat):Int)).set e.e1.toNat ((min x y:Nat):Int)):=by
 refine⟨by rw[List.length_set,List.length_set];exact h.len,fun v hv=>?_⟩
 have hl:=h.len
 obtain⟨x',gx,hxl,hxc⟩:=h.ok _ h0
 obtain⟨y',gy,hyl,hyc⟩:=h.ok _ h1
 rw[hx]at gx
 rw[hy]at gy
 have ex:x=x':=by have:=Option.some.inj gx;omega
 have ey:y=y':=by have:=Option.some.inj gy;omega
 subst ex;subst ey
 have hab:Cn p e.e0.toNat e.e1.toNat:=.edge he
 have ha:Cn p e.e0.toNat (min x y):=by
  rcases Nat.le_total x y with g|g
  · rw[Nat.min_eq_left g];exact hxc
  · rw[Nat.min_eq_right g];exact hab.trans hyc
 have hb:Cn p e.e1.toNat (min x y):=hab.symm.trans ha
 rw[List.getElem?_set]
 by_cases g1:e.e1.toNat=v
 · rw[if_pos g1,if_pos (by rw[List.length_set];omega)]
   exact⟨min x y,rfl,by omega,g1▸hb⟩
 · rw[if_neg g1,List.getElem?_set]
   by_cases g0:e.e0.toNat=v
   · rw[if_pos g0,if_pos (by omega)]
     exact⟨min x y,rfl,by omega,g0▸ha⟩
   · rw[if_neg g0];exact h.ok v hv
def tot:List Int→Int
 |[]=>0
 |x::l=>x+tot l
theorem tot_set:∀{l:List Int} {i:Nat} {x y:Int},l[i]?=some x→tot (l.set i y)+x=tot l+y
 |[],i,x,y,h=>by simp at h
 |z::l,0,x,y,h=>by
  simp only[List.getElem?_cons_zero,Option.some.injEq]at h
  subst h;simp only[List.set_cons_zero,tot];omega
 |z::l,i+1,x,y,h=>by
  have:=tot_set (l:=l) (i:=i) (x:=x) (y:=y) (by simpa using h)
  simp only[List.set_cons_succ,tot];omega
theorem tot_nonneg:∀{l:List Int},(∀x∈l,0≤x)→0≤tot l
 |[],_=>Int.le_refl _
 |x::l,h=>by
  have:=tot_nonneg (l:=l) fun y hy=>h y (List.mem_cons_of_mem _ hy)
  have:=h x List.mem_cons_self
  simp only[tot];omega
theorem Lb.nn(h:Lb p L):∀x∈L,0≤x:=by
 intro x hx
 obtain⟨i,hi,rfl⟩:=List.getElem_of_mem hx
 obtain⟨k,e,_,_⟩:=h.ok i (by rw[←h.len];exact hi)
 rw[List.getElem?_eq_getElem hi]at e
 have:=Option.some.inj e
 omega
theorem lb_ids(h:L.length=p.Min.length)(hi:∀v,v<p.Min.length→L[v]?=some (v:Int)):Lb p L:=⟨h,fun v hv=>⟨v,hi v hv,Nat.le_refl _,.refl v⟩⟩
theorem tclasses_b1_tm{m:Nat}(hm:m≤200){x8:List Int}(h8:x8.length=m):Tm (fun N=>loopM (tclasses_b1 N x8) N (x8,0)) (fun L=>L.length=m∧∀v,v<m→L[v]?=some (v:Int)):=by
 refine Tm.up m (fun k s=>s.2=(k:Int)∧s.1.length=m∧∀v,v<k→s.1[v]?=some (v:Int)) ⟨rfl,h8,fun v hv=>by omega⟩ ?_
 rintro k hk ⟨s,i⟩ ⟨hi,hsl,hsv⟩
 dsimp only at hi hsl hsv;subst hi
 unfold tclasses_b1
 rcases Nat.lt_or_ge k m with hlt|hge
 · refine Tm.pos (by omega) (Tm.step (idx_n (by omega)) ?_)
   rw[upd1_i (n:=k) rfl (by omega)]
   refine Tm.some ⟨hlt,iw_n (by omega),by rw[List.length_set];exact hsl,fun v hv=>?_⟩
   rw[List.getElem?_set]
   by_cases e:k=v
   · subst e;rw[if_pos rfl,if_pos (by omega)]
   · rw[if_neg e];exact hsv v (by omega)
 · refine Tm.neg (by omega) (Tm.some ⟨hsl,fun v hv=>hsv v (by omega)⟩)
theorem same_get(hp:OkP p){k:Nat}(hk:k<p.Same.length):∃a b:Nat,p.Same[k].e0=(a:Int)∧p.Same[k].e1=(b:Int)∧a<p.Min.length∧b<p.Min.length:=by
 obtain⟨h1,h2⟩:=hp.sm _ (List.getElem_mem hk)
 obtain⟨a,e1,ha⟩:=var_n h1
 obtain⟨b,e2,hb⟩:=var_n h2
 exact⟨a,b,e1,e2,ha,hb⟩
theorem tclasses_b3_tm(hp:OkP p)(hs:p.Same.length≤1000)(h:Lb p L):Tm (fun N=>loopM (tclasses_b3 N p) N (L,false,0)) (fun r=>Lb p r.1∧(r.2=true→tot r.1<tot L)∧(r.2=false→r.1=L∧Fx p L)):=by
 refine Tm.up p.Same.length (fun k s=>s.2.2=(k:Int)∧Lb p s.1∧(s.2.1=true→tot s.1<tot L)∧(s.2.1=false→s.1=L∧∀j (hj:j<p.Same.length),j<k→L[p.Same[j].e0.toNat]?=L[p.Same[j].e1.toNat]?)) ⟨rfl,h,fun e=>by simp at e,fun _=>⟨rfl,fun j _ hj=>by omega⟩⟩ ?_
 rintro k hk ⟨s,ch,i⟩ ⟨hi,hL,h1,h2⟩
 dsimp only at hi hL h1 h2;subst hi
 unfold tclasses_b3
 dsimp only
 rcases Nat.lt_or_ge k p.Same.length with hlt|hge
 · obtain⟨a,b,ea,eb,ha,hb⟩:=same_get hp hlt
   have hl:=hL.len
   obtain⟨x,ex,hx,_⟩:=hL.ok a ha
   obtain⟨y,ey,hy,_⟩:=hL.ok b hb
   have ea':p.Same[k].e0.toNat=a:=by omega
   have eb':p.Same[k].e1.toNat=b:=by omega
   refine Tm.pos (by omega) (Tm.step (idx_n hlt) ?_)
   rw[ea,eb]
   refine Tm.step (idx_get ex) (Tm.step (idx_get ey) ?_)
   by_cases hxy:(x:Int)≠y
   · refine Tm.pos hxy (Tm.step (idx_get ex) ?_)
     rw[imin_n,upd1_i (n:=a) rfl (by omega)]
     simp only[Option.bind_some]
     refine Tm.step (idx_n (by rw[List.length_set];omega)) ?_
     rw[upd1_i (n:=b) rfl (by rw[List.length_set];omega)]
     have hst:=hL.step (List.getElem_mem hlt) (x:=x) (y:=y) (by rw[ea'];exact ha) (by rw[eb'];exact hb) (by rw[ea'];exact ex) (by rw[eb'];exact ey)
     rw[ea',eb']at hst
     refine Tm.some ⟨hlt,iw_n (by omega),hst,fun _=>?_,fun e=>by simp at e⟩
     have hab:a≠b:=by
      rintro rfl
      rw[ex]at ey
      exact hxy (Option.some.inj ey)
     have t1:=tot_set (y:=((min x y:Nat):Int)) ex
     have t2:=tot_set (l:=s.set a ((min x y:Nat):Int)) (i:=b) (x:=(y:Int)) (y:=((min x y:Nat):Int)) (by rw[List.getElem?_set_ne hab];exact ey)
     show tot ((s.set a ((min x y:Nat):Int)).set b ((min x y:Nat):Int))<tot L
     have:tot ((s.set a ((min x y:Nat):Int)).set b ((min x y:Nat):Int))<tot s:=by omega
     cases ch with
     |true=>have:=h1 rfl;omega
     |false=>rw[(h2 rfl).1]at this⊢;exact this
   · refine Tm.neg hxy (Tm.some ⟨hlt,iw_n (by omega),hL,h1,fun e=>?_⟩)
     obtain⟨g1,g2⟩:=h2 e
     refine⟨g1,fun j hj hjk=>?_⟩
     by_cases ejk:j=k
     · subst ejk
       rw[ea',eb',←g1]
       show s[a]?=s[b]?
       rw[ex,ey]
       exact congrArg some (Classical.not_not.1 hxy)
     · exact g2 j hj (by omega)
 · refine Tm.neg (by omega) (Tm.some ⟨hL,h1,fun e=>?_⟩)
   obtain⟨g1,g2⟩:=h2 e
   refine⟨g1,fun e he=>?_⟩
   obtain⟨j,hj,rfl⟩:=List.getElem_of_mem he
   exact g2 j hj (by omega)
theorem tclasses_b2_tm(hp:OkP p)(hs:p.Same.length≤1000)(h:Lb p L):Tm (fun N=>loopM (tclasses_b2 N p) N (L,true)) (fun r=>Lb p r∧Fx p r):=by
 refine Tm.loopG (fun(m:Nat) s=>Lb p s.1∧(s.2=false→Fx p s.1)∧m=2*(tot s.1).toNat+(if s.2 then 1 else 0)) (fun m=>m) _ ⟨h,fun e=>by simp at e,rfl⟩ ?_
 rintro m ⟨s,ch⟩ ⟨hL,hF,hm⟩
 dsimp only at hL hF hm
 unfold tclasses_b2
 dsimp only
 cases ch with
 |true=>
  refine Tm.pos rfl ((tclasses_b3_tm hp hs hL).bind fun r hr=>?_)
  obtain⟨r,c⟩:=r
  obtain⟨h1,h2,h3⟩:=hr
  refine Tm.some ⟨_,⟨h1,fun e=>?_,rfl⟩,?_⟩
  · have:=h3 e
    dsimp only at this⊢
    rw[this.1];exact this.2
  · subst hm
    have n1:=tot_nonneg h1.nn
    have n2:=tot_nonneg hL.nn
    dsimp only at n1 h2 h3⊢
    cases c with
    |true=>have:=h2 rfl;simp;omega
    |false=>rw[(h3 rfl).1];simp
 |false=>exact Tm.neg (by simp) (Tm.some ⟨hL,hF rfl⟩)
def isL(L:List Int)(v:Nat):Bool:=decide (L[v]?=some (v:Int))
def rk(L:List Int)(k:Nat):Nat:=((List.range k).filter (isL L)).length
theorem rk_succ{k:Nat}:rk L (k+1)=rk L k+(if isL L k then 1 else 0):=by
 unfold rk
 rw[List.range_succ,List.filter_append,List.length_append]
 cases h:isL L k<;>simp[h]
theorem rk_le{k:Nat}:rk L k≤k:=by
 unfold rk
 have:=List.length_filter_le (isL L) (List.range k)
 simpa using this
def numOf(L:List Int):List Int:=L.map fun k=>((rk L k.toNat:Nat):Int)
theorem numOf_get{v:Nat}:(numOf L)[v]?=(L[v]?).map fun k=>((rk L k.toNat:Nat):Int):=by simp[numOf]
theorem Lb.leads(h:Lb p L)(hf:Fx p L){v k:Nat}(hv:v<p.Min.length)(e:L[v]?=some (k:Int)):L[k]?=some (k:Int)∧k≤v:=by
 obtain⟨q,g1,g2,g3⟩:=h.ok v hv
 rw[e]at g1
 have:k=q:=by have:=Option.some.inj g1;omega
 subst this
 exact⟨(hf.cn g3).symm.trans e,g2⟩
theorem tclasses_b4_tm(hp:OkP p)(h:Lb p L)(hf:Fx p L):Tm (fun N=>loopM (tclasses_b4 N L) N (List.replicate L.length 0,0,0)) (fun r=>r.1=numOf L∧r.2=((rk L L.length:Nat):Int)):=by
 have hle:=hp.le
 have hlen:=h.len
 refine Tm.up L.length (fun k s=>s.2.2=(k:Int)∧s.2.1=((rk L k:Nat):Int)∧s.1.length=L.length∧∀v,v<k→s.1[v]?=(numOf L)[v]?) ⟨rfl,rfl,by simp,fun v hv=>by omega⟩ ?_
 rintro k hk ⟨s,n,i⟩ ⟨hi,hn,hsl,hsv⟩
 dsimp only at hi hn hsl hsv;subst hi;subst hn
 unfold tclasses_b4
 dsimp only
 rcases Nat.lt_or_ge k L.length with hlt|hge
 · obtain⟨q,eq,hq,_⟩:=h.ok k (by omega)
   refine Tm.pos (by omega) (Tm.step (idx_get eq) ?_)
   have hrk:=rk_le (L:=L) (k:=k)
   by_cases hqk:(q:Int)=(k:Int)
   · have e1:isL L k=true:=decide_eq_true (by rw[eq,hqk])
     refine Tm.pos hqk (Tm.step (idx_n (by omega)) ?_)
     rw[upd1_i (n:=k) rfl (by omega)]
     refine Tm.some ⟨hlt,iw_n (by omega),?_,by rw[List.length_set];exact hsl,fun v hv=>?_⟩
     · show iw ((rk L k:Int)+1)=_
       rw[rk_succ,e1,iw_n (by omega)];rfl
     · rw[List.getElem?_set]
       by_cases e:k=v
       · subst e
         rw[if_pos rfl,if_pos (by omega),numOf_get,eq,hqk];rfl
       · rw[if_neg e];exact hsv v (by omega)
   · have e1:isL L k=false:=decide_eq_false (by rw[eq];intro hh;exact hqk (Option.some.inj hh))
     obtain⟨g1,g2⟩:=h.leads hf (by omega) eq
     have hqk':q<k:=by omega
     refine Tm.neg hqk ?_
     have e2:s[q]?=some ((rk L q:Nat):Int):=by rw[hsv q hqk',numOf_get,g1];rfl
     refine Tm.step (idx_get e2) (Tm.step (idx_n (by omega)) ?_)
     rw[upd1_i (n:=k) rfl (by omega)]
     refine Tm.some ⟨hlt,iw_n (by omega),?_,by rw[List.length_set];exact hsl,fun v hv=>?_⟩
     · show((rk L k:Nat):Int)=_
       rw[rk_succ,e1];rfl
     · rw[List.getElem?_set]
       by_cases e:k=v
       · subst e
         rw[if_pos rfl,if_pos (by omega),numOf_get,eq];rfl
       · rw[if_neg e];exact hsv v (by omega)
 · have hk':k=L.length:=by omega
   subst hk'
   refine Tm.neg (by omega) (Tm.some ⟨?_,rfl⟩)
   show s=numOf L
   apply List.ext_getElem?
   intro v
   by_cases hv:v<L.length
   · exact hsv v hv
   · rw[List.getElem?_eq_none (by omega),List.getElem?_eq_none (by simp[numOf];omega)]
theorem tclasses_tm(hp:OkP p)(hs:p.Same.length≤1000):Tm (fun N=>tclasses N p) (fun r=>∃L,Lb p L∧Fx p L∧r.1=numOf L∧r.2=((rk L L.length:Nat):Int)):=by
 have hle:=hp.le
 unfold tclasses
 rw[mk1_ok (n:=p.Min.length) rfl (by omega) (by decide)]
 simp only[Option.bind_some]
 refine(tclasses_b1_tm (m:=p.Min.length) (by omega) (by simp)).bind fun L0 h0=>?_
 refine(tclasses_b2_tm hp hs (lb_ids h0.1 h0.2)).bind fun L hL=>?_
 have hl:=hL.1.len
 rw[mk1_ok (n:=L.length) rfl (by omega) (by decide)]
 simp only[Option.bind_some]
 refine(tclasses_b4_tm hp hL.1 hL.2).bind fun r hr=>?_
 obtain⟨a,b⟩:=r
 exact Tm.some ⟨L,hL.1,hL.2,hr.1,hr.2⟩
end
open Go Go.X
section
variable {p:TProb} {L:List Int}
theorem rk_range:∀n,((List.range n).filter (isL L)).map (rk L)=List.range (rk L n)
 |0=>rfl
 |n+1=>by
  rw[List.range_succ,List.filter_append,List.map_append,rk_range n,rk_succ]
  cases h:isL L n with
  |true=>simp[h,List.range_succ]
  |false=>simp[h]
def cls(L:List Int)(v:Nat):Nat:=rk L (L.getD v 0).toNat
theorem cls_of{v k:Nat}(e:L[v]?=some (k:Int)):cls L v=rk L k:=by
 unfold cls;rw[List.getD_eq_getElem?_getD,e];rfl
theorem num_get(h:Lb p L){v:Nat}(hv:v<p.Min.length):(numOf L)[v]?=some ((cls L v:Nat):Int):=by
 obtain⟨k,e,_,_⟩:=h.ok v hv
 rw[numOf_get,e,cls_of e];rfl
theorem num_len:(numOf L).length=L.length:=by simp[numOf]
theorem rk_mono{a b:Nat}(h:a≤b):rk L a≤rk L b:=by
 induction h with
 |refl=>exact Nat.le_refl _
 |step _ ih=>rw[rk_succ];omega
theorem rk_lt{a b:Nat}(ha:isL L a=true)(h:a<b):rk L a<rk L b:=by
 have h1:=rk_mono (L:=L) (show a+1≤b from h)
 rw[rk_succ,ha]at h1
 simp at h1;omega
theorem cls_lt(h:Lb p L)(hf:Fx p L){v:Nat}(hv:v<p.Min.length):cls L v<rk L L.length:=by
 obtain⟨k,e,hk,_⟩:=h.ok v hv
 rw[cls_of e]
 exact rk_lt (decide_eq_true (h.leads hf hv e).1) (by rw[h.len];omega)
theorem cls_eq(h:Lb p L)(hf:Fx p L){v i:Nat}(hv:v<p.Min.length)(hi:isL L i=true):cls L v=rk L i↔L[v]?=some (i:Int):=by
 obtain⟨k,e,hk,_⟩:=h.ok v hv
 have hl:isL L k=true:=decide_eq_true (h.leads hf hv e).1
 rw[cls_of e,e]
 constructor
 · intro g
   rcases Nat.lt_trichotomy k i with g1|g1|g1
   · have:=rk_lt (L:=L) hl g1;omega
   · rw[g1]
   · have:=rk_lt (L:=L) hi g1;omega
 · intro g
   have:=Option.some.inj g
   rw[show k=i by omega]
theorem cls_cn(hf:Fx p L){a b:Nat}(hc:Cn p a b):cls L a=cls L b:=by
 unfold cls
 rw[List.getD_eq_getElem?_getD,List.getD_eq_getElem?_getD,hf.cn hc]
theorem cn_cls(h:Lb p L)(hf:Fx p L){a b:Nat}(ha:a<p.Min.length)(hb:b<p.Min.length)(e:cls L a=cls L b):Cn p a b:=by
 obtain⟨k,ek,_,ck⟩:=h.ok b hb
 have hl:isL L k=true:=decide_eq_true (h.leads hf hb ek).1
 rw[cls_of ek,cls_eq h hf ha hl]at e
 obtain⟨k',ek',_,ck'⟩:=h.ok a ha
 rw[ek']at e
 have:k'=k:=by have:=Option.some.inj e;omega
 subst this
 exact ck'.trans ck.symm
theorem cls_surj(h:Lb p L){k:Nat}(hk:k<rk L L.length):∃v,v<p.Min.length∧cls L v=k:=by
 have h1:k∈((List.range L.length).filter (isL L)).map (rk L):=by rw[rk_range];exact List.mem_range.2 hk
 obtain⟨i,hi,rfl⟩:=List.mem_map.1 h1
 obtain⟨h2,h3⟩:=List.mem_filter.1 hi
 exact⟨i,by rw[←h.len];exact List.mem_range.1 h2,cls_of (of_decide_eq_true h3)⟩
theorem rk_le':rk L L.length≤L.length:=rk_le
theorem filter_le{α:Type}{P Q:α→Bool}:∀{l:List α},(∀x∈l,P x=true→Q x=true)→(l.filter P).length≤(l.filter Q).length
 |[],_=>Nat.le_refl _
 |x::l,h=>by
  have ih:=filter_le (l:=l) fun y hy=>h y (List.mem_cons_of_mem _ hy)
  have hx:=h x List.mem_cons_self
  cases hP:P x<;>cases hQ:Q x<;>simp[List.filter_cons,hP,hQ]<;>first|omega|(rw[hP,hQ]at hx;simp at hx)
theorem filter_lt{α:Type}{P Q:α→Bool}:∀{l:List α},(∀x∈l,P x=true→Q x=true)→(∃x∈l,Q x=true∧P x=false)→(l.filter P).length<(l.filter Q).length
 |[],_,h=>by obtain⟨x,hx,_⟩:=h;cases hx
 |x::l,h,h'=>by
  have hl:∀y∈l,P y=true→Q y=true:=fun y hy=>h y (List.mem_cons_of_mem _ hy)
  have hx:=h x List.mem_cons_self
  obtain⟨y,hy,h1,h2⟩:=h'
  rcases List.mem_cons.1 hy with rfl|hy
  · have:=filter_le hl
    simp[List.filter_cons,h1,h2];omega
  · have ih:=filter_lt hl ⟨y,hy,h1,h2⟩
    cases hP:P x<;>cases hQ:Q x<;>simp[List.filter_cons,hP,hQ]<;>first|omega|(rw[hP,hQ]at hx;simp at hx)
end
open Go Go.X
theorem imin_or(a b:Int):(imin a b=a∧a≤b)∨(imin a b=b∧b≤a):=by
 unfold imin
 by_cases h:b<a
 · rw[if_pos h];exact .inr ⟨rfl,by omega⟩
 · rw[if_neg h];exact .inl ⟨rfl,by omega⟩
theorem imax_or(a b:Int):(imax a b=a∧b≤a)∨(imax a b=b∧a≤b):=by
 unfold imax
 by_cases h:b>a
 · rw[if_pos h];exact .inr ⟨rfl,by omega⟩
 · rw[if_neg h];exact .inl ⟨rfl,by omega⟩
structure ClR (p:TProb)(L:List Int)(i j k:Nat)(c:TClass):Prop where
 lo0:0≤c.low∧c.low≤16
 hi0:0≤c.high∧c.high≤16
 lo1:∀v,v<i→cls L v=k→p.Min.getD v 0≤c.low
 lo2:c.low=0∨∃v,v<i∧cls L v=k∧p.Min.getD v 0=c.low
 hi1:∀v,v<i→cls L v=k→c.high≤p.Max.getD v 0
 hi2:c.high=16∨∃v,v<i∧cls L v=k∧p.Max.getD v 0=c.high
 ts:c.tests=(p.Tests.take j).filter fun t=>decide (cls L t.Var.toNat=k)
 ws:c.words=[]
theorem set_get{α:Type}{l:List α}{a k:Nat}{y:α}(h:a<l.length):(l.set a y)[k]?=if a=k then some y else l[k]?:=by
 rw[List.getElem?_set]
 by_cases e:a=k
 · rw[if_pos e,if_pos e,if_pos h]
 · rw[if_neg e,if_neg e]
section
variable {p:TProb} {L:List Int}
theorem diff_get(hp:OkP p){k:Nat}(hk:k<p.Different.length):∃a b:Nat,p.Different[k].e0=(a:Int)∧p.Different[k].e1=(b:Int)∧a<p.Min.length∧b<p.Min.length:=by
 obtain⟨h1,h2⟩:=hp.df _ (List.getElem_mem hk)
 obtain⟨a,e1,ha⟩:=var_n h1
 obtain⟨b,e2,hb⟩:=var_n h2
 exact⟨a,b,e1,e2,ha,hb⟩
theorem tgathered_b1_tm{m:Nat}(hm:m≤1000){x27:List TClass}(h27:x27=List.replicate m (TClass.mk 0 0 [] [] [])):Tm (fun N=>loopM (tgathered_b1 N x27) N (x27,0)) (fun r=>r.length=m∧∀k,k<m→r[k]?=some (TClass.mk 0 16 [] [] [])):=by
 have hxl:x27.length=m:=by rw[h27];simp
 refine Tm.up m (fun k s=>s.2=(k:Int)∧s.1.length=m∧(∀j,j<k→s.1[j]?=some (TClass.mk 0 16 [] [] []))∧∀j,k≤j→j<m→s.1[j]?=some (TClass.mk 0 0 [] [] [])) ⟨rfl,hxl,fun j hj=>by omega,fun j _ hj=>by subst h27;rw[List.getElem?_replicate,if_pos hj]⟩ ?_
 rintro k hk ⟨s,i⟩ ⟨hi,hsl,h1,h2⟩
 dsimp only at hi hsl h1 h2;subst hi
 unfold tgathered_b1
 dsimp only
 rcases Nat.lt_or_ge k m with hlt|hge
 · refine Tm.pos (by omega) (Tm.step (idx_get (h2 k (Nat.le_refl _) hlt)) ?_)
   rw[upd1_i (n:=k) rfl (by omega)]
   refine Tm.some ⟨hlt,iw_n (by omega),by rw[List.length_set];exact hsl,fun j hj=>?_,fun j hj hj'=>?_⟩
   · show(s.set k _)[j]?=_
     rw[set_get (by omega)]
     by_cases e:k=j
     · rw[if_pos e]
     · rw[if_neg e];exact h1 j (by omega)
   · show(s.set k _)[j]?=_
     rw[set_get (by omega),if_neg (by omega)];exact h2 j (by omega) hj'
 · exact Tm.neg (by omega) (Tm.some ⟨hsl,fun k hk=>h1 k (by omega)⟩)
structure Gt (p:TProb)(L:List Int)(i j:Nat)(l:List TClass):Prop where
 len:l.length=rk L L.length
 ok:∀k,k<rk L L.length→∃c,l[k]?=some c∧ClR p L i j k c
theorem tgathered_b2_tm(hp:OkP p)(h:Lb p L)(hf:Fx p L){m:Int}{l:List TClass}(hl:Gt p L 0 0 l)(ha:∀(k:Nat) (c:TClass),l[k]?=some c→c.apart=[]):Tm (fun N=>loopM (tgathered_b2 N p (numOf L,m)) N (l,0)) (fun r=>Gt p L p.Min.length 0 r∧∀(k:Nat) (c:TClass),r[k]?=some c→c.apart=[]):=by
 have hle:=hp.le
 have hll:=h.len
 refine Tm.up p.Min.length (fun k s=>s.2=(k:Int)∧Gt p L k 0 s.1∧∀(k:Nat) (c:TClass),s.1[k]?=some c→c.apart=[]) ⟨rfl,hl,ha⟩ ?_
 rintro v hv ⟨s,i⟩ ⟨hi,hG,hA⟩
 dsimp only at hi hG hA;subst hi
 unfold tgathered_b2
 dsimp only
 rcases Nat.lt_or_ge v p.Min.length with hlt|hge
 · have hc:=cls_lt h hf hlt
   have hsl:=hG.len
   obtain⟨c,ec,hC⟩:=hG.ok _ hc
   have hmx:v<p.Max.length:=by rw[hp.len];exact hlt
   have emn:p.Min[v]=p.Min.getD v 0:=(getD_n hlt).symm
   have emx:p.Max[v]=p.Max.getD v 0:=(getD_n hmx).symm
   have bmn:=hp.mn _ (List.getElem_mem hlt)
   have bmx:=hp.mx _ (List.getElem_mem hmx)
   refine Tm.pos (by rw[num_len];omega) (Tm.step (idx_get (num_get h hlt)) (Tm.step (idx_get ec) (Tm.step (idx_n hlt) (Tm.step (idx_get ec) (Tm.step (idx_n hmx) (Tm.step (idx_get ec) ?_))))))
   rw[upd1_i (n:=cls L v) rfl (by omega)]
   simp only[Option.bind_some]
   refine Tm.step (idx_get (by rw[set_get (by omega),if_pos rfl])) ?_
   rw[upd1_i (n:=cls L v) rfl (by rw[List.length_set];omega),List.set_set]
   simp only[Option.bind_some]
   have hl0:=hC.lo0
   have hh0:=hC.hi0
   have hmax:=imax_or c.low p.Min[v]
   have hmin:=imin_or c.high p.Max[v]
   refine Tm.some ⟨hlt,iw_n (by omega),⟨by rw[List.length_set];exact hsl,fun k hk=>?_⟩,fun k c' e=>?_⟩
   · show∃c',(s.set _ _)[k]?=some c'∧_
     rw[set_get (by omega)]
     by_cases e:cls L v=k
     · rw[if_pos e]
       subst e
       refine⟨_,rfl,⟨by dsimp only;omega,by dsimp only;omega,fun u hu e=>?_,?_,fun u hu e=>?_,?_,hC.ts,hC.ws⟩⟩
       · dsimp only
         by_cases euv:u=v
         · subst euv;rw[←emn];omega
         · have:=hC.lo1 u (by omega) e;omega
       · dsimp only
         rcases hmax with⟨g,_⟩|⟨g,_⟩
         · rw[g]
           rcases hC.lo2 with g2|⟨u,hu,g2⟩
           · exact .inl g2
           · exact .inr ⟨u,by omega,g2⟩
         · exact .inr ⟨v,by omega,rfl,by rw[g,emn]⟩
       · dsimp only
         by_cases euv:u=v
         · subst euv;rw[←emx];omega
         · have:=hC.hi1 u (by omega) e;omega
       · dsimp only
         rcases hmin with⟨g,_⟩|⟨g,_⟩
         · rw[g]
           rcases hC.hi2 with g2|⟨u,hu,g2⟩
           · exact .inl g2
           · exact .inr ⟨u,by omega,g2⟩
         · exact .inr ⟨v,by omega,rfl,by rw[g,emx]⟩
     · rw[if_neg e]
       obtain⟨c',ec',hC'⟩:=hG.ok k hk
       refine⟨c',ec',⟨hC'.lo0,hC'.hi0,fun u hu g=>?_,?_,fun u hu g=>?_,?_,hC'.ts,hC'.ws⟩⟩
       · by_cases euv:u=v
         · subst euv;exact absurd g e
         · exact hC'.lo1 u (by omega) g
       · rcases hC'.lo2 with g2|⟨u,hu,g2⟩
         · exact .inl g2
         · exact .inr ⟨u,by omega,g2⟩
       · by_cases euv:u=v
         · subst euv;exact absurd g e
         · exact hC'.hi1 u (by omega) g
       · rcases hC'.hi2 with g2|⟨u,hu,g2⟩
         · exact .inl g2
         · exact .inr ⟨u,by omega,g2⟩
   · have e:(s.set (cls L v) _)[k]?=some c':=e
     rw[set_get (by omega)]at e
     by_cases g:cls L v=k
     · rw[if_pos g]at e
       rw[←Option.some.inj e]
       exact hA _ c ec
     · rw[if_neg g]at e
       exact hA k c' e
 · have:v=p.Min.length:=by omega
   subst this
   exact Tm.neg (by rw[num_len];omega) (Tm.some ⟨hG,hA⟩)
theorem test_get(hp:OkP p){k:Nat}(hk:k<p.Tests.length):∃a:Nat,p.Tests[k].Var=(a:Int)∧a<p.Min.length:=by
 obtain⟨_,h2⟩:=hp.ts _ (List.getElem_mem hk)
 obtain⟨a,e1,ha⟩:=var_n h2
 exact⟨a,e1,ha⟩
theorem tgathered_b3_tm(hp:OkP p)(h:Lb p L)(hf:Fx p L)(ht:p.Tests.length≤1000){m:Int}{i0:Nat}{l:List TClass}(hl:Gt p L i0 0 l)(ha:∀(k:Nat) (c:TClass),l[k]?=some c→c.apart=[]):Tm (fun N=>loopM (tgathered_b3 N p (numOf L,m)) N (l,0)) (fun r=>Gt p L i0 p.Tests.length r∧∀(k:Nat) (c:TClass),r[k]?=some c→c.apart=[]):=by
 have hle:=hp.le
 have hll:=h.len
 refine Tm.up p.Tests.length (fun k s=>s.2=(k:Int)∧Gt p L i0 k s.1∧∀(k:Nat) (c:TClass),s.1[k]?=some c→c.apart=[]) ⟨rfl,hl,ha⟩ ?_
 rintro j hj ⟨s,i⟩ ⟨hi,hG,hA⟩
 dsimp only at hi hG hA;subst hi
 unfold tgathered_b3
 dsimp only
 rcases Nat.lt_or_ge j p.Tests.length with hlt|hge
 · obtain⟨v,ev,hv⟩:=test_get hp hlt
   have ev':p.Tests[j].Var.toNat=v:=by omega
   have hc:=cls_lt h hf hv
   have hsl:=hG.len
   obtain⟨c,ec,hC⟩:=hG.ok _ hc
   refine Tm.pos (by omega) (Tm.step (idx_n hlt) ?_)
   rw[ev]
   refine Tm.step (idx_get (num_get h hv)) (Tm.step (idx_get ec) (Tm.step (idx_get ec) ?_))
   have htl:c.tests.length≤j:=by
    rw[hC.ts]
    have:=List.length_filter_le (fun t=>decide (cls L t.Var.toNat=cls L v)) (p.Tests.take j)
    rw[List.length_take]at this;omega
   rw[apnd_ok (by simp only[List.length_singleton];omega) (by decide)]
   simp only[Option.bind_some]
   refine Tm.step (idx_get ec) ?_
   rw[upd1_i (n:=cls L v) rfl (by omega)]
   have htk:p.Tests.take (j+1)=p.Tests.take j++[p.Tests[j]]:=List.take_succ_eq_append_getElem hlt
   refine Tm.some ⟨hlt,iw_n (by omega),⟨by rw[List.length_set];exact hsl,fun k hk=>?_⟩,fun k c' e=>?_⟩
   · show∃c',(s.set _ _)[k]?=some c'∧_
     rw[set_get (by omega)]
     by_cases e:cls L v=k
     · rw[if_pos e]
       subst e
       refine⟨_,rfl,⟨hC.lo0,hC.hi0,hC.lo1,hC.lo2,hC.hi1,hC.hi2,?_,hC.ws⟩⟩
       show c.tests++[p.Tests[j]]=_
       rw[htk,List.filter_append,←hC.ts]
       congr 1
       simp[ev']
     · rw[if_neg e]
       obtain⟨c',ec',hC'⟩:=hG.ok k hk
       refine⟨c',ec',⟨hC'.lo0,hC'.hi0,hC'.lo1,hC'.lo2,hC'.hi1,hC'.hi2,?_,hC'.ws⟩⟩
       rw[htk,List.filter_append,←hC'.ts,List.filter_cons_of_neg (by simp[ev',e]),List.filter_nil,List.append_nil]
   · have e:(s.set (cls L v) _)[k]?=some c':=e
     rw[set_get (by omega)]at e
     by_cases g:cls L v=k
     · rw[if_pos g]at e
       rw[←Option.some.inj e]
       exact hA _ c ec
     · rw[if_neg g]at e
       exact hA k c' e
 · have:j=p.Tests.length:=by omega
   subst this
   exact Tm.neg (by omega) (Tm.some ⟨hG,hA⟩)
def Df(p:TProb)(L:List Int)(i:Nat)(a b:Nat):Prop:=∃e∈p.Different.take i,(cls L e.e0.toNat=a∧cls L e.e1.toNat=b)∨(cls L e.e1.toNat=a∧cls L e.e0.toNat=b)
theorem Df.symm{i a b:Nat}(h:Df p L i a b):Df p L i b a:=by
 obtain⟨e,he,h⟩:=h
 exact⟨e,he,h.elim (fun h=>.inr ⟨h.2,h.1⟩) (fun h=>.inl ⟨h.2,h.1⟩)⟩
structure Ap (p:TProb)(L:List Int)(i:Nat)(l:List TClass):Prop where
 mem:∀(k:Nat) (c:TClass),l[k]?=some c→∀o,o∈c.apart↔∃q:Nat,o=(q:Int)∧Df p L i k q
 le:∀(k:Nat) (c:TClass),l[k]?=some c→c.apart.length≤i
 ne:∀e∈p.Different.take i,cls L e.e0.toNat≠cls L e.e1.toNat
theorem indexOf_tm{s:List Int}{x:Int}(hn:s.length≤Bg):Tm (fun N=>indexOf N s x) (fun r=>decide (r≥0)=decide (x∈s)):=by
 have hb:Bg=9223372036854775807:=rfl
 unfold indexOf
 refine(Tm.findL (b:=fun N=>indexOf_b1 N x s) s (fun y=>decide (x=y)) (fun k=>(k:Int)) (by omega) (fun k hk=>?_) ?_).bind fun o ho=>?_
 · unfold indexOf_b1
   refine Tm.pos (by omega) (Tm.step (idx_n hk) ?_)
   by_cases e:x=s[k]
   · rw[if_pos e,decide_eq_true e];exact Tm.some rfl
   · rw[if_neg e,decide_eq_false e];exact Tm.some rfl
 · unfold indexOf_b1
   exact Tm.neg (by omega) (Tm.some rfl)
 · rcases ho with⟨h1,rfl⟩|⟨k,hk,h1,_,rfl⟩
   · refine Tm.some ?_
     have:x∉s:=fun h=>by
      have:=List.any_eq_false.1 h1 x h
      simp at this
     rw[decide_eq_false this];rfl
   · refine Tm.some ?_
     have:x∈s:=by
      have e:=of_decide_eq_true h1
      rw[e];exact List.getElem_mem hk
     rw[decide_eq_true this]
     exact decide_eq_true (by omega)
theorem containsOf_tm{s:List Int}{x:Int}(hn:s.length≤Bg):Tm (fun N=>containsOf N s x) (·=decide (x∈s)):=by
 unfold containsOf
 exact(indexOf_tm hn).bind fun r hr=>Tm.some hr
theorem tgathered_b4_tm(hp:OkP p)(h:Lb p L)(hf:Fx p L)(hd:p.Different.length≤1000){m:Int}{i0 j0:Nat}{l:List TClass}(hl:Gt p L i0 j0 l)(ha:∀(k:Nat) (c:TClass),l[k]?=some c→c.apart=[]):
 Tm (fun N=>loopM (tgathered_b4 N p (numOf L,m)) N (l,0)) (fun o=>match o with|.inl r=>Gt p L i0 j0 r∧Ap p L p.Different.length r|.inr z=>Gt p L i0 j0 z.1∧z.2.1=numOf L∧z.2.2=false∧∃e∈p.Different,cls L e.e0.toNat=cls L e.e1.toNat):=by
 have hle:=hp.le
 have hll:=h.len
 have hb:Bg=9223372036854775807:=rfl
 refine Tm.up p.Different.length (fun k s=>s.2=(k:Int)∧Gt p L i0 j0 s.1∧Ap p L k s.1) ⟨rfl,hl,⟨fun k c e o=>?_,fun k c e=>by rw[ha k c e];exact Nat.zero_le _,fun e he=>by simp at he⟩⟩ ?_
 · rw[ha k c e]
   constructor
   · intro g;cases g
   · rintro⟨q,_,e,he,_⟩;simp at he
 rintro j hj ⟨s,i⟩ ⟨hi,hG,hA⟩
 dsimp only at hi hG hA;subst hi
 unfold tgathered_b4
 dsimp only
 rcases Nat.lt_or_ge j p.Different.length with hlt|hge
 · obtain⟨a,b,ea,eb,hav,hbv⟩:=diff_get hp hlt
   have ea':p.Different[j].e0.toNat=a:=by omega
   have eb':p.Different[j].e1.toNat=b:=by omega
   have hca:=cls_lt h hf hav
   have hcb:=cls_lt h hf hbv
   have hsl:=hG.len
   obtain⟨c,ec,hC⟩:=hG.ok _ hca
   obtain⟨d,ed,hD⟩:=hG.ok _ hcb
   have htk:p.Different.take (j+1)=p.Different.take j++[p.Different[j]]:=List.take_succ_eq_append_getElem hlt
   have hDf:∀x y,Df p L (j+1) x y↔Df p L j x y∨(cls L a=x∧cls L b=y)∨(cls L b=x∧cls L a=y):=by
    intro x y
    unfold Df
    rw[htk]
    constructor
    · rintro⟨e,he,g⟩
      rcases List.mem_append.1 he with he|he
      · exact .inl ⟨e,he,g⟩
      · rw[List.mem_singleton.1 he,ea',eb']at g;exact .inr g
    · rintro(⟨e,he,g⟩|g)
      · exact⟨e,List.mem_append_left _ he,g⟩
      · exact⟨_,List.mem_append_right _ (List.mem_singleton.2 rfl),by rw[ea',eb'];exact g⟩
   refine Tm.pos (by omega) (Tm.step (idx_n hlt) ?_)
   rw[ea,eb]
   refine Tm.step (idx_get (num_get h hav)) (Tm.step (idx_get (num_get h hbv)) ?_)
   by_cases hab:cls L a=cls L b
   · refine Tm.pos (by rw[hab]) (Tm.some ⟨hG,rfl,rfl,_,List.getElem_mem hlt,by rw[ea',eb'];exact hab⟩)
   · have hne:∀e∈p.Different.take (j+1),cls L e.e0.toNat≠cls L e.e1.toNat:=by
      intro e he
      rw[htk]at he
      rcases List.mem_append.1 he with he|he
      · exact hA.ne e he
      · rw[List.mem_singleton.1 he,ea',eb'];exact hab
     have lc:=hA.le _ _ ec
     have ld:=hA.le _ _ ed
     refine Tm.neg (by omega) (Tm.step (idx_get ec) (Tm.step (idx_get ec) ((containsOf_tm (by omega)).eq ?_)))
     by_cases hin:((cls L b:Nat):Int)∈c.apart
     · rw[decide_eq_true hin]
       refine Tm.neg (by simp) (Tm.some ⟨hlt,iw_n (by omega),hG,⟨fun k c' e o=>?_,fun k c' e=>by have:=hA.le k c' e;omega,hne⟩⟩)
       obtain⟨q,eq,hq⟩:=(hA.mem _ _ ec _).1 hin
       have eq':cls L b=q:=by omega
       rw[hA.mem k c' e o]
       constructor
       · rintro⟨q,e1,e2⟩;exact⟨q,e1,(hDf _ _).2 (.inl e2)⟩
       · rintro⟨q',e1,e2⟩
         rcases(hDf _ _).1 e2 with g|⟨g1,g2⟩|⟨g1,g2⟩
         · exact⟨q',e1,g⟩
         · refine⟨q',e1,?_⟩;rw[←g1,←g2,eq'];exact hq
         · refine⟨q',e1,?_⟩;rw[←g1,←g2,eq'];exact hq.symm
     · rw[decide_eq_false hin]
       refine Tm.pos (by simp) (Tm.step (idx_get ec) (Tm.step (idx_get ed) (Tm.step (idx_get ec) ?_)))
       rw[apnd_ok (by simp only[List.length_singleton];omega) (by decide)]
       simp only[Option.bind_some]
       refine Tm.step (idx_get ed) ?_
       rw[apnd_ok (by simp only[List.length_singleton];omega) (by decide)]
       simp only[Option.bind_some]
       refine Tm.step (idx_get ec) ?_
       rw[upd1_i (n:=cls L a) rfl (by omega)]
       simp only[Option.bind_some]
       refine Tm.step (idx_get (by rw[set_get (by omega),if_neg hab];exact ed)) ?_
       rw[upd1_i (n:=cls L b) rfl (by rw[List.length_set];omega)]
       have hget:∀k,((s.set (cls L a) (TClass.mk c.low c.high c.tests c.words (c.apart++[((cls L b:Nat):Int)]))).set (cls L b) (TClass.mk d.low d.high d.tests d.words (d.apart++[((cls L a:Nat):Int)])))[k]?=if cls L b=k then some (TClass.mk d.low d.high d.tests d.words (d.apart++[((cls L a:Nat):Int)]))else if cls L a=k then some (TClass.mk c.low c.high c.tests c.words (c.apart++[((cls L b:Nat):Int)]))else s[k]?:=by
        intro k
        rw[set_get (by rw[List.length_set];omega),set_get (by omega)]
       refine Tm.some ⟨hlt,iw_n (by omega),⟨by rw[List.length_set,List.length_set];exact hsl,fun k hk=>?_⟩,⟨fun k c' e o=>?_,fun k c' e=>?_,hne⟩⟩
       · show∃c',(List.set _ _ _)[k]?=some c'∧_
         rw[hget]
         by_cases e1:cls L b=k
         · rw[if_pos e1]
           subst e1
           exact⟨_,rfl,⟨hD.lo0,hD.hi0,hD.lo1,hD.lo2,hD.hi1,hD.hi2,hD.ts,hD.ws⟩⟩
         · rw[if_neg e1]
           by_cases e2:cls L a=k
           · rw[if_pos e2]
             subst e2
             exact⟨_,rfl,⟨hC.lo0,hC.hi0,hC.lo1,hC.lo2,hC.hi1,hC.hi2,hC.ts,hC.ws⟩⟩
           · rw[if_neg e2];exact hG.ok k hk
       · have e:(List.set _ _ _)[k]?=some c':=e
         rw[hget]at e
         by_cases e1:cls L b=k
         · rw[if_pos e1]at e
           rw[←Option.some.inj e]
           subst e1
           show o∈d.apart++[_]↔_
           rw[List.mem_append,hA.mem _ _ ed o,List.mem_singleton]
           constructor
           · rintro(⟨q,g1,g2⟩|g)
             · exact⟨q,g1,(hDf _ _).2 (.inl g2)⟩
             · exact⟨cls L a,g,(hDf _ _).2 (.inr (.inr ⟨rfl,rfl⟩))⟩
           · rintro⟨q,g1,g2⟩
             rcases(hDf _ _).1 g2 with g|⟨g3,g4⟩|⟨g3,g4⟩
             · exact .inl ⟨q,g1,g⟩
             · exact absurd g3 hab
             · exact .inr (by rw[g1,←g4])
         · rw[if_neg e1]at e
           by_cases e2:cls L a=k
           · rw[if_pos e2]at e
             rw[←Option.some.inj e]
             subst e2
             show o∈c.apart++[_]↔_
             rw[List.mem_append,hA.mem _ _ ec o,List.mem_singleton]
             constructor
             · rintro(⟨q,g1,g2⟩|g)
               · exact⟨q,g1,(hDf _ _).2 (.inl g2)⟩
               · exact⟨cls L b,g,(hDf _ _).2 (.inr (.inl ⟨rfl,rfl⟩))⟩
             · rintro⟨q,g1,g2⟩
               rcases(hDf _ _).1 g2 with g|⟨g3,g4⟩|⟨g3,g4⟩
               · exact .inl ⟨q,g1,g⟩
               · exact .inr (by rw[g1,←g4])
               · exact absurd g3 e1
           · rw[if_neg e2]at e
             rw[hA.mem k c' e o]
             constructor
             · rintro⟨q,g1,g2⟩;exact⟨q,g1,(hDf _ _).2 (.inl g2)⟩
             · rintro⟨q,g1,g2⟩
               rcases(hDf _ _).1 g2 with g|⟨g3,g4⟩|⟨g3,g4⟩
               · exact⟨q,g1,g⟩
               · exact absurd g3 e2
               · exact absurd g3 e1
       · have e:(List.set _ _ _)[k]?=some c':=e
         rw[hget]at e
         by_cases e1:cls L b=k
         · rw[if_pos e1]at e
           rw[←Option.some.inj e]
           show(d.apart++[_]).length≤_
           rw[List.length_append,List.length_singleton];omega
         · rw[if_neg e1]at e
           by_cases e2:cls L a=k
           · rw[if_pos e2]at e
             rw[←Option.some.inj e]
             show(c.apart++[_]).length≤_
             rw[List.length_append,List.length_singleton];omega
           · rw[if_neg e2]at e
             have:=hA.le k c' e;omega
 · have:j=p.Different.length:=by omega
   subst this
   exact Tm.neg (by omega) (Tm.some ⟨hG,hA⟩)
abbrev Gat(p:TProb)(L:List Int)(l:List TClass):Prop:=Gt p L p.Min.length p.Tests.length l
theorem tgathered_tm(hp:OkP p)(hm:Lms p):Tm (fun N=>tgathered N p) (fun r=>∃L,Lb p L∧Fx p L∧r.2.1=numOf L∧Gat p L r.1∧(r.2.2=true→Ap p L p.Different.length r.1)∧(r.2.2=false→∃e∈p.Different,cls L e.e0.toNat=cls L e.e1.toNat)):=by
 have hle:=hp.le
 unfold tgathered
 refine(tclasses_tm hp hm.d).bind fun r6 h6=>?_
 obtain⟨num,m⟩:=r6
 obtain⟨L,hL,hF,e1,e2⟩:=h6
 dsimp only at e1 e2
 subst e1;subst e2
 have hl:=hL.len
 have hmm:=rk_le' (L:=L)
 rw[mk1_ok (n:=rk L L.length) rfl (by omega) (by decide)]
 simp only[Option.bind_some]
 refine(tgathered_b1_tm (m:=rk L L.length) (by omega) rfl).bind fun l1 h1=>?_
 have hap1:∀(k:Nat) (c:TClass),l1[k]?=some c→c.apart=[]:=by
  intro k c e
  have hk:k<rk L L.length:=by rw[←h1.1];exact(List.getElem?_eq_some_iff.1 e).1
  rw[h1.2 k hk]at e
  rw[←Option.some.inj e]
 have hg1:Gt p L 0 0 l1:=⟨h1.1,fun k hk=>⟨_,h1.2 k hk,⟨by decide,by decide,fun v hv=>by omega,.inl rfl,fun v hv=>by omega,.inl rfl,rfl,rfl⟩⟩⟩
 refine(tgathered_b2_tm hp hL hF hg1 hap1).bind fun l2 h2=>?_
 refine(tgathered_b3_tm hp hL hF hm.c h2.1 h2.2).bind fun l3 h3=>?_
 refine(tgathered_b4_tm hp hL hF hm.e h3.1 h3.2).bind fun o ho=>?_
 cases o with
 |inl r=>exact Tm.some ⟨L,hL,hF,rfl,ho.1,fun _=>ho.2,fun g=>by simp at g⟩
 |inr z=>
  refine Tm.some ⟨L,hL,hF,ho.2.1,ho.1,fun g=>?_,fun _=>ho.2.2.2⟩
  rw[ho.2.2.1]at g;simp at g
end
open Go Go.X
def wds(c:TClass)(i:Nat):List (List UInt8):=(List.range i).flatMap fun j=>wordsOf c.tests (c.low.toNat+j)
def span(c:TClass):Nat:=(c.high+1-c.low).toNat
def allw(c:TClass):List (List UInt8):=wds c (span c)
theorem wds_succ{c:TClass}{i:Nat}:wds c (i+1)=wds c i++wordsOf c.tests (c.low.toNat+i):=by
 unfold wds
 rw[List.range_succ,List.flatMap_append]
 simp
theorem wds_le{c:TClass}{i k:Nat}(h:i≤k):∃r,wds c k=wds c i++r:=by
 induction h with
 |refl=>exact⟨[],by simp⟩
 |step _ ih=>
  obtain⟨r,e⟩:=ih
  exact⟨r++wordsOf c.tests (c.low.toNat+_),by rw[wds_succ,e,List.append_assoc]⟩
structure Cok (c:TClass):Prop where
 lo:0≤c.low∧c.low≤16
 hi:0≤c.high∧c.high≤16
 ts:∀t∈c.tests,okT t=true
 tl:c.tests.length≤1000
theorem cloneTest_tm{s:List TTest}(h:s.length≤1000):Tm (fun N=>cloneTest N s) (·=s):=by
 unfold cloneTest
 rw[apnd_ok (by simp;omega) (by decide)]
 exact Tm.some rfl
theorem tfirst_b2_tm{c:TClass}(hc:Cok c){m k:Nat}(hm:m≤99)(hk:k≤20){out:List (List UInt8)}(ho:out.length<m):
 Tm (fun N=>loopM (tfirst_b2 N c (m:Int) ((c.low.toNat+k:Nat):Int)) N (out,c.tests)) (·=out++(wordsOf c.tests (c.low.toNat+k)).take (m-out.length)):=by
 have hlo:=hc.lo
 refine Tm.up 0 (fun j s=>s=(out,c.tests)) rfl ?_
 rintro j hj s rfl
 unfold tfirst_b2
 dsimp only
 have e1:iw ((m:Int)-(out.length:Int))=((m-out.length:Nat):Int):=by rw[iw_eq]<;>omega
 have e2:imin 100 ((m-out.length:Nat):Int)=((m-out.length:Nat):Int):=by unfold imin;rw[if_pos (by omega)]
 rw[e1,e2]
 refine Tm.pos (by omega) ((pWords_tm hc.ts hc.tl (by omega) (by omega)).eq ?_)
 have hl:((wordsOf c.tests (c.low.toNat+k)).take (m-out.length)).length≤99:=by rw[List.length_take];omega
 rw[apnd_ok (by omega) (by decide)]
 simp only[Option.bind_some]
 exact Tm.pos (by omega) (Tm.some rfl)
theorem tfirst_tm{c:TClass}(hc:Cok c){m:Nat}(hm:0<m∧m≤99):Tm (fun N=>tfirst N c (m:Int)) (·=(allw c).take m):=by
 have hlo:=hc.lo
 have hhi:=hc.hi
 unfold tfirst
 refine Tm.bind (Q:=fun r=>r=(allw c).take m) ?_ fun r hr=>Tm.some hr
 have hsp:span c≤17:=by unfold span;omega
 refine Tm.up (span c) (fun k s=>s.2=((c.low.toNat+k:Nat):Int)∧s.1=(wds c k).take m) ⟨by dsimp only;omega,by simp[wds]⟩ ?_
 rintro k hk ⟨s,n⟩ ⟨hn,hs⟩
 dsimp only at hn hs;subst hn
 unfold tfirst_b1
 dsimp only
 have hsl:s.length≤m:=by rw[hs,List.length_take];omega
 rcases Nat.lt_or_ge k (span c)with hlt|hge
 · have hle:((c.low.toNat+k:Nat):Int)≤c.high:=by unfold span at hlt;omega
   rw[if_pos hle]
   simp only[Option.bind_some]
   rcases Nat.lt_or_ge s.length m with h1|h1
   · refine Tm.pos (decide_eq_true (by omega)) ((cloneTest_tm hc.tl).eq ((tfirst_b2_tm hc hm.2 (by omega) h1).eq (Tm.some ⟨hlt,by dsimp only;rw[iw_eq]<;>omega,?_⟩)))
     dsimp only
     have h2:(wds c k).length<m:=by rw[hs,List.length_take]at h1;omega
     have h3:s=wds c k:=by rw[hs,List.take_of_length_le (by omega)]
     rw[wds_succ,List.take_append,List.take_of_length_le (i:=m) (l:=wds c k) (by omega),h3]
   · refine Tm.neg (by rw[decide_eq_false (by omega)];simp) (Tm.some ?_)
     show s=_
     obtain⟨r,e⟩:=wds_le (c:=c) hk
     unfold allw
     have h2:m≤(wds c k).length:=by rw[hs,List.length_take]at h1;omega
     rw[e,List.take_append_of_le_length h2,hs]
 · have hgt:¬((c.low.toNat+k:Nat):Int)≤c.high:=by unfold span at hge;omega
   rw[if_neg hgt]
   simp only[Option.bind_some]
   refine Tm.neg (by simp) (Tm.some ?_)
   have:k=span c:=by omega
   subst this
   exact hs
theorem mem_allw{c:TClass}(hc:Cok c){s:List UInt8}:s∈allw c↔c.low≤(s.length:Int)∧(s.length:Int)≤c.high∧s.all prn=true∧c.tests.all (fun t=>pas t s)=true:=by
 have hlo:=hc.lo
 have hhi:=hc.hi
 unfold allw wds
 rw[List.mem_flatMap]
 constructor
 · rintro⟨j,hj,h⟩
   rw[List.mem_range]at hj
   obtain⟨h1,h2,h3⟩:=mem_wordsOf.1 h
   unfold span at hj
   exact⟨by omega,by omega,h2,h3⟩
 · rintro⟨h1,h2,h3,h4⟩
   refine⟨s.length-c.low.toNat,List.mem_range.2 (by unfold span;omega),mem_wordsOf.2 ⟨by omega,h3,h4⟩⟩
theorem allw_nodup{c:TClass}:(allw c).Nodup:=by
 unfold allw wds
 refine nodup_flatMap List.nodup_range (fun a _=>wordsOf_nodup) fun a b _ _ hab x hx hx'=>?_
 have h1:=(mem_wordsOf.1 hx).1
 have h2:=(mem_wordsOf.1 hx').1
 omega
section
variable {p:TProb} {L:List Int}
theorem ClR.cok(hp:OkP p)(hm:Lms p){i k:Nat}{c:TClass}(h:ClR p L i p.Tests.length k c):Cok c:=by
 refine⟨h.lo0,h.hi0,fun t ht=>?_,?_⟩
 · rw[h.ts,List.take_length]at ht
   exact(hp.ts t (List.mem_filter.1 ht).1).1
 · rw[h.ts,List.take_length]
   have:=List.length_filter_le (fun t=>decide (cls L t.Var.toNat=k)) p.Tests
   have:=hm.c
   omega
end
open Go Go.X
structure Adj (l:List TClass):Prop where
 lt:∀(k:Nat) (c:TClass),l[k]?=some c→∀o∈c.apart,∃q:Nat,o=(q:Int)∧q<l.length∧q≠k
 symm:∀(k:Nat) c (q:Nat) d,l[k]?=some c→l[q]?=some d→(q:Int)∈c.apart→(k:Int)∈d.apart
def nI(ns:List Nat):List Int:=ns.map fun(n:Nat)=>(n:Int)
def Ext(l:List TClass)(ns:List Nat)(words:List (List UInt8))(known:List Bool)(g:Nat→List UInt8):Prop:=
 ∀k∈ns,∃c,l[k]?=some c∧g k∈c.words∧∀q:Nat,(q:Int)∈c.apart→(q∈ns→g k≠g q)∧(known[q]?=some true→words[q]?≠some (g k))
structure Chosen (l:List TClass)(ns:List Nat)(words:List (List UInt8))(known:List Bool)(r:Bool×Bool×List (List UInt8)×List Bool):Prop where
 len:r.2.2.1.length=l.length
 out:∀o,o∉ns→r.2.2.1[o]?=words[o]?
 yes:r.2.1=true→r.1=true∧∀k∈ns,∃c w,l[k]?=some c∧r.2.2.1[k]?=some w∧w∈c.words∧∀q:Nat,(q:Int)∈c.apart→(q∈ns∨known[q]?=some true)→r.2.2.1[q]?≠some w
 no:r.2.1=false→r.2.2.2=known∧∀g,¬Ext l ns words known g
theorem tchoose1_tm{q:Nat}{ca:List Bool}{cb:List (List UInt8)}{cc:List UInt8}(h:q<ca.length)(h':q<cb.length):Tm (fun N=>tchoose1 N (q:Int) ca cb cc) (·=(ca.getD q false&&decide (cb.getD q []=cc))):=by
 unfold tchoose1
 refine Tm.step (idx_n h) ?_
 rw[getD_n h,getD_n h']
 cases ca[q]with
 |true=>exact Tm.pos rfl (Tm.step (idx_n h') (Tm.some (by simp)))
 |false=>exact Tm.neg (by simp) (Tm.some (by simp))
section
variable {l:List TClass}
theorem tchoose_tm(hA:Adj l)(hl:l.length≤1000)(hw:∀c∈l,c.words.length≤1000∧c.apart.length≤1000):∀(ns:List Nat) (words:List (List UInt8)) (known:List Bool),ns.Nodup→(∀k∈ns,k<l.length∧known[k]?=some false)→words.length=l.length→known.length=l.length→ns.length≤1000→
 Tm (fun N=>tchoose N l (nI ns) words known) (Chosen l ns words known):=by
 have hb:Bg=9223372036854775807:=rfl
 intro ns
 induction ns with
 |nil=>
  intro words known _ _ hwl hkl _
  refine Tm.succ (f:=fun N=>tchoose N l (nI []) words known) ?_
  show Tm (fun N=>tchoose_step N (tchoose N) l (nI []) words known) _
  unfold tchoose_step
  exact Tm.pos rfl (Tm.some ⟨hwl,fun _ _=>rfl,fun _=>⟨rfl,fun k hk=>by cases hk⟩,fun h=>by simp at h⟩)
 |cons k rest ih=>
  intro words known hnd hns hwl hkl hlen
  obtain⟨hkl0,hkf⟩:=hns k List.mem_cons_self
  obtain⟨hkr,hrn⟩:=List.nodup_cons.1 hnd
  have hlen':rest.length+1≤1000:=by simpa using hlen
  obtain⟨c,ec⟩:∃c,l[k]?=some c:=⟨_,List.getElem?_eq_getElem hkl0⟩
  obtain⟨hcw,hca⟩:=hw c (List.mem_of_getElem? ec)
  refine Tm.succ (f:=fun N=>tchoose N l (nI (k::rest)) words known) ?_
  show Tm (fun N=>tchoose_step N (tchoose N) l (nI (k::rest)) words known) _
  unfold tchoose_step
  have e0:idx (nI (k::rest)) 0=some (k:Int):=by simp[idx,nI]
  have eln:(List.length (nI (k::rest)):Int)=((rest.length+1:Nat):Int):=by simp[nI]
  rw[eln]
  refine Tm.neg (by omega) (Tm.step e0 (Tm.step (idx_n (by omega)) ?_))
  rw[upd1_i (n:=k) rfl (by omega)]
  simp only[Option.bind_some]
  refine Tm.step (idx_get ec) ?_
  have hk1:∀q,(known.set k true)[q]?=if k=q then some true else known[q]?:=fun q=>set_get (by omega)
  refine Tm.bind (Q:=fun o=>match o with|.inl s=>s.2=known.set k true∧s.1.length=l.length∧(∀o,o∉k::rest→s.1[o]?=words[o]?)∧∀g,¬Ext l (k::rest) words known g|.inr z=>Chosen l (k::rest) words known z) ?_ fun o ho=>?_
  · refine Tm.up c.words.length (fun i s=>s.2.2=(i:Int)∧s.2.1=known.set k true∧s.1.length=l.length∧(∀o,o∉k::rest→s.1[o]?=words[o]?)∧∀g,Ext l (k::rest) words known g→∀j,j<i→c.words[j]?≠some (g k)) ⟨rfl,rfl,hwl,fun _ _=>rfl,fun g _ j hj=>by omega⟩ ?_
    rintro i hi ⟨s,kn,ii⟩ ⟨h1,h2,h3,h4,h5⟩
    dsimp only at h1 h2 h3 h4 h5;subst h1;subst h2
    unfold tchoose_b1
    dsimp only
    rcases Nat.lt_or_ge i c.words.length with hlt|hge
    · refine Tm.pos (by omega) (Tm.step (idx_n hlt) (Tm.step (idx_get ec) ?_))
      obtain⟨w,hwe⟩:∃w,w=c.words[i]:=⟨_,rfl⟩
      rw[←hwe]
      have ewi:c.words[i]?=some w:=by rw[List.getElem?_eq_getElem hlt,hwe]
      have hct:Tm (fun N=>containsInt N c.apart (fun y=>tchoose1 N y (known.set k true) s w)) (·=c.apart.any fun o=>(known.set k true).getD o.toNat false&&decide (s.getD o.toNat []=w)):=by
       refine containsInt_tm (f:=fun N y=>tchoose1 N y (known.set k true) s w) (by omega) fun o ho=>?_
       obtain⟨q,rfl,hq,_⟩:=hA.lt _ _ ec o ho
       exact tchoose1_tm (by rw[List.length_set];omega) (by omega)
      refine hct.eq ?_
      cases hany:c.apart.any fun o=>(known.set k true).getD o.toNat false&&decide (s.getD o.toNat []=w)with
      |true=>
       refine Tm.pos rfl (Tm.some ⟨hlt,iw_n (by omega),rfl,h3,h4,fun g hg j hj=>?_⟩)
       by_cases ej:j=i
       · subst ej
         rw[ewi]
         intro e
         have e:=Option.some.inj e
         obtain⟨o,ho,h6⟩:=List.any_eq_true.1 hany
         obtain⟨q,rfl,hq,hqk⟩:=hA.lt _ _ ec o ho
         rw[Bool.and_eq_true,Int.toNat_natCast]at h6
         obtain⟨h6,h7⟩:=h6
         have h7:=of_decide_eq_true h7
         have h8:known[q]?=some true:=by
          have:(known.set k true)[q]?=some true:=by
           rw[List.getD_eq_getElem?_getD]at h6
           rw[List.getElem?_eq_getElem (by rw[List.length_set];omega)]at h6⊢
           simpa using h6
          rw[hk1,if_neg (by omega)]at this
          exact this
         have h9:q∉k::rest:=fun hm=>by
          have:=(hns q hm).2
          rw[h8]at this;simp at this
         have h10:words[q]?=some w:=by
          rw[←h4 q h9]
          rw[getD_n (by omega)]at h7
          rw[List.getElem?_eq_getElem (by omega),h7]
         obtain⟨c',ec',_,h11⟩:=hg k List.mem_cons_self
         rw[ec]at ec'
         have:c=c':=Option.some.inj ec'
         subst this
         exact(h11 q ho).2 h8 (by rw[h10,e])
       · exact h5 g hg j (by omega)
      |false=>
       refine Tm.neg (by simp) (Tm.step (idx_n (by omega)) ?_)
       rw[upd1_i (n:=k) rfl (by omega)]
       simp only[Option.bind_some]
       have ecut:cut (nI (k::rest)) 1 ((rest.length+1:Nat):Int)=some (nI rest):=by
        refine(cut_i (xs:=nI (k::rest)) (i:=1) (m:=1) (n:=rest.length+1) rfl rfl (by omega) (by simp[nI])).trans ?_
        simp[nI]
        exact List.take_of_length_le (by simp)
       rw[eln,ecut]
       simp only[Option.bind_some]
       have hself:=ih (s.set k w) (known.set k true) hrn (fun q hq=>⟨(hns q (List.mem_cons_of_mem _ hq)).1,by
        rw[hk1,if_neg (fun e=>hkr (by rw[e];exact hq))];exact(hns q (List.mem_cons_of_mem _ hq)).2⟩) (by rw[List.length_set];omega) (by rw[List.length_set];omega) (by omega)
       refine hself.bind fun r hr=>?_
       have hsk:∀q,(s.set k w)[q]?=if k=q then some w else s[q]?:=fun q=>set_get (by omega)
       obtain⟨al,okk,rw',rk'⟩:=r
       cases okk with
       |true=>
        obtain⟨y1,y2⟩:=hr.yes rfl
        have y3:=hr.out
        have y4:=hr.len
        dsimp only at y1 y2 y3 y4
        subst y1
        refine Tm.pos rfl (Tm.some ?_)
        have hkw:rw'[k]?=some w:=by rw[y3 k hkr,hsk,if_pos rfl]
        have hout:∀o,o∉k::rest→rw'[o]?=words[o]?:=by
         intro o ho
         rw[y3 o (fun h=>ho (List.mem_cons_of_mem _ h)),hsk,if_neg (fun e=>ho (by rw[e];exact List.mem_cons_self))]
         exact h4 o ho
        refine⟨y4,hout,fun _=>⟨rfl,fun x hx=>?_⟩,fun h=>by simp at h⟩
        rcases List.mem_cons.1 hx with rfl|hx
        · refine⟨c,w,ec,hkw,by rw[hwe];exact List.getElem_mem _,fun q hq hor=>?_⟩
          obtain⟨q',eq',hql,hqk⟩:=hA.lt _ _ ec _ hq
          have:q=q':=by omega
          subst this
          show rw'[q]?≠some w
          rcases hor with hin|hkn
          · rcases List.mem_cons.1 hin with e|hin
            · exact absurd e hqk
            · obtain⟨c',w',ec',ew',_,h12⟩:=y2 q hin
              have h13:=h12 x (hA.symm _ _ _ _ ec ec' hq) (.inr (by rw[hk1,if_pos rfl]))
              rw[ew']
              intro e
              rw[←e]at hkw
              exact h13 hkw
          · have h9:q∉x::rest:=fun hm=>by
             have:=(hns q hm).2
             rw[hkn]at this;simp at this
            rw[hout q h9,←h4 q h9]
            intro e
            have hq1:(known.set x true).getD q false=true:=by
             rw[List.getD_eq_getElem?_getD,hk1,if_neg (by omega),hkn];rfl
            have:=List.any_eq_false.1 hany _ hq
            rw[Int.toNat_natCast,hq1,List.getD_eq_getElem?_getD,e]at this
            simp at this
        · obtain⟨c',w',ec',ew',hm',h12⟩:=y2 x hx
          refine⟨c',w',ec',ew',hm',fun q hq hor=>h12 q hq ?_⟩
          rcases hor with hin|hkn
          · rcases List.mem_cons.1 hin with rfl|hin
            · exact .inr (by rw[hk1,if_pos rfl])
            · exact .inl hin
          · refine .inr ?_
            rw[hk1]
            by_cases e:k=q
            · rw[if_pos e]
            · rw[if_neg e];exact hkn
       |false=>
        obtain⟨n1,n2⟩:=hr.no rfl
        have y3:=hr.out
        have y4:=hr.len
        dsimp only at n1 n2 y3 y4
        subst n1
        refine Tm.neg (by simp) (Tm.some ⟨hlt,iw_n (by omega),rfl,y4,fun o ho=>?_,fun g hg j hj=>?_⟩)
        · show rw'[o]?=_
          rw[y3 o (fun h=>ho (List.mem_cons_of_mem _ h)),hsk,if_neg (fun e=>ho (by rw[e];exact List.mem_cons_self))]
          exact h4 o ho
        · by_cases ej:j=i
          · subst ej
            rw[ewi]
            intro e
            have e:=Option.some.inj e
            refine n2 g fun x hx=>?_
            obtain⟨c',ec',hm',h12⟩:=hg x (List.mem_cons_of_mem _ hx)
            refine⟨c',ec',hm',fun q hq=>⟨fun hin=>(h12 q hq).1 (List.mem_cons_of_mem _ hin),fun hkn=>?_⟩⟩
            rw[hk1]at hkn
            rw[hsk]
            by_cases ekq:k=q
            · subst ekq
              rw[if_pos rfl]
              intro e'
              exact(h12 k hq).1 List.mem_cons_self (by rw[←e];exact(Option.some.inj e').symm)
            · rw[if_neg ekq]at hkn⊢
              have h9:q∉k::rest:=fun hm=>by
               have:=(hns q hm).2
               rw[hkn]at this;simp at this
              rw[h4 q h9]
              exact(h12 q hq).2 hkn
          · exact h5 g hg j (by omega)
    · have:i=c.words.length:=by omega
      subst this
      refine Tm.neg (by omega) (Tm.some ⟨rfl,h3,h4,fun g hg=>?_⟩)
      obtain⟨c',ec',hm',_⟩:=hg k List.mem_cons_self
      rw[ec]at ec'
      have:c=c':=Option.some.inj ec'
      subst this
      obtain⟨j,hj,e⟩:=List.getElem_of_mem hm'
      exact h5 g hg j hj (by rw[List.getElem?_eq_getElem hj,e])
  · cases o with
    |inl s=>
     obtain⟨s,kn⟩:=s
     obtain⟨g1,g2,g3,g4⟩:=ho
     dsimp only at g1 g2 g3 g4⊢
     subst g1
     refine Tm.step (idx_n (by rw[List.length_set];omega)) ?_
     rw[upd1_i (n:=k) rfl (by rw[List.length_set];omega)]
     refine Tm.some ⟨g2,g3,fun h=>by simp at h,fun _=>⟨?_,g4⟩⟩
     show(known.set k true).set k false=known
     apply List.ext_getElem?
     intro q
     rw[List.set_set,set_get (by omega)]
     by_cases e:k=q
     · subst e;rw[if_pos rfl,hkf]
     · rw[if_neg e]
    |inr z=>exact Tm.some ho
end
end Go.D

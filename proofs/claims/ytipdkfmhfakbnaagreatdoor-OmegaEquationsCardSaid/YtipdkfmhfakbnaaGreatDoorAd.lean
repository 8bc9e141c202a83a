/- Plain theorems and definitions of this seat, several texts in one. -/
import Derived.Lib.Repeat
import Derived.Lib.Join
import Derived.Lib.Strings
import Derived.Lib.ItoaNum
import Derived.Test.YtipdkfmhfakbnaaGreatDoorProg
import Derived.Test.YtipdkfmhfakbnaaGreatDoorAc
import Derived.Lib.AppendIntMem
set_option linter.unusedVariables false
set_option linter.unusedSimpArgs false
set_option linter.unusedSectionVars false
namespace Go.D
open Go Go.X
structure aC where
 bR:Bool
 aR:(List Int)
 deriving DecidableEq
def aE:cx aC:=⟨2,λH vs x=>∃v0,vs=[Value.bool x.bR,v0]/\Rs bM H v0 x.aR/\True,
 λH H' vs x hle h=>by obtain⟨v0,h0,k0,-⟩:=h;exact⟨v0,h0,k0.mono hle,trivial⟩,
 λH vs x h=>by obtain⟨v0,h0,k0,-⟩:=h;rw[h0];rfl,
 λH vs x h=>by obtain⟨v0,h0,k0,-⟩:=h;rw[h0];exact(eI rfl (eI k0.one mv))⟩
theorem VH{H:Hp}{vs:List Value}{x:aC}(h:aE.R H vs x):∃v0,vs=[Value.bool x.bR,v0]/\Rs bM H v0 x.aR/\True:=h
theorem SH{H:Hp}{vs:List Value}{x:aC}(h:∃v0,vs=[Value.bool x.bR,v0]/\Rs bM H v0 x.aR/\True):aE.R H vs x:=h
structure jt where
 Var:Int
 N:Int
 deriving DecidableEq
def jo:cx jt:=⟨2,λH vs x=>vs=[Value.int .i64 x.Var,Value.int .i64 x.N]/\True,
 λH H' vs x hle h=>by obtain⟨h0,-⟩:=h;exact⟨h0,trivial⟩,
 λH vs x h=>by obtain⟨h0,-⟩:=h;rw[h0];rfl,
 λH vs x h=>by obtain⟨h0,-⟩:=h;rw[h0];exact(eI rfl (eI rfl mv))⟩
theorem VG{H:Hp}{vs:List Value}{x:jt}(h:jo.R H vs x):vs=[Value.int .i64 x.Var,Value.int .i64 x.N]/\True:=h
theorem Uy{H:Hp}{vs:List Value}{x:jt}(h:vs=[Value.int .i64 x.Var,Value.int .i64 x.N]/\True):jo.R H vs x:=h
structure Linear where
 Const:Int
 bG:(List jt)
 deriving DecidableEq
def oX:cx Linear:=⟨2,λH vs x=>∃v0,vs=[Value.int .i64 x.Const,v0]/\Rs jo H v0 x.bG/\True,
 λH H' vs x hle h=>by obtain⟨v0,h0,k0,-⟩:=h;exact⟨v0,h0,k0.mono hle,trivial⟩,
 λH vs x h=>by obtain⟨v0,h0,k0,-⟩:=h;rw[h0];rfl,
 λH vs x h=>by obtain⟨v0,h0,k0,-⟩:=h;rw[h0];exact(eI rfl (eI k0.one mv))⟩
theorem Sh{H:Hp}{vs:List Value}{x:Linear}(h:oX.R H vs x):∃v0,vs=[Value.int .i64 x.Const,v0]/\Rs jo H v0 x.bG/\True:=h
theorem RP{H:Hp}{vs:List Value}{x:Linear}(h:∃v0,vs=[Value.int .i64 x.Const,v0]/\Rs jo H v0 x.bG/\True):oX.R H vs x:=h
structure Constraint where
 Linear:Linear
 eP:Bool
 deriving DecidableEq
def cK:cx Constraint:=⟨3,λH vs x=>∃v0,vs=[Value.int .i64 x.Linear.Const,v0,Value.bool x.eP]/\Rs jo H v0 x.Linear.bG/\True,
 λH H' vs x hle h=>by obtain⟨v0,h0,k0,-⟩:=h;exact⟨v0,h0,k0.mono hle,trivial⟩,
 λH vs x h=>by obtain⟨v0,h0,k0,-⟩:=h;rw[h0];rfl,
 λH vs x h=>by obtain⟨v0,h0,k0,-⟩:=h;rw[h0];exact(eI rfl (eI k0.one (eI rfl mv)))⟩
theorem Rx{H:Hp}{vs:List Value}{x:Constraint}(h:cK.R H vs x):∃v0,vs=[Value.int .i64 x.Linear.Const,v0,Value.bool x.eP]/\Rs jo H v0 x.Linear.bG/\True:=h
theorem RT{H:Hp}{vs:List Value}{x:Constraint}(h:∃v0,vs=[Value.int .i64 x.Linear.Const,v0,Value.bool x.eP]/\Rs jo H v0 x.Linear.bG/\True):cK.R H vs x:=h
structure bI where
 bG:(List aC)
 dS:aC
 deriving DecidableEq
abbrev bN:=kL aE
def aT:cx bI:=⟨3,λH vs x=>∃v0 v1,vs=[v0,Value.bool x.dS.bR,v1]/\Rs aE H v0 x.bG/\Rs bM H v1 x.dS.aR/\True,
 λH H' vs x hle h=>by obtain⟨v0,v1,h0,k0,k1,-⟩:=h;exact⟨v0,v1,h0,k0.mono hle,k1.mono hle,trivial⟩,
 λH vs x h=>by obtain⟨v0,v1,h0,k0,k1,-⟩:=h;rw[h0];rfl,
 λH vs x h=>by obtain⟨v0,v1,h0,k0,k1,-⟩:=h;rw[h0];exact(eI k0.one (eI rfl (eI k1.one mv)))⟩
theorem Sf{H:Hp}{vs:List Value}{x:bI}(h:aT.R H vs x):∃v0 v1,vs=[v0,Value.bool x.dS.bR,v1]/\Rs aE H v0 x.bG/\Rs bM H v1 x.dS.aR/\True:=h
theorem Xo{H:Hp}{vs:List Value}{x:bI}(h:∃v0 v1,vs=[v0,Value.bool x.dS.bR,v1]/\Rs aE H v0 x.bG/\Rs bM H v1 x.dS.aR/\True):aT.R H vs x:=h
structure eF where
 Index:Int
 N:aC
 deriving DecidableEq
def eT:cx eF:=⟨3,λH vs x=>∃v0,vs=[Value.int .i64 x.Index,Value.bool x.N.bR,v0]/\Rs bM H v0 x.N.aR/\True,
 λH H' vs x hle h=>by obtain⟨v0,h0,k0,-⟩:=h;exact⟨v0,h0,k0.mono hle,trivial⟩,
 λH vs x h=>by obtain⟨v0,h0,k0,-⟩:=h;rw[h0];rfl,
 λH vs x h=>by obtain⟨v0,h0,k0,-⟩:=h;rw[h0];exact(eI rfl (eI rfl (eI k0.one mv)))⟩
theorem TG{H:Hp}{vs:List Value}{x:eF}(h:eT.R H vs x):∃v0,vs=[Value.int .i64 x.Index,Value.bool x.N.bR,v0]/\Rs bM H v0 x.N.aR/\True:=h
theorem QE{H:Hp}{vs:List Value}{x:eF}(h:∃v0,vs=[Value.int .i64 x.Index,Value.bool x.N.bR,v0]/\Rs bM H v0 x.N.aR/\True):eT.R H vs x:=h
structure Step where
 Uses:(List eF)
 gT:aC
 deriving DecidableEq
def bF:cx Step:=⟨3,λH vs x=>∃v0 v1,vs=[v0,Value.bool x.gT.bR,v1]/\Rs eT H v0 x.Uses/\Rs bM H v1 x.gT.aR/\True,
 λH H' vs x hle h=>by obtain⟨v0,v1,h0,k0,k1,-⟩:=h;exact⟨v0,v1,h0,k0.mono hle,k1.mono hle,trivial⟩,
 λH vs x h=>by obtain⟨v0,v1,h0,k0,k1,-⟩:=h;rw[h0];rfl,
 λH vs x h=>by obtain⟨v0,v1,h0,k0,k1,-⟩:=h;rw[h0];exact(eI k0.one (eI rfl (eI k1.one mv)))⟩
theorem SK{H:Hp}{vs:List Value}{x:Step}(h:bF.R H vs x):∃v0 v1,vs=[v0,Value.bool x.gT.bR,v1]/\Rs eT H v0 x.Uses/\Rs bM H v1 x.gT.aR/\True:=h
theorem T8{H:Hp}{vs:List Value}{x:Step}(h:∃v0 v1,vs=[v0,Value.bool x.gT.bR,v1]/\Rs eT H v0 x.Uses/\Rs bM H v1 x.gT.aR/\True):bF.R H vs x:=h
structure Proof where
 Steps:(List Step)
 Form:(List aC)
 dS:aC
 nA:(List Proof)
def si:Nat->Hp->List Value->Proof->Prop
 |0,_,_,_=>False
 |n+1,H,vs,x=>∃v0 v1 v2 v3,vs=[v0,v1,Value.bool x.dS.bR,v2,v3]/\Rs bF H v0 x.Steps/\Rs aE H v1 x.Form/\Rs bM H v2 x.dS.aR/\Sl 5 (si n) H v3 x.nA/\True
theorem MY:∀(n:Nat) {H H':Hp} {vs:List Value} {x:Proof},Le H H'->si n H vs x->si n H' vs x
 |0,_,_,_,_,_,h=>h.elim
 |n+1,_,_,_,_,hle,h=>by obtain⟨v0,v1,v2,v3,h0,k0,k1,k2,k3,-⟩:=h;exact⟨v0,v1,v2,v3,h0,k0.mono hle,k1.mono hle,k2.mono hle,Sl.mono (R:=si n) (λ_ _ _ _ a b=>MY n a b) hle k3,trivial⟩
theorem KU:∀{n m:Nat} {H:Hp} {vs:List Value} {x:Proof},n<=m->si n H vs x->si m H vs x
 |0,_,_,_,_,_,h=>h.elim
 |n+1,0,_,_,_,hm,_=>by omega
 |n+1,m+1,_,_,_,hm,h=>by have hm:n<=m:=(by omega);obtain⟨v0,v1,v2,v3,h0,k0,k1,k2,k3,-⟩:=h;exact⟨v0,v1,v2,v3,h0,k0,k1,k2,Ky (λ_ _=>KU hm) k3,trivial⟩
def jR:cx Proof:=⟨5,λH vs x=>∃n,si n H vs x,λ_ _ _ _ hle ⟨n,h⟩=>⟨n,MY n hle h⟩,
 λH vs x h=>by obtain⟨n,h⟩:=h;cases n with|zero=>exact h.elim|succ n=>obtain⟨v0,v1,v2,v3,h0,k0,k1,k2,k3,-⟩:=h;rw[h0];rfl,
 λH vs x h=>by obtain⟨n,h⟩:=h;cases n with|zero=>exact h.elim|succ n=>obtain⟨v0,v1,v2,v3,h0,k0,k1,k2,k3,-⟩:=h;rw[h0];exact(eI k0.one (eI k1.one (eI rfl (eI k2.one (eI (Sl.one k3) mv)))))⟩
theorem Ru{H:Hp}{vs:List Value}{x:Proof}(h:jR.R H vs x):∃v0 v1 v2 v3,vs=[v0,v1,Value.bool x.dS.bR,v2,v3]/\Rs bF H v0 x.Steps/\Rs aE H v1 x.Form/\Rs bM H v2 x.dS.aR/\Rs jR H v3 x.nA/\True:=by
 obtain⟨n,h⟩:=h;cases n with|zero=>exact h.elim|succ n=>obtain⟨v0,v1,v2,v3,h0,k0,k1,k2,k3,-⟩:=h;exact⟨v0,v1,v2,v3,h0,k0,k1,k2,Ky (λ_ _ h=>⟨n,h⟩) k3,trivial⟩
theorem W6{H:Hp}{vs:List Value}{x:Proof}(h:∃v0 v1 v2 v3,vs=[v0,v1,Value.bool x.dS.bR,v2,v3]/\Rs bF H v0 x.Steps/\Rs aE H v1 x.Form/\Rs bM H v2 x.dS.aR/\Rs jR H v3 x.nA/\True):jR.R H vs x:=by
 obtain⟨v0,v1,v2,v3,h0,k0,k1,k2,k3,-⟩:=h;obtain⟨n,hn⟩:=V8 (Rn:=si) (λ_ _ _ _ hm h=>KU hm h) k3;exact⟨n+1,v0,v1,v2,v3,h0,k0,k1,k2,hn,trivial⟩
structure bD where
 pos:Int
 g:(List aC)
 deriving DecidableEq
def aP:cx bD:=⟨2,λH vs x=>∃v0,vs=[Value.int .i64 x.pos,v0]/\Rs aE H v0 x.g/\True,
 λH H' vs x hle h=>by obtain⟨v0,h0,k0,-⟩:=h;exact⟨v0,h0,k0.mono hle,trivial⟩,
 λH vs x h=>by obtain⟨v0,h0,k0,-⟩:=h;rw[h0];rfl,
 λH vs x h=>by obtain⟨v0,h0,k0,-⟩:=h;rw[h0];exact(eI rfl (eI k0.one mv))⟩
theorem RU{H:Hp}{vs:List Value}{x:bD}(h:aP.R H vs x):∃v0,vs=[Value.int .i64 x.pos,v0]/\Rs aE H v0 x.g/\True:=h
theorem R9{H:Hp}{vs:List Value}{x:bD}(h:∃v0,vs=[Value.int .i64 x.pos,v0]/\Rs aE H v0 x.g/\True):aP.R H vs x:=h
structure dW where
 v:Int
 aB:(List Int)
 dT:Bool
 deriving DecidableEq
def bH:cx dW:=⟨3,λH vs x=>∃v0,vs=[Value.int .i64 x.v,v0,Value.bool x.dT]/\Rs aY H v0 x.aB/\True,
 λH H' vs x hle h=>by obtain⟨v0,h0,k0,-⟩:=h;exact⟨v0,h0,k0.mono hle,trivial⟩,
 λH vs x h=>by obtain⟨v0,h0,k0,-⟩:=h;rw[h0];rfl,
 λH vs x h=>by obtain⟨v0,h0,k0,-⟩:=h;rw[h0];exact(eI rfl (eI k0.one (eI rfl mv)))⟩
theorem Wc{H:Hp}{vs:List Value}{x:dW}(h:bH.R H vs x):∃v0,vs=[Value.int .i64 x.v,v0,Value.bool x.dT]/\Rs aY H v0 x.aB/\True:=h
theorem S7{H:Hp}{vs:List Value}{x:dW}(h:∃v0,vs=[Value.int .i64 x.v,v0,Value.bool x.dT]/\Rs aY H v0 x.aB/\True):bH.R H vs x:=h
structure aS where
 n:Int
 aA:(List bI)
 aV:(List Step)
 u:(List (List aC))
 aM:(List Int)
 value:(List aC)
 aB:(List bD)
 aK:(List dW)
 deriving DecidableEq
structure cD where
 kind:Int
 x:(List aC)
 proof:Proof
 v:Int
def gk:cx cD:=⟨8,λH vs x=>∃v0 v1 v2 v3 v4,vs=[Value.int .i64 x.kind,v0,v1,v2,Value.bool x.proof.dS.bR,v3,v4,Value.int .i64 x.v]/\Rs aE H v0 x.x/\Rs bF H v1 x.proof.Steps/\Rs aE H v2 x.proof.Form/\Rs bM H v3 x.proof.dS.aR/\Rs jR H v4 x.proof.nA/\True,
 λH H' vs x hle h=>by obtain⟨v0,v1,v2,v3,v4,h0,k0,k1,k2,k3,k4,-⟩:=h;exact⟨v0,v1,v2,v3,v4,h0,k0.mono hle,k1.mono hle,k2.mono hle,k3.mono hle,k4.mono hle,trivial⟩,
 λH vs x h=>by obtain⟨v0,v1,v2,v3,v4,h0,k0,k1,k2,k3,k4,-⟩:=h;rw[h0];rfl,
 λH vs x h=>by obtain⟨v0,v1,v2,v3,v4,h0,k0,k1,k2,k3,k4,-⟩:=h;rw[h0];exact(eI rfl (eI k0.one (eI k1.one (eI k2.one (eI rfl (eI k3.one (eI k4.one (eI rfl mv))))))))⟩
theorem Tz{H:Hp}{vs:List Value}{x:cD}(h:gk.R H vs x):∃v0 v1 v2 v3 v4,vs=[Value.int .i64 x.kind,v0,v1,v2,Value.bool x.proof.dS.bR,v3,v4,Value.int .i64 x.v]/\Rs aE H v0 x.x/\Rs bF H v1 x.proof.Steps/\Rs aE H v2 x.proof.Form/\Rs bM H v3 x.proof.dS.aR/\Rs jR H v4 x.proof.nA/\True:=h
theorem TS{H:Hp}{vs:List Value}{x:cD}(h:∃v0 v1 v2 v3 v4,vs=[Value.int .i64 x.kind,v0,v1,v2,Value.bool x.proof.dS.bR,v3,v4,Value.int .i64 x.v]/\Rs aE H v0 x.x/\Rs bF H v1 x.proof.Steps/\Rs aE H v2 x.proof.Form/\Rs bM H v3 x.proof.dS.aR/\Rs jR H v4 x.proof.nA/\True):gk.R H vs x:=h
structure iD where
 up:bD
 low:aC
 high:aC
 deriving DecidableEq
def kB:cx iD:=⟨6,λH vs x=>∃v0 v1 v2,vs=[Value.int .i64 x.up.pos,v0,Value.bool x.low.bR,v1,Value.bool x.high.bR,v2]/\Rs aE H v0 x.up.g/\Rs bM H v1 x.low.aR/\Rs bM H v2 x.high.aR/\True,
 λH H' vs x hle h=>by obtain⟨v0,v1,v2,h0,k0,k1,k2,-⟩:=h;exact⟨v0,v1,v2,h0,k0.mono hle,k1.mono hle,k2.mono hle,trivial⟩,
 λH vs x h=>by obtain⟨v0,v1,v2,h0,k0,k1,k2,-⟩:=h;rw[h0];rfl,
 λH vs x h=>by obtain⟨v0,v1,v2,h0,k0,k1,k2,-⟩:=h;rw[h0];exact(eI rfl (eI k0.one (eI rfl (eI k1.one (eI rfl (eI k2.one mv))))))⟩
theorem Vm{H:Hp}{vs:List Value}{x:iD}(h:kB.R H vs x):∃v0 v1 v2,vs=[Value.int .i64 x.up.pos,v0,Value.bool x.low.bR,v1,Value.bool x.high.bR,v2]/\Rs aE H v0 x.up.g/\Rs bM H v1 x.low.aR/\Rs bM H v2 x.high.aR/\True:=h
theorem TR{H:Hp}{vs:List Value}{x:iD}(h:∃v0 v1 v2,vs=[Value.int .i64 x.up.pos,v0,Value.bool x.low.bR,v1,Value.bool x.high.bR,v2]/\Rs aE H v0 x.up.g/\Rs bM H v1 x.low.aR/\Rs bM H v2 x.high.aR/\True):kB.R H vs x:=h
def za(N:Nat)(i b:Int):Option (List UInt8):=if 0<=i/\i<18446744073709551616/\b=10 then some (Go.Lib.decDigits i.toNat)else none
def zB(N:Nat)(s:List UInt8)(c:Int):Option (List UInt8):=if 0<=c/\c<=9223372036854775807/\(s.length:Int)*c<=140737488355328 then some (Go.Lib.repeatL s c.toNat)else none
def rJ(N:Nat)(xs:List (List UInt8))(s:List UInt8):Option (List UInt8):=if xs.length<=140737488355328/\(Go.Lib.join xs s).length<=140737488355328 then some (Go.Lib.join xs s)else none
def yb(N:Nat)(xs:List (List UInt8)):Option (List (List UInt8)):=if xs.length<=9223372036854775807 then some xs.reverse else none
theorem Vp{xs Y:List (List UInt8)}{N:Nat}(h:yb N xs=some Y):xs.length<=9223372036854775807/\Y=xs.reverse:=by
 unfold yb at h;split at h
 . exact⟨by assumption,(jd h).symm⟩
 . cases h
open Go Go.X
def xW(N:Nat)(s:(List Int)):Option (List Int):=(cY 4 ([]:(List Int)) s).bind λa=>some a
def digit(N:Nat)(d:(List Int))(i:Int):Option Int:=(if(i:Int)<(List.length d:Int)then (idx d i).bind λx2=>some (uw x2) else some 0)
def AZ(N:Nat)(n:Int):Option Int:= some (zX (imax n (-1)) 1)
def HM(N:Nat)(d:(List Int)):Int->Option (aH Int Int)
 |a=>(((if(a:Int)>0 then (idx d (iw (a-1))).bind λb=>some (decide ((b:Int)=0)) else some false):Option Bool)).bind λss=>match ss with
   |c=>(if c=true then some (aH.next (iw (a-1))) else some (aH.done a))
def mH(N:Nat)(d:(List Int)):Option (List Int):=(bO (HM N d) N (List.length d:Int)).bind λss=>match ss with
  |a=>(cut d 0 a).bind λb=>(xW N b).bind λc=>some c
def kS(N:Nat)(negative:Bool)(d:(List Int)):Option aC:=(mH N d).bind λr6=>(if((List.length r6:Int):Int)=0 then some (aC.mk false []) else some (aC.mk negative r6))
def G1(N:Nat)(a:(List Int))(b:(List Int)):Int->Option (aH Int (Sum Unit Int))
 |c=>(if(c:Int)≥0 then (idx a c).bind λd=>(idx b c).bind λe=>(if(d:Int)<e then some (aH.done (Sum.inr (-1))) else (idx a c).bind λf=>(idx b c).bind λg=>(if(f:Int)>g then some (aH.done (Sum.inr 1)) else some (aH.next (iw (c-1))))) else some (aH.done (Sum.inl ())))
def rk(N:Nat)(a:(List Int))(b:(List Int)):Option Int:=(if((List.length a:Int):Int)≠(List.length b:Int)then (AZ N (iw ((List.length a:Int)-(List.length b:Int)))).bind λr2=>some r2 else (bO (G1 N a b) N (iw ((List.length a:Int)-1))).bind λss=>match ss with
   |(Sum.inl _)=>some 0
   |(Sum.inr c)=>some c)
def E1(N:Nat)(a:(List Int))(b:(List Int))(x2:(List Int)):((List Int)×Int×Int)->Option (aH ((List Int)×Int×Int) (List Int))
 |(d,e,c)=>(if(c:Int)<(List.length x2:Int)then (digit N a c).bind λf=>(digit N b c).bind λg=>(idx d c).bind λj=>(dw d c (eL (uw (e+(uw (f+g)))))).bind λi=>some (aH.next (i,(gj .u64 (uw (e+(uw (f+g)))) 32),(iw (c+1)))) else some (aH.done d))
def xa(N:Nat)(a:(List Int))(b:(List Int)):Option (List Int):=(fZ (α:=Int) 4 0 (iw ((imax (List.length a:Int) (List.length b:Int))+1))).bind λx2=>(bO (E1 N a b x2) N (x2,0,0)).bind λss=>match ss with
  |c=>some c
def HD(N:Nat)(a:(List Int))(b:(List Int)):((List Int)×Int×Int)->Option (aH ((List Int)×Int×Int) (List Int))
 |(d,e,c)=>(if(c:Int)<(List.length a:Int)then (idx a c).bind λf=>(digit N b c).bind λg=>(idx d c).bind λj=>(dw d c (eL (uw ((uw ((uw f)-g))-e)))).bind λi=>some (aH.next (i,(gj .u64 (uw ((uw ((uw f)-g))-e)) 63),(iw (c+1)))) else some (aH.done d))
def tw(N:Nat)(a:(List Int))(b:(List Int)):Option (List Int):=(fZ (α:=Int) 4 0 (List.length a:Int)).bind λx2=>(bO (HD N a b) N (x2,0,0)).bind λss=>match ss with
  |c=>some c
def E5(N:Nat)(b:(List Int))(d:Int)(f:Int):((List Int)×Int×Int)->Option (aH ((List Int)×Int×Int) ((List Int)×Int))
 |(c,e,a)=>(if(a:Int)<(List.length b:Int)then (idx b a).bind λg=>(idx c (iw (d+a))).bind λi=>(idx c (iw (d+a))).bind λk=>(dw c (iw (d+a)) (eL (uw (e+(uw ((uw ((uw f)*(uw g)))+(uw i))))))).bind λj=>some (aH.next (j,(gj .u64 (uw (e+(uw ((uw ((uw f)*(uw g)))+(uw i))))) 32),(iw (a+1)))) else some (aH.done (c,e)))
def EA(N:Nat)(a:(List Int))(b:(List Int)):((List Int)×Int)->Option (aH ((List Int)×Int) (List Int))
 |(d,c)=>(if(c:Int)<(List.length a:Int)then (idx a c).bind λf=>(bO (E5 N b c f) N (d,0,0)).bind λss=>match ss with
    |(e,g)=>(idx e (iw (c+(List.length b:Int)))).bind λj=>(dw e (iw (c+(List.length b:Int))) (eL g)).bind λi=>some (aH.next (i,(iw (c+1)))) else some (aH.done d))
def xR(N:Nat)(a:(List Int))(b:(List Int)):Option (List Int):=(fZ (α:=Int) 4 0 (iw ((List.length a:Int)+(List.length b:Int)))).bind λx2=>(bO (EA N a b) N (x2,0)).bind λss=>match ss with
  |c=>some c
def GI(N:Nat)(a:(List Int))(pb:Int):((List Int)×Int×Int)->Option (aH ((List Int)×Int×Int) ((List Int)×Int))
 |(d,c,b)=>(if(b:Int)≥0 then (idx a b).bind λe=>(sdiv .u64 (ko .u64 (jF .u64 c 32) (uw e)) (uw pb)).bind λf=>(idx d b).bind λi=>(dw d b (eL f)).bind λg=>(srem (ko .u64 (jF .u64 c 32) (uw e)) (uw pb)).bind λj=>some (aH.next (g,(Int.tmod (ko .u64 (jF .u64 c 32) (uw e)) (uw pb)),(iw (b-1)))) else some (aH.done (d,c)))
def xh(N:Nat)(a:(List Int))(pb:Int):Option ((List Int)×Int):=(fZ (α:=Int) 4 0 (List.length a:Int)).bind λx2=>(bO (GI N a pb) N (x2,0,(iw ((List.length a:Int)-1)))).bind λss=>match ss with
  |(b,c)=>some (b,(eL c))
def ES(N:Nat)(a:(List Int))(n:Int):((List Int)×Int)->Option (aH ((List Int)×Int) (List Int))
 |(c,b)=>(if(b:Int)<(List.length a:Int)then (idx a b).bind λd=>(mu (¬(n:Int)<0)).bind λ_=>(idx c b).bind λf=>(idx c b).bind λi=>(dw c b (ko .u32 f (eL (jF .u64 (uw d) n)))).bind λe=>(idx e (iw (b+1))).bind λj=>(dw e (iw (b+1)) (eL (gj .u64 (jF .u64 (uw d) n) 32))).bind λg=>some (aH.next (g,(iw (b+1)))) else some (aH.done c))
def wx(N:Nat)(a:(List Int))(n:Int):Option (List Int):=(fZ (α:=Int) 4 0 (iw ((List.length a:Int)+1))).bind λx2=>(bO (ES N a n) N (x2,0)).bind λss=>match ss with
  |b=>some b
open Go Go.X
def Fv(N:Nat):(List Int)->Option (aH (List Int) (List Int))
 |a=>(((if((List.length a:Int):Int)>0 then (idx a (iw ((List.length a:Int)-1))).bind λb=>some (decide ((b:Int)=0)) else some false):Option Bool)).bind λss=>match ss with
   |c=>(if c=true then (cut a 0 (iw ((List.length a:Int)-1))).bind λd=>some (aH.next d) else some (aH.done a))
def pG(N:Nat)(l:(List Int)):Option (List Int):=(bO (Fv N) N l).bind λss=>match ss with
  |a=>some a
def E2(N:Nat)(x:aC):((List Int)×Int)->Option (aH ((List Int)×Int) (List Int))
 |(b,a)=>(if(a:Int)<(List.length x.aR:Int)then (idx x.aR a).bind λc=>(idx x.aR a).bind λd=>(cY 8 b [(iw (Int.tmod c 65536)),(iw (eL (Int.tdiv d 65536)))]).bind λe=>some (aH.next (e,(iw (a+1)))) else some (aH.done b))
def mO(N:Nat)(x:aC):Option (List Int):=(bO (E2 N x) N (([]:(List Int)),0)).bind λss=>match ss with
  |a=>(pG N a).bind λb=>some b
def Eg(N:Nat)(r6:(List Int)):((List Int)×Int)->Option (aH ((List Int)×Int) (List Int))
 |(b,a)=>(if(a:Int)<(List.length r6:Int)then (idx r6 a).bind λc=>(((if((iw (a+1)):Int)<(List.length r6:Int)then (idx r6 (iw (a+1))).bind λd=>some (eL ((eL c)+(eL (65536*(eL d))))) else some (eL c)):Option Int)).bind λss=>match ss with
    |e=>(cY 4 b [e]).bind λf=>some (aH.next (f,(iw (a+2)))) else some (aH.done b))
def mK(N:Nat)(negative:Bool)(l:(List Int)):Option aC:=(pG N l).bind λr6=>(((if negative=true then some (decide (((List.length r6:Int):Int)>0)) else some false):Option Bool)).bind λss=>match ss with
  |a=>(bO (Eg N r6) N (([]:(List Int)),0)).bind λss=>match ss with
    |b=>some (aC.mk a b)
def zx(N:Nat)(x:aC):Option aC:=(mO N x).bind λa=>(mK N x.bR a).bind λb=>some b
def Hd(N:Nat)(a:(List Int))(b:(List Int)):Int->Option (aH Int (Sum Unit Int))
 |c=>(if(c:Int)≥0 then (idx a c).bind λd=>(idx b c).bind λe=>(if(d:Int)<e then some (aH.done (Sum.inr (-1))) else (idx a c).bind λf=>(idx b c).bind λg=>(if(f:Int)>g then some (aH.done (Sum.inr 1)) else some (aH.next (iw (c-1))))) else some (aH.done (Sum.inl ())))
def vF(N:Nat)(a:(List Int))(b:(List Int)):Option Int:=(if((List.length a:Int):Int)≠(List.length b:Int)then (if((List.length a:Int):Int)<(List.length b:Int)then some (-1) else some 1) else (bO (Hd N a b) N (iw ((List.length a:Int)-1))).bind λss=>match ss with
   |(Sum.inl _)=>some 0
   |(Sum.inr c)=>some c)
def Io(N:Nat)(a:(List Int))(b:(List Int)):((List Int)×Int×Int)->Option (aH ((List Int)×Int×Int) (List Int))
 |(e,d,c)=>(((if(c:Int)<(List.length a:Int)then some true else (if(c:Int)<(List.length b:Int)then some true else some (decide ((d:Int)>0)))):Option Bool)).bind λss=>match ss with
   |i=>(if i=true then (((if(c:Int)<(List.length a:Int)then (idx a c).bind λj=>some (iw (d+j)) else some d):Option Int)).bind λss=>match ss with
      |f=>(((if(c:Int)<(List.length b:Int)then (idx b c).bind λk=>some (iw (f+k)) else some f):Option Int)).bind λss=>match ss with
        |g=>(cY 8 e [(Int.tmod g 65536)]).bind λl=>some (aH.next (l,(iw (Int.tdiv g 65536)),(iw (c+1)))) else some (aH.done e))
def qK(N:Nat)(a:(List Int))(b:(List Int)):Option (List Int):=(bO (Io N a b) N (([]:(List Int)),0,0)).bind λss=>match ss with
  |c=>(pG N c).bind λd=>some d
def Fy(N:Nat)(a:(List Int))(b:(List Int)):((List Int)×Int×Int)->Option (aH ((List Int)×Int×Int) (List Int))
 |(e,f,c)=>(if(c:Int)<(List.length a:Int)then (idx a c).bind λg=>(((if(c:Int)<(List.length b:Int)then (idx b c).bind λi=>some (iw ((iw (g-f))-i)) else some (iw (g-f))):Option Int)).bind λss=>match ss with
    |d=>(((if(d:Int)<0 then some (1,(iw (d+65536))) else some (0,d)):Option (Int×Int))).bind λss=>match ss with
      |(j,k)=>(cY 8 e [k]).bind λl=>some (aH.next (l,j,(iw (c+1)))) else some (aH.done e))
def uE(N:Nat)(a:(List Int))(b:(List Int)):Option (List Int):=(bO (Fy N a b) N (([]:(List Int)),0,0)).bind λss=>match ss with
  |c=>(pG N c).bind λd=>some d
def jP(N:Nat)(x:aC):Option Int:=(mO N x).bind λr6=>(if((List.length r6:Int):Int)=0 then some 0 else (if x.bR=true then some (-1) else some 1))
def sa(N:Nat)(x:aC):Option aC:=(mO N x).bind λa=>(mK N (!x.bR) a).bind λb=>some b
def p9(N:Nat)(a:aC)(b:aC):Option aC:=(mO N a).bind λc=>(mO N b).bind λd=>(if(a.bR==b.bR)=true then (qK N c d).bind λe=>(mK N a.bR e).bind λf=>some f else (vF N c d).bind λg=>(if(g:Int)≥0 then (uE N c d).bind λi=>(mK N a.bR i).bind λj=>some j else (uE N d c).bind λk=>(mK N b.bR k).bind λl=>some l))
def qB(N:Nat)(a:aC)(b:aC):Option aC:=(sa N b).bind λc=>(p9 N a c).bind λd=>some d
def FM(N:Nat)(a:(List Int))(d:Int):((List Int)×Int×Int)->Option (aH ((List Int)×Int×Int) (List Int))
 |(e,c,b)=>(((if(b:Int)<(List.length a:Int)then some true else some (decide ((c:Int)>0))):Option Bool)).bind λss=>match ss with
   |g=>(if g=true then (((if(b:Int)<(List.length a:Int)then (idx a b).bind λi=>some (iw (c+(iw (i*d)))) else some c):Option Int)).bind λss=>match ss with
      |f=>(cY 8 e [(Int.tmod f 65536)]).bind λj=>some (aH.next (j,(iw (Int.tdiv f 65536)),(iw (b+1)))) else some (aH.done e))
def yA(N:Nat)(a:(List Int))(d:Int):Option (List Int):=(bO (FM N a d) N (([]:(List Int)),0,0)).bind λss=>match ss with
  |b=>(pG N b).bind λc=>some c
def F8(N:Nat)(c:(List Int))(d:(List Int)):((List Int)×Int)->Option (aH ((List Int)×Int) (List Int))
 |(b,a)=>(if(a:Int)≥0 then (cY 8 [0] b).bind λe=>(idx d a).bind λf=>(yA N c f).bind λg=>(qK N e g).bind λi=>some (aH.next (i,(iw (a-1)))) else some (aH.done b))
def oU(N:Nat)(a:aC)(b:aC):Option aC:=(mO N a).bind λd=>(mO N b).bind λc=>(bO (F8 N d c) N (([]:(List Int)),(iw ((List.length c:Int)-1)))).bind λss=>match ss with
  |e=>(mK N (!(a.bR==b.bR)) e).bind λf=>some f
def BP(N:Nat)(a:(List Int))(b:(List Int))(e:Int):((List Int)×(List Int)×Int)->Option (aH ((List Int)×(List Int)×Int) ((List Int)×(List Int)))
 |(c,f,d)=>(if(d:Int)>0 then (qK N f f).bind λi=>(idx a e).bind λj=>(sdiv .i64 j d).bind λk=>(((if((Int.tmod k 2):Int)=1 then (qK N i [1]).bind λl=>some l else some i):Option (List Int))).bind λss=>match ss with
    |g=>(vF N g b).bind λm=>(if(m:Int)≥0 then (uE N g b).bind λn=>(idx c e).bind λo=>(idx c e).bind λs=>(dw c e (iw (o+d))).bind λp=>some (aH.next (p,n,(iw (Int.tdiv d 2)))) else some (aH.next (c,g,(iw (Int.tdiv d 2))))) else some (aH.done (c,f)))
def FL(N:Nat)(a:(List Int))(b:(List Int)):((List Int)×(List Int)×Int)->Option (aH ((List Int)×(List Int)×Int) ((List Int)×(List Int)))
 |(d,e,c)=>(if(c:Int)≥0 then (bO (BP N a b c) N (d,e,32768)).bind λss=>match ss with
    |(f,g)=>some (aH.next (f,g,(iw (c-1)))) else some (aH.done (d,e)))
def yH(N:Nat)(a:(List Int))(b:(List Int)):Option ((List Int)×(List Int)):=(fZ (α:=Int) 8 0 (List.length a:Int)).bind λx2=>(bO (FL N a b) N (x2,([]:(List Int)),(iw ((List.length a:Int)-1)))).bind λss=>match ss with
  |(c,d)=>(pG N c).bind λe=>some (e,d)
def F3(N:Nat):(Int×(List Int))->Option (aH (Int×(List Int)) (List Int))
 |(a,b)=>(if(a:Int)>0 then (cY 8 b [(iw (Int.tmod a 65536))]).bind λc=>some (aH.next ((uw (Int.tdiv a 65536)),c)) else some (aH.done b))
def lX(N:Nat)(n:Int):Option aC:=(((if(n:Int)<0 then some (uw ((uw (iw (0-(iw (n+1)))))+1)) else some (uw n)):Option Int)).bind λss=>match ss with
  |u8=>(bO (F3 N) N (u8,([]:(List Int)))).bind λss=>match ss with
    |a=>(mK N (decide ((n:Int)<0)) a).bind λb=>some b
def uh(N:Nat)(a:aC)(b:aC):Option (aC×aC×Bool):=(jP N b).bind λf=>(if(f:Int)=0 then some ((aC.mk false []),(aC.mk false []),false) else (mO N a).bind λg=>(mO N b).bind λi=>(yH N g i).bind λd=>(mK N (!(a.bR==b.bR)) d.1).bind λe=>(mK N a.bR d.2).bind λc=>(((jP N c).bind λj=>(if(j:Int)≠0 then (jP N c).bind λk=>(jP N b).bind λl=>some (decide ((k:Int)≠l)) else some false):Option Bool)).bind λss=>match ss with
   |m=>(((if m=true then (lX N 1).bind λn=>(qB N e n).bind λo=>(p9 N c b).bind λp=>some (o,p) else some (e,c)):Option (aC×aC))).bind λss=>match ss with
     |(s,u)=>some (s,u,true))
def K3(N:Nat)(a:aC)(b:aC):Int->Option (aH Int (Sum Unit Bool))
 |c=>(if(c:Int)<(List.length a.aR:Int)then (idx a.aR c).bind λd=>(idx b.aR c).bind λe=>(if(d:Int)≠e then some (aH.done (Sum.inr false)) else some (aH.next (iw (c+1)))) else some (aH.done (Sum.inl ())))
def xJ(N:Nat)(a:aC)(b:aC):Option Bool:=(((if(!(a.bR==b.bR))=true then some true else some (decide (((List.length a.aR:Int):Int)≠(List.length b.aR:Int)))):Option Bool)).bind λss=>match ss with
  |c=>(if c=true then some false else (bO (K3 N a b) N 0).bind λss=>match ss with
     |(Sum.inl _)=>some true
     |(Sum.inr d)=>some d)
open Go Go.X
def tm:List UInt8:=[0,1,2,2,3,3,3,3,4,4,4,4,4,4,4,4,5,5,5,5,5,5,5,5,5,5,5,5,5,5,5,5,6,6,6,6,6,6,6,6,6,6,6,6,6,6,6,6,6,6,6,6,6,6,6,6,6,6,6,6,6,6,6,6,7,7,7,7,7,7,7,7,7,7,7,7,7,7,7,7,7,7,7,7,7,7,7,7,7,7,7,7,7,7,7,7,7,7,7,7,7,7,7,7,7,7,7,7,7,7,7,7,7,7,7,7,7,7,7,7,7,7,7,7,7,7,7,7,8,8,8,8,8,8,8,8,8,8,8,8,8,8,8,8,8,8,8,8,8,8,8,8,8,8,8,8,8,8,8,8,8,8,8,8,8,8,8,8,8,8,8,8,8,8,8,8,8,8,8,8,8,8,8,8,8,8,8,8,8,8,8,8,8,8,8,8,8,8,8,8,8,8,8,8,8,8,8,8,8,8,8,8,8,8,8,8,8,8,8,8,8,8,8,8,8,8,8,8,8,8,8,8,8,8,8,8,8,8,8,8,8,8,8,8,8,8,8,8,8,8,8,8,8,8,8,8]
def yF(N:Nat)(x:Int):Option Int:=(((if(x:Int)≥65536 then some ((gj .u32 x 16),16) else some (x,0)):Option (Int×Int))).bind λss=>match ss with
  |(x2,n3)=>(((if(x2:Int)≥256 then some ((gj .u32 x2 8),(iw (n3+8))) else some (x2,n3)):Option (Int×Int))).bind λss=>match ss with
    |(a,b)=>(idx tm (uw8 a)).bind λc=>some (iw (b+(iw (UInt8.toNat c:Int))))
def zy(N:Nat)(x:Int):Option Int:=(yF N x).bind λr1=>some (iw (32-r1))
def BU(N:Nat)(n:Int)(pa_hi:Int)(pa_lo:Int)(pb:(List Int)):((List Int)×Int×Int×Int)->Option (aH ((List Int)×Int×Int×Int) ((List Int)×Int))
 |(b,c,d,a)=>(if(a:Int)<(pa_hi-pa_lo)then (digit N pb a).bind λe=>(mu (0<=a/\a<pa_hi-pa_lo)).bind λ_=>(idx b (pa_lo+a)).bind λf=>(mu (0<=a/\a<pa_hi-pa_lo)).bind λ_=>(idx b (pa_lo+a)).bind λi=>(dw b (pa_lo+a) (eL (uw ((uw ((uw f)-(rm .u64 (uw (c+(uw (n*e)))) 4294967295)))-d)))).bind λg=>some (aH.next (g,(gj .u64 (uw (c+(uw (n*e)))) 32),(gj .u64 (uw ((uw ((uw f)-(rm .u64 (uw (c+(uw (n*e)))) 4294967295)))-d)) 63),(iw (a+1)))) else some (aH.done (b,d)))
def Ch(N:Nat)(pa:(List Int))(pa_lo:Int)(pa_hi:Int)(pb:(List Int))(n:Int):Option (Bool×(List Int)):=(bO (BU N n pa_hi pa_lo pb) N (pa,0,0,0)).bind λss=>match ss with
  |(a,b)=>some ((decide ((b:Int)≠0)),a)
def C9(N:Nat)(b:(List Int))(d:(List Int))(f:(List Int))(g:Int):(Int×Int)->Option (aH (Int×Int) Int)
 |(a,c)=>(((if(a:Int)>4294967295 then some true else (idx d (iw ((List.length b:Int)-2))).bind λi=>(idx f (iw ((iw (g+(List.length b:Int)))-2))).bind λj=>some (decide (((uw (a*(uw i))):Int)>(ko .u64 (jF .u64 c 32) (uw j))))):Option Bool)).bind λss=>match ss with
   |k=>(if k=true then (idx d (iw ((List.length b:Int)-1))).bind λe=>(if((uw (c+(uw e))):Int)>4294967295 then some (aH.done (uw (a-1))) else some (aH.next ((uw (a-1)),(uw (c+(uw e)))))) else some (aH.done a))
def Dj(N:Nat)(e:(List Int))(c:Int):((List Int)×Int×Int)->Option (aH ((List Int)×Int×Int) ((List Int)×Int))
 |(b,d,a)=>(if(a:Int)<(List.length e:Int)then (idx b (iw (c+a))).bind λf=>(idx e a).bind λg=>(idx b (iw (c+a))).bind λj=>(dw b (iw (c+a)) (eL (uw (d+(uw ((uw f)+(uw g))))))).bind λi=>some (aH.next (i,(gj .u64 (uw (d+(uw ((uw f)+(uw g))))) 32),(iw (a+1)))) else some (aH.done (b,d)))
def AY(N:Nat)(b:(List Int))(d:(List Int)):((List Int)×(List Int)×Int)->Option (aH ((List Int)×(List Int)×Int) ((List Int)×(List Int)))
 |(c,e,a)=>(if(a:Int)≥0 then (idx c (iw (a+(List.length b:Int)))).bind λf=>(idx c (iw ((iw (a+(List.length b:Int)))-1))).bind λg=>(idx d (iw ((List.length b:Int)-1))).bind λm=>(sdiv .u64 (ko .u64 (jF .u64 (uw f) 32) (uw g)) (uw m)).bind λn=>(idx d (iw ((List.length b:Int)-1))).bind λl=>(srem (ko .u64 (jF .u64 (uw f) 32) (uw g)) (uw l)).bind λa0=>(bO (C9 N b d c a) N (n,(Int.tmod (ko .u64 (jF .u64 (uw f) 32) (uw g)) (uw l)))).bind λss=>match ss with
    |i=>(og c a (iw ((iw (a+(List.length b:Int)))+1))).bind λ_=>(Ch N c a (iw ((iw (a+(List.length b:Int)))+1)) d i).bind λj=>(((if j.1=true then (bO (Dj N d a) N (j.2,0,0)).bind λss=>match ss with
       |(k,o)=>(idx k (iw (a+(List.length b:Int)))).bind λp=>(idx k (iw (a+(List.length b:Int)))).bind λa1=>(dw k (iw (a+(List.length b:Int))) (eL (p+(eL o)))).bind λs=>some (s,(uw (i-1))) else some (j.2,i)):Option ((List Int)×Int))).bind λss=>match ss with
      |(u,v)=>(idx e a).bind λa2=>(dw e a (eL v)).bind λy=>some (aH.next (u,y,(iw (a-1)))) else some (aH.done (c,e)))
def Dw(N:Nat)(c:Int)(d:(List Int))(e:(List Int)):((List Int)×Int)->Option (aH ((List Int)×Int) (List Int))
 |(b,a)=>(if(a:Int)<(List.length e:Int)then (idx d (iw (a+1))).bind λf=>(idx d a).bind λg=>(mu (¬((uw c):Int)<0)).bind λ_=>(idx b a).bind λj=>(dw b a (eL (gj .u64 (ko .u64 (jF .u64 (uw f) 32) (uw g)) (uw c)))).bind λi=>some (aH.next (i,(iw (a+1)))) else some (aH.done b))
def wz(N:Nat)(a:(List Int))(b:(List Int)):Option ((List Int)×(List Int)):=(rk N a b).bind λr1=>(if(r1:Int)<0 then (mH N a).bind λr9=>some (([]:(List Int)),r9) else (if((List.length b:Int):Int)=1 then (idx b 0).bind λi=>(xh N a i).bind λd=>(mH N d.1).bind λj=>(mH N [d.2]).bind λk=>some (j,k) else (idx b (iw ((List.length b:Int)-1))).bind λl=>(zy N l).bind λc=>(wx N a (uw c)).bind λe=>(wx N b (uw c)).bind λm=>(cut m 0 (List.length b:Int)).bind λn=>(fZ (α:=Int) 4 0 (iw ((List.length e:Int)-(List.length b:Int)))).bind λf=>(bO (AY N b n) N (e,f,(iw ((List.length f:Int)-1)))).bind λss=>match ss with
    |(o,p)=>(fZ (α:=Int) 4 0 (List.length b:Int)).bind λg=>(bO (Dw N c o g) N (g,0)).bind λss=>match ss with
      |s=>(mH N p).bind λu=>(mH N s).bind λv=>some (u,v)))
def gF(N:Nat)(n:Int):Option aC:=(((if(n:Int)<0 then some (uw (0-(uw n))) else some (uw n)):Option Int)).bind λss=>match ss with
  |u8=>(kS N (decide ((n:Int)<0)) [(eL u8),(eL (gj .u64 u8 32))]).bind λa=>some a
def mM(N:Nat)(x:aC):Option aC:=(kS N x.bR x.aR).bind λa=>some a
def im(N:Nat)(x:aC):Option Int:=(mM N x).bind λr6=>(if((List.length r6.aR:Int):Int)=0 then some 0 else (if r6.bR=true then some (-1) else some 1))
def jx(N:Nat)(a:aC)(b:aC):Option Int:=(mM N a).bind λc=>(mM N b).bind λd=>(((if(!(c.bR==d.bR))=true then some c.bR else some false):Option Bool)).bind λss=>match ss with
  |e=>(if e=true then some (-1) else (if(!(c.bR==d.bR))=true then some 1 else (if c.bR=true then (rk N d.aR c.aR).bind λf=>some f else (rk N c.aR d.aR).bind λg=>some g)))
def jZ(N:Nat)(x:aC):Option aC:=(kS N (!x.bR) x.aR).bind λa=>some a
def jK(N:Nat)(a:aC)(b:aC):Option aC:=(mM N a).bind λc=>(mM N b).bind λd=>(if(c.bR==d.bR)=true then (xa N c.aR d.aR).bind λe=>(kS N c.bR e).bind λf=>some f else (rk N c.aR d.aR).bind λg=>(if(g:Int)<0 then (tw N d.aR c.aR).bind λi=>(kS N d.bR i).bind λj=>some j else (tw N c.aR d.aR).bind λk=>(kS N c.bR k).bind λl=>some l))
def jL(N:Nat)(a:aC)(b:aC):Option aC:=(jZ N b).bind λc=>(jK N a c).bind λd=>some d
def lj(N:Nat)(a:aC)(b:aC):Option aC:=(xR N a.aR b.aR).bind λc=>(kS N (!(a.bR==b.bR)) c).bind λd=>some d
def lO(N:Nat)(a:aC)(b:aC):Option (aC×aC×Bool):=(mM N a).bind λe=>(mM N b).bind λd=>(if((List.length d.aR:Int):Int)=0 then some ((aC.mk false []),(aC.mk false []),false) else (wz N e.aR d.aR).bind λc=>(if(!(e.bR==d.bR))=true then (((if((List.length c.2:Int):Int)>0 then (xa N c.1 [1]).bind λf=>(tw N d.aR c.2).bind λg=>some (f,g) else some (c.1,c.2)):Option ((List Int)×(List Int)))).bind λss=>match ss with
    |(i,j)=>(kS N true i).bind λk=>(kS N d.bR j).bind λl=>some (k,l,true) else (kS N false c.1).bind λm=>(kS N d.bR c.2).bind λn=>some (m,n,true)))
def Fl(N:Nat):((List Int)×(List Int))->Option (aH ((List Int)×(List Int)) (List Int))
 |(b,a)=>(if((List.length a:Int):Int)>0 then (wz N b a).bind λc=>some (aH.next (a,c.2)) else some (aH.done b))
def vJ(N:Nat)(a:aC)(b:aC):Option aC:=(mH N a.aR).bind λc=>(mH N b.aR).bind λd=>(bO (Fl N) N (c,d)).bind λss=>match ss with
  |e=>(kS N false e).bind λf=>some f
def E4(N:Nat):((List (List UInt8))×(List Int))->Option (aH ((List (List UInt8))×(List Int)) (List (List UInt8)))
 |(b,c)=>(if((List.length c:Int):Int)>0 then (xh N c 1000000000).bind λd=>(mH N d.1).bind λe=>(za N (uw d.2) 10).bind λa=>(((if((List.length e:Int):Int)>0 then (zB N ([48]:List UInt8) (iw (9-(List.length a:Int)))).bind λf=>(mu ((List.length f:Int)+List.length a<=9223372036854775807)).bind λ_=>some (f++a) else some a):Option (List UInt8))).bind λss=>match ss with
    |g=>(cY 16 b [g]).bind λi=>some (aH.next (i,e)) else some (aH.done b))
def wB(N:Nat)(x:aC):Option (List UInt8):=(mM N x).bind λr6=>(if((List.length r6.aR:Int):Int)=0 then some ([48]:List UInt8) else (bO (E4 N) N (([]:(List (List UInt8))),r6.aR)).bind λss=>match ss with
   |a=>(((if r6.bR=true then (cY 16 a [([45]:List UInt8)]).bind λb=>some b else some a):Option (List (List UInt8)))).bind λss=>match ss with
     |c=>(yb N c).bind λd=>(rJ N d ([]:List UInt8)).bind λe=>some e)
open Go Go.X
abbrev aD:Int:=4294967296
theorem nT:(1:Int)<aD:=by decide
theorem Q6{s:List Int}(hl:s.length<=35184372088832):Tm (λN=>xW N s) (λr=>r=s):=by
 unfold xW;exact aJ (eb (by simp only[dY];omega) (by decide)) (aZ rfl)
theorem qf{d:List Int}(hd:bJ aD d)(hl:d.length<=35184372088832):Tm (λN=>mH N d) (λr=>Dg aD r (val aD d)/\r.length<=d.length):=by
 unfold mH;refine Tm.bind (Q:=λn:Int=>∃k:Nat,n=k/\k<=d.length/\(∀j,(hj:j<d.length)->k<=j->d[j]=0)/\(k=0\/∃hk:k-1<d.length,d[k-1]≠0))
  (Tm.loop (λn:Int=>∃k:Nat,n=k/\k<=d.length/\∀j,(hj:j<d.length)->k<=j->d[j]=0) (λn=>n.toNat) ⟨d.length,rfl,bQ _,λj h1 h2=>bX h1 (by omega)⟩ ?_) ?_
 . rintro _ ⟨k,rfl,hk,h0⟩;dsimp only[HM];rcases ij k with rfl|hk0
   . refine Tm.bind (Q:=(·=false)) (cE (by omega) (aZ rfl)) ?_;rintro _ rfl;exact cE (by simp) (aZ ⟨0,rfl,hk,h0,.inl rfl⟩)
   . refine Tm.bind (Q:=(·=decide (d[k-1]=0))) (cR (by omega) (aJ (ik (n:=k-1) (by rw[bU]<;>omega) (by omega)) (aZ rfl))) ?_;rintro _ rfl;by_cases h:d[k-1]=0
     . refine cR (by simpa using h) (aZ ⟨⟨k-1,by rw[bU]<;>omega,by omega,λj h1 h2=>?_⟩,?_⟩)
       . rcases Nat.eq_or_lt_of_le h2 with rfl|h3
         . exact h
         . exact h0 j h1 (by omega)
       . show(iw ((k:Int)-1)).toNat<((k:Int)).toNat;rw[bU]<;>omega
     . exact cE (by simpa using h) (aZ ⟨k,rfl,hk,h0,.inr ⟨by omega,h⟩⟩)
 . rintro _ ⟨k,rfl,hk,h0,h1⟩;refine aJ (rQ (m:=0) (n:=k) rfl rfl (by omega) hk) ?_;refine Tm.bind (Q6 (by simp;omega)) ?_;rintro _ rfl;refine aZ ⟨by simpa using Hu hk hd h0 h1,by simp;omega⟩
def bv(x:aC):Int:=if x.bR=true then-val aD x.aR else val aD x.aR
structure Is (x:aC)(v:Int):Prop where
 dg:Dg aD x.aR v.natAbs
 neg:x.bR=decide (v<0)
theorem Is.bv{x:aC}{v:Int}(h:Is x v):bv x=v:=by
 unfold D.bv;rw[h.neg,h.dg.val];by_cases hv:v<0
 . simp[hv];omega
 . simp[hv];omega
theorem Is.uniq{x y:aC}{v:Int}(h:Is x v)(h':Is y v):x=y:=by
 have h1:=h.dg.uniq nT h'.dg;have h2:=h.neg.trans h'.neg.symm;cases x;cases y;simp_all
theorem ni{neg:Bool}{d:List Int}(hd:bJ aD d)(hl:d.length<=35184372088832):Tm (λN=>kS N neg d) (λr=>Is r (if neg=true then-val aD d else val aD d)/\r.aR.length<=d.length):=by
 unfold kS;refine Tm.bind (qf hd hl) ?_;rintro r ⟨hr,hl'⟩;have h0:=hr.xI (by decide);refine bB (λh=>aZ ?_) (λh=>aZ ?_)
 . have he:r=[]:=nD.1 (by omega);have hv:=(hr.zero (by decide)).1 he;refine⟨⟨?_,?_⟩,by simp⟩
   . simp only[hv];simp;exact Dg.nil
   . simp[hv]
 . have he:r≠[]:=λe=>h (by simp[e]);have hv:val aD d≠0:=λe=>he ((hr.zero (by decide)).2 e);refine⟨⟨?_,?_⟩,hl'⟩
   . cases neg<;>simp<;>rw[show((val aD d).natAbs:Int)=val aD d by omega]<;>exact hr
   . cases neg<;>simp<;>omega
theorem qm{x:aC}(hd:bJ aD x.aR)(hl:x.aR.length<=35184372088832):Tm (λN=>mM N x) (λr=>Is r (bv x)/\r.aR.length<=x.aR.length):=by
 unfold mM;exact Tm.bind (ni hd hl) (λr h=>aZ h)
theorem CK{x:aC}(hd:bJ aD x.aR)(hl:x.aR.length<=35184372088832):Tm (λN=>jZ N x) (λr=>Is r (-bv x)/\r.aR.length<=x.aR.length):=by
 unfold jZ;refine Tm.bind (ni hd hl) (λr h=>aZ ?_);refine⟨?_,h.2⟩;have:=h.1;unfold bv;cases hx:x.bR<;>rw[hx]at this<;>simpa using this
theorem Tu{x:aC}(hd:bJ aD x.aR)(hl:x.aR.length<=35184372088832):Tm (λN=>im N x) (λr=>r=bZ (bv x) 0):=by
 unfold im;refine Tm.bind (qm hd hl) ?_;rintro r ⟨hr,-⟩;have hz:=hr.dg.zero (by decide);refine bB (λh=>aZ ?_) (λh=>?_)
 . have:=hz.1 (nD.1 (by omega));unfold bZ;rw[aQ (by omega),aQ (by omega)]
 . have:bv x≠0:=λe=>h (by rw[hz.2 (by omega)];rfl);refine bB (λh'=>aZ ?_) (λh'=>aZ ?_)
   . have:=hr.neg.symm.trans h';simp at this;unfold bZ;rw[bA (by omega)]
   . have:¬bv x<0:=λe=>h' (by rw[hr.neg];simpa using e);unfold bZ;rw[aQ (by omega),bA (by omega)]
theorem Ax{n:Int}(h1:-9223372036854775808<=n)(h2:n<=9223372036854775807):Tm (λN=>gF N n) (λr=>Is r n/\r.aR.length<=2):=by
 unfold gF;refine Tm.bind (Q:=(·=(n.natAbs:Int))) (bB (λh=>aZ ?_) (λh=>aZ ?_)) ?_
 . rw[gD,gD];omega
 . rw[gD];omega
 rintro _ rfl;have hs:gj .u64 (n.natAbs:Int) 32=(n.natAbs:Int)/4294967296:=by
  unfold gj;rw[show((2:Int)^(min (32:Int).toNat IntKind.u64.bits))=4294967296 from rfl,j4 _ (by decide)]
 refine Tm.bind (ni (d:=[eL (n.natAbs:Int),eL (gj .u64 (n.natAbs:Int) 32)]) ?_ (by simp)) (λr h=>aZ ?_)
 . rw[hs,gZ,gZ];exact bJ.cons (B:=4294967296) (by omega) (bJ.cons (by omega) bJ.nil)
 . refine⟨?_,h.2⟩;have hv:val aD [eL (n.natAbs:Int),eL (gj .u64 (n.natAbs:Int) 32)]=n.natAbs:=by
    rw[hs,gZ,gZ];simp only[val,aD];omega
   have h:=h.1;rw[hv]at h;by_cases hn:n<0
   . simp only[hn,decide_true,if_true]at h;rwa[show-(n.natAbs:Int)=n by omega]at h
   . simp only[hn,decide_false,nB,if_false]at h;rwa[show(n.natAbs:Int)=n by omega]at h
theorem QW{n:Int}:zX (imax n (-1)) 1=bZ n 0:=by
 unfold zX imax bZ;by_cases h:-1>n<;>simp only[h,if_true,if_false]<;>(repeat' split)<;>omega
theorem B2{a b:List Int}(ha:bJ aD a)(hb:bJ aD b)(na:gC a)(nb:gC b)(hl:a.length<=35184372088832)(hl':b.length<=35184372088832):Tm (λN=>rk N a b) (λr=>r=bZ (val aD a) (val aD b)):=by
 unfold rk;refine bB (λh=>?_) (λh=>?_)
 . unfold AZ;refine aJ rfl (aZ ?_);rw[bU (by omega) (by omega),QW];unfold bZ;rcases cG a.length b.length with h'|h'
   . have:=nU nT ha hb nb h';rw[bA this];(repeat' split)<;>omega
   . have:=nU nT hb ha na (by omega);rw[aQ (by omega),bA this];(repeat' split)<;>omega
 . have hle:a.length=b.length:=by omega
   refine Tm.bind (Q:=λr:Sum Unit Int=>(match r with|.inl _=>0|.inr z=>z)=bZ (val aD a) (val aD b))
    (Tm.loop (λi:Int=>∃n:Nat,i=(n:Int)-1/\n<=a.length/\a.drop n=b.drop n) (λi=>(i+1).toNat) ⟨a.length,by rw[bU]<;>omega,bQ _,by rw[Af (bQ _),Af (by omega)]⟩ ?_) ?_
   . rintro _ ⟨n,rfl,hn,hd⟩;dsimp only[G1];refine bB (λh1=>?_) (λh1=>?_)
     . have hna:n-1<a.length:=by omega
       have hnb:n-1<b.length:=by omega
       refine aJ (ik (n:=n-1) (by omega) hna) (aJ (ik (n:=n-1) (by omega) hnb) (bB (λh2=>?_) (λh2=>?_)))
       . have:=Cd nT ha hb hle hna (by rw[show n-1+1=n by omega];exact hd) h2;refine aZ ?_;show(-1:Int)=_;unfold bZ;rw[bA this]
       . refine aJ (ik (n:=n-1) (by omega) hna) (aJ (ik (n:=n-1) (by omega) hnb) (bB (λh3=>?_) (λh3=>?_)))
         . have:=Cd nT hb ha hle.symm hnb (by rw[show n-1+1=n by omega];exact hd.symm) h3;refine aZ ?_;show(1:Int)=_;unfold bZ;rw[aQ (by omega),bA this]
         . refine aZ ⟨⟨n-1,by rw[bU]<;>omega,by omega,?_⟩,?_⟩
           . rw[gn hna,gn hnb,show n-1+1=n by omega,hd,show a[n-1]=b[n-1] by omega]
           . show(iw ((n:Int)-1-1)+1).toNat<((n:Int)-1+1).toNat;rw[bU]<;>omega
     . have:n=0:=by omega
       subst this;refine aZ ?_;show(0:Int)=_;have:a=b:=by simpa using hd
       rw[this];unfold bZ;rw[aQ (by omega),aQ (by omega)]
   . rintro(_|z) h<;>exact aZ h
theorem BG{d:List Int}(hd:bJ aD d){i:Nat}:Tm (λN=>digit N d (i:Int)) (λr=>r=d.getD i 0):=by
 unfold digit;have h0:=hd.getD (by decide) i;refine bB (λh=>?_) (λh=>aZ ?_)
 . refine aJ (dt (by omega)) (aZ ?_);rw[cL,cy (by omega)]at*;simp only[DJ,aD]at*;rw[gD];omega
 . rw[cL,gm (by omega)];rfl
theorem yo{x:Int}:gj .u64 x 32=x/4294967296:=by
 unfold gj;rw[show((2:Int)^(min (32:Int).toNat IntKind.u64.bits))=4294967296 from rfl,j4 _ (by decide)]
theorem KZ{x:Int}:gj .u64 x 63=x/9223372036854775808:=by
 unfold gj;rw[show((2:Int)^(min (63:Int).toNat IntKind.u64.bits))=9223372036854775808 from rfl,j4 _ (by decide)]
theorem take_set{l:List Int}{n:Nat}{y:Int}(h:n<l.length):val aD ((l.set n y).take (n+1))=val aD (l.take n)+aD^n*y:=by
 rw[gi,xu (bQ n),cL,Ae h];rfl
theorem JE{a b:List Int}(ha:bJ aD a)(hb:bJ aD b)(hl:a.length<=17592186044416)(hl':b.length<=17592186044416):Tm (λN=>xa N a b) (λr=>bJ aD r/\val aD r=val aD a+val aD b/\r.length=max a.length b.length+1):=by
 unfold xa;have hi:iw (imax (a.length:Int) (b.length:Int)+1)=((max a.length b.length+1:Nat):Int):=by
  unfold imax;split<;>rw[bU]<;>omega
 refine aJ (iu hi (by omega) (by decide)) ?_;generalize hL:max a.length b.length+1=L;refine Tm.bind (Q:=λr=>bJ aD r/\val aD r=val aD a+val aD b/\r.length=L)
  (Tm.loop (λs:List Int×Int×Int=>∃n:Nat,s.2.2=n/\n<=L/\s.1.length=L/\bJ aD s.1/\0<=s.2.1/\s.2.1<=1/\val aD (s.1.take n)+aD^n*s.2.1=val aD (a.take n)+val aD (b.take n)) (λs=>L-s.2.2.toNat)
   ⟨0,rfl,fI _,by simp,bJ.dG (by decide),by simp,by simp,by simp[val]⟩ ?_) (λr h=>aZ h)
 rintro⟨out,carry,i⟩ ⟨n,rfl,hn,ho,hB,h0,h1,hv⟩;dsimp only[E1]at*;simp only[mg];refine bB (λh=>?_) (λh=>aZ ?_)
 . refine Tm.bind (BG ha) ?_;rintro x rfl;refine Tm.bind (BG hb) ?_;rintro y rfl;refine aJ (dt (by omega)) ?_;refine aJ (eH rfl (by omega)) (aZ ?_);have hx:=ha.getD (by decide) n;have hy:=hb.getD (by decide) n;generalize ex:a.getD n 0=x at*;generalize ey:b.getD n 0=y at*;have e1:uw (carry+uw (x+y))=carry+x+y:=by
    simp only[aD]at*;rw[gD,gD];omega
   rw[e1,yo,gZ];refine⟨⟨n+1,?_,by omega,by simp;omega,hB.set (by simp only[aD];omega),?_,?_,?_⟩,?_⟩
   . show iw ((n:Int)+1)=_;rw[bU]<;>omega
   . show 0<=(carry+x+y)/4294967296;omega
   . show(carry+x+y)/4294967296<=1;simp only[aD]at*;omega
   . show val aD ((out.set n ((carry+x+y)%4294967296)).take (n+1))+aD^(n+1)*((carry+x+y)/4294967296)=_;rw[take_set (by omega),gi,gi,ex,ey,fR];have:=kI (carry+x+y) 4294967296;have hw:aD=4294967296:=rfl;grind
   . show L-(iw ((n:Int)+1)).toNat<L-((n:Int)).toNat;rw[bU]<;>omega
 . have hnL:n=L:=by omega
   subst hnL;rw[fx (by omega),fx (by omega),fx (by omega)]at hv;refine⟨hB,?_,ho⟩;show val aD out=_;have l1:=iV (by decide) ha;have l2:=iV (by decide) hb;have l3:=ir (by decide) hB;have p1:=lq (B:=aD) (by decide) (show a.length<=n-1 by omega);have p2:=lq (B:=aD) (by decide) (show b.length<=n-1 by omega);have p3:aD^n=aD^(n-1)*aD:=by rw[<-fR];congr 1;omega
   have p4:=lP (B:=aD) (by decide) (n-1);have hc:carry=0\/carry=1:=by omega
   rcases hc with rfl|rfl
   . omega
   . simp only[aD]at*;omega
theorem Fu{a b:List Int}(ha:bJ aD a)(hb:bJ aD b)(hl:a.length<=17592186044416)(hl':b.length<=a.length)(hv:val aD b<=val aD a):Tm (λN=>tw N a b) (λr=>bJ aD r/\val aD r=val aD a-val aD b/\r.length=a.length):=by
 unfold tw;refine aJ (iu rfl (by omega) (by decide)) ?_;generalize hL:a.length=L;refine Tm.bind (Q:=λr=>bJ aD r/\val aD r=val aD a-val aD b/\r.length=L)
  (Tm.loop (λs:List Int×Int×Int=>∃n:Nat,s.2.2=n/\n<=L/\s.1.length=L/\bJ aD s.1/\0<=s.2.1/\s.2.1<=1/\val aD (s.1.take n)=val aD (a.take n)-val aD (b.take n)+aD^n*s.2.1) (λs=>L-s.2.2.toNat)
   ⟨0,rfl,fI _,by simp[hL],bJ.dG (by decide),by simp,by simp,by simp[val]⟩ ?_) (λr h=>aZ h)
 rintro⟨out,borrow,i⟩ ⟨n,rfl,hn,ho,hB,h0,h1,hv'⟩;dsimp only[HD]at*;refine bB (λh=>?_) (λh=>aZ ?_)
 . refine aJ (dt (by omega)) ?_;refine Tm.bind (BG hb) ?_;rintro y rfl;refine aJ (dt (by omega)) ?_;refine aJ (eH rfl (by omega)) (aZ ?_);have hx:=ha.get (n:=n) (by omega);have hy:=hb.getD (by decide) n;have ex:a.getD n 0=a[n]'(by omega):=by rw[cL,cy (by omega)];rfl
   generalize a[n]'(by omega)=x at*;generalize ey:b.getD n 0=y at*;have e1:uw (uw (uw x-y)-borrow)=(x-y-borrow)%18446744073709551616:=by
    simp only[aD]at*;rw[gD,gD,gD];omega
   rw[e1,KZ,gZ];simp only[aD]at hx hy;refine⟨⟨n+1,?_,by omega,by simp;omega,hB.set (by simp only[aD];omega),?_,?_,?_⟩,?_⟩
   . show iw ((n:Int)+1)=_;rw[bU]<;>omega
   . show 0<=(x-y-borrow)%18446744073709551616/9223372036854775808;omega
   . show(x-y-borrow)%18446744073709551616/9223372036854775808<=1;omega
   . show val aD ((out.set n ((x-y-borrow)%18446744073709551616%4294967296)).take (n+1))=_+aD^(n+1)*((x-y-borrow)%18446744073709551616/9223372036854775808);rw[take_set (by omega),gi,gi,ex,ey,fR];have hd:(x-y-borrow)%18446744073709551616%4294967296=x-y-borrow+aD*((x-y-borrow)%18446744073709551616/9223372036854775808):=by
      simp only[aD];omega
     rw[hd];grind
   . show L-(iw ((n:Int)+1)).toNat<L-((n:Int)).toNat;rw[bU]<;>omega
 . have hnL:n=L:=by omega
   subst hnL;rw[fx (by omega),fx (by omega),fx (by omega)]at hv';refine⟨hB,?_,ho⟩;show val aD out=_;have l1:=iV (by decide) hB;rw[ho]at l1;have hc:borrow=0\/borrow=1:=by omega
   rcases hc with rfl|rfl
   . omega
   . simp only[aD]at*;omega
theorem Is.Cr{x:aC}{v:Int}(h:Is x v):val aD x.aR=if v<0 then-v else v:=by rw[h.dg.val];split<;>omega
theorem O5{a b:aC}(ha:bJ aD a.aR)(hb:bJ aD b.aR)(hl:a.aR.length<=17592186044416)(hl':b.aR.length<=17592186044416):
 Tm (λN=>jK N a b) (λr=>Is r (bv a+bv b)/\r.aR.length<=max a.aR.length b.aR.length+1):=by
 unfold jK;refine Tm.bind (qm ha (by omega)) ?_;rintro x ⟨hx,hxl⟩;refine Tm.bind (qm hb (by omega)) ?_;rintro y ⟨hy,hyl⟩;have vx:=hx.Cr;have vy:=hy.Cr;have n1:=hx.neg;have n2:=hy.neg;refine bB (λh=>?_) (λh=>?_)
 . have hn:x.bR=y.bR:=by simpa using h
   refine Tm.bind (JE hx.dg.bT hy.dg.bT (by omega) (by omega)) ?_;rintro s ⟨hs,sv,sl⟩;refine Tm.bind (ni hs (by omega)) (λr hr=>aZ ⟨?_,by omega⟩);have hr:=hr.1;rw[sv,vx,vy]at hr;by_cases p:bv a<0<;>by_cases q:bv b<0<;>simp only[p,q,decide_true,decide_false]at n1 n2 hn
   . simp only[n1,p,q,if_true]at hr;rwa[show-(-bv a+-bv b)=bv a+bv b by omega]at hr
   . rw[n1,n2]at hn;cases hn
   . rw[n1,n2]at hn;cases hn
   . simpa only[n1,p,q,if_false,nB]using hr
 . have hn:¬x.bR=y.bR:=by simpa using h
   refine Tm.bind (B2 hx.dg.bT hy.dg.bT hx.dg.fP hy.dg.fP (by omega) (by omega)) ?_;rintro c rfl;refine bB (λhc=>?_) (λhc=>?_)
   . have hlt:val aD x.aR<val aD y.aR:=by revert hc;unfold bZ;split<;>(try split)<;>omega
     have hle:x.aR.length<=y.aR.length:=by
      rcases cG y.aR.length x.aR.length with h'|h'
      . have:=nU nT hy.dg.bT hx.dg.bT hx.dg.fP h';omega
      . exact h'
     refine Tm.bind (Fu hy.dg.bT hx.dg.bT (by omega) hle (by omega)) ?_;rintro s ⟨hs,sv,sl⟩;refine Tm.bind (ni hs (by omega)) (λr hr=>aZ ⟨?_,by omega⟩);have hr:=hr.1;rw[sv,vx,vy]at hr;by_cases p:bv a<0<;>by_cases q:bv b<0<;>simp only[p,q,decide_true,decide_false]at n1 n2 hn
     . rw[n1,n2]at hn;exact bX rfl hn
     . simp only[n2,p,q,if_true,if_false,nB]at hr;rwa[show bv b- -bv a=bv a+bv b by omega]at hr
     . simp only[n2,p,q,if_true,if_false]at hr;rwa[show-(-bv b-bv a)=bv a+bv b by omega]at hr
     . rw[n1,n2]at hn;exact bX rfl hn
   . have hge:val aD y.aR<=val aD x.aR:=by revert hc;unfold bZ;split<;>(try split)<;>omega
     have hle:y.aR.length<=x.aR.length:=by
      rcases cG x.aR.length y.aR.length with h'|h'
      . have:=nU nT hx.dg.bT hy.dg.bT hy.dg.fP h';omega
      . exact h'
     refine Tm.bind (Fu hx.dg.bT hy.dg.bT (by omega) hle hge) ?_;rintro s ⟨hs,sv,sl⟩;refine Tm.bind (ni hs (by omega)) (λr hr=>aZ ⟨?_,by omega⟩);have hr:=hr.1;rw[sv,vx,vy]at hr;by_cases p:bv a<0<;>by_cases q:bv b<0<;>simp only[p,q,decide_true,decide_false]at n1 n2 hn
     . rw[n1,n2]at hn;exact bX rfl hn
     . simp only[n1,p,q,if_true,if_false]at hr;rwa[show-(-bv a-bv b)=bv a+bv b by omega]at hr
     . simp only[n1,p,q,if_true,if_false,nB]at hr;rwa[show bv a- -bv b=bv a+bv b by omega]at hr
     . rw[n1,n2]at hn;exact bX rfl hn
theorem TM{a b:aC}(ha:bJ aD a.aR)(hb:bJ aD b.aR)(hl:a.aR.length<=17592186044416)(hl':b.aR.length<=17592186044416):
 Tm (λN=>jL N a b) (λr=>Is r (bv a-bv b)/\r.aR.length<=max a.aR.length b.aR.length+1):=by
 unfold jL;refine Tm.bind (CK hb (by omega)) ?_;rintro y ⟨hy,hyl⟩;refine Tm.bind (O5 ha hy.dg.bT (by omega) (by omega)) (λr h=>aZ ⟨?_,by omega⟩);have:=h.1;rwa[hy.bv,<-IS]at this
theorem Qq{a b:List Int}(ha:bJ aD a)(hb:bJ aD b)(hl:a.length<=17592186044416)(hl':b.length<=17592186044416):
 Tm (λN=>xR N a b) (λr=>bJ aD r/\val aD r=val aD a*val aD b/\r.length=a.length+b.length):=by
 unfold xR;refine aJ (iu (n:=a.length+b.length) (by rw[bU]<;>omega) (by omega) (by decide)) ?_;refine Tm.bind (Q:=λr=>bJ aD r/\val aD r=val aD a*val aD b/\r.length=a.length+b.length)
  (Tm.loop (λs:List Int×Int=>∃n:Nat,s.2=n/\n<=a.length/\s.1.length=a.length+b.length/\bJ aD s.1/\val aD s.1=val aD (a.take n)*val aD b/\∀k,n+b.length<=k->(hk:k<s.1.length)->s.1[k]=0) (λs=>a.length-s.2.toNat)
   ⟨0,rfl,fI _,by simp,bJ.dG (by decide),by simp[val,Bt],by simp⟩ ?_) (λr h=>aZ h)
 rintro⟨out,i⟩ ⟨n,rfl,hn,ho,hB,hv,hz⟩;dsimp only[EA]at*;refine bB (λh=>?_) (λh=>aZ ?_)
 . refine aJ (dt (by omega)) ?_;have hx:=ha.get (n:=n) (by omega);have ex:a.getD n 0=a[n]'(by omega):=by rw[cL,cy (by omega)];rfl
   generalize a[n]'(by omega)=x at*;refine Tm.bind (Q:=λr:List Int×Int=>bJ aD r.1/\r.1.length=a.length+b.length/\0<=r.2/\r.2<aD/\val aD r.1+aD^(n+b.length)*r.2=val aD (a.take n)*val aD b+aD^n*x*val aD b/\∀k,n+b.length<=k->(hk:k<r.1.length)->r.1[k]=0)
    (Tm.loop (λs:List Int×Int×Int=>∃m:Nat,s.2.2=m/\m<=b.length/\s.1.length=a.length+b.length/\bJ aD s.1/\0<=s.2.1/\s.2.1<aD/\val aD s.1+aD^(n+m)*s.2.1=val aD (a.take n)*val aD b+aD^n*x*val aD (b.take m)/\∀k,n+b.length<=k->(hk:k<s.1.length)->s.1[k]=0) (λs=>b.length-s.2.2.toNat)
     ⟨0,rfl,fI _,ho,hB,by simp,(by decide:(0:Int)<aD),by simpa[val]using hv,hz⟩ ?_) ?_
   . rintro⟨out1,carry,j⟩ ⟨m,rfl,hm,ho1,hB1,c0,c1,hv1,hz1⟩;dsimp only[E5]at*;refine bB (λh1=>?_) (λh1=>aZ ?_)
     . refine aJ (dt (by omega)) ?_;have hi:iw ((n:Int)+(m:Int))=((n+m:Nat):Int):=by rw[bU]<;>omega
       have hy:=hb.get (n:=m) (by omega);have ey:b.getD m 0=b[m]'(by omega):=by rw[cL,cy (by omega)];rfl
       generalize b[m]'(by omega)=y at*;refine aJ (ik (n:=n+m) hi (by omega)) (aJ (ik (n:=n+m) hi (by omega)) (aJ (eH (n:=n+m) hi (by omega)) (aZ ?_)));have hz':=hB1.get (n:=n+m) (by omega);have hvs:=λy'=>vE (B:=aD) (l:=out1) (n:=n+m) (y:=y') (by omega);generalize out1[n+m]'(by omega)=z at*;have hxy:0<=x*y/\x*y<=4294967295*4294967295:=by
        refine⟨fb hx.1 hy.1,?_⟩;exact oH (by simp only[aD]at hx;omega) (by simp only[aD]at hy;omega) hy.1 (by decide)
       generalize exy:x*y=xy at*;have e1:uw (carry+uw (uw (uw x*uw y)+uw z))=carry+xy+z:=by
        simp only[aD]at*;rw[show uw x=x by rw[gD];omega,show uw y=y by rw[gD];omega,exy,gD,gD,gD,gD];omega
       rw[e1,yo,gZ];simp only[aD]at hz' c1;refine⟨⟨m+1,?_,by omega,by simp;omega,hB1.set (by simp only[aD];omega),?_,?_,?_,?_⟩,?_⟩
       . show iw ((m:Int)+1)=_;rw[bU]<;>omega
       . show 0<=(carry+xy+z)/4294967296;omega
       . show(carry+xy+z)/4294967296<aD;simp only[aD];omega
       . show val aD (out1.set (n+m) ((carry+xy+z)%4294967296))+aD^(n+(m+1))*((carry+xy+z)/4294967296)=_;rw[hvs,gi,ey,<-qO,fR];have:=kI (carry+xy+z) 4294967296;have hw:aD=4294967296:=rfl;have hp:aD^(n+m)=aD^n*aD^m:=kH ..;grind
       . intro k hk hk';rw[IT (by omega)];exact hz1 k hk (by simpa using hk')
       . show b.length-(iw ((m:Int)+1)).toNat<b.length-((m:Int)).toNat;rw[bU]<;>omega
     . have hmL:m=b.length:=by omega
       subst hmL;rw[fx (bQ _)]at hv1;exact⟨hB1,ho1,c0,c1,hv1,hz1⟩
   . rintro⟨out2,carry⟩ ⟨hB2,ho2,c0,c1,hv2,hz2⟩;dsimp only at*;have hi:iw ((n:Int)+(b.length:Int))=((n+b.length:Nat):Int):=by rw[bU]<;>omega
     refine aJ (ik hi (by omega)) (aJ (eH hi (by omega)) (aZ ?_));have e1:eL carry=carry:=by rw[gZ];simp only[aD]at c1;omega
     rw[e1];refine⟨⟨n+1,?_,by omega,by simp;omega,hB2.set ⟨c0,c1⟩,?_,?_⟩,?_⟩
     . show iw ((n:Int)+1)=_;rw[bU]<;>omega
     . show val aD (out2.set (n+b.length) carry)=_;rw[vE (by omega),hz2 _ (bQ _) (by omega),gi,ex];grind
     . intro k hk hk';rw[IT (by omega)];exact hz2 k (by omega) (by simpa using hk')
     . show a.length-(iw ((n:Int)+1)).toNat<a.length-((n:Int)).toNat;rw[bU]<;>omega
 . have hnL:n=a.length:=by omega
   subst hnL;rw[fx (bQ _)]at hv;exact⟨hB,hv,ho⟩
theorem Ks{a b:aC}:bv a*bv b=if(!(a.bR==b.bR))=true then-(val aD a.aR*val aD b.aR)else val aD a.aR*val aD b.aR:=by
 unfold bv;cases a.bR<;>cases b.bR<;>simp[mh,mi]
theorem Um{a b:aC}(ha:bJ aD a.aR)(hb:bJ aD b.aR)(hl:a.aR.length<=8796093022208)(hl':b.aR.length<=8796093022208):
 Tm (λN=>lj N a b) (λr=>Is r (bv a*bv b)/\r.aR.length<=a.aR.length+b.aR.length):=by
 unfold lj;refine Tm.bind (Qq ha hb (by omega) (by omega)) ?_;rintro s ⟨hs,sv,sl⟩;refine Tm.bind (ni hs (by omega)) (λr h=>aZ ⟨?_,by omega⟩);rw[Ks,<-sv];exact h.1
theorem Sq{a b:aC}(ha:bJ aD a.aR)(hb:bJ aD b.aR)(hl:a.aR.length<=35184372088832)(hl':b.aR.length<=35184372088832):Tm (λN=>jx N a b) (λr=>r=bZ (bv a) (bv b)):=by
 unfold jx;refine Tm.bind (qm ha hl) ?_;rintro x ⟨hx,hxl⟩;refine Tm.bind (qm hb hl') ?_;rintro y ⟨hy,hyl⟩;have hxv:=hx.dg.val;have hyv:=hy.dg.val;refine Tm.bind (Q:=(·=(x.bR&&!y.bR))) (bB (λh=>aZ ?_) (λh=>aZ ?_)) ?_
 . revert h;cases x.bR<;>cases y.bR<;>simp
 . revert h;cases x.bR<;>cases y.bR<;>simp
 rintro _ rfl;have c1:=B2 (a:=y.aR) (b:=x.aR) hy.dg.bT hx.dg.bT hy.dg.fP hx.dg.fP (by omega) (by omega);have c2:=B2 (a:=x.aR) (b:=y.aR) hx.dg.bT hy.dg.bT hx.dg.fP hy.dg.fP (by omega) (by omega);rw[hxv,hyv]at c1 c2;have n1:=hx.neg;have n2:=hy.neg;by_cases p:bv a<0<;>by_cases q:bv b<0
 . simp only[p,q,decide_true]at n1 n2;simp only[n1,n2];refine cE (by simp) (cE (by simp) (cR (by simp) (Tm.bind c1 (λr h=>aZ ?_))));rw[h];unfold bZ;split<;>split<;>(try split)<;>omega
 . simp only[p,q,decide_true,decide_false]at n1 n2;simp only[n1,n2];refine cR (by simp) (aZ ?_);unfold bZ;rw[bA (by omega)]
 . simp only[p,q,decide_true,decide_false]at n1 n2;simp only[n1,n2];refine cE (by simp) (cR (by simp) (aZ ?_));unfold bZ;rw[aQ (by omega),bA (by omega)]
 . simp only[p,q,decide_false]at n1 n2;simp only[n1,n2];refine cE (by simp) (cE (by simp) (cE (by simp) (Tm.bind c2 (λr h=>aZ ?_))));rw[h];unfold bZ;split<;>split<;>(try split)<;>omega
open Go Go.X
abbrev bC:Int:=65536
theorem oS:(1:Int)<bC:=by decide
theorem CQ{x:Int}(h:0<=x):Int.tmod x 65536=x%65536:=XT h
theorem C2{x:Int}(h:0<=x):Int.tdiv x 65536=x/65536:=XU h
theorem xb{l:List Int}(hd:bJ bC l)(hl:l.length<=35184372088832):Tm (λN=>pG N l) (λr=>Dg bC r (val bC l)/\r.length<=l.length):=by
 unfold pG;refine Tm.bind (Tm.loop (λs:List Int=>∃n:Nat,n<=l.length/\s=l.take n/\(∀j,(hj:j<l.length)->n<=j->l[j]=0)) (λs=>s.length) (Q:=λr=>Dg bC r (val bC l)/\r.length<=l.length) ⟨l.length,bQ _,by simp,λj h1 h2=>bX h1 (by omega)⟩ ?_) (λr h=>aZ h);rintro _ ⟨n,hn,rfl,h0⟩;have hlen:(l.take n).length=n:=by simp;omega
 dsimp only[Fv];rcases ij n with rfl|hk0
 . refine Tm.bind (Q:=(·=false)) (cE (by simp) (aZ rfl)) ?_;rintro _ rfl;exact cE (by simp) (aZ ⟨Hu hn hd h0 (.inl rfl),by simp⟩)
 . refine Tm.bind (Q:=(·=decide (l[n-1]=0))) (cR (by omega) (aJ (ik (n:=n-1) (by rw[bU]<;>omega) (by omega)) (aZ ?_))) ?_
   . rw[PV]
   rintro _ rfl;by_cases h:l[n-1]=0
   . refine cR (by simpa using h) (aJ (rQ (m:=0) (n:=n-1) rfl (by rw[bU]<;>omega) (by omega) (by omega)) (aZ ⟨⟨n-1,by omega,?_,λj h1 h2=>?_⟩,?_⟩))
     . simp[IB]
     . rcases Nat.eq_or_lt_of_le h2 with rfl|h3
       . exact h
       . exact h0 j h1 (by omega)
     . simp;omega
   . exact cE (by simpa using h) (aZ ⟨Hu hn hd h0 (.inr ⟨by omega,h⟩),by omega⟩)
theorem ql{x:aC}(hd:bJ aD x.aR)(hl:x.aR.length<=8796093022208):Tm (λN=>mO N x) (λr=>Dg bC r (val aD x.aR)/\r.length<=2*x.aR.length):=by
 unfold mO;refine Tm.bind (Tm.loop (λs:List Int×Int=>∃n:Nat,s.2=n/\n<=x.aR.length/\s.1.length=2*n/\bJ bC s.1/\val bC s.1=val aD (x.aR.take n)) (λs=>x.aR.length-s.2.toNat) (Q:=λr=>bJ bC r/\val bC r=val aD x.aR/\r.length=2*x.aR.length) ⟨0,rfl,fI _,rfl,.nil,by simp[val]⟩ ?_) ?_
 . rintro⟨l,i⟩ ⟨n,rfl,hn,ho,hB,hv⟩;dsimp only[E2]at*;refine bB (λh=>?_) (λh=>aZ ?_)
   . refine aJ (dt (by omega)) (aJ (dt (by omega)) ?_);have hx:=hd.get (n:=n) (by omega);have ex:x.aR.getD n 0=x.aR[n]'(by omega):=by rw[cL,cy (by omega)];rfl
     generalize x.aR[n]'(by omega)=y at*;simp only[aD]at hx;rw[CQ hx.1,C2 hx.1,gZ];have e1:iw (y%65536)=y%65536:=by rw[bU]<;>omega
     have e2:iw (y/65536%4294967296)=y/65536:=by rw[bU]<;>omega
     rw[e1,e2];refine aJ (eb (by simp only[cN,dY];omega) (by decide)) (aZ ⟨⟨n+1,by dsimp only;rw[bU]<;>omega,by omega,by simp;omega,hB.append (.cons (B:=65536) (by omega) (.cons (by omega) .nil)),?_⟩,?_⟩)
     . show val bC (l++[y%65536,y/65536])=_;rw[qu,gi,ho,hv,ex,Int.pow_mul];have:val bC [y%65536,y/65536]=y:=by simp only[val,bC];omega
       rw[this];rfl
     . dsimp only;rw[bU]<;>omega
   . have hnL:n=x.aR.length:=by omega
     subst hnL;rw[fx (bQ _)]at hv;exact⟨hB,hv,ho⟩
 . rintro r ⟨h1,h2,h3⟩;exact Tm.bind (xb h1 (by omega)) (λr' h=>aZ ⟨h2▸h.1,by omega⟩)
theorem Tk{l:List Int}{d:Int}(h:d≠0):gC (l++[d]):=by simp[gC,h]
theorem pQ{neg:Bool}{l:List Int}(hd:bJ bC l)(hl:l.length<=17592186044416):Tm (λN=>mK N neg l) (λr=>Is r (if neg=true then-val bC l else val bC l)/\r.aR.length<=(l.length+1)/2):=by
 unfold mK;refine Tm.bind (xb hd (by omega)) ?_;rintro t ⟨ht,htl⟩;have h0:=ht.xI (by decide);have hz:=ht.zero (by decide);refine Tm.bind (Q:=(·=(neg&&decide (val bC l≠0)))) (bB (λh=>aZ ?_) (λh=>aZ ?_)) ?_
 . rw[h];by_cases e:t=[]
   . have:=hz.1 e;simp[e,this]
   . have:val bC l≠0:=λe'=>e (hz.2 e');have:=sL.2 e;simp_all
 . simp at h;simp[h]
 rintro _ rfl;refine Tm.bind (Tm.loop (λs:List Int×Int=>∃n:Nat,s.2=((2*n:Nat):Int)/\2*n<=t.length+1/\s.1.length=n/\bJ aD s.1/\val aD s.1=val bC (t.take (2*n))/\(t.length<=2*n->gC s.1)) (λs=>t.length+2-s.2.toNat) (Q:=λr=>Dg aD r (val bC t)/\r.length<=(t.length+1)/2)
  ⟨0,rfl,by omega,rfl,.nil,by simp[val],λ_=>JA⟩ ?_) ?_
 . rintro⟨ds,i⟩ ⟨n,rfl,hn,ho,hB,hv,hN⟩;dsimp only[Eg]at*;refine bB (λh=>?_) (λh=>aZ ?_)
   . refine aJ (dt (by omega)) ?_;have hx:=ht.bT.get (n:=2*n) (by omega);have ex:t.getD (2*n) 0=t[2*n]'(by omega):=by rw[cL,cy (by omega)];rfl
     have hlast:t.length=2*n+1->t[2*n]'(by omega)≠0:=λe h'=>ht.fP (by rw[IL,e,PJ,cy (by omega),h']);generalize t[2*n]'(by omega)=x at*;have hi:iw (((2*n:Nat):Int)+1)=((2*n+1:Nat):Int):=by rw[bU]<;>omega
     refine Tm.bind (Q:=λd=>d=x+65536*t.getD (2*n+1) 0/\(t.length<=2*n+2->d≠0)) ?_ ?_
     . refine bB (λh1=>?_) (λh1=>aZ ?_)
       . refine aJ (ik hi (by omega)) (aZ ?_);have hy:=ht.bT.get (n:=2*n+1) (by omega);have ey:t.getD (2*n+1) 0=t[2*n+1]'(by omega):=by rw[cL,cy (by omega)];rfl
         have hlast':t.length=2*n+2->t[2*n+1]'(by omega)≠0:=λe h'=>ht.fP (by rw[IL,e,show 2*n+2-1=2*n+1 by omega,cy (by omega),h']);rw[ey];generalize t[2*n+1]'(by omega)=y at*;simp only[bC]at hx hy;have e1:eL (eL x+eL (65536*eL y))=x+65536*y:=by
          rw[gZ,gZ,gZ,gZ];omega
         rw[e1];exact⟨rfl,λh'=>by have:=hlast' (by omega);omega⟩
       . have ey:t.getD (2*n+1) 0=0:=by rw[cL,gm (by omega)];rfl
         rw[ey];simp only[bC]at hx;have:=hlast (by omega);rw[gZ];exact⟨by omega,λ_=>by omega⟩
     . rintro _ ⟨rfl,hd0⟩;have hy:=ht.bT.getD (by decide) (2*n+1);have et:val bC (t.take (2*(n+1)))=val bC (t.take (2*n))+bC^(2*n)*(x+65536*t.getD (2*n+1) 0):=by
        rw[show 2*(n+1)=2*n+1+1 by omega,gi,gi,ex,fR];have hw:bC=65536:=rfl;grind
       generalize t.getD (2*n+1) 0=y at*;simp only[bC]at hx hy;refine aJ (eb (by simp only[cN,dY];omega) (by decide)) (aZ ⟨⟨n+1,by dsimp only;rw[bU]<;>omega,by omega,by simp;omega,hB.append (.cons (B:=4294967296) (by omega) .nil),?_,λh'=>Tk (hd0 (by omega))⟩,?_⟩)
       . show val aD (ds++[x+65536*y])=_;rw[qu,et,ho,hv,Int.pow_mul];have hw:bC^2=aD:=by decide
         rw[hw];simp only[val];simp
       . dsimp only;rw[bU]<;>omega
   . rw[fx (by omega)]at hv;exact⟨⟨hB,hN (by omega),hv⟩,by omega⟩
 . rintro r ⟨hr,hrl⟩;refine aZ ⟨⟨?_,?_⟩,bV (show r.length<=_ from hrl) (Nat.div_le_div_right (by omega))⟩
   . have e:(((if neg=true then-val bC l else val bC l):Int).natAbs:Int)=val bC t:=by rw[ht.val];cases neg<;>simp<;>omega
     rw[e];exact hr
   . show(neg&&decide (val bC l≠0))=_;by_cases e:val bC l=0
     . cases neg<;>simp[e]
     . cases neg
       . simp;omega
       . have:-val bC l<0:=by omega
         simp[e,this];omega
theorem OE{x:aC}(hd:bJ aD x.aR)(hl:x.aR.length<=8796093022208):Tm (λN=>zx N x) (λr=>Is r (bv x)/\r.aR.length<=x.aR.length):=by
 unfold zx;refine Tm.bind (ql hd hl) ?_;rintro h ⟨hh,hhl⟩;refine Tm.bind (pQ hh.bT (by omega)) (λr hr=>aZ ⟨?_,by omega⟩);have:=hr.1;rw[hh.val]at this;exact this
theorem zZ{x:aC}(hd:bJ aD x.aR)(hl:x.aR.length<=8796093022208):Tm (λN=>sa N x) (λr=>Is r (-bv x)/\r.aR.length<=x.aR.length):=by
 unfold sa;refine Tm.bind (ql hd hl) ?_;rintro h ⟨hh,hhl⟩;refine Tm.bind (pQ hh.bT (by omega)) (λr hr=>aZ ⟨?_,by omega⟩);have:=hr.1;rw[hh.val]at this;unfold bv;cases hx:x.bR<;>rw[hx]at this<;>simpa using this
theorem mS{x:aC}(hd:bJ aD x.aR)(hl:x.aR.length<=8796093022208):Tm (λN=>jP N x) (λr=>r=bZ (bv x) 0):=by
 unfold jP;refine Tm.bind (ql hd hl) ?_;rintro h ⟨hh,-⟩;have hz:=hh.zero (by decide);have h0:=hh.xI (by decide);unfold bv;refine bB (λh1=>aZ ?_) (λh1=>?_)
 . have:=hz.1 (nD.1 (by omega));unfold bZ;rw[this];simp
 . have:val aD x.aR≠0:=λe=>h1 (by rw[hz.2 e];rfl);refine bB (λh'=>aZ ?_) (λh'=>aZ ?_)
   . rw[bA h'];unfold bZ;rw[bA (by omega)]
   . rw[aQ h'];unfold bZ;rw[aQ (by omega),bA (by omega)]
theorem ML{a b:List Int}(ha:bJ bC a)(hb:bJ bC b)(na:gC a)(nb:gC b)(hl:a.length<=35184372088832)(hl':b.length<=35184372088832):Tm (λN=>vF N a b) (λr=>r=bZ (val bC a) (val bC b)):=by
 unfold vF;refine bB (λh=>?_) (λh=>?_)
 . refine bB (λh'=>aZ ?_) (λh'=>aZ ?_)
   . have:=nU oS ha hb nb (by omega);unfold bZ;rw[bA this]
   . have:=nU oS hb ha na (by omega);unfold bZ;rw[aQ (by omega),bA this]
 . have hle:a.length=b.length:=by omega
   refine Tm.bind (Q:=λr:Sum Unit Int=>(match r with|.inl _=>0|.inr z=>z)=bZ (val bC a) (val bC b))
    (Tm.loop (λi:Int=>∃n:Nat,i=(n:Int)-1/\n<=a.length/\a.drop n=b.drop n) (λi=>(i+1).toNat) ⟨a.length,by rw[bU]<;>omega,bQ _,by rw[Af (bQ _),Af (by omega)]⟩ ?_) ?_
   . rintro _ ⟨n,rfl,hn,hd⟩;dsimp only[Hd];refine bB (λh1=>?_) (λh1=>?_)
     . have hna:n-1<a.length:=by omega
       have hnb:n-1<b.length:=by omega
       refine aJ (ik (n:=n-1) (by omega) hna) (aJ (ik (n:=n-1) (by omega) hnb) (bB (λh2=>?_) (λh2=>?_)))
       . have:=Cd oS ha hb hle hna (by rw[show n-1+1=n by omega];exact hd) h2;refine aZ ?_;show(-1:Int)=_;unfold bZ;rw[bA this]
       . refine aJ (ik (n:=n-1) (by omega) hna) (aJ (ik (n:=n-1) (by omega) hnb) (bB (λh3=>?_) (λh3=>?_)))
         . have:=Cd oS hb ha hle.symm hnb (by rw[show n-1+1=n by omega];exact hd.symm) h3;refine aZ ?_;show(1:Int)=_;unfold bZ;rw[aQ (by omega),bA this]
         . refine aZ ⟨⟨n-1,by rw[bU]<;>omega,by omega,?_⟩,?_⟩
           . rw[gn hna,gn hnb,show n-1+1=n by omega,hd,show a[n-1]=b[n-1] by omega]
           . show(iw ((n:Int)-1-1)+1).toNat<((n:Int)-1+1).toNat;rw[bU]<;>omega
     . have:n=0:=by omega
       subst this;refine aZ ?_;show(0:Int)=_;have:a=b:=by simpa using hd
       rw[this];unfold bZ;rw[aQ (by omega),aQ (by omega)]
   . rintro(_|z) h<;>exact aZ h
theorem gK{l:List Int}{n:Nat}(h:n<l.length):l.getD n 0=l[n]:=by rw[cL,cy h];rfl
theorem nO{l:List Int}{n:Nat}(h:l.length<=n):l.getD n 0=0:=by rw[cL,gm h];rfl
theorem lT{l:List Int}{n:Nat}(h:l.length<=n):l.take n=l:=fx h
theorem CT{a b:List Int}(ha:bJ bC a)(hb:bJ bC b)(hl:a.length<=8796093022208)(hl':b.length<=8796093022208):Tm (λN=>qK N a b) (λr=>Dg bC r (val bC a+val bC b)/\r.length<=max a.length b.length+1):=by
 unfold qK;generalize hL:max a.length b.length=L;refine Tm.bind (Q:=λr=>bJ bC r/\val bC r=val bC a+val bC b/\r.length<=L+1)
  (Tm.loop (λs:List Int×Int×Int=>∃n:Nat,s.2.2=n/\n<=L+1/\s.1.length=n/\bJ bC s.1/\0<=s.2.1/\s.2.1<=1/\(L<n->s.2.1=0)/\val bC s.1+bC^n*s.2.1=val bC (a.take n)+val bC (b.take n)) (λs=>L+1-s.2.2.toNat)
   ⟨0,rfl,fI _,rfl,.nil,by simp,by simp,λ_=>rfl,by simp[val]⟩ ?_) ?_
 . rintro⟨out,carry,i⟩ ⟨n,rfl,hn,ho,hB,h0,h1,hc,hv⟩;dsimp only[Io]at*;refine Tm.bind (Q:=(·=decide (n<L\/0<carry))) (bB (λh=>aZ ?_) (λh=>bB (λh'=>aZ ?_) (λh'=>aZ ?_))) ?_
   . have:n<L:=by omega
     simp[this]
   . have:n<L:=by omega
     simp[this]
   . have:¬n<L:=by omega
     simp[this]
   rintro _ rfl;refine bB (λh=>?_) (λh=>aZ ?_)
   . have h:=jf h;have hx:=ha.getD (by decide) n;have hy:=hb.getD (by decide) n;simp only[bC]at hx hy;refine Tm.bind (Q:=(·=carry+a.getD n 0)) (bB (λh2=>?_) (λh2=>aZ ?_)) ?_
     . rw[gK (l:=a) (by omega)]at*;refine aJ (dt (by omega)) (aZ ?_);rw[bU]<;>omega
     . rw[nO (by omega)];omega
     rintro _ rfl;refine Tm.bind (Q:=(·=carry+a.getD n 0+b.getD n 0)) (bB (λh2=>?_) (λh2=>aZ ?_)) ?_
     . rw[gK (l:=b) (by omega)]at*;refine aJ (dt (by omega)) (aZ ?_);rw[bU]<;>omega
     . rw[nO (l:=b) (by omega)];omega
     rintro _ rfl;have hz:L<=n->a.getD n 0=0/\b.getD n 0=0:=λh=>⟨nO (by omega),nO (by omega)⟩;generalize ex:a.getD n 0=x at*;generalize ey:b.getD n 0=y at*;rw[CQ (by omega),C2 (by omega)];refine aJ (eb (by simp only[cN,dY];omega) (by decide)) (aZ ⟨⟨n+1,?_,by omega,by simp;omega,hB.append (.cons (B:=65536) (by omega) .nil),?_,?_,?_,?_⟩,?_⟩)
     . show iw ((n:Int)+1)=_;rw[bU]<;>omega
     . show 0<=iw ((carry+x+y)/65536);rw[bU]<;>omega
     . show iw ((carry+x+y)/65536)<=1;rw[bU]<;>omega
     . intro h';show iw ((carry+x+y)/65536)=0;have:=hz (by omega);rw[bU]<;>omega
     . show val bC (out++[(carry+x+y)%65536])+bC^(n+1)*iw ((carry+x+y)/65536)=_;rw[bU (by omega) (by omega),qu,gi,gi,ex,ey,ho,fR];have:=kI (carry+x+y) 65536;have hw:bC=65536:=rfl;simp only[val];grind
     . show L+1-(iw ((n:Int)+1)).toNat<L+1-((n:Int)).toNat;rw[bU]<;>omega
   . have h:¬(n<L\/0<carry):=λe=>h (jg e);rw[lT (by omega),lT (by omega),show carry=0 by omega]at hv;exact⟨hB,by show val bC out=_;omega,by show out.length<=_;omega⟩
 . rintro r ⟨h1,h2,h3⟩;exact Tm.bind (xb h1 (by omega)) (λr' h=>aZ ⟨h2▸h.1,by omega⟩)
theorem Fq{a b:List Int}(ha:bJ bC a)(hb:bJ bC b)(hl:a.length<=8796093022208)(hl':b.length<=a.length)(hv:val bC b<=val bC a):Tm (λN=>uE N a b) (λr=>Dg bC r (val bC a-val bC b)/\r.length<=a.length):=by
 unfold uE;generalize hL:a.length=L at*;refine Tm.bind (Q:=λr=>bJ bC r/\val bC r=val bC a-val bC b/\r.length=L)
  (Tm.loop (λs:List Int×Int×Int=>∃n:Nat,s.2.2=n/\n<=L/\s.1.length=n/\bJ bC s.1/\0<=s.2.1/\s.2.1<=1/\val bC s.1=val bC (a.take n)-val bC (b.take n)+bC^n*s.2.1) (λs=>L-s.2.2.toNat)
   ⟨0,rfl,fI _,rfl,.nil,by simp,by simp,by simp[val]⟩ ?_) ?_
 . rintro⟨out,borrow,i⟩ ⟨n,rfl,hn,ho,hB,h0,h1,hv'⟩;dsimp only[Fy]at*;refine bB (λh=>?_) (λh=>aZ ?_)
   . have hx:=ha.getD (by decide) n;have hy:=hb.getD (by decide) n;simp only[bC]at hx hy;refine aJ (dt (by omega)) ?_;rw[<-gK (by omega)];refine Tm.bind (Q:=(·=a.getD n 0-borrow-b.getD n 0)) (bB (λh2=>?_) (λh2=>aZ ?_)) ?_
     . rw[gK (l:=b) (by omega)]at*;refine aJ (dt (by omega)) (aZ ?_);rw[bU,bU]<;>(try rw[bU])<;>omega
     . rw[nO (l:=b) (by omega),bU]<;>omega
     rintro _ rfl;generalize ex:a.getD n 0=x at*;generalize ey:b.getD n 0=y at*;refine Tm.bind (Q:=λp:Int×Int=>0<=p.1/\p.1<=1/\0<=p.2/\p.2<65536/\p.2=x-borrow-y+65536*p.1) (bB (λh2=>aZ ?_) (λh2=>aZ ?_)) ?_
     . dsimp only;rw[bU]<;>omega
     . dsimp only;omega
     rintro⟨bo,d⟩ ⟨g1,g2,g3,g4,g5⟩;dsimp only at*;refine aJ (eb (by simp only[cN,dY];omega) (by decide)) (aZ ⟨⟨n+1,?_,by omega,by simp;omega,hB.append (.cons (B:=65536) (by omega) .nil),g1,g2,?_⟩,?_⟩)
     . show iw ((n:Int)+1)=_;rw[bU]<;>omega
     . show val bC (out++[d])=_;rw[qu,gi,gi,ex,ey,ho,fR];have hw:bC=65536:=rfl;simp only[val];grind
     . show L-(iw ((n:Int)+1)).toNat<L-((n:Int)).toNat;rw[bU]<;>omega
   . have hnL:n=L:=by omega
     subst hnL;rw[lT (by omega),lT (by omega)]at hv';refine⟨hB,?_,ho⟩;show val bC out=_;have l1:=iV (by decide) hB;rw[ho]at l1;have hc:borrow=0\/borrow=1:=by omega
     rcases hc with rfl|rfl
     . omega
     . simp only[bC]at*;omega
 . rintro r ⟨h1,h2,h3⟩;exact Tm.bind (xb h1 (by omega)) (λr' h=>aZ ⟨h2▸h.1,by omega⟩)
theorem OX{a b:Int}:bZ a b≥0↔b<=a:=by unfold bZ;(repeat' split)<;>omega
theorem zn{a b:aC}(ha:bJ aD a.aR)(hb:bJ aD b.aR)(hl:a.aR.length<=2199023255552)(hl':b.aR.length<=2199023255552):
 Tm (λN=>p9 N a b) (λr=>Is r (bv a+bv b)/\r.aR.length<=max a.aR.length b.aR.length+1):=by
 unfold p9;refine Tm.bind (ql ha (by omega)) ?_;rintro x ⟨hx,hxl⟩;refine Tm.bind (ql hb (by omega)) ?_;rintro y ⟨hy,hyl⟩;refine bB (λh=>?_) (λh=>?_)
 . have hn:a.bR=b.bR:=by simpa using h
   refine Tm.bind (CT hx.bT hy.bT (by omega) (by omega)) ?_;rintro s ⟨hs,sl⟩;refine Tm.bind (pQ hs.bT (by omega)) (λr hr=>aZ ⟨?_,by omega⟩);have hr:=hr.1;rw[hs.val,hx.val,hy.val]at hr;unfold bv;rw[<-hn];cases e:a.bR<;>rw[e]at hr
   . simpa using hr
   . simp only[if_true]at hr⊢;rwa[show-(val aD a.aR+val aD b.aR)=-val aD a.aR+-val aD b.aR by omega]at hr
 . have hn:¬a.bR=b.bR:=by simpa using h
   refine Tm.bind (ML hx.bT hy.bT hx.fP hy.fP (by omega) (by omega)) ?_;rintro c rfl;refine bB (λhc=>?_) (λhc=>?_)
   . have hge:=OX.1 hc;have hle:y.length<=x.length:=by
      rcases cG x.length y.length with h'|h'
      . have:=nU oS hx.bT hy.bT hy.fP h';omega
      . exact h'
     refine Tm.bind (Fq hx.bT hy.bT (by omega) hle hge) ?_;rintro s ⟨hs,sl⟩;refine Tm.bind (pQ hs.bT (by omega)) (λr hr=>aZ ⟨?_,by omega⟩);have hr:=hr.1;rw[hs.val,hx.val,hy.val]at hr;unfold bv;cases e:a.bR<;>cases e':b.bR<;>rw[e]at hr hn<;>rw[e']at hn
     . exact bX rfl hn
     . simpa[IS]using hr
     . simp only[if_true,nB,if_false]at hr⊢;rwa[show-(val aD a.aR-val aD b.aR)=-val aD a.aR+val aD b.aR by omega]at hr
     . exact bX rfl hn
   . have hlt:¬val bC y<=val bC x:=λe=>hc (OX.2 e);have hle:x.length<=y.length:=by
      rcases cG y.length x.length with h'|h'
      . have:=nU oS hy.bT hx.bT hx.fP h';omega
      . exact h'
     refine Tm.bind (Fq hy.bT hx.bT (by omega) hle (by omega)) ?_;rintro s ⟨hs,sl⟩;refine Tm.bind (pQ hs.bT (by omega)) (λr hr=>aZ ⟨?_,by omega⟩);have hr:=hr.1;rw[hs.val,hx.val,hy.val]at hr;unfold bv;cases e:a.bR<;>cases e':b.bR<;>rw[e']at hr hn<;>rw[e]at hn
     . exact bX rfl hn
     . simp only[if_true,nB,if_false]at hr⊢;rwa[show-(val aD b.aR-val aD a.aR)=val aD a.aR+-val aD b.aR by omega]at hr
     . simp only[if_true,nB,if_false]at hr⊢;rwa[show val aD b.aR-val aD a.aR=-val aD a.aR+val aD b.aR by omega]at hr
     . exact bX rfl hn
theorem GH{a b:aC}(ha:bJ aD a.aR)(hb:bJ aD b.aR)(hl:a.aR.length<=2199023255552)(hl':b.aR.length<=2199023255552):
 Tm (λN=>qB N a b) (λr=>Is r (bv a-bv b)/\r.aR.length<=max a.aR.length b.aR.length+1):=by
 unfold qB;refine Tm.bind (zZ hb (by omega)) ?_;rintro y ⟨hy,hyl⟩;refine Tm.bind (zn ha hy.dg.bT (by omega) (by omega)) (λr h=>aZ ⟨?_,by omega⟩);have:=h.1;rwa[hy.bv,<-IS]at this
theorem Qi{a:List Int}{d:Int}(ha:bJ bC a)(h0:0<=d)(h1:d<bC)(hl:a.length<=8796093022208):Tm (λN=>yA N a d) (λr=>Dg bC r (val bC a*d)/\r.length<=a.length+1):=by
 unfold yA;refine Tm.bind (Q:=λr=>bJ bC r/\val bC r=val bC a*d/\r.length<=a.length+1)
  (Tm.loop (λs:List Int×Int×Int=>∃n:Nat,s.2.2=n/\n<=a.length+1/\s.1.length=n/\bJ bC s.1/\0<=s.2.1/\s.2.1<bC/\(a.length<n->s.2.1=0)/\val bC s.1+bC^n*s.2.1=val bC (a.take n)*d) (λs=>a.length+1-s.2.2.toNat)
   ⟨0,rfl,fI _,rfl,.nil,by simp,(by decide:(0:Int)<bC),λ_=>rfl,by simp[val]⟩ ?_) ?_
 . rintro⟨out,carry,i⟩ ⟨n,rfl,hn,ho,hB,c0,c1,hc,hv⟩;dsimp only[FM]at*;refine Tm.bind (Q:=(·=decide (n<a.length\/0<carry))) (bB (λh=>aZ ?_) (λh=>aZ ?_)) ?_
   . have:n<a.length:=by omega
     simp[this]
   . have:¬n<a.length:=by omega
     simp[this]
   rintro _ rfl;refine bB (λh=>?_) (λh=>aZ ?_)
   . have h:=jf h;have hx:=ha.getD (by decide) n;simp only[bC]at hx h1 c1;have hm:0<=a.getD n 0*d/\a.getD n 0*d<=65535*65535:=⟨fb hx.1 h0,oH (by omega) (by omega) h0 (by decide)⟩;refine Tm.bind (Q:=(·=carry+a.getD n 0*d)) (bB (λh2=>?_) (λh2=>aZ ?_)) ?_
     . rw[gK (l:=a) (by omega)]at*;refine aJ (dt (by omega)) (aZ ?_);rw[bU (z:=_*_) (by omega) (by omega),bU (by omega) (by omega)]
     . rw[nO (by omega)];simp
     rintro _ rfl;have hz:a.length<=n->a.getD n 0=0:=λh=>nO (by omega);have hz':a.length<=n->a.getD n 0*d=0:=λh=>by rw[hz h];simp
     generalize exd:a.getD n 0*d=xd at*;rw[CQ (by omega),C2 (by omega)];refine aJ (eb (by simp only[cN,dY];omega) (by decide)) (aZ ⟨⟨n+1,?_,by omega,by simp;omega,hB.append (.cons (B:=65536) (by omega) .nil),?_,?_,?_,?_⟩,?_⟩)
     . show iw ((n:Int)+1)=_;rw[bU]<;>omega
     . show 0<=iw ((carry+xd)/65536);rw[bU]<;>omega
     . show iw ((carry+xd)/65536)<65536;rw[bU]<;>omega
     . intro h';show iw ((carry+xd)/65536)=0;have:=hz' (by omega);rw[bU]<;>omega
     . show val bC (out++[(carry+xd)%65536])+bC^(n+1)*iw ((carry+xd)/65536)=_;rw[bU (by omega) (by omega),qu,gi,ho,fR];have:=kI (carry+xd) 65536;have hw:bC=65536:=rfl;simp only[val];grind
     . show a.length+1-(iw ((n:Int)+1)).toNat<a.length+1-((n:Int)).toNat;rw[bU]<;>omega
   . have h:¬(n<a.length\/0<carry):=λe=>h (jg e);rw[lT (by omega),show carry=0 by omega]at hv;exact⟨hB,by show val bC out=_;omega,by show out.length<=_;omega⟩
 . rintro r ⟨h1,h2,h3⟩;exact Tm.bind (xb h1 (by omega)) (λr' h=>aZ ⟨h2▸h.1,by omega⟩)
theorem Dr{a b:aC}(ha:bJ aD a.aR)(hb:bJ aD b.aR)(hl:a.aR.length<=1099511627776)(hl':b.aR.length<=1099511627776):
 Tm (λN=>oU N a b) (λr=>Is r (bv a*bv b)/\r.aR.length<=a.aR.length+b.aR.length):=by
 unfold oU;refine Tm.bind (ql ha (by omega)) ?_;rintro x ⟨hx,hxl⟩;refine Tm.bind (ql hb (by omega)) ?_;rintro y ⟨hy,hyl⟩;refine Tm.bind (Tm.loop (λs:List Int×Int=>∃n:Nat,s.2=(n:Int)-1/\n<=y.length/\Dg bC s.1 (val bC x*val bC (y.drop n))/\s.1.length<=x.length+(y.length-n)) (λs=>(s.2+1).toNat) (Q:=λr=>Dg bC r (val bC x*val bC y)/\r.length<=x.length+y.length)
  ⟨y.length,by dsimp only;rw[bU]<;>omega,bQ _,by simpa[val]using Dg.nil,by simp⟩ ?_) ?_
 . rintro⟨sum,i⟩ ⟨n,rfl,hn,hs,hsl⟩;dsimp only[F8]at*;refine bB (λh=>?_) (λh=>aZ ?_)
   . refine aJ (eb (by simp only[cN,dY];omega) (by decide)) ?_;have hny:n-1<y.length:=by omega
     refine aJ (ik (n:=n-1) (by omega) hny) ?_;have hd:=hy.bT.get hny;refine Tm.bind (Qi hx.bT hd.1 hd.2 (by omega)) ?_;rintro t ⟨ht,htl⟩;refine Tm.bind (CT (a:=[0]++sum) (.append (.cons (by decide) .nil) hs.bT) ht.bT (by simp;omega) (by omega)) ?_;rintro r ⟨hr,hrl⟩;refine aZ ⟨⟨n-1,by dsimp only;rw[bU]<;>omega,by omega,?_,?_⟩,?_⟩
     . have e:val bC ([0]++sum)+val bC t=val bC x*val bC (y.drop (n-1)):=by
        rw[ht.val,gn hny,show n-1+1=n by omega];simp only[PT,val,hs.val];grind
       show Dg bC r _;rw[<-e];exact hr
     . show r.length<=_;have hb:val bC ([0]++sum)+val bC t<bC^(x.length+(y.length-(n-1))):=by
        have e:val bC ([0]++sum)+val bC t=val bC x*val bC (y.drop (n-1)):=by
         rw[ht.val,gn hny,show n-1+1=n by omega];simp only[PT,val,hs.val];grind
        rw[e,kH];have l1:=iV (by decide) hx.bT;have l2:=iV (by decide) (hy.bT.drop (n-1));have l3:=ir (by decide) hx.bT;have l4:=ir (by decide) (hy.bT.drop (n-1));rw[xq]at l2;exact Int.mul_lt_mul' (by omega) l2 l4 (lP (by decide) _)
       exact Hl oS hr.bT hr.fP (by rw[hr.val];exact hb)
     . show(iw ((n:Int)-1-1)+1).toNat<((n:Int)-1+1).toNat;rw[bU]<;>omega
   . have:n=0:=by omega
     subst this;exact⟨by simpa using hs,by simpa using hsl⟩
 . rintro s ⟨hs,hsl⟩;refine Tm.bind (pQ hs.bT (by omega)) (λr hr=>aZ ⟨?_,by omega⟩);have hr:=hr.1;rw[hs.val,hx.val,hy.val]at hr;rw[Ks];exact hr
theorem tF{n:Int}(h1:-9223372036854775808<=n)(h2:n<=9223372036854775807):Tm (λN=>lX N n) (λr=>Is r n/\r.aR.length<=2):=by
 unfold lX;refine Tm.bind (Q:=(·=(n.natAbs:Int))) (bB (λh=>aZ ?_) (λh=>aZ ?_)) ?_
 . rw[bU (z:=n+1) (by omega) (by omega),bU (by omega) (by omega),gD,gD];omega
 . rw[gD];omega
 rintro _ rfl;refine Tm.bind (Tm.loop (λs:Int×List Int=>∃m:Nat,m<=4/\s.2.length=m/\bJ bC s.2/\0<=s.1/\s.1<bC^(4-m)/\val bC s.2+bC^m*s.1=n.natAbs) (λs=>s.1.toNat) (Q:=λr=>bJ bC r/\val bC r=n.natAbs/\r.length<=4)
  ⟨0,by omega,rfl,.nil,by simp,by simp only[bC];omega,by simp[val]⟩ ?_) ?_
 . rintro⟨u,l⟩ ⟨m,hm,hl,hB,u0,u1,hv⟩;dsimp only[F3]at*;refine bB (λh=>?_) (λh=>aZ ?_)
   . have hm':m≠4:=by rintro rfl;simp at u1;omega
     have hu:u<18446744073709551616:=by
      have:bC^(4-m)<=bC^4:=lq (by decide) (by omega);have e:bC^4=18446744073709551616:=by decide
      omega
     rw[CQ u0,C2 u0];have e1:iw (u%65536)=u%65536:=by rw[bU]<;>omega
     have e2:uw (u/65536)=u/65536:=by rw[gD];omega
     rw[e1,e2];refine aJ (eb (by simp only[cN,dY];omega) (by decide)) (aZ ⟨⟨m+1,by omega,by simp;omega,hB.append (.cons (B:=65536) (by omega) .nil),?_,?_,?_⟩,?_⟩)
     . show 0<=u/65536;omega
     . show u/65536<bC^(4-(m+1));have e:bC^(4-m)=bC^(4-(m+1))*65536:=by rw[show 4-m=4-(m+1)+1 by omega,fR]
       rw[e]at u1;exact IU (by decide) u1
     . show val bC (l++[u%65536])+bC^(m+1)*(u/65536)=_;rw[qu,hl,fR];have:=kI u 65536;have hw:bC=65536:=rfl;simp only[val];grind
     . show(u/65536).toNat<u.toNat;omega
   . have:u=0:=by omega
     subst this;exact⟨hB,by show val bC l=_;simpa using hv,by show l.length<=4;omega⟩
 . rintro l ⟨hB,hv,hl⟩;refine Tm.bind (pQ hB (by omega)) (λr hr=>aZ ⟨?_,by omega⟩);have hr:=hr.1;rw[hv]at hr;by_cases hn:n<0
   . simp only[hn,decide_true,if_true]at hr;rwa[show-(n.natAbs:Int)=n by omega]at hr
   . simp only[hn,decide_false,nB,if_false]at hr;rwa[show(n.natAbs:Int)=n by omega]at hr
open Go Go.X
def Ff(N:Nat)(c:Constraint)(n:Int):(Int×Int)->Option (aH (Int×Int) (Sum Unit Bool))
 |(d,a)=>(if(a:Int)<(List.length c.Linear.bG:Int)then (idx c.Linear.bG a).bind λb=>(((if(b.Var:Int)<=d then some true else some (decide ((b.Var:Int)≥n))):Option Bool)).bind λss=>match ss with
    |e=>(if e=true then some (aH.done (Sum.inr false)) else some (aH.next (b.Var,(iw (a+1))))) else some (aH.done (Sum.inl ())))
def wE(N:Nat)(c:Constraint)(n:Int):Option Bool:=(bO (Ff N c n) N ((-1),0)).bind λss=>match ss with
  |(Sum.inl _)=>(if(n:Int)≥0 then some (decide ((n:Int)<=512)) else some false)
  |(Sum.inr a)=>some a
def EG(N:Nat)(l:(List aC)):((List aC)×Int)->Option (aH ((List aC)×Int) (List aC))
 |(b,a)=>(if(a:Int)<(List.length l:Int)then (idx l a).bind λc=>(jZ N c).bind λd=>(cY 32 b [d]).bind λe=>some (aH.next (e,(iw (a+1)))) else some (aH.done b))
def zC(N:Nat)(l:(List aC))(bound:aC):Option bI:=(mM N bound).bind λa=>(bO (EG N l) N (([]:(List aC)),0)).bind λss=>match ss with
  |b=>some (bI.mk b a)
def FT(N:Nat)(c:Constraint):((List aC)×Int)->Option (aH ((List aC)×Int) (List aC))
 |(a,b)=>(if(b:Int)<(List.length c.Linear.bG:Int)then (idx c.Linear.bG b).bind λd=>(gF N d.N).bind λe=>(idx a d.Var).bind λg=>(dw a d.Var e).bind λf=>some (aH.next (f,(iw (b+1)))) else some (aH.done a))
def cOf(N:Nat)(c:Constraint)(n:Int):Option (List bI):=(wE N c n).bind λr6=>(if(!r6)=true then some ([]:(List bI)) else (fZ (α:=aC) 32 (aC.mk false []) n).bind λd=>(gF N c.Linear.Const).bind λe=>(jZ N e).bind λb=>(bO (FT N c) N (d,0)).bind λss=>match ss with
   |a=>(if(!c.eP)=true then some [(bI.mk a b)] else (gF N c.Linear.Const).bind λf=>(zC N a f).bind λg=>some [(bI.mk a b),g]))
def E7(N:Nat)(l:(List Constraint))(n:Int):((List bI)×Int)->Option (aH ((List bI)×Int) (Sum (List bI) (List bI)))
 |(b,a)=>(if(a:Int)<(List.length l:Int)then (idx l a).bind λc=>(wE N c n).bind λd=>(if(!d)=true then some (aH.done (Sum.inr ([]:(List bI)))) else (cOf N c n).bind λe=>(cY 56 b e).bind λf=>some (aH.next (f,(iw (a+1))))) else some (aH.done (Sum.inl b)))
def uH(N:Nat)(l:(List Constraint))(n:Int):Option (List bI):=(bO (E7 N l n) N (([]:(List bI)),0)).bind λss=>match ss with
  |(Sum.inl a)=>some a
  |(Sum.inr b)=>some b
def DC(N:Nat)(s:(List bI)):Option (List bI):=(cY 56 ([]:(List bI)) s).bind λa=>some a
def Bd(N:Nat)(s:(List bI)):Option (List bI):= some s
open Go Go.X
def vK(N:Nat)(n:Int):Option bI:=(fZ (α:=aC) 32 (aC.mk false []) n).bind λx7=>some (bI.mk x7 (aC.mk false ([]:(List Int))))
def GO(N:Nat)(c:Constraint)(n:Int):Int->Option (aH Int (Sum Unit Bool))
 |a=>(if(a:Int)<(List.length c.Linear.bG:Int)then (idx c.Linear.bG a).bind λb=>(((if(b.Var:Int)<0 then some true else (if(b.Var:Int)≥n then some true else (if(a:Int)>0 then (idx c.Linear.bG (iw (a-1))).bind λd=>some (decide ((b.Var:Int)<=d.Var)) else some false))):Option Bool)).bind λss=>match ss with
    |e=>(if e=true then some (aH.done (Sum.inr false)) else some (aH.next (iw (a+1)))) else some (aH.done (Sum.inl ())))
def uF(N:Nat)(c:Constraint)(n:Int):Option Bool:=(bO (GO N c n) N 0).bind λss=>match ss with
  |(Sum.inl _)=>(if(n:Int)≥0 then some (decide ((n:Int)<=512)) else some false)
  |(Sum.inr a)=>some a
def Dk(N:Nat)(q:bI):((List aC)×Int)->Option (aH ((List aC)×Int) (List aC))
 |(b,a)=>(if(a:Int)<(List.length q.bG:Int)then (idx q.bG a).bind λc=>(sa N c).bind λd=>(cY 32 b [d]).bind λe=>some (aH.next (e,(iw (a+1)))) else some (aH.done b))
def rN(N:Nat)(q:bI)(bound:aC):Option bI:=(zx N bound).bind λa=>(bO (Dk N q) N (([]:(List aC)),0)).bind λss=>match ss with
  |b=>some (bI.mk b a)
def Ht(N:Nat)(c:Constraint):((List aC)×Int)->Option (aH ((List aC)×Int) (List aC))
 |(b,a)=>(if(a:Int)<(List.length c.Linear.bG:Int)then (idx c.Linear.bG a).bind λd=>(idx c.Linear.bG a).bind λe=>(lX N e.N).bind λf=>(idx b d.Var).bind λi=>(dw b d.Var f).bind λg=>some (aH.next (g,(iw (a+1)))) else some (aH.done b))
def zJ(N:Nat)(c:Constraint)(n:Int):Option (List bI):=(uF N c n).bind λr6=>(if(!r6)=true then some ([]:(List bI)) else (vK N n).bind λe=>(bO (Ht N c) N (e.bG,0)).bind λss=>match ss with
   |a=>(lX N c.Linear.Const).bind λd=>(sa N d).bind λb=>(if(!c.eP)=true then some [(bI.mk a b)] else (rN N (bI.mk a b) d).bind λf=>some [(bI.mk a b),f]))
def Ik(N:Nat)(l:(List Constraint))(n:Int):((List bI)×Int)->Option (aH ((List bI)×Int) (Sum (List bI) (List bI)))
 |(b,a)=>(if(a:Int)<(List.length l:Int)then (idx l a).bind λc=>(uF N c n).bind λd=>(if(!d)=true then some (aH.done (Sum.inr ([]:(List bI)))) else (idx l a).bind λe=>(zJ N e n).bind λf=>(cY 56 b f).bind λg=>some (aH.next (g,(iw (a+1))))) else some (aH.done (Sum.inl b)))
def yt(N:Nat)(l:(List Constraint))(n:Int):Option (List bI):=(bO (Ik N l n) N (([]:(List bI)),0)).bind λss=>match ss with
  |(Sum.inl a)=>some a
  |(Sum.inr b)=>some b
def yR(N:Nat)(l:(List bI)):Int->Option (aH Int (Sum Unit Bool))
 |a=>(if(a:Int)<(List.length l:Int)then (idx l a).bind λb=>(idx l 0).bind λc=>(if((List.length b.bG:Int):Int)≠(List.length c.bG:Int)then some (aH.done (Sum.inr false)) else some (aH.next (iw (a+1)))) else some (aH.done (Sum.inl ())))
def va(N:Nat)(l:(List bI)):Option Bool:=(bO (yR N l) N 0).bind λss=>match ss with
  |(Sum.inl _)=>some true
  |(Sum.inr a)=>some a
def yK(N:Nat)(c:Int)(d:eF)(e:bI):((List aC)×Int)->Option (aH ((List aC)×Int) (List aC))
 |(b,a)=>(if(a:Int)<c then (idx b a).bind λf=>(idx e.bG a).bind λg=>(oU N g d.N).bind λi=>(p9 N f i).bind λj=>(idx b a).bind λl=>(dw b a j).bind λk=>some (aH.next (k,(iw (a+1)))) else some (aH.done b))
def GJ(N:Nat)(l:(List bI))(s:Step)(i:Int):((List aC)×Bool×(List Int)×Int)->Option (aH ((List aC)×Bool×(List Int)×Int) (Sum ((List aC)×Bool×(List Int)) (bI×Bool)))
 |(c,d,e,b)=>(if(b:Int)<(List.length s.Uses:Int)then (idx s.Uses b).bind λa=>(((if(a.Index:Int)<0 then some true else (if(a.Index:Int)≥(List.length l:Int)then some true else (jP N a.N).bind λj=>some (decide ((j:Int)<0)))):Option Bool)).bind λss=>match ss with
    |k=>(if k=true then some (aH.done (Sum.inr ((bI.mk [] (aC.mk false [])),false))) else (idx l a.Index).bind λf=>(bO (yK N i a f) N (c,0)).bind λss=>match ss with
       |m=>(oU N f.dS a.N).bind λn=>(p9 N (aC.mk d e) n).bind λg=>some (aH.next (m,g.bR,g.aR,(iw (b+1))))) else some (aH.done (Sum.inl (c,d,e))))
def xF(N:Nat)(s:Step)(d:Int):((List aC)×Int)->Option (aH ((List aC)×Int) (Sum (List aC) (bI×Bool)))
 |(b,a)=>(if(a:Int)<d then (idx b a).bind λe=>(uh N e s.gT).bind λc=>(jP N c.2.1).bind λf=>(if(f:Int)≠0 then some (aH.done (Sum.inr ((bI.mk [] (aC.mk false [])),false))) else (idx b a).bind λi=>(dw b a c.1).bind λg=>some (aH.next (g,(iw (a+1))))) else some (aH.done (Sum.inl b)))
def zA(N:Nat)(l:(List bI))(s:Step):Option (bI×Bool):=(((va N l).bind λc=>(if(!c)=true then some true else (jP N s.gT).bind λd=>some (decide ((d:Int)<=0))):Option Bool)).bind λss=>match ss with
  |e=>(if e=true then some ((bI.mk [] (aC.mk false [])),false) else (((if((List.length l:Int):Int)>0 then (idx l 0).bind λf=>some (List.length f.bG:Int) else some 0):Option Int)).bind λss=>match ss with
     |a=>(vK N a).bind λb=>(bO (GJ N l s a) N (b.bG,b.dS.bR,b.dS.aR,0)).bind λss=>match ss with
       |(Sum.inl (g,i,j))=>(bO (xF N s a) N (g,0)).bind λss=>match ss with
         |(Sum.inl k)=>(uh N (aC.mk i j) s.gT).bind λm=>some ((bI.mk k m.1),true)
         |(Sum.inr n)=>some n
       |(Sum.inr o)=>some o)
def y9(N:Nat)(q:bI):Int->Option (aH Int (Sum Unit Bool))
 |a=>(if(a:Int)<(List.length q.bG:Int)then (idx q.bG a).bind λb=>(jP N b).bind λc=>(if(c:Int)≠0 then some (aH.done (Sum.inr false)) else some (aH.next (iw (a+1)))) else some (aH.done (Sum.inl ())))
def yi(N:Nat)(q:bI):Option Bool:=(bO (y9 N q) N 0).bind λss=>match ss with
  |(Sum.inl _)=>(jP N q.dS).bind λa=>some (decide ((a:Int)<0))
  |(Sum.inr b)=>some b
def CG(N:Nat)(p:Proof):((List bI)×Int)->Option (aH ((List bI)×Int) (Sum (List bI) Bool))
 |(a,b)=>(if(b:Int)<(List.length p.Steps:Int)then (idx p.Steps b).bind λd=>(zA N a d).bind λc=>(if(!c.2)=true then some (aH.done (Sum.inr false)) else (cY 56 a [c.1]).bind λe=>some (aH.next (e,(iw (b+1))))) else some (aH.done (Sum.inl a)))
def EW(N:Nat)(b:(List bI)):Int->Option (aH Int (Sum Unit Bool))
 |a=>(if(a:Int)<(List.length b:Int)then (idx b a).bind λc=>(yi N c).bind λd=>(if d=true then some (aH.done (Sum.inr true)) else some (aH.next (iw (a+1)))) else some (aH.done (Sum.inl ())))
def tH(N:Nat)(self:(List bI)->Proof->Option Bool)(l:(List bI))(p:Proof):Option Bool:=(va N l).bind λr6=>(if(!r6)=true then some false else (cY 56 ([]:(List bI)) l).bind λb=>(bO (CG N p) N (b,0)).bind λss=>match ss with
   |(Sum.inl a)=>(if((List.length p.nA:Int):Int)=0 then (bO (EW N a) N 0).bind λss=>match ss with
      |(Sum.inl _)=>some false
      |(Sum.inr c)=>some c else (((if((List.length p.nA:Int):Int)≠2 then some true else (if((List.length a:Int):Int)>0 then (idx a 0).bind λd=>some (decide (((List.length p.Form:Int):Int)≠(List.length d.bG:Int))) else some false)):Option Bool)).bind λss=>match ss with
      |e=>(if e=true then some false else (sa N p.dS).bind λf=>(lX N 1).bind λg=>(qB N f g).bind λi=>(rN N (bI.mk p.Form p.dS) i).bind λj=>(cY 56 ([]:(List bI)) a).bind λk=>(cY 56 k [(bI.mk p.Form p.dS)]).bind λm=>(cY 56 ([]:(List bI)) a).bind λn=>(cY 56 n [j]).bind λo=>(idx p.nA 0).bind λs=>(self m s).bind λu=>(if u=true then (idx p.nA 1).bind λv=>(self o v).bind λy=>some y else some false)))
   |(Sum.inr a0)=>some a0)
def uv:Nat->(List bI)->Proof->Option Bool
 |0=>λ_ _=>none
 |N+1=>tH N (uv N)
open Go Go.X
def kz(K:Nat)(x:aC):Prop:=bJ aD x.aR/\x.aR.length<=K
def qY(K:Nat)(q:bI):Prop:=q.bG.length<=K/\(∀b∈q.bG,kz K b)/\kz K q.dS
theorem kz.mono{K K':Nat}{x:aC}(h:kz K x)(hK:K<=K'):kz K' x:=⟨h.1,by have:=h.2;omega⟩
theorem kz.nil{K:Nat}{b:Bool}:kz K ⟨b,[]⟩:=⟨.nil,fI _⟩
abbrev fi:aC:=⟨false,[]⟩
theorem V9{b:Bool}:bv ⟨b,[]⟩=0:=by cases b<;>rfl
theorem Is.ok{x:aC}{v:Int}{K:Nat}(h:Is x v)(hl:x.aR.length<=K):kz K x:=⟨h.dg.bT,hl⟩
theorem Tm.each{α β:Type}{body:Nat->Int->Option (aH Int (Sum Unit β))}(xs:List α)(P:α->Prop){Q:Sum Unit β->Prop}(hl:xs.length<=9223372036854775807)
 (step:∀(n:Nat) (hn:n<xs.length),(∀j,(hj:j<xs.length)->j<n->P xs[j])->Tm (λN=>body N (n:Int)) (λt=>(t=.next (iw ((n:Int)+1))/\P xs[n])\/(∃b,t=.done (.inr b)/\Q (.inr b))))
 (fin:(∀x∈xs,P x)->Tm (λN=>body N (xs.length:Int)) (λt=>∃r,t=.done r/\Q r)):Tm (λN=>bO (body N) N 0) Q:=by
 refine Tm.loop (λi:Int=>∃n:Nat,i=n/\n<=xs.length/\∀j,(hj:j<xs.length)->j<n->P xs[j]) (λi:Int=>xs.length-i.toNat) ⟨0,rfl,fI _,λ_ _ h=>bX h (by omega)⟩ ?_;rintro _ ⟨n,rfl,hn,hP⟩;rcases cG n xs.length with h|h
 . refine(step n h hP).mono ?_;rintro t (⟨rfl,hp⟩|⟨b,rfl,hq⟩)
   . refine⟨⟨n+1,by rw[bU]<;>omega,by omega,λj hj hlt=>?_⟩,?_⟩
     . rcases cG j n with h'|h'
       . exact hP j hj h'
       . obtain rfl:j=n:=by omega
         exact hp
     . show xs.length-(iw ((n:Int)+1)).toNat<xs.length-((n:Int)).toNat;rw[bU]<;>omega
   . exact hq
 . obtain rfl:n=xs.length:=by omega
   refine(fin λx hx=>?_).mono ?_
   . obtain⟨j,hj,rfl⟩:=IG.1 hx;exact hP j hj hj
   . rintro t ⟨r,rfl,hq⟩;exact hq
theorem uj{l:List aC}{n:Nat}(h:n<l.length):l.getD n fi=l[n]:=by rw[cL,cy h];rfl
theorem Ex{a b:Int}:bZ a b<=0↔a<=b:=by unfold bZ;(repeat' split)<;>omega
def yC(q:bI):Bool:=decide ((∀b∈q.bG,bv b=0)/\bv q.dS<0)
theorem yV{a:Int}:bZ a 0=0↔a=0:=by unfold bZ;(repeat' split)<;>omega
theorem BS{a:Int}:bZ a 0<0↔a<0:=by unfold bZ;(repeat' split)<;>omega
theorem Se{K:Nat}{q:bI}(hK:K<=1073741824)(hq:qY K q):Tm (λN=>yi N q) (λr=>r=yC q):=by
 unfold yi yC;have hlK:=hq.1;refine Tm.bind (Tm.each (body:=λN=>y9 N q) q.bG (λb=>bv b=0) (Q:=λr=>(r=.inr false/\¬∀b∈q.bG,bv b=0)\/(r=.inl ()/\∀b∈q.bG,bv b=0)) (by omega) ?_ ?_) ?_
 . intro n hn _;unfold y9;have h1:=hq.2.1 _ (dC hn);refine cR (by omega) (aJ (dt hn) (Tm.bind (mS h1.1 (by have:=h1.2;omega)) ?_));rintro _ rfl;refine bB (λh=>aZ (.inr ⟨_,rfl,.inl ⟨rfl,λh'=>h (yV.2 (h' _ (dC hn)))⟩⟩)) (λh=>aZ (.inl ⟨rfl,yV.1 (by omega)⟩))
 . intro h;unfold y9;exact cE (by omega) (aZ ⟨_,rfl,.inr ⟨rfl,h⟩⟩)
 . rintro _ (⟨rfl,h⟩|⟨rfl,h⟩)
   . refine aZ ?_;simp only[h,false_and,decide_false]
   . refine Tm.bind (mS hq.2.2.1 (by have:=hq.2.2.2;omega)) ?_;rintro _ rfl;refine aZ ?_;simp only[BS];exact decide_eq_decide.2 ⟨λh'=>⟨h,h'⟩,λh'=>h'.2⟩
open Go Go.X
def gx(c:Constraint)(n:Int):Prop:=(∀i,(h:i<c.Linear.bG.length)->0<=c.Linear.bG[i].Var/\c.Linear.bG[i].Var<n/\(∀(_:0<i),(c.Linear.bG[i-1]'(by omega)).Var<c.Linear.bG[i].Var))/\0<=n/\n<=512
theorem Ov{c:Constraint}{n:Int}(hl:c.Linear.bG.length<=9223372036854775807):Tm (λN=>wE N c n) (λr=>r=true↔gx c n):=by
 unfold wE;generalize hcs:c.Linear.bG=cs at hl;have hR:gx c n↔((∀i,(h:i<cs.length)->0<=cs[i].Var/\cs[i].Var<n/\(∀(_:0<i),(cs[i-1]'(by omega)).Var<cs[i].Var))/\0<=n/\n<=512):=by subst hcs;rfl
 refine Tm.bind (Tm.loop (λs:Int×Int=>∃k:Nat,s.2=k/\k<=cs.length/\(k=0->s.1=-1)/\(∀h:0<k/\k-1<cs.length,s.1=cs[k-1].Var)/\∀i,(h:i<cs.length)->i<k->0<=cs[i].Var/\cs[i].Var<n/\(∀(_:0<i),(cs[i-1]'(by omega)).Var<cs[i].Var)) (λs=>cs.length-s.2.toNat)
  (Q:=λr=>(r=.inl ()/\∀i,(h:i<cs.length)->0<=cs[i].Var/\cs[i].Var<n/\(∀(_:0<i),(cs[i-1]'(by omega)).Var<cs[i].Var))\/(r=.inr false/\¬gx c n)) ⟨0,rfl,fI _,λ_=>rfl,λh=>bX h.1 (by omega),λi _ h=>bX h (by omega)⟩ ?_) ?_
 . rintro⟨last,i⟩ ⟨k,rfl,hk,h0,h1,hP⟩;dsimp only[Ff]at*;rw[hcs];refine bB (λh=>?_) (λh=>aZ (.inl ⟨rfl,λi hi=>hP i hi (by omega)⟩));have hkl:k<cs.length:=by omega
   refine aJ (dt hkl) (Tm.bind (Q:=(·=decide (cs[k].Var<=last\/cs[k].Var≥n))) (bB (λh=>aZ ?_) (λh=>aZ ?_)) ?_)
   . simp[h]
   . simp[h]
   rintro _ rfl;refine bB (λh=>aZ (.inr ⟨rfl,λhr=>?_⟩)) (λh=>aZ ⟨⟨k+1,by dsimp only;rw[bU]<;>omega,by omega,λh=>by omega,λ_=>rfl,λi hi hik=>?_⟩,?_⟩)
   . have h:=jf h;have:=(hR.1 hr).1 k hkl;rcases ij k with h'|h'
     . have:=h0 h';omega
     . have h2:=this.2.2 h';have h3:=h1 ⟨h',by omega⟩;omega
   . have h:¬(cs[k].Var<=last\/cs[k].Var≥n):=λe=>h (jg e);rcases cG i k with h'|h'
     . exact hP i hi h'
     . obtain rfl:i=k:=by omega
       rcases ij i with h'|h'
       . have:=h0 h';exact⟨by omega,by omega,λe=>by omega⟩
       . have h3:=h1 ⟨h',by omega⟩;have h4:=hP (i-1) (by omega) (by omega);exact⟨by omega,by omega,λ_=>by omega⟩
   . show cs.length-(iw ((k:Int)+1)).toNat<cs.length-((k:Int)).toNat;rw[bU]<;>omega
 . rintro _ (⟨rfl,h⟩|⟨rfl,h⟩)
   . refine bB (λh1=>aZ ?_) (λh1=>aZ ?_)
     . rw[hR];simp only[decide_eq_true_eq];exact⟨λh2=>⟨h,by omega,h2⟩,λh2=>h2.2.2⟩
     . rw[hR];exact⟨λh2=>(by cases h2),λh2=>bX h2.2.1 (by omega)⟩
   . exact aZ ⟨λh'=>(by cases h'),λh'=>bX h' h⟩
theorem EM{c:Constraint}{n:Int}(hl:c.Linear.bG.length<=9223372036854775807):Tm (λN=>uF N c n) (λr=>r=true↔gx c n):=by
 unfold uF;generalize hcs:c.Linear.bG=cs at hl;have hR:gx c n↔((∀i,(h:i<cs.length)->0<=cs[i].Var/\cs[i].Var<n/\(∀(_:0<i),(cs[i-1]'(by omega)).Var<cs[i].Var))/\0<=n/\n<=512):=by subst hcs;rfl
 refine Tm.bind (Tm.loop (λs:Int=>∃k:Nat,s=k/\k<=cs.length/\∀i,(h:i<cs.length)->i<k->0<=cs[i].Var/\cs[i].Var<n/\(∀(_:0<i),(cs[i-1]'(by omega)).Var<cs[i].Var)) (λs=>cs.length-s.toNat)
  (Q:=λr=>(r=.inl ()/\∀i,(h:i<cs.length)->0<=cs[i].Var/\cs[i].Var<n/\(∀(_:0<i),(cs[i-1]'(by omega)).Var<cs[i].Var))\/(r=.inr false/\¬gx c n)) ⟨0,rfl,fI _,λi _ h=>bX h (by omega)⟩ ?_) ?_
 . rintro _ ⟨k,rfl,hk,hP⟩;dsimp only[GO]at*;rw[hcs];refine bB (λh=>?_) (λh=>aZ (.inl ⟨rfl,λi hi=>hP i hi (by omega)⟩));have hkl:k<cs.length:=by omega
   refine aJ (dt hkl) (Tm.bind (Q:=λr=>r=true↔¬(0<=cs[k].Var/\cs[k].Var<n/\(∀(_:0<k),(cs[k-1]'(by omega)).Var<cs[k].Var))) (bB (λh=>aZ ?_) (λh=>bB (λh'=>aZ ?_) (λh'=>bB (λh2=>?_) (λh2=>aZ ?_)))) ?_)
   . exact⟨λ_ e=>by omega,λ_=>rfl⟩
   . exact⟨λ_ e=>by omega,λ_=>rfl⟩
   . refine aJ (ik (n:=k-1) (by rw[bU]<;>omega) (by omega)) (aZ ?_);simp only[decide_eq_true_eq];exact⟨λe e'=>by have:=e'.2.2 (by omega);omega,λe=>by
      rcases pO (cs[k-1]'(by omega)).Var cs[k].Var with e'|e'
      . exact bX ⟨by omega,by omega,λ_=>e'⟩ e
      . exact e'⟩
   . exact⟨λe=>(by cases e),λe=>bX ⟨by omega,by omega,λe'=>bX e' (by omega)⟩ e⟩
   intro r hr;refine bB (λh=>aZ (.inr ⟨rfl,λhr'=>hr.1 h ((hR.1 hr').1 k hkl)⟩)) (λhf=>aZ ⟨⟨k+1,by rw[bU]<;>omega,by omega,λi hi hik=>?_⟩,?_⟩)
   . rcases cG i k with h'|h'
     . exact hP i hi h'
     . obtain rfl:i=k:=by omega
       exact je λe=>hf (hr.2 e)
   . show cs.length-(iw ((k:Int)+1)).toNat<cs.length-((k:Int)).toNat;rw[bU]<;>omega
 . rintro _ (⟨rfl,h⟩|⟨rfl,h⟩)
   . refine bB (λh1=>aZ ?_) (λh1=>aZ ?_)
     . rw[hR];simp only[decide_eq_true_eq];exact⟨λh2=>⟨h,by omega,h2⟩,λh2=>h2.2.2⟩
     . rw[hR];exact⟨λh2=>(by cases h2),λh2=>bX h2.2.1 (by omega)⟩
   . exact aZ ⟨λh'=>(by cases h'),λh'=>bX h' h⟩
def fD(xs:List aC)(vs:List Int):Prop:=xs.length=vs.length/\∀j,(h:j<xs.length)->(h':j<vs.length)->Is xs[j] vs[j]
theorem fD.uniq{xs ys:List aC}{vs:List Int}(h:fD xs vs)(h':fD ys vs):xs=ys:=by
 apply oD (h.1.trans h'.1.symm);intro i h1 h2;exact(h.2 i h1 (by rw[<-h.1];exact h1)).uniq (h'.2 i h2 (by rw[<-h.1];exact h1))
theorem fD.nil:fD [] []:=⟨rfl,λj h=>bX h (by simp)⟩
theorem is0:Is fi 0:=⟨Dg.nil,rfl⟩
theorem fD.dG{n:Nat}:fD (List.replicate n fi) (List.replicate n 0):=⟨by simp,λj h h'=>by simpa using is0⟩
theorem fD.set{xs:List aC}{vs:List Int}(h:fD xs vs){k:Nat}{x:aC}{v:Int}(hx:Is x v):fD (xs.set k x) (vs.set k v):=by
 refine⟨by simpa using h.1,λj h1 h2=>?_⟩;by_cases hj:k=j
 . subst hj;simpa using hx
 . rw[IT hj,IT hj];exact h.2 j (by simpa using h1) (by simpa using h2)
theorem fD.snoc{xs:List aC}{vs:List Int}(h:fD xs vs){x:aC}{v:Int}(hx:Is x v):fD (xs++[x]) (vs++[v]):=by
 refine⟨by simp[h.1],λj h1 h2=>?_⟩;rcases cG j xs.length with hj|hj
 . rw[PW hj,PW (by rw[<-h.1];exact hj)];exact h.2 j hj _
 . simp only[dL,lJ]at h1 h2;have hj':j=xs.length:=by omega
   have hj2:j=vs.length:=by rw[<-h.1];exact hj'
   have e1:(xs++[x])[j]?=some x:=by rw[hj'];simp
   have e2:(vs++[v])[j]?=some v:=by rw[hj2];simp
   rw[(eN.1 e1).2,(eN.1 e2).2];exact hx
theorem Is.len{x:aC}{v:Int}(h:Is x v){k:Nat}(hv:(v.natAbs:Int)<aD^k):x.aR.length<=k:=Hl nT h.dg.bT h.dg.fP (by rw[h.dg.val];exact hv)
def pS(q:bI)(vs:List Int)(b:Int):Prop:=fD q.bG vs/\Is q.dS b
theorem pS.uniq{p q:bI}{vs:List Int}{b:Int}(h:pS p vs b)(h':pS q vs b):p=q:=by
 have h1:=h.1.uniq h'.1;have h2:=h.2.uniq h'.2;cases p;cases q;simp_all
def fY(z:Int):Prop:=-9223372036854775808<=z/\z<=9223372036854775807
structure oW (c:Constraint):Prop where
 len:c.Linear.bG.length<=9223372036854775807
 const:fY c.Linear.Const
 mL:∀k∈c.Linear.bG,fY k.N
def sb(l:List Int)(k:jt):List Int:=l.set k.Var.toNat k.N
def gN(c:Constraint)(n:Int)(k:Nat):List Int:=(c.Linear.bG.take k).foldl sb (List.replicate n.toNat 0)
theorem yG{c:Constraint}{n:Int}{k:Nat}(h:k<c.Linear.bG.length):gN c n (k+1)=sb (gN c n k) c.Linear.bG[k]:=by
 unfold gN;rw[pN h,PX];rfl
theorem te{c:Constraint}{n:Int}{k:Nat}:(gN c n k).length=n.toNat:=by
 unfold gN;generalize c.Linear.bG.take k=l;have:∀(l:List jt) (v:List Int),(l.foldl sb v).length=v.length:=by
  intro l
  induction l with
  |nil=>intro v;rfl
  |cons x l ih=>intro v;rw[List.foldl_cons,ih];simp[sb]
 rw[this];simp
def oJ(c:Constraint)(n:Int)(r:List bI):Prop:=(¬gx c n/\r=[])\/(gx c n/\∃q,pS q (gN c n c.Linear.bG.length) (-c.Linear.Const)/\((c.eP=false/\r=[q])\/(c.eP=true/\∃q',pS q' ((gN c n c.Linear.bG.length).map (λv=>-v)) c.Linear.Const/\r=[q,q'])))
theorem oJ.uniq{c:Constraint}{n:Int}{r s:List bI}(h:oJ c n r)(h':oJ c n s):r=s:=by
 rcases h with⟨h1,rfl⟩|⟨h1,q,hq,h2⟩<;>rcases h' with⟨g1,rfl⟩|⟨g1,q',gq,g2⟩
 . rfl
 . exact bX g1 h1
 . exact bX h1 g1
 . have e:=hq.uniq gq;subst e;rcases h2 with⟨h3,rfl⟩|⟨h3,p,hp,rfl⟩<;>rcases g2 with⟨g3,rfl⟩|⟨g3,p',gp,rfl⟩
   . rfl
   . rw[h3]at g3;cases g3
   . rw[h3]at g3;cases g3
   . rw[hp.uniq gp]
theorem A1{z:Int}{x:aC}(h:Is x z)(hz:fY z):bJ aD x.aR/\x.aR.length<=2:=⟨h.dg.bT,h.len (by unfold fY at hz;have e:aD^2=18446744073709551616:=(by decide);omega)⟩
theorem UP{l:List aC}{vs:List Int}{bound:aC}{z:Int}(hl:fD l vs)(hv:∀v∈vs,fY v)(hb:Is bound z)(hz:fY z)(hn:l.length<=512):Tm (λN=>zC N l bound) (λr=>pS r (vs.map (λv=>-v)) z):=by
 unfold zC;refine Tm.bind (qm hb.dg.bT (by have:=(A1 hb hz).2;omega)) ?_;rintro b ⟨hb',-⟩;rw[hb.bv]at hb';refine Tm.bind (Tm.loop (λs:List aC×Int=>∃k:Nat,s.2=k/\k<=l.length/\fD s.1 ((vs.take k).map (λv=>-v))) (λs=>l.length-s.2.toNat) (Q:=λr=>fD r (vs.map (λv=>-v))) ⟨0,rfl,fI _,by simpa using fD.nil⟩ ?_) (λr h=>aZ ⟨h,hb'⟩);rintro⟨cs,i⟩ ⟨k,rfl,hk,h⟩;have hlv:=hl.1;dsimp only[EG]at*;refine bB (λh1=>?_) (λh1=>aZ ?_)
 . have hkl:k<l.length:=by omega
   have hx:=hl.2 k hkl (by omega);have hxv:=hv _ (dC (show k<vs.length by omega));refine aJ (dt hkl) (Tm.bind (CK hx.dg.bT (by have:=(A1 hx hxv).2;omega)) ?_);rintro m ⟨hm,-⟩;rw[hx.bv]at hm;have hcl:=h.1;simp only[cS,fm]at hcl;refine aJ (eb (by simp only[cN,dY];omega) (by decide)) (aZ ⟨⟨k+1,by dsimp only;rw[bU]<;>omega,by omega,?_⟩,?_⟩)
   . rw[pN (by omega),iC];exact h.snoc hm
   . show l.length-(iw ((k:Int)+1)).toNat<l.length-((k:Int)).toNat;rw[bU]<;>omega
 . show fD cs _;rwa[fx (by omega)]at h
theorem Vh{q:bI}{vs:List Int}{bound:aC}{z:Int}(hl:fD q.bG vs)(hv:∀v∈vs,fY v)(hb:Is bound z)(hz:fY z)(hn:q.bG.length<=512):Tm (λN=>rN N q bound) (λr=>pS r (vs.map (λv=>-v)) z):=by
 unfold rN;refine Tm.bind (OE hb.dg.bT (by have:=(A1 hb hz).2;omega)) ?_;rintro b ⟨hb',-⟩;rw[hb.bv]at hb';refine Tm.bind (Tm.loop (λs:List aC×Int=>∃k:Nat,s.2=k/\k<=q.bG.length/\fD s.1 ((vs.take k).map (λv=>-v))) (λs=>q.bG.length-s.2.toNat) (Q:=λr=>fD r (vs.map (λv=>-v))) ⟨0,rfl,fI _,by simpa using fD.nil⟩ ?_) (λr h=>aZ ⟨h,hb'⟩);rintro⟨cs,i⟩ ⟨k,rfl,hk,h⟩;have hlv:=hl.1;dsimp only[Dk]at*;refine bB (λh1=>?_) (λh1=>aZ ?_)
 . have hkl:k<q.bG.length:=by omega
   have hx:=hl.2 k hkl (by omega);have hxv:=hv _ (dC (show k<vs.length by omega));refine aJ (dt hkl) (Tm.bind (zZ hx.dg.bT (by have:=(A1 hx hxv).2;omega)) ?_);rintro m ⟨hm,-⟩;rw[hx.bv]at hm;have hcl:=h.1;simp only[cS,fm]at hcl;refine aJ (eb (by simp only[cN,dY];omega) (by decide)) (aZ ⟨⟨k+1,by dsimp only;rw[bU]<;>omega,by omega,?_⟩,?_⟩)
   . rw[pN (by omega),iC];exact h.snoc hm
   . show q.bG.length-(iw ((k:Int)+1)).toNat<q.bG.length-((k:Int)).toNat;rw[bU]<;>omega
 . show fD cs _;rwa[fx (by omega)]at h
theorem AK{c:Constraint}{n:Int}{k:Nat}(hc:oW c):∀v∈gN c n k,fY v:=by
 induction k with
 |zero=>
  intro v hv;simp only[gN,PY,PZ]at hv;rw[(Ak.1 hv).2];unfold fY;omega
 |succ k ih=>
  rcases cG k c.Linear.bG.length with h|h
  . rw[yG h];intro v hv;rcases qP hv with hv|rfl
    . exact ih v hv
    . exact hc.mL _ (dC h)
  . have e:gN c n (k+1)=gN c n k:=by
     unfold gN;rw[fx (by omega),fx h]
    rw[e];exact ih
theorem Sb{c:Constraint}{n:Int}(hc:oW c):Tm (λN=>cOf N c n) (oJ c n):=by
 unfold cOf;refine Tm.bind (Ov hc.len) ?_;intro r hr;refine bB (λh=>aZ (.inl ⟨λe=>(by rw[hr.2 e]at h;cases h),rfl⟩)) (λh=>?_);have hR:gx c n:=hr.1 (by simpa using h);refine aJ (iu (n:=n.toNat) (by have:=hR.2;omega) (by have:=hR.2;omega) (by decide)) ?_;have hn:n.toNat<=512:=by have:=hR.2;omega
 refine Tm.bind (Ax hc.const.1 hc.const.2) ?_;rintro k0 ⟨hk0,hk0l⟩;refine Tm.bind (CK hk0.dg.bT (by omega)) ?_;rintro b ⟨hb,-⟩;rw[hk0.bv]at hb;refine Tm.bind (Tm.loop (λs:List aC×Int=>∃k:Nat,s.2=k/\k<=c.Linear.bG.length/\fD s.1 (gN c n k)) (λs=>c.Linear.bG.length-s.2.toNat) (Q:=λr=>fD r (gN c n c.Linear.bG.length)) ⟨0,rfl,fI _,by simpa[gN]using fD.dG⟩ ?_) ?_
 . rintro⟨cs,i⟩ ⟨k,rfl,hk,h⟩;dsimp only[FT]at*;refine bB (λh1=>?_) (λh1=>aZ ?_)
   . have hkl:k<c.Linear.bG.length:=by omega
     have hv:=hR.1 k hkl;have hx:=hc.mL _ (dC hkl);have hcl:=h.1;rw[te]at hcl;refine aJ (dt hkl) (Tm.bind (Ax hx.1 hx.2) ?_);rintro m ⟨hm,-⟩;refine aJ (ik (n:=c.Linear.bG[k].Var.toNat) (by omega) (by omega)) (aJ (eH (n:=c.Linear.bG[k].Var.toNat) (by omega) (by omega)) (aZ ⟨⟨k+1,by have:=hc.len;dsimp only;rw[bU]<;>omega,by omega,?_⟩,?_⟩))
     . rw[yG hkl];exact h.set hm
     . show c.Linear.bG.length-(iw ((k:Int)+1)).toNat<c.Linear.bG.length-((k:Int)).toNat;have:=hc.len;rw[bU]<;>omega
   . obtain rfl:k=c.Linear.bG.length:=by omega
     exact h
 . rintro cs hcs;refine bB (λh1=>aZ (.inr ⟨hR,_,⟨hcs,hb⟩,.inl ⟨by simpa using h1,rfl⟩⟩)) (λh1=>?_);refine Tm.bind (Ax hc.const.1 hc.const.2) ?_;rintro k1 ⟨hk1,-⟩;refine Tm.bind (UP hcs (AK hc) hk1 hc.const (by rw[hcs.1,te];exact hn)) ?_;rintro q' hq';exact aZ (.inr ⟨hR,_,⟨hcs,hb⟩,.inr ⟨by simpa using h1,q',hq',rfl⟩⟩)
theorem QK{c:Constraint}{n:Int}(hc:oW c):Tm (λN=>zJ N c n) (oJ c n):=by
 unfold zJ;refine Tm.bind (EM hc.len) ?_;intro r hr;refine bB (λh=>aZ (.inl ⟨λe=>(by rw[hr.2 e]at h;cases h),rfl⟩)) (λh=>?_);have hR:gx c n:=hr.1 (by simpa using h);have hn:n.toNat<=512:=by have:=hR.2;omega
 refine Tm.bind (Q:=(·=bI.mk (List.replicate n.toNat fi) fi)) ?_ ?_
 . unfold vK;exact aJ (iu (n:=n.toNat) (by have:=hR.2;omega) (by omega) (by decide)) (aZ rfl)
 rintro _ rfl;dsimp only;refine Tm.bind (Tm.loop (λs:List aC×Int=>∃k:Nat,s.2=k/\k<=c.Linear.bG.length/\fD s.1 (gN c n k)) (λs=>c.Linear.bG.length-s.2.toNat) (Q:=λr=>fD r (gN c n c.Linear.bG.length)) ⟨0,rfl,fI _,by simpa[gN]using fD.dG⟩ ?_) ?_
 . rintro⟨cs,i⟩ ⟨k,rfl,hk,h⟩;dsimp only[Ht]at*;refine bB (λh1=>?_) (λh1=>aZ ?_)
   . have hkl:k<c.Linear.bG.length:=by omega
     have hv:=hR.1 k hkl;have hx:=hc.mL _ (dC hkl);have hcl:=h.1;rw[te]at hcl;refine aJ (dt hkl) (aJ (dt hkl) (Tm.bind (tF hx.1 hx.2) ?_));rintro m ⟨hm,-⟩;refine aJ (ik (n:=c.Linear.bG[k].Var.toNat) (by omega) (by omega)) (aJ (eH (n:=c.Linear.bG[k].Var.toNat) (by omega) (by omega)) (aZ ⟨⟨k+1,by have:=hc.len;dsimp only;rw[bU]<;>omega,by omega,?_⟩,?_⟩))
     . rw[yG hkl];exact h.set hm
     . show c.Linear.bG.length-(iw ((k:Int)+1)).toNat<c.Linear.bG.length-((k:Int)).toNat;have:=hc.len;rw[bU]<;>omega
   . obtain rfl:k=c.Linear.bG.length:=by omega
     exact h
 . rintro cs hcs;refine Tm.bind (tF hc.const.1 hc.const.2) ?_;rintro k0 ⟨hk0,hk0l⟩;refine Tm.bind (zZ hk0.dg.bT (by omega)) ?_;rintro b ⟨hb,-⟩;rw[hk0.bv]at hb;refine bB (λh1=>aZ (.inr ⟨hR,_,⟨hcs,hb⟩,.inl ⟨by simpa using h1,rfl⟩⟩)) (λh1=>?_);refine Tm.bind (Vh (q:=⟨cs,b⟩) hcs (AK hc) hk0 hc.const (by show cs.length<=_;rw[hcs.1,te];exact hn)) ?_;rintro q' hq';exact aZ (.inr ⟨hR,_,⟨hcs,hb⟩,.inr ⟨by simpa using h1,q',hq',rfl⟩⟩)
end Go.D
namespace Go.Proofs.YtipdkfmhfakbnaaGreatDoor.TB
open Go Go.RowKit Go.X Go.Q
instance:fy:=⟨[0],λ_ o=>∃t fr,o=.cells (Lib.pow10Tab.map λz=>Value.int .u64 z).toArray t fr⟩
theorem Qj{w:World}(h:∀g∈fy.l,∃o,w.heap[g]?=some o/\fy.p g o):Lib.TabIs Tryz.prog w "internal/strconv.uint64pow10" .u64 Lib.pow10Tab:=by
 obtain⟨o,h1,t,fr,rfl⟩:=h 0 (df.2 rfl);unfold Lib.TabIs World.var?;rw[show Program.globalNamed Tryz.prog "internal/strconv.uint64pow10"=some 0 by kernel_rfl];simp[h1]
theorem Xd{w:World}(h:Lib.TabIs Tryz.prog w "internal/strconv.uint64pow10" .u64 Lib.pow10Tab):∀g∈fy.l,∃o,w.heap[g]?=some o/\fy.p g o:=by
 intro g hg;obtain rfl:=df.1 hg;unfold Lib.TabIs World.var? at h;rw[show Program.globalNamed Tryz.prog "internal/strconv.uint64pow10"=some 0 by kernel_rfl]at h;simp only[Iv]at h;cases ho:w.heap[0]?with
 |none=>rw[ho]at h;cases h
 |some o=>
  rw[ho]at h;cases o with
  |cells cs t fr=>exact⟨_,rfl,t,fr,by rw[jd h]⟩
  |_=>cases h
end Go.Proofs.YtipdkfmhfakbnaaGreatDoor.TB
namespace Go.D
open Go Go.X
theorem SN:∀i,i<256->tm.getD i 0<=8/\(0<i->0<(tm.getD i 0).toNat/\2^((tm.getD i 0).toNat-1)<=i/\i<2^(tm.getD i 0).toNat):=by decide+kernel
theorem EH:tm.length=256:=by decide+kernel
theorem Px{x:Int}{n:Nat}(h:n<=32):gj .u32 x n=x/2^n:=by
 unfold gj;rw[show min ((n:Int)).toNat IntKind.u32.bits=n by show min _ 32=n;omega];exact j4 _ (eK (lK (by decide)))
theorem Rj{x:Int}(h0:0<x)(h1:x<4294967296):Tm (λN=>yF N x) (λr=>∃k:Nat,r=k/\0<k/\k<=32/\2^(k-1)<=x/\x<2^k):=by
 unfold yF;refine Tm.bind (Q:=λp:Int×Int=>∃m:Nat,p.2=m/\m<=16/\0<p.1/\p.1<65536/\p.1*2^m<=x/\x<(p.1+1)*2^m) (bB (λh=>aZ ?_) (λh=>aZ ?_)) ?_
 . refine⟨16,rfl,by decide,?_⟩;rw[show gj .u32 x 16=x/2^16 from Px (n:=16) (by decide)];have e:(2:Int)^16=65536:=by decide
   dsimp only;rw[e];omega
 . exact⟨0,rfl,by decide,h0,by dsimp only;omega,by simp,by dsimp only;omega⟩
 rintro⟨y,_⟩ ⟨m,rfl,hm,y0,y1,hy,hy'⟩;dsimp only at*;refine Tm.bind (Q:=λp:Int×Int=>∃m:Nat,p.2=m/\m<=24/\0<p.1/\p.1<256/\p.1*2^m<=x/\x<(p.1+1)*2^m) (bB (λh=>aZ ?_) (λh=>aZ ?_)) ?_
 . refine⟨m+8,by dsimp only;rw[bU]<;>omega,by omega,?_⟩;rw[show gj .u32 y 8=y/2^8 from Px (n:=8) (by decide)];have e:(2:Int)^8=256:=by decide
   have hp:(0:Int)<2^m:=lK (by decide);dsimp only;rw[kH,e];refine⟨by omega,by omega,?_,?_⟩
   . have:y/256*256*2^m<=y*2^m:=fp (by omega) (by omega);have e2:y/256*(2^m*256)=y/256*256*2^m:=by grind
     omega
   . have:(y+1)*2^m<=(y/256+1)*256*2^m:=fp (by omega) (by omega);have e2:(y/256+1)*(2^m*256)=(y/256+1)*256*2^m:=by grind
     omega
 . exact⟨m,rfl,by omega,y0,by dsimp only;omega,hy,hy'⟩
 rintro⟨z,_⟩ ⟨m,rfl,hm,z0,z1,hz,hz'⟩;dsimp only at*;have hu:uw8 z=(z.toNat:Int):=by unfold uw8;rw[show IntKind.u8.wrap z=z%256 from wu8];omega
 refine aJ (ik (n:=z.toNat) hu (by rw[EH];omega)) (aZ ?_);obtain⟨t1,t2⟩:=SN z.toNat (by omega);rw[cL,cy (by rw[EH];omega)]at t1 t2;simp only[DJ]at t1 t2;generalize tm[z.toNat]'(by rw[EH];omega)=t at*;obtain⟨p0,p1,p2⟩:=t2 (by omega);have t1':t.toNat<=8:=by simpa[UInt8.le_iff_toNat_le]using t1
 have e1:iw (t.toNat:Int)=t.toNat:=by rw[bU]<;>omega
 rw[e1];have hp:(0:Int)<2^m:=lK (by decide);have p1':((2:Int)^(t.toNat-1))<=z:=by
  have h:((2^(t.toNat-1):Nat):Int)<=(z.toNat:Int):=Int.ofNat_le.2 p1;rw[Int.toNat_of_nonneg (by omega),IV]at h;exact h
 have p2':z+1<=(2:Int)^t.toNat:=by
  have h:(z.toNat:Int)<((2^t.toNat:Nat):Int):=Int.ofNat_lt.2 p2;rw[Int.toNat_of_nonneg (by omega),IV]at h;exact h
 refine⟨m+t.toNat,by rw[bU]<;>omega,by omega,by omega,?_,?_⟩
 . rw[show m+t.toNat-1=(t.toNat-1)+m by omega,kH];exact Int.le_trans (fp p1' (by omega)) hz
 . rw[Nat.add_comm,kH];exact Int.lt_of_lt_of_le hz' (fp p2' (by omega))
theorem Rv{x:Int}(h0:0<x)(h1:x<4294967296):Tm (λN=>zy N x) (λr=>∃s:Nat,r=s/\s<=31/\2147483648<=x*2^s/\x*2^s<4294967296):=by
 unfold zy;refine Tm.bind (Rj h0 h1) ?_;rintro _ ⟨k,rfl,k0,k1,hk,hk'⟩;refine aZ ⟨32-k,by rw[bU]<;>omega,by omega,?_,?_⟩
 . have:=fp hk (show(0:Int)<=2^(32-k) from eK (lK (by decide)));rw[<-kH,show k-1+(32-k)=31 by omega]at this;exact this
 . have:=P0 hk' (show(0:Int)<2^(32-k) from lK (by decide));rw[<-kH,show k+(32-k)=32 by omega]at this;exact this
open Go Go.X
theorem QA{k:IntKind}{x y n:Nat}(hx:k.wrap (x:Int)=x)(hy:k.wrap (y:Int)=y)(h:x<2^n)(hm:2^n∣y):ko k x y=((x+y:Nat):Int):=by
 rw[Mn hx hy];obtain⟨q,rfl⟩:=hm;rw[Nat.or_comm,<-Nat.two_pow_add_eq_or_of_lt h,Nat.add_comm]
theorem uz{l:List Int}{n m:Nat}{y:Int}(h:n<l.length):(l.set n y).getD m 0=if n=m then y else l.getD m 0:=by
 rw[cL,cL,uR];by_cases e:n=m
 . subst e;simp[h]
 . simp[e]
theorem Od{z:Nat}(h:z<4294967296):IntKind.u32.wrap (z:Int)=z:=by rw[show IntKind.u32.wrap (z:Int)=(z:Int)%4294967296 from wu32];omega
theorem C1{s:Nat}(h:s<=31):(2:Int)^s*2^(32-s)=4294967296:=by rw[<-kH,show s+(32-s)=32 by omega];decide
theorem Nx{a:List Int}{n:Int}{s:Nat}(hn:n=s)(hs:s<=31)(ha:bJ aD a)(hl:a.length<=17592186044416):Tm (λN=>wx N a n) (λr=>bJ aD r/\val aD r=val aD a*2^s/\r.length=a.length+1):=by
 unfold wx;subst hn;have hP:(0:Int)<2^s:=lK (by decide);have hQ:(0:Int)<2^(32-s):=lK (by decide);have hPQ:=C1 hs;refine aJ (iu (n:=a.length+1) (by rw[bU]<;>omega) (by omega) (by decide)) ?_;refine Tm.bind (Q:=λr=>bJ aD r/\val aD r=val aD a*2^s/\r.length=a.length+1)
  (Tm.loop (λt:List Int×Int=>∃k:Nat,t.2=k/\k<=a.length/\t.1.length=a.length+1/\bJ aD t.1/\t.1.getD k 0<2^s/\val aD (t.1.take (k+1))=val aD (a.take k)*2^s) (λt=>a.length-t.2.toNat)
   ⟨0,rfl,fI _,by simp,bJ.dG (by decide),?_,?_⟩ ?_) (λr h=>aZ h)
 . show(List.replicate (a.length+1) (0:Int)).getD 0 0<_;simpa using hP
 . show val aD ((List.replicate (a.length+1) (0:Int)).take 1)=_;rw[List.take_replicate,Bt];simp[val]
 rintro⟨out,i⟩ ⟨k,rfl,hk,ho,hB,hc,hv⟩;dsimp only[ES]at*;refine bB (λh=>?_) (λh=>aZ ?_)
 . have hx:=ha.get (n:=k) (by omega);have ex:a.getD k 0=a[k]'(by omega):=gK (by omega);refine aJ (dt (by omega)) (aJ (yk (by omega)) (aJ (dt (by omega)) (aJ (dt (by omega)) ?_)));generalize a[k]'(by omega)=x at*;have hco:=hB.get (n:=k) (by omega);have eo:out.getD k 0=out[k]'(by omega):=gK (by omega);have hvs:=λy=>take_set (l:=out) (n:=k) (y:=y) (by omega);rw[eo]at hc;rw[gi,eo]at hv;generalize out[k]'(by omega)=c at*;simp only[aD]at hx;have hw0:0<=x*2^s:=fb hx.1 (by omega);have hP31:(2:Int)^s<=2147483648:=by
    have:=lq (B:=2) (by decide) hs;exact this
   have hw1:x*2^s<=4294967295*2147483648:=oH (by omega) hP31 (by omega) (by decide);have ew:jF .u64 (uw x) s=x*2^s:=by
    unfold jF;rw[show uw x=x by rw[gD];omega,show min ((s:Int)).toNat IntKind.u64.bits=s by show min _ 64=s;omega];rw[show IntKind.u64.wrap (x*2^s)=(x*2^s)%18446744073709551616 from wu];omega
   rw[ew,yo,gZ];have hlo:(x*2^s)%4294967296=(x%2^(32-s))*2^s:=by
    rw[<-hPQ,fU x,Int.mul_emod_mul_of_pos _ _ hP,fU]
   have hhi:x*2^s/4294967296=x/2^(32-s):=by
    rw[<-hPQ,fU ((2:Int)^s) (2^(32-s)),Int.mul_ediv_mul_of_pos_left _ _ hP]
   have hhi1:x/2^(32-s)<2^s:=IU hQ (by rw[hPQ];omega);have hhi0:0<=x/2^(32-s):=Al hx.1 (by omega);have hlo0:0<=x%2^(32-s):=nG _ (by omega);have hlo1:x%2^(32-s)+1<=2^(32-s):=nH _ hQ;have hlo2:(x%2^(32-s))*2^s+2^s<=4294967296:=by
    have:=fp hlo1 (show(0:Int)<=2^s by omega);rw[fU (2^(32-s)) (2^s),hPQ]at this;grind
   have hor:ko .u32 c ((x*2^s)%4294967296)=c+(x%2^(32-s))*2^s:=by
    rw[hlo];obtain⟨cn,rfl⟩:=sM hco.1;obtain⟨ln,hln⟩:=sM hlo0;rw[hln];have e1:(ln:Int)*2^s=((ln*2^s:Nat):Int):=by simp
    have hl0:0<=(ln:Int)*2^s:=fb (by omega) (by omega);rw[hln]at hlo2;rw[e1]at hlo2⊢;simp only[aD]at hco;rw[QA (n:=s) (Od (by omega)) (Od (by omega)) (by have:((cn:Nat):Int)<((2^s:Nat):Int):=(by simpa using hc);omega) (Nat.dvd_mul_left _ _)];omega
   rw[hor];refine aJ (eH rfl (by omega)) ?_;have hB1:bJ aD (out.set k (c+(x%2^(32-s))*2^s)):=hB.set (by
    have:0<=(x%2^(32-s))*2^s:=fb hlo0 (by omega);simp only[aD]at*;omega)
   have hi1:iw ((k:Int)+1)=((k+1:Nat):Int):=by rw[bU]<;>omega
   refine aJ (ik hi1 (by simp;omega)) (aJ (eH hi1 (by simp;omega)) ?_);have ehi:eL (x*2^s/4294967296)=x/2^(32-s):=by rw[hhi,gZ];omega
   rw[ehi];refine aZ ⟨⟨k+1,hi1,by omega,by simp;omega,hB1.set (by simp only[aD];omega),?_,?_⟩,?_⟩
   . show(((out.set k _).set (k+1) _).getD (k+1) 0)<2^s;rw[uz (by simp;omega),bA rfl];exact hhi1
   . show val aD (((out.set k _).set (k+1) _).take (k+1+1))=_;rw[take_set (by simp;omega),hvs,gi,ex,fR];have:=kI x (2^(32-s));have hw:aD=2^s*2^(32-s):=hPQ.symm;have e3:aD^k*aD*(x/2^(32-s))=aD^k*(2^s*(2^(32-s)*(x/2^(32-s)))):=by
      conv=>lhs;rw[D3,show aD*(x/2^(32-s))=2^s*2^(32-s)*(x/2^(32-s)) by rw[<-hw]]
      rw[D3]
     rw[e3];grind
   . show a.length-(iw ((k:Int)+1)).toNat<a.length-((k:Int)).toNat;rw[hi1];omega
 . obtain rfl:k=a.length:=by omega
   rw[lT (by omega),lT (bQ _)]at hv;exact⟨hB,hv,ho⟩
open Go Go.X
theorem gY{xs:List Int}{i:Int}{n:Nat}(e:i=(n:Int))(h:n<xs.length):idx xs i=some (xs.getD n 0):=by
 rw[gK h];exact ik e h
theorem FH{k:IntKind}{x y:Int}(h:y≠0):sdiv k x y=some (k.wrap (x.tdiv y)):=by unfold sdiv;rw[aQ h]
theorem Nb{x y:Int}(h:y≠0):srem x y=some (x.tmod y):=by unfold srem;rw[aQ h]
theorem Dq{z:Nat}(h:z<18446744073709551616):IntKind.u64.wrap (z:Int)=z:=by rw[show IntKind.u64.wrap (z:Int)=(z:Int)%18446744073709551616 from wu];omega
theorem Vz{x:Int}(h0:0<=x)(h1:x<4294967296):jF .u64 x 32=x*4294967296:=by
 unfold jF;rw[show((2:Int)^(min (32:Int).toNat IntKind.u64.bits))=4294967296 from rfl];rw[show IntKind.u64.wrap (x*4294967296)=(x*4294967296)%18446744073709551616 from wu];omega
theorem AH{x y:Int}(h0:0<=x)(h1:x<4294967296)(h2:0<=y)(h3:y<4294967296):ko .u64 (jF .u64 x 32) y=x*4294967296+y:=by
 rw[Vz h0 h1];obtain⟨a,rfl⟩:=sM h0;obtain⟨b,rfl⟩:=sM h2;rw[show(a:Int)*4294967296=((a*2^32:Nat):Int) by simp];rw[Mn (Dq (by omega)) (Dq (by omega)),<-Nat.shiftLeft_eq,<-Nat.shiftLeft_add_eq_or_of_lt (by omega),Nat.shiftLeft_eq];omega
theorem Re{z:Int}(h0:0<=z)(h1:z<18446744073709551616):rm .u64 z 4294967295=z%4294967296:=by
 obtain⟨a,rfl⟩:=sM h0;rw[show(4294967295:Int)=((2^32-1:Nat):Int) by decide,U4 (Dq (by omega)) (Dq (by decide)),Nat.and_two_pow_sub_one_eq_mod];omega
theorem iG{z:Int}(h0:0<=z)(h1:z<18446744073709551616):uw z=z:=by rw[gD];omega
theorem BR{x y:Int}(h:0<=x):x.tdiv y=x/y:=XU h
theorem Hr{x y:Int}(h:0<=x):x.tmod y=x%y:=XT h
theorem Nd{a:List Int}{y:Int}(ha:bJ aD a)(h0:0<y)(h1:y<aD)(hl:a.length<=17592186044416):
 Tm (λN=>xh N a y) (λr=>bJ aD r.1/\val aD r.1=val aD a/y/\r.2=val aD a%y/\r.1.length=a.length):=by
 unfold xh;refine aJ (iu rfl (by omega) (by decide)) ?_;refine Tm.bind (Q:=λr:List Int×Int=>bJ aD r.1/\r.1.length=a.length/\0<=r.2/\r.2<y/\val aD r.1*y+r.2=val aD a)
  (Tm.loop (λt:List Int×Int×Int=>∃k:Nat,t.2.2=(k:Int)-1/\k<=a.length/\t.1.length=a.length/\bJ aD t.1/\0<=t.2.1/\t.2.1<y/\(∀j,j<k->t.1.getD j 0=0)/\val aD t.1*y+aD^k*t.2.1+val aD (a.take k)=val aD a) (λt=>(t.2.2+1).toNat)
   ⟨a.length,by rw[bU]<;>omega,bQ _,by simp,bJ.dG (by decide),by simp,h0,λj hj=>by rw[gK (by simpa using hj)];simp,by rw[lT (bQ _),Bt];simp⟩ ?_) ?_
 . rintro⟨out,rest,i⟩ ⟨k,rfl,hk,ho,hB,r0,r1,hz,hv⟩;dsimp only[GI]at*;refine bB (λh=>?_) (λh=>aZ ?_)
   . obtain⟨n,rfl⟩:∃n,k=n+1:=⟨k-1,by omega⟩;have hi:((n+1:Nat):Int)-1=(n:Int):=by omega
     rw[hi];have hx:=ha.getD (by decide) n;have hvt:=gi (B:=aD) (l:=a) (n:=n);refine aJ (gY rfl (by omega)) ?_;generalize a.getD n 0=x at*;simp only[aD]at hx h1;have ex:uw x=x:=iG hx.1 (by omega);have ey:uw y=y:=iG (by omega) (by omega);rw[ex,ey,AH r0 (by omega) hx.1 hx.2];have hT0:0<=rest*4294967296+x:=by omega
     have hq1:(rest*4294967296+x)/y<4294967296:=IU h0 (by
      have:=fp (show rest+1<=y by omega) (show(0:Int)<=4294967296 by decide);rw[fU 4294967296 y];omega)
     have hq0:0<=(rest*4294967296+x)/y:=Al hT0 (by omega);refine aJ (FH (by omega)) (aJ (gY rfl (by omega)) (aJ (eH rfl (by omega)) (aJ (Nb (by omega)) (aZ ?_))));rw[BR hT0,Hr hT0,show IntKind.u64.wrap ((rest*4294967296+x)/y)=(rest*4294967296+x)/y from iG hq0 (by omega),show eL ((rest*4294967296+x)/y)=(rest*4294967296+x)/y by rw[gZ];omega];have hm0:=nG (rest*4294967296+x) (show y≠0 by omega);have hm1:=nH (rest*4294967296+x) h0;have hd:=kI (rest*4294967296+x) y;refine⟨⟨n,by show iw ((n:Int)-1)=_;rw[bU]<;>omega,by omega,by simp;omega,hB.set (by simp only[aD];omega),hm0,hm1,λj hj=>?_,?_⟩,?_⟩
     . show(out.set n _).getD j 0=0;rw[uz (by omega),aQ (by omega)];exact hz j (by omega)
     . show val aD (out.set n _)*y+aD^n*((rest*4294967296+x)%y)+val aD (a.take n)=_;have hon:out[n]'(by omega)=0:=by have:=hz n (by omega);rwa[gK (by omega)]at this
       rw[vE (by omega),hon];rw[fR]at hv;have hw:aD=4294967296:=rfl;generalize(rest*4294967296+x)/y=q at*;generalize(rest*4294967296+x)%y=t at*;rw[<-hv,hvt];have e1:aD^n*aD*rest=aD^n*(rest*4294967296):=by rw[hw];grind
       have e2:aD^n*(t+y*q)=aD^n*(rest*4294967296+x):=by rw[hd]
       rw[e1];grind
     . show(iw ((n:Int)-1)+1).toNat<((n:Int)+1).toNat;rw[bU]<;>omega
   . obtain rfl:k=0:=by omega
     refine⟨hB,ho,r0,r1,?_⟩;simpa[val]using hv
 . rintro⟨out,rest⟩ ⟨hB,ho,r0,r1,hv⟩;dsimp only at*;simp only[aD]at h1;refine aZ ⟨hB,?_,?_,ho⟩
   . show val aD out=_;rw[<-hv,IW,Int.add_mul_ediv_right _ _ (by omega),P1 r0 r1];omega
   . show eL rest=_;rw[gZ,<-hv,IW,Int.add_mul_emod_self_right,DY r0 r1];omega
section
variable {W V R v1 v2 u2 top p vl rl g rest:Int}
theorem g_dec(hp:0<p)(hV:V=(v1*W+v2)*p+vl)(hvl:0<=vl)(hR:R=(top*W+u2)*p+rl)(hrl:rl<p)(ht:top=g*v1+rest)(hg:0<=g)(h:rest*W+u2<g*v2):R<g*V:=by
 have h1:top*W+u2+1<=g*(v1*W+v2):=by
  have e:g*(v1*W+v2)=(g*v1)*W+g*v2:=by grind
  have e2:top*W=(g*v1)*W+rest*W:=by rw[ht];grind
  omega
 have h2:=fp h1 (eK hp);have h3:0<=g*vl:=fb hg hvl;have e1:g*V=g*(v1*W+v2)*p+g*vl:=by rw[hV];grind
 have e2:(top*W+u2+1)*p=(top*W+u2)*p+p:=by grind
 omega
theorem g_top(hp:0<p)(hW:0<W)(hv2:v2<W)(hV:V=(v1*W+v2)*p+vl)(hvl:vl<p)(hR:R=(top*W+u2)*p+rl)(hu2:0<=u2)(hrl:0<=rl)(h:R<W*V):top<(v1+1)*W:=by
 have h1:top*W<W*(v1*W+v2+1):=by
  rcases pO (top*W) (W*(v1*W+v2+1))with h1|h1
  . exact h1
  . exfalso;have h2:=fp (show W*(v1*W+v2+1)<=top*W+u2 by omega) (eK hp);have h3:W*vl<W*p:=Int.mul_lt_mul_of_pos_left hvl hW;have e1:W*V=W*(v1*W+v2)*p+W*vl:=by rw[hV];grind
    have e2:W*(v1*W+v2+1)*p=W*(v1*W+v2)*p+W*p:=by grind
    omega
 have h2:W*top<W*(v1*W+v2+1):=by rw[fU W top];exact h1
 have h3:=IX h2 (eK hW);have e:(v1+1)*W=v1*W+W:=by grind
 omega
theorem Wg(hv1:0<v1)(ht:top=g*v1+rest)(hr:W<=rest)(h:top<(v1+1)*W):g<W:=by
 have h1:g*v1<W*v1:=by
  have e:(v1+1)*W=W*v1+W:=by grind
  omega
 exact P2 h1 (eK hv1)
theorem g_brk(hp:0<p)(hW:0<W)(hv2:0<=v2)(hv2':v2<W)(hV:V=(v1*W+v2)*p+vl)(hvl:0<=vl)(hvl':vl<p)(hR:R=(top*W+u2)*p+rl)(hu2:0<=u2)(hrl:0<=rl)
 (ht:top=g*v1+rest)(hr:W<=rest)(hg:0<=g)(hgW:g<W):g*V<=R:=by
 have h1:g*(v2*p+vl)<=W*(W*p):=by
  have:v2*p+vl<=W*p:=by
   have:=fp (show v2+1<=W by omega) (eK hp);have e:(v2+1)*p=v2*p+p:=by grind
   omega
  have h0:0<=v2*p+vl:=by have:=fb hv2 (eK hp);omega
  exact oH (by omega) this h0 (by omega)
 have h2:W*(W*p)<=rest*(W*p):=fp hr (fb (by omega) (by omega));have h3:0<=u2*p:=fb hu2 (by omega);have e1:g*V=g*v1*(W*p)+g*(v2*p+vl):=by rw[hV];grind
 have e2:R=g*v1*(W*p)+rest*(W*p)+u2*p+rl:=by rw[hR,ht];grind
 omega
theorem g_end(hp:0<p)(hW:0<W)(hv1:0<v1)(hv2:0<=v2)(hV:V=(v1*W+v2)*p+vl)(hvl:0<=vl)(hvl':vl<p)(hR:R=(top*W+u2)*p+rl)(hrl:0<=rl)
 (ht:top=g*v1+rest)(hg:0<=g)(hgW:g<W)(h:g*v2<=rest*W+u2):g*V<=R+V:=by
 have h1:g*(v1*W+v2)<=top*W+u2:=by
  have e:g*(v1*W+v2)=(g*v1)*W+g*v2:=by grind
  have e2:top*W=(g*v1)*W+rest*W:=by rw[ht];grind
  omega
 have h2:=fp h1 (eK hp);have h3:g*vl<=W*p:=oH (by omega) (by omega) hvl (by omega);have h4:W*p<=v1*(W*p):=by
  have:=fp (show 1<=v1 by omega) (show 0<=W*p from fb (by omega) (by omega));omega
 have h5:0<=v2*p:=fb hv2 (by omega);have e1:g*V=g*(v1*W+v2)*p+g*vl:=by rw[hV];grind
 have e2:V=v1*(W*p)+v2*p+vl:=by rw[hV];grind
 omega
theorem Ui(hp:0<p)(hW:0<W)(hv1:0<v1)(hv2:0<=v2)(hV:V=(v1*W+v2)*p+vl)(hvl:0<=vl)(hR:R=(top*W+u2)*p+rl)(hu2:u2<W)(hrl:rl<p)
 (ht:top=g*v1+rest)(hr:rest<v1)(hg:0<=g):R<(g+1)*V:=by
 have h1:(top+1)*(W*p)<=(g+1)*v1*(W*p):=fp (by have e:(g+1)*v1=g*v1+v1:=(by grind);omega) (fb (by omega) (by omega));have h2:0<=(g+1)*(v2*p+vl):=fb (by omega) (by have:=fb hv2 (eK hp);omega);have h3:=fp (show u2+1<=W by omega) (eK hp);have e1:(g+1)*V=(g+1)*v1*(W*p)+(g+1)*(v2*p+vl):=by rw[hV];grind
 have e2:R=top*(W*p)+u2*p+rl:=by rw[hR];grind
 have e3:(top+1)*(W*p)=top*(W*p)+W*p:=by grind
 have e4:(u2+1)*p=u2*p+p:=by grind
 omega
end
theorem b2_tm{b v u:List Int}{n m:Nat}{V R v1 v2 u2 top p vl rl g0 r0:Int}(hb:b.length=m)(hv:v.length=m)(hm:2<=m)(hu:n+m<u.length)(hul:u.length<=35184372088832)
 (e1:v.getD (m-1) 0=v1)(e2:v.getD (m-2) 0=v2)(e3:u.getD (n+m-2) 0=u2)(hv1:0<v1/\v1<4294967296)(hv2:0<=v2/\v2<4294967296)(hu2:0<=u2/\u2<4294967296)
 (hp:0<p)(hV:V=(v1*4294967296+v2)*p+vl)(hvl:0<=vl/\vl<p)(hR:R=(top*4294967296+u2)*p+rl)(hrl:0<=rl/\rl<p)(hRV:R<4294967296*V)
 (ht:top=g0*v1+r0)(hr0:0<=r0/\r0<v1)(hg0:0<=g0/\g0<18446744073709551616):
 Tm (λN=>bO (C9 N b v u n) N (g0,r0)) (λg=>0<=g/\g<4294967296/\R<(g+1)*V/\g*V<=R+V):=by
 have htop:=g_top hp (by decide) hv2.2 hV hvl.2 hR hu2.1 hrl.1 hRV;have hV0:0<=V:=by
  have h1:=fb (show 0<=v1*4294967296+v2 by omega) (eK hp);omega
 refine Tm.loop (λt:Int×Int=>0<=t.1/\t.1<18446744073709551616/\0<=t.2/\t.2<4294967296/\top=t.1*v1+t.2/\R<(t.1+1)*V) (λt=>t.1.toNat)
  ⟨hg0.1,hg0.2,hr0.1,by omega,ht,Ui hp (by decide) hv1.1 hv2.1 hV hvl.1 hR hu2.2 hrl.2 ht hr0.2 hg0.1⟩ ?_
 rintro⟨g,rest⟩ ⟨g1,g2,r1,r2,ht,hRg⟩;dsimp only[C9]at*;have ev2:uw v2=v2:=iG hv2.1 (by omega);have eu2:uw u2=u2:=iG hu2.1 (by omega);have ev1:uw v1=v1:=iG (by omega) (by omega);refine Tm.bind (Q:=(·=decide (4294967295<g\/rest*4294967296+u2<g*v2))) (bB (λh=>aZ ?_) (λh=>?_)) ?_
 . simp[show 4294967295<g from h]
 . refine aJ (gY (n:=m-2) (by rw[bU]<;>omega) (by omega)) (aJ (gY (n:=n+m-2) (by rw[show iw ((n:Int)+(b.length:Int))=(n:Int)+m by rw[bU]<;>omega,bU]<;>omega) (by omega)) (aZ ?_));rw[e2,e3,ev2,eu2,AH r1 r2 hu2.1 hu2.2];have hgv:0<=g*v2/\g*v2<=4294967295*4294967295:=⟨fb g1 hv2.1,oH (by omega) (by omega) hv2.1 (by decide)⟩;rw[iG hgv.1 (by omega)];have:¬4294967295<g:=h;simp[this]
 rintro _ rfl;refine bB (λh=>?_) (λh=>aZ ?_)
 . have h:=jf h;have hgp:0<g:=by
    rcases h with h|h
    . omega
    . rcases pO 0 g with h'|h'
      . exact h'
      . have:g=0:=by omega
        subst this;simp at h;omega
   have hRg':R<g*V:=by
    rcases h with h|h
    . have:=fp (show 4294967296<=g by omega) hV0;omega
    . exact g_dec hp hV hvl.1 hR hrl.2 ht g1 h
   have ht':top=(g-1)*v1+(rest+v1):=by rw[ht];grind
   refine aJ (gY (n:=m-1) (by rw[bU]<;>omega) (by omega)) ?_;rw[e1,ev1,iG (show 0<=g-1 by omega) (by omega),iG (show 0<=rest+v1 by omega) (by omega)];refine bB (λh1=>aZ ?_) (λh1=>aZ ⟨⟨by dsimp only;omega,by dsimp only;omega,by dsimp only;omega,by dsimp only;omega,ht',?_⟩,?_⟩)
   . have hgW:=Wg hv1.1 ht' (show 4294967296<=rest+v1 by omega) htop;have:=g_brk hp (by decide) hv2.1 hv2.2 hV hvl.1 hvl.2 hR hu2.1 hrl.1 ht' (show 4294967296<=rest+v1 by omega) (by omega) hgW;refine⟨by omega,hgW,?_,by omega⟩;rw[show g-1+1=g by omega];exact hRg'
   . show R<(g-1+1)*V;rw[show g-1+1=g by omega];exact hRg'
   . show(g-1).toNat<g.toNat;omega
 . have h:¬(4294967295<g\/rest*4294967296+u2<g*v2):=λe=>h (by simpa using e);refine⟨g1,by omega,hRg,?_⟩;exact g_end hp (by decide) hv1.1 hv2.1 hV hvl.1 hvl.2 hR hrl.1 ht g1 (by omega) (by omega)
open Go Go.X
theorem wT{l:List Int}{m:Nat}(h:bJ aD l)(hv:val aD l<aD^m):∀j,m<=j->l.getD j 0=0:=by
 intro j hj;rcases cG j l.length with hl|hl
 . rw[gK hl];have h1:=h.get hl;rcases pO 0 l[j]with h2|h2
   . exfalso;have e:=pY (B:=aD) (l:=l) j (by omega);rw[gn hl,tk]at e;have p0:=ir (B:=aD) (by decide) (h.take j);have p1:=ir (B:=aD) (by decide) (h.drop (j+1));have p2:=lP (B:=aD) (by decide) j;have p3:=lq (B:=aD) (by decide) hj;have p4:aD^j*1<=aD^j*(l[j]+aD*val aD (l.drop (j+1))):=gU (by have:=fb (show(0:Int)<=aD by decide) p1;omega) (by omega);omega
   . omega
 . exact nO hl
theorem JT{l:List Int}{m:Nat}(h:bJ aD l)(hz:∀j,m<=j->l.getD j 0=0):val aD l<aD^m:=by
 rcases cG m l.length with hm|hm
 . have:=y7 (B:=aD) (l:=l) (n:=m) (by omega) (λk hk hmk=>by have:=hz k hmk;rwa[gK hk]at this);rw[<-this];have h2:=iV (B:=aD) (by decide) (h.take m);rwa[fm,kX (by omega)]at h2
 . have h2:=iV (B:=aD) (by decide) h;have h3:=lq (B:=aD) (by decide) hm;omega
theorem ur{l:List Int}{n j:Nat}:(l.drop n).getD j 0=l.getD (n+j) 0:=by
 rw[cL,cL,sH]
theorem b3_tm{b v u:List Int}{n m:Nat}{g:Int}(hb:b.length=m)(hv:v.length=m)(hvB:bJ aD v)(huB:bJ aD u)(hu:n+m<u.length)(hul:u.length<=35184372088832)(g0:0<=g)(g1:g<4294967296):
 Tm (λN=>bO (BU N g ((n+m+1:Nat):Int) (n:Int) v) N (u,0,0,0)) (λr=>bJ aD r.1/\r.1.length=u.length/\r.1.take n=u.take n/\(∀k,n+m<k->r.1.getD k 0=u.getD k 0)/\0<=r.2/\r.2<=1/\val aD r.1=val aD u-aD^n*(g*val aD v)+aD^(n+(m+1))*r.2):=by
 refine Tm.loop (λt:List Int×Int×Int×Int=>∃j:Nat,t.2.2.2=j/\j<=m+1/\bJ aD t.1/\t.1.length=u.length/\t.1.take n=u.take n/\(∀k,n+j<=k->t.1.getD k 0=u.getD k 0)/\0<=t.2.1/\t.2.1<4294967296/\(m<j->t.2.1=0)/\0<=t.2.2.1/\t.2.2.1<=1/\val aD t.1=val aD u-aD^n*(g*val aD (v.take j))+aD^(n+j)*(t.2.1+t.2.2.1)) (λt=>m+1-t.2.2.2.toNat)
  ⟨0,rfl,by omega,huB,rfl,rfl,λ_ _=>rfl,by simp,by simp,λ_=>rfl,by simp,by simp,by simp[val]⟩ ?_
 rintro⟨x,carry,borrow,jj⟩ ⟨j,rfl,hj,hB,hx,htk,hup,c0,c1,hc,b0,b1,hval⟩;dsimp only[BU]at*;refine bB (λh=>?_) (λh=>aZ ?_)
 . have hjm:j<=m:=by omega
   refine Tm.bind (BG hvB) ?_;rintro d rfl;have hij:(n:Int)+(j:Int)=((n+j:Nat):Int):=by omega
   refine aJ (yk (by omega)) (aJ (gY hij (by omega)) (aJ (yk (by omega)) (aJ (gY hij (by omega)) (aJ (eH hij (by omega)) (aZ ?_)))));have hd:=hvB.getD (by decide) j;have hvt:=gi (B:=aD) (l:=v) (n:=j);have hd0:m<=j->v.getD j 0=0:=λh=>nO (by omega);have huu:=hB.getD (by decide) (n+j);have hset:=λy=>vE (B:=aD) (l:=x) (n:=n+j) (y:=y) (by omega);rw[<-gK (l:=x) (n:=n+j) (by omega)]at hset;generalize v.getD j 0=d at*;generalize hUU:x.getD (n+j) 0=uu at*;simp only[aD]at hd huu;have hgd:0<=g*d/\g*d<=4294967295*4294967295:=⟨fb g0 hd.1,oH (by omega) (by omega) hd.1 (by decide)⟩;rw[iG hgd.1 (by omega)];have hgd0:m<=j->g*d=0:=λh=>by rw[hd0 h];simp
   generalize hC:g*d=gd at*;rw[iG (show 0<=carry+gd by omega) (by omega),Re (by omega) (by omega),yo];have e1:uw (uw (uw uu-(carry+gd)%4294967296)-borrow)=(uu-(carry+gd)%4294967296-borrow)%18446744073709551616:=by
    rw[gD,gD,gD];omega
   rw[e1,KZ,gZ];have hy:(uu-(carry+gd)%4294967296-borrow)%18446744073709551616%4294967296=uu-(carry+gd)%4294967296-borrow+4294967296*((uu-(carry+gd)%4294967296-borrow)%18446744073709551616/9223372036854775808):=by omega
   have hb':0<=(uu-(carry+gd)%4294967296-borrow)%18446744073709551616/9223372036854775808/\(uu-(carry+gd)%4294967296-borrow)%18446744073709551616/9223372036854775808<=1:=by omega
   have hy2:0<=(uu-(carry+gd)%4294967296-borrow)%18446744073709551616%4294967296/\(uu-(carry+gd)%4294967296-borrow)%18446744073709551616%4294967296<4294967296:=by omega
   generalize(uu-(carry+gd)%4294967296-borrow)%18446744073709551616%4294967296=y at*;generalize(uu-(carry+gd)%4294967296-borrow)%18446744073709551616/9223372036854775808=bb at*;have hdm:=kI (carry+gd) 4294967296;refine⟨⟨j+1,by show iw ((j:Int)+1)=_;rw[bU]<;>omega,by omega,hB.set (by simp only[aD];omega),by simp;omega,?_,?_,?_,?_,?_,hb'.1,hb'.2,?_⟩,?_⟩
   . show(x.set (n+j) y).take n=_;rw[xu (by omega)];exact htk
   . intro k hk;show(x.set (n+j) y).getD k 0=_;rw[uz (by omega),aQ (by omega)];exact hup k (by omega)
   . show 0<=(carry+gd)/4294967296;omega
   . show(carry+gd)/4294967296<4294967296;omega
   . intro h1;show(carry+gd)/4294967296=0;have:=hgd0 (by omega);omega
   . show val aD (x.set (n+j) y)=_+aD^(n+(j+1))*((carry+gd)/4294967296+bb);rw[hset,hval,hvt,hy];have hw:aD=4294967296:=rfl;have hp:aD^(n+(j+1))=aD^n*aD^j*4294967296:=by rw[kH,fR,hw];grind
     rw[hp,kH];generalize aD^n=P at*;generalize aD^j=Q at*;have e3:g*(val aD (v.take j)+Q*d)=g*val aD (v.take j)+Q*gd:=by rw[<-hC];grind
     rw[e3];generalize(carry+gd)/4294967296=cc at*;generalize(carry+gd)%4294967296=c2 at*;have e4:gd=c2+4294967296*cc-carry:=by omega
     rw[e4];grind
   . show m+1-(iw ((j:Int)+1)).toNat<m+1-((j:Int)).toNat;rw[bU]<;>omega
 . have hjm:j=m+1:=by omega
   subst hjm;refine⟨hB,hx,htk,λk hk=>hup k (by omega),b0,b1,?_⟩;show val aD x=_;rw[hval,hc (by omega),lT (by omega),D4]
theorem b4_tm{v u:List Int}{n m:Nat}(hv:v.length=m)(hvB:bJ aD v)(huB:bJ aD u)(hu:n+m<u.length)(hul:u.length<=35184372088832):
 Tm (λN=>bO (Dj N v n) N (u,0,0)) (λr=>bJ aD r.1/\r.1.length=u.length/\r.1.take n=u.take n/\(∀k,n+m<=k->r.1.getD k 0=u.getD k 0)/\0<=r.2/\r.2<=1/\val aD r.1=val aD u+aD^n*val aD v-aD^(n+m)*r.2):=by
 refine Tm.loop (λt:List Int×Int×Int=>∃j:Nat,t.2.2=j/\j<=m/\bJ aD t.1/\t.1.length=u.length/\t.1.take n=u.take n/\(∀k,n+j<=k->t.1.getD k 0=u.getD k 0)/\0<=t.2.1/\t.2.1<=1/\val aD t.1=val aD u+aD^n*val aD (v.take j)-aD^(n+j)*t.2.1) (λt=>m-t.2.2.toNat)
  ⟨0,rfl,by omega,huB,rfl,rfl,λ_ _=>rfl,by simp,by simp,by simp[val]⟩ ?_
 rintro⟨x,carry,jj⟩ ⟨j,rfl,hj,hB,hx,htk,hup,c0,c1,hval⟩;dsimp only[Dj]at*;refine bB (λh=>?_) (λh=>aZ ?_)
 . have hij:iw ((n:Int)+(j:Int))=((n+j:Nat):Int):=by rw[bU]<;>omega
   refine aJ (gY hij (by omega)) (aJ (gY rfl (by omega)) (aJ (gY hij (by omega)) (aJ (eH hij (by omega)) (aZ ?_))));have hd:=hvB.getD (by decide) j;have hvt:=gi (B:=aD) (l:=v) (n:=j);have huu:=hB.getD (by decide) (n+j);have hset:=λy=>vE (B:=aD) (l:=x) (n:=n+j) (y:=y) (by omega);rw[<-gK (l:=x) (n:=n+j) (by omega)]at hset;generalize v.getD j 0=d at*;generalize hUU:x.getD (n+j) 0=uu at*;simp only[aD]at hd huu;have e1:uw (carry+uw (uw uu+uw d))=carry+uu+d:=by rw[gD,gD,gD,gD];omega
   rw[e1,yo,gZ];have hdm:=kI (carry+uu+d) 4294967296;refine⟨⟨j+1,by show iw ((j:Int)+1)=_;rw[bU]<;>omega,by omega,hB.set (by simp only[aD];omega),by simp;omega,?_,?_,?_,?_,?_⟩,?_⟩
   . show(x.set (n+j) _).take n=_;rw[xu (by omega)];exact htk
   . intro k hk;show(x.set (n+j) _).getD k 0=_;rw[uz (by omega),aQ (by omega)];exact hup k (by omega)
   . show 0<=(carry+uu+d)/4294967296;omega
   . show(carry+uu+d)/4294967296<=1;omega
   . show val aD (x.set (n+j) ((carry+uu+d)%4294967296))=_-aD^(n+(j+1))*((carry+uu+d)/4294967296);rw[hset,hval,hvt];have hw:aD=4294967296:=rfl;have hp:aD^(n+(j+1))=aD^n*aD^j*4294967296:=by rw[kH,fR,hw];grind
     rw[hp,kH];generalize aD^n=P at*;generalize aD^j=Q at*;generalize(carry+uu+d)/4294967296=cc at*;generalize(carry+uu+d)%4294967296=c2 at*;have e4:c2=carry+uu+d-4294967296*cc:=by omega
     rw[e4];grind
   . show m-(iw ((j:Int)+1)).toNat<m-((j:Int)).toNat;rw[bU]<;>omega
 . have hjm:j=m:=by omega
   subst hjm;rw[lT (by omega)]at hval;exact⟨hB,hx,htk,hup,c0,c1,hval⟩
theorem Nl{u x:List Int}{n:Nat}{t:Int}(hu:n<=u.length)(hx:x.length=u.length)(htk:x.take n=u.take n)(h:val aD x=val aD u+aD^n*t):val aD (x.drop n)=val aD (u.drop n)+t:=by
 rw[pY (B:=aD) (l:=x) n (by omega),pY (B:=aD) (l:=u) n hu,htk]at h;have h1:aD^n*val aD (x.drop n)=aD^n*(val aD (u.drop n)+t):=by rw[pM];omega
 exact PL (by have:=lP (B:=aD) (by decide) n;omega) h1
theorem top3{l:List Int}{m:Nat}(h:bJ aD l)(hm:2<=m)(hl:m<l.length)(hv:val aD l<aD^(m+1)):val aD l=((l.getD m 0*aD+l.getD (m-1) 0)*aD+l.getD (m-2) 0)*aD^(m-2)+val aD (l.take (m-2)):=by
 have h0:=y7 (B:=aD) (l:=l) (n:=m+1) (by omega) (λk hk hmk=>by have:=wT h hv k hmk;rwa[gK hk]at this);obtain⟨k,rfl⟩:∃k,m=k+2:=⟨m-2,by omega⟩;rw[<-h0,gi,gi (n:=k+1),gi (n:=k),show k+2-1=k+1 by omega,show k+2-2=k by omega,fR,fR];grind
theorem top2{l:List Int}{m:Nat}(hm:2<=m)(hl:l.length=m):val aD l=(l.getD (m-1) 0*aD+l.getD (m-2) 0)*aD^(m-2)+val aD (l.take (m-2)):=by
 obtain⟨k,rfl⟩:∃k,m=k+2:=⟨m-2,by omega⟩;have h0:l.take (k+1+1)=l:=lT (by omega);rw[<-h0,gi,gi (n:=k),h0,show k+2-1=k+1 by omega,show k+2-2=k by omega,fR];grind
theorem b1_tm{b v u q:List Int}{m:Nat}(hb:b.length=m)(hm:2<=m)(hv:v.length=m)(hvB:bJ aD v)(huB:bJ aD u)(hqB:bJ aD q)(hu:u.length=q.length+m)(hul:u.length<=17592186044416)(hv1:0<v.getD (m-1) 0)(h0:val aD (u.drop q.length)<val aD v):
 Tm (λN=>bO (AY N b v) N (u,q,iw ((q.length:Int)-1))) (λr=>bJ aD r.1/\r.1.length=u.length/\bJ aD r.2/\r.2.length=q.length/\val aD u=val aD r.1+val aD v*val aD r.2/\val aD r.1<val aD v):=by
 refine Tm.loop (λt:List Int×List Int×Int=>∃k:Nat,t.2.2=(k:Int)-1/\k<=q.length/\bJ aD t.1/\t.1.length=u.length/\bJ aD t.2.1/\t.2.1.length=q.length/\val aD u=val aD t.1+aD^k*(val aD v*val aD (t.2.1.drop k))/\val aD (t.1.drop k)<val aD v) (λt=>(t.2.2+1).toNat)
  ⟨q.length,by rw[bU]<;>omega,bQ _,huB,rfl,hqB,rfl,by simp[val],h0⟩ ?_
 rintro⟨x,y,ii⟩ ⟨k,rfl,hk,hxB,hx,hyB,hy,hval,hlt⟩;dsimp only[AY]at*;refine bB (λh=>?_) (λh=>aZ ?_)
 . obtain⟨n,rfl⟩:∃n,k=n+1:=⟨k-1,by omega⟩;have hi:((n+1:Nat):Int)-1=(n:Int):=by omega
   rw[hi];have him:iw ((n:Int)+(b.length:Int))=((n+m:Nat):Int):=by rw[bU]<;>omega
   have him1:iw (((n+m:Nat):Int)-1)=((n+m-1:Nat):Int):=by rw[bU]<;>omega
   have hbm:iw ((b.length:Int)-1)=((m-1:Nat):Int):=by rw[bU]<;>omega
   rw[him,him1,hbm];refine aJ (gY rfl (by omega)) (aJ (gY rfl (by omega)) (aJ (gY rfl (by omega)) ?_));have hV:=top2 hm hv;have hVl:=ir (B:=aD) (by decide) (hvB.take (m-2));have hVl':=iV (B:=aD) (by decide) (hvB.take (m-2));rw[fm,kX (by omega)]at hVl';have hVW:val aD v<aD^m:=by have:=iV (B:=aD) (by decide) hvB;rwa[hv]at this
   have hxn:=hxB.getD (B:=aD) (by decide) n;have hRe:val aD (x.drop n)=x.getD n 0+aD*val aD (x.drop (n+1)):=by rw[gn (by omega),tk,gK (by omega)]
   have hR0:=ir (B:=aD) (by decide) (hxB.drop n);have hRV:val aD (x.drop n)<4294967296*val aD v:=by
    rw[hRe];simp only[aD]at*;omega
   have hR1:val aD (x.drop n)<aD^(m+1):=by
    rw[fR];simp only[aD]at*;omega
   have hR:=top3 (hxB.drop n) hm (by simp;omega) hR1;have hRl:=ir (B:=aD) (by decide) ((hxB.drop n).take (m-2));have hRl':=iV (B:=aD) (by decide) ((hxB.drop n).take (m-2));rw[fm,xq,kX (by omega)]at hRl';rw[ur,ur,ur,show n+(m-1)=n+m-1 by omega,show n+(m-2)=n+m-2 by omega]at hR;have d1:=hvB.getD (B:=aD) (by decide) (m-1);have d2:=hvB.getD (B:=aD) (by decide) (m-2);have d3:=hxB.getD (B:=aD) (by decide) (n+m);have d4:=hxB.getD (B:=aD) (by decide) (n+m-1);have d5:=hxB.getD (B:=aD) (by decide) (n+m-2);have hp:=lP (B:=aD) (by decide) (m-2);have hV0:=ir (B:=aD) (by decide) hvB;simp only[aD]at d1 d2 d3 d4 d5;rw[iG (z:=x.getD (n+m) 0) d3.1 (by omega),iG (z:=x.getD (n+m-1) 0) d4.1 (by omega),iG (z:=v.getD (m-1) 0) d1.1 (by omega),AH d3.1 d3.2 d4.1 d4.2];have t0:0<=x.getD (n+m) 0*4294967296+x.getD (n+m-1) 0:=by omega
   have t1:x.getD (n+m) 0*4294967296+x.getD (n+m-1) 0<18446744073709551616:=by omega
   refine aJ (FH (by omega)) (aJ (gY rfl (by omega)) ?_);rw[iG (z:=v.getD (m-1) 0) d1.1 (by omega)];refine aJ (Nb (by omega)) ?_;rw[BR t0,Hr t0];have hq0:=Al t0 (show 0<=v.getD (m-1) 0 by omega);have hq1:(x.getD (n+m) 0*4294967296+x.getD (n+m-1) 0)/v.getD (m-1) 0<=x.getD (n+m) 0*4294967296+x.getD (n+m-1) 0:=Int.ediv_le_self _ t0;have hm0:=nG (x.getD (n+m) 0*4294967296+x.getD (n+m-1) 0) (show v.getD (m-1) 0≠0 by omega);have hm1:=nH (x.getD (n+m) 0*4294967296+x.getD (n+m-1) 0) hv1;have hdm:=kI (x.getD (n+m) 0*4294967296+x.getD (n+m-1) 0) (v.getD (m-1) 0);rw[show IntKind.u64.wrap ((x.getD (n+m) 0*4294967296+x.getD (n+m-1) 0)/v.getD (m-1) 0)=(x.getD (n+m) 0*4294967296+x.getD (n+m-1) 0)/v.getD (m-1) 0 from iG hq0 (by omega)];refine Tm.bind (b2_tm (b:=b) (v:=v) (u:=x) (n:=n) (m:=m) (V:=val aD v) (R:=val aD (x.drop n)) (top:=x.getD (n+m) 0*4294967296+x.getD (n+m-1) 0) hb hv hm (by omega) (by omega) rfl rfl rfl ⟨hv1,d1.2⟩ d2 d5 hp hV ⟨hVl,hVl'⟩ hR ⟨hRl,hRl'⟩ hRV
    (by have:=fU (v.getD (m-1) 0) ((x.getD (n+m) 0*4294967296+x.getD (n+m-1) 0)/v.getD (m-1) 0);omega) ⟨hm0,hm1⟩ ⟨hq0,by omega⟩) ?_
   rintro g ⟨g0,g1,hgR,hgV⟩;clear hdm hm0 hm1 hq0 hq1;generalize hRR:val aD (x.drop n)=R at*;generalize hVV:val aD v=V at*;have hsg:iw (((n+m:Nat):Int)+1)=((n+m+1:Nat):Int):=by rw[bU]<;>omega
   rw[hsg];refine aJ (f:=og _ _ _) (a:=()) (by unfold og;rw[bA (by omega)]) ?_;refine Tm.bind (Q:=λr:Bool×List Int=>bJ aD r.2/\r.2.length=x.length/\r.2.take n=x.take n/\(∀k,n+m<k->r.2.getD k 0=x.getD k 0)/\((r.1=false/\val aD (r.2.drop n)=R-g*V)\/(r.1=true/\val aD (r.2.drop n)=R-g*V+aD^(m+1)))) ?_ ?_
   . unfold Ch;refine Tm.bind (b3_tm (b:=b) (v:=v) (u:=x) (n:=n) (m:=m) (g:=g) hb hv hvB hxB (by omega) (by omega) g0 g1) ?_;rintro⟨z,bo⟩ ⟨z1,z2,z3,z4,z5,z6,z7⟩;dsimp only at*;refine aZ ⟨z1,z2,z3,z4,?_⟩;have hva:=Nl (u:=x) (x:=z) (n:=n) (t:=-(g*V)+aD^(m+1)*bo) (by omega) z2 z3 (by rw[z7,hVV,kH aD n (m+1)];grind);rw[hRR]at hva;rcases(show bo=0\/bo=1 by omega)with rfl|rfl
     . exact .inl ⟨rfl,by rw[hva,Am];omega⟩
     . exact .inr ⟨rfl,by rw[hva,xv];omega⟩
   rintro⟨bz,z⟩ ⟨z1,z2,z3,z4,z5⟩;dsimp only at*;have hzn:=ir (B:=aD) (by decide) (z1.drop n);have hzW:val aD (z.drop n)<aD^(m+1):=JT (z1.drop n) (λj hj=>by rw[ur,z4 _ (by omega)];have:=wT (hxB.drop n) (by rw[hRR];exact hR1) j hj;rwa[ur]at this);have e1:(g+1)*V=g*V+V:=by grind
   refine Tm.bind (Q:=λr:List Int×Int=>bJ aD r.1/\r.1.length=x.length/\r.1.take n=x.take n/\0<=r.2/\r.2<4294967296/\val aD (r.1.drop n)=R-r.2*V/\val aD (r.1.drop n)<V) ?_ ?_
   . refine bB (λhz=>?_) (λhz=>aZ ?_)
     . have z6:val aD (z.drop n)=R-g*V+aD^(m+1):=by
        rcases z5 with z5|z5
        . rw[z5.1]at hz;cases hz
        . exact z5.2
       refine Tm.bind (b4_tm (v:=v) (u:=z) (n:=n) (m:=m) hv hvB z1 (by omega) (by omega)) ?_;rintro⟨s,carry⟩ ⟨s1,s2,s3,s4,s5,s6,s7⟩;dsimp only at*;have hset:=λy=>vE (B:=aD) (l:=s) (n:=n+m) (y:=y) (by omega);rw[<-gK (l:=s) (n:=n+m) (by omega)]at hset;have hsd:=s1.getD (B:=aD) (by decide) (n+m);refine aJ (gY rfl (by omega)) (aJ (gY rfl (by omega)) (aJ (eH rfl (by omega)) (aZ ?_)));have hsu:=λk hk=>s4 k hk;generalize hD:s.getD (n+m) 0=D at*;simp only[aD]at hsd;have ec:eL (D+eL carry)=(D+carry)%4294967296:=by rw[gZ,gZ];omega
       rw[ec];have hdm:=kI (D+carry) 4294967296;have hdb:0<=(D+carry)%4294967296/\(D+carry)%4294967296<4294967296:=by omega
       generalize(D+carry)%4294967296=D' at*;generalize(D+carry)/4294967296=tt at*;have hB':bJ aD (s.set (n+m) D'):=s1.set (by simp only[aD];omega);have hva:=Nl (u:=z) (x:=s.set (n+m) D') (n:=n) (t:=V-aD^(m+1)*tt) (by omega) (by simp;omega) (by rw[xu (by omega)];exact s3) (by
        rw[hset,s7,hVV,kH,fR];have hw:aD=4294967296:=rfl;have e4:D'=D+carry-4294967296*tt:=by omega
        rw[e4];generalize aD^n=P at*;generalize aD^m=Q at*;rw[hw];grind)
       have hlo:=ir (B:=aD) (by decide) (hB'.drop n);have hhi:val aD ((s.set (n+m) D').drop n)<aD^(m+1):=JT (hB'.drop n) (λj hj=>by
        rw[ur,uz (by omega),aQ (by omega),s4 _ (by omega),z4 _ (by omega)];have:=wT (hxB.drop n) (by rw[hRR];exact hR1) j hj;rwa[ur]at this)
       have hpp:=lP (B:=aD) (by decide) (m+1);have hgp:0<g:=by
        rcases pO 0 g with h'|h'
        . exact h'
        . have:g=0:=by omega
          subst this;rw[Int.zero_mul]at z6;omega
       have htt:tt=1:=by
        have e3:tt=0\/tt=1:=by omega
        rcases e3 with e3|e3
        . subst e3;rw[hva,z6,Am]at hhi;omega
        . exact e3
       subst htt;have e5:(g-1)*V=g*V-V:=by grind
       refine⟨hB',by simp;omega,by dsimp only;rw[xu (by omega)];exact s3.trans z3,?_,?_,?_,?_⟩
       . show 0<=uw (g-1);rw[iG]<;>omega
       . show uw (g-1)<_;rw[iG]<;>omega
       . show val aD ((s.set (n+m) D').drop n)=R-uw (g-1)*V;rw[iG (show 0<=g-1 by omega) (by omega),hva,z6,e5,xv];omega
       . show val aD ((s.set (n+m) D').drop n)<V;rw[hva,z6,xv];omega
     . have z6:val aD (z.drop n)=R-g*V:=by
        rcases z5 with z5|z5
        . exact z5.2
        . exact bX z5.1 hz
       exact⟨z1,z2,z3,g0,g1,z6,by dsimp only;omega⟩
   rintro⟨s,g'⟩ ⟨s1,s2,s3,s4,s5,s6,s7⟩;dsimp only at*;refine aJ (gY rfl (by omega)) (aJ (eH rfl (by omega)) (aZ ?_));have eg:eL g'=g':=by rw[gZ];omega
   rw[eg];refine⟨⟨n,by show iw ((n:Int)-1)=_;rw[bU]<;>omega,by omega,s1,s2.trans hx,hyB.set (by simp only[aD];omega),by simp;omega,?_,s7⟩,?_⟩
   . show val aD u=val aD s+aD^n*(V*val aD ((y.set n g').drop n));rw[gn (by simp;omega),tk,P3,List.drop_set_of_lt (by omega),hval,pY (B:=aD) (l:=s) n (by omega),s6,s3,pY (B:=aD) (l:=x) n (by omega),hRR,fR];generalize aD^n=P at*;generalize aD=W at*;grind
   . show(iw ((n:Int)-1)+1).toNat<((n:Int)+1).toNat;rw[bU]<;>omega
 . obtain rfl:k=0:=by omega
   simp only[mf,Int.pow_zero,Int.one_mul]at hval hlt;exact⟨hxB,hx,hyB,hy,hval,hlt⟩
open Go Go.X
theorem U9{x:Int}{s:Nat}(hs:s<=31)(z:Int)(h:x=2^s*z):x%4294967296%2^s=0:=by
 have hPQ:=C1 hs;rw[<-hPQ,Int.emod_emod_of_dvd _ (IY _ _),h,Int.mul_emod_right]
theorem b5_tm{u z:List Int}{n:Int}{s m:Nat}{t:Int}(hn:uw n=s)(hs:s<=31)(hz:z=List.replicate m 0)(huB:bJ aD u)(hu:m<u.length)(hul:u.length<=17592186044416)(hm:0<m)(hv:val aD u<aD^m)(ht:val aD u=t*2^s):
 Tm (λN=>bO (Dw N n u z) N (z,0)) (λr=>bJ aD r/\r.length=m/\val aD r=t):=by
 subst hz;have hPQ:=C1 hs;have hP:(0:Int)<2^s:=lK (by decide);have hQ:(0:Int)<2^(32-s):=lK (by decide);have hP31:(2:Int)^s<=2147483648:=lq (B:=2) (by decide) hs;have c0:u.getD 0 0%2^s=0:=by
  have h1:val aD u%4294967296=u.getD 0 0:=by
   cases u with
   |nil=>simp at hu
   |cons x l=>
    have:=huB.head;simp only[val,List.getD_cons_zero];rw[show aD*val aD l=4294967296*val aD l from rfl,IJ];simp only[aD]at this;omega
  rw[<-h1];exact U9 hs t (by rw[ht,fU])
 refine Tm.loop (λr:List Int×Int=>∃j:Nat,r.2=j/\j<=m/\bJ aD r.1/\r.1.length=m/\val aD (r.1.take j)*2^s=val aD (u.take j)+aD^j*(u.getD j 0%2^s)) (λr=>m-r.2.toNat)
  ⟨0,rfl,by omega,bJ.dG (by decide),by simp,by rw[c0];simp[val]⟩ ?_
 rintro⟨r,jj⟩ ⟨j,rfl,hj,hB,hr,hval⟩;dsimp only[Dw]at*;rw[mg];refine bB (λh=>?_) (λh=>aZ ?_)
 . have hj1:iw ((j:Int)+1)=((j+1:Nat):Int):=by rw[bU]<;>omega
   rw[hj1,hn];refine aJ (gY rfl (by omega)) (aJ (gY rfl (by omega)) (aJ (yk (by omega)) (aJ (gY rfl (by omega)) (aJ (eH rfl (by omega)) (aZ ?_)))));have hx:=huB.getD (B:=aD) (by decide) j;have hy:=huB.getD (B:=aD) (by decide) (j+1);have hut:=gi (B:=aD) (l:=u) (n:=j);have hts:=λy=>take_set (l:=r) (n:=j) (y:=y) (by omega);generalize u.getD j 0=x at*;generalize hY:u.getD (j+1) 0=y at*;simp only[aD]at hx hy;rw[iG hx.1 (by omega),iG hy.1 (by omega),AH hy.1 hy.2 hx.1 hx.2];have esh:gj .u64 (y*4294967296+x) (s:Int)=(y*4294967296+x)/2^s:=by
    unfold gj;rw[show min ((s:Int)).toNat IntKind.u64.bits=s by show min _ 64=s;omega];exact j4 _ (eK hP)
   rw[esh];have hx1:=kI x (2^s);have hy1:=kI y (2^s);have hxm0:=nG x (show(2:Int)^s≠0 by omega);have hxm1:=nH x hP;have hym0:=nG y (show(2:Int)^s≠0 by omega);have hym1:=nH y hP;have hxd1:x/2^s<2^(32-s):=IU hP (by rw[fU,hPQ];omega);have hxd0:0<=x/2^s:=Al hx.1 (by omega);have e1:(y*4294967296+x)/2^s=y*2^(32-s)+x/2^s:=by
    rw[<-hPQ,show y*(2^s*2^(32-s))+x=x+2^s*(y*2^(32-s)) by grind,Int.add_mul_ediv_left _ _ (by omega),IW]
   have e2:eL (y*2^(32-s)+x/2^s)=(y%2^s)*2^(32-s)+x/2^s:=by
    have hle:(y%2^s)*2^(32-s)+2^(32-s)<=4294967296:=by
     have:=fp (show y%2^s+1<=2^s by omega) (show(0:Int)<=2^(32-s) by omega);rw[hPQ]at this;have e:(y%2^s+1)*2^(32-s)=(y%2^s)*2^(32-s)+2^(32-s):=by grind
     omega
    have hge:0<=(y%2^s)*2^(32-s):=fb hym0 (by omega);have e3:y*2^(32-s)+x/2^s=(y%2^s)*2^(32-s)+x/2^s+4294967296*(y/2^s):=by
     have e4:4294967296*(y/2^s)=2^s*2^(32-s)*(y/2^s):=by rw[hPQ]
     have e5:y*2^(32-s)=(y%2^s+2^s*(y/2^s))*2^(32-s):=by rw[hy1]
     rw[e4,e5];grind
    rw[gZ,e3,IJ,DY (by omega) (by omega)]
   rw[e1,e2];have hdig:0<=(y%2^s)*2^(32-s)+x/2^s/\(y%2^s)*2^(32-s)+x/2^s<4294967296:=by
    rw[<-e2,gZ];omega
   refine⟨⟨j+1,rfl,by omega,hB.set (by simp only[aD];exact hdig),by simp;omega,?_⟩,?_⟩
   . show val aD ((r.set j _).take (j+1))*2^s=val aD (u.take (j+1))+aD^(j+1)*(u.getD (j+1) 0%2^s);rw[hY];rw[hts,hut,fR];have hw:aD=2^s*2^(32-s):=hPQ.symm;have e6:aD^j*aD*(y%2^s)=aD^j*(2^s*2^(32-s))*(y%2^s):=by rw[<-hw]
     rw[e6];have e7:aD^j*x=aD^j*(x%2^s+2^s*(x/2^s)):=by rw[hx1]
     rw[e7];generalize aD^j=P at*;generalize val aD (r.take j)=a1 at*;generalize val aD (u.take j)=a2 at*;have:(a1+P*((y%2^s)*2^(32-s)+x/2^s))*2^s=a1*2^s+P*((y%2^s)*2^(32-s)+x/2^s)*2^s:=by grind
     rw[this,hval];grind
   . show m-(((j+1:Nat):Int)).toNat<m-((j:Int)).toNat;omega
 . obtain rfl:j=m:=by omega
   rw[lT (by omega),wT huB hv j (bQ _)]at hval;have h1:=y7 (B:=aD) (l:=u) (n:=j) (by omega) (λk hk hmk=>by have:=wT huB hv k hmk;rwa[gK hk]at this);rw[h1,ht]at hval;simp only[Int.zero_emod,Am,Int.add_zero]at hval;exact⟨hB,hr,Int.eq_of_mul_eq_mul_right (by omega) hval⟩
theorem Ry{l:List Int}(h:bJ aD l)(hn:gC l)(hl:0<l.length):0<l.getD (l.length-1) 0:=by
 have h1:=h.getD (B:=aD) (by decide) (l.length-1);have h2:l.getD (l.length-1) 0≠0:=by
  intro e;apply hn;rw[IL,cy (by omega)];rw[gK (by omega)]at e;rw[e]
 omega
theorem NN{a b:List Int}(ha:bJ aD a)(hb:bJ aD b)(na:gC a)(nb:gC b)(hb0:0<b.length)(hl:a.length<=8796093022208)(hl':b.length<=8796093022208):
 Tm (λN=>wz N a b) (λr=>Dg aD r.1 (val aD a/val aD b)/\Dg aD r.2 (val aD a%val aD b)/\r.1.length<=a.length/\r.2.length<=a.length+1):=by
 unfold wz;have hA0:=ir (B:=aD) (by decide) ha;have hB0:=xD (B:=aD) (by decide) hb nb (by intro e;rw[e]at hb0;simp at hb0);refine Tm.bind (B2 ha hb na nb (by omega) (by omega)) ?_;rintro _ rfl;refine bB (λh=>?_) (λh=>?_)
 . have hlt:val aD a<val aD b:=by revert h;unfold bZ;split<;>(try split)<;>omega
   refine Tm.bind (qf ha (by omega)) ?_;rintro r ⟨hr,hrl⟩;refine aZ ⟨?_,?_,by simp,by dsimp only;omega⟩
   . rw[P1 hA0 hlt];exact Dg.nil
   . rw[DY hA0 hlt];exact hr
 . have hge:val aD b<=val aD a:=by revert h;unfold bZ;split<;>(try split)<;>omega
   have hle:b.length<=a.length:=by
    rcases cG a.length b.length with h'|h'
    . have:=nU nT ha hb nb h';omega
    . exact h'
   have hlast:=Ry hb nb hb0;have hlast':=hb.getD (B:=aD) (by decide) (b.length-1);refine bB (λh1=>?_) (λh1=>?_)
   . have hb1:b.length=1:=by omega
     refine aJ (gY (n:=0) rfl (by omega)) ?_;have hbv:val aD b=b.getD 0 0:=by
      match b,hb1 with
      |[x],_=>simp[val]
     rw[hb1]at hlast hlast';simp only[xm]at hlast hlast';refine Tm.bind (Nd ha hlast hlast'.2 (by omega)) ?_;rintro⟨q,r⟩ ⟨hq,hqv,hrv,hql⟩;dsimp only at*;refine Tm.bind (qf hq (by omega)) ?_;rintro q' ⟨hq',hql'⟩;have hr0:=nG (val aD a) (show b.getD 0 0≠0 by omega);have hr1:=nH (val aD a) hlast;refine Tm.bind (qf (d:=[r]) (bJ.cons (by rw[hrv];omega) bJ.nil) (by simp)) ?_;rintro r' ⟨hr',hrl'⟩;refine aZ ⟨?_,?_,by dsimp only;omega,by simp at hrl';dsimp only;omega⟩
     . rw[hbv,<-hqv];exact hq'
     . rw[hbv,<-hrv];simpa[val]using hr'
   . have hm:2<=b.length:=by omega
     generalize hmm:b.length=m at*;have hbm:iw ((m:Int)-1)=((m-1:Nat):Int):=by rw[bU]<;>omega
     rw[hbm];refine aJ (gY rfl (by omega)) ?_;generalize hx:b.getD (m-1) 0=x at*;refine Tm.bind (Rv hlast hlast'.2) ?_;rintro _ ⟨s,rfl,hs,s1,s2⟩;have eus:uw (s:Int)=s:=iG (by omega) (by omega);refine Tm.bind (Nx eus hs ha (by omega)) ?_;rintro u ⟨huB,huv,hul⟩;refine Tm.bind (Nx eus hs hb (by omega)) ?_;rintro v0 ⟨hvB0,hvv0,hvl0⟩;refine aJ (rQ (m:=0) (n:=m) rfl rfl (by omega) (by omega)) ?_;simp only[mf];have hPQ:=C1 hs;have hP:(0:Int)<2^s:=lK (by decide);have hQ:(0:Int)<2^(32-s):=lK (by decide);have hP31:(2:Int)^s<=2147483648:=lq (B:=2) (by decide) hs;have hbt:val aD b=val aD (b.take (m-1))+aD^(m-1)*x:=by
      have:=gi (B:=aD) (l:=b) (n:=m-1);rwa[lT (by omega),hx]at this
     have hbl:=iV (B:=aD) (by decide) (hb.take (m-1));rw[fm,kX (by omega)]at hbl;have hbl0:=ir (B:=aD) (by decide) (hb.take (m-1));have pm:=lP (B:=aD) (by decide) (m-1);have pm1:aD^m=aD^(m-1)*aD:=by rw[<-fR];congr 1;omega
     have hx32:(x+1)*2^s<=4294967296:=by
      have h1:x*2^s<2^(32-s)*2^s:=by rw[fU (2^(32-s)),hPQ];exact s2
      have h2:=P2 h1 (by omega);have h3:=fp (show x+1<=2^(32-s) by omega) (show(0:Int)<=2^s by omega);rw[fU (2^(32-s)),hPQ]at h3;exact h3
     have hv0m:val aD v0<aD^m:=by
      have h1:val aD b<aD^(m-1)*(x+1):=by rw[pM];omega
      have h2:=P0 h1 hP;have h3:=gU hx32 (show 0<=aD^(m-1) by omega);have e:aD^(m-1)*(x+1)*2^s=aD^(m-1)*((x+1)*2^s):=by grind
      rw[hvv0,pm1];simp only[aD]at*;omega
     have hvv:val aD (v0.take m)=val aD b*2^s:=by
      rw[<-hvv0];exact y7 (by omega) (λk hk hmk=>by have:=wT hvB0 hv0m k hmk;rwa[gK hk]at this)
     have hvl:(v0.take m).length=m:=by simp;omega
     have hvB:=hvB0.take m;generalize v0.take m=v at*;have hvge:2147483648*aD^(m-1)<=val aD v:=by
      rw[hvv];have h1:=fp (show aD^(m-1)*x<=val aD b by omega) (show(0:Int)<=2^s by omega);have h2:=gU s1 (show 0<=aD^(m-1) by omega);have e:aD^(m-1)*x*2^s=aD^(m-1)*(x*2^s):=by grind
      rw[fU 2147483648];omega
     have hv1:0<v.getD (m-1) 0:=by
      have h1:val aD v=val aD (v.take (m-1))+aD^(m-1)*v.getD (m-1) 0:=by
       have:=gi (B:=aD) (l:=v) (n:=m-1);rwa[lT (by omega)]at this
      have h2:=iV (B:=aD) (by decide) (hvB.take (m-1));rw[fm,kX (by omega)]at h2;have h3:=hvB.getD (B:=aD) (by decide) (m-1);rcases pO 0 (v.getD (m-1) 0)with h4|h4
      . exact h4
      . have h5:v.getD (m-1) 0=0:=by omega
        rw[h5]at h1;omega
     refine aJ (iu (n:=a.length+1-m) (by rw[hul,bU]<;>omega) (by omega) (by decide)) ?_;have hul2:u.length=(List.replicate (a.length+1-m) (0:Int)).length+m:=by simp;omega
     refine Tm.bind (b1_tm (b:=b) (v:=v) (u:=u) (q:=List.replicate (a.length+1-m) 0) (m:=m) hmm hm hvl hvB huB (bJ.dG (by decide)) hul2 (by omega) hv1 ?_) ?_
     . have h1:=pY (B:=aD) (l:=u) (List.replicate (a.length+1-m) (0:Int)).length (by omega);rw[mg]at h1⊢;have h2:=ir (B:=aD) (by decide) (huB.take (a.length+1-m));have h3:=P0 (iV (B:=aD) (by decide) ha) hP;have p1:aD^a.length=aD^(a.length+1-m)*aD^(m-1):=by rw[<-kH];congr 1;omega
       have h4:aD^(a.length+1-m)*val aD (u.drop (a.length+1-m))<aD^(a.length+1-m)*(aD^(m-1)*2^s):=by
        rw[<-D3,<-p1];omega
       have h5:=IX h4 (by have:=lP (B:=aD) (by decide) (a.length+1-m);omega);have h6:=gU hP31 (show 0<=aD^(m-1) by omega);rw[fU 2147483648]at hvge;omega
     rintro⟨u',q⟩ ⟨hu'B,hu'l,hqB,hql,hAv,hlt⟩;dsimp only at*;refine aJ (iu (n:=m) rfl (by omega) (by decide)) ?_;have hu0:=ir (B:=aD) (by decide) hu'B;have ht:val aD u'=(val aD a-val aD b*val aD q)*2^s:=by
      rw[huv,hvv]at hAv;have e:(val aD a-val aD b*val aD q)*2^s=val aD a*2^s-val aD b*2^s*val aD q:=by grind
      omega
     have hr0:0<=val aD a-val aD b*val aD q:=by
      rcases pO (val aD a-val aD b*val aD q) 0 with h1|h1
      . have:=fp (show val aD a-val aD b*val aD q≤-1 by omega) (show(0:Int)<=2^s by omega);omega
      . exact h1
     have hr1:val aD a-val aD b*val aD q<val aD b:=by
      rw[ht,hvv]at hlt;exact P2 hlt (by omega)
     refine Tm.bind (b5_tm (u:=u') (n:=(s:Int)) (s:=s) (m:=m) eus hs rfl hu'B (by omega) (by omega) (by omega) (by have:=iV (B:=aD) (by decide) hvB;rw[hvl]at this;omega) ht) ?_;rintro r ⟨hrB,hrl,hrv⟩;refine Tm.bind (qf hqB (by rw[hql];simp;omega)) ?_;rintro q' ⟨hq',hql'⟩;refine Tm.bind (qf hrB (by omega)) ?_;rintro r' ⟨hr',hrl'⟩;have hdm:=(IZ (a:=val aD a) (b:=val aD b) (r:=val aD a-val aD b*val aD q) (q:=val aD q) hB0).2 ⟨by omega,hr0,hr1⟩;rw[mg]at hql;refine aZ ⟨?_,?_,by dsimp only;omega,by dsimp only;omega⟩
     . rw[hdm.1];exact hq'
     . rw[hdm.2,<-hrv];exact hr'
structure DivP (a b:Int)(r:aC×aC×Bool):Prop where
 ok:r.2.2=decide (b≠0)
 quo:Is r.1 (a.fdiv b)
 rem:Is r.2.1 (if b=0 then 0 else a.fmod b)
theorem Ni{x y:Int}(hx:0<=x)(hy:0<y):(-x).fdiv (-y)=x/y/\(-x).fmod (-y)=-(x%y):=by
 have h1:(-x).fdiv (-y)=x.fdiv y:=I0 _ _;rw[h1,j4 _ (by omega)];refine⟨rfl,?_⟩;have h2:=I1 (-x) (-y);rw[h1,j4 _ (by omega)]at h2;have h3:=kI x y;have e:-y*(x/y)=-(y*(x/y)):=by grind
 omega
theorem Pb{x y:Int}(hy:0<y):(-x).fdiv y=(if x%y=0 then-(x/y)else-(x/y+1))/\(-x).fmod y=(if x%y=0 then 0 else y-x%y):=by
 rw[j4 _ (by omega),I2 _ (by omega)];have h3:=kI x y;have h4:=nG x (show y≠0 by omega);have h5:=nH x hy;split
 . rename_i h;have:=(IZ (a:=-x) (b:=y) (r:=0) (q:=-(x/y)) hy).2 ⟨by have e:y*-(x/y)=-(y*(x/y)):=(by grind);omega,by omega,by omega⟩;exact this
 . have:=(IZ (a:=-x) (b:=y) (r:=y-x%y) (q:=-(x/y+1)) hy).2 ⟨by have e:y*-(x/y+1)=-(y*(x/y))-y:=(by grind);omega,by omega,by omega⟩;exact this
theorem Om{x y:Int}:x.fdiv (-y)=(-x).fdiv y/\x.fmod (-y)=-((-x).fmod y):=by
 have h1:x.fdiv (-y)=(-x).fdiv y:=by rw[<-I0 x,I3]
 refine⟨h1,?_⟩;have h2:=I1 x (-y);have h3:=I1 (-x) y;rw[h1]at h2;have e:-y*(-x).fdiv y=-(y*(-x).fdiv y):=by grind
 omega
theorem inB1:bJ aD [1]:=bJ.cons (by decide) bJ.nil
theorem We{a b:aC}(ha:bJ aD a.aR)(hb:bJ aD b.aR)(hl:a.aR.length<=4398046511104)(hl':b.aR.length<=4398046511104):
 Tm (λN=>lO N a b) (λr=>DivP (bv a) (bv b) r/\r.1.aR.length<=a.aR.length+2/\r.2.1.aR.length<=max (a.aR.length+1) b.aR.length):=by
 unfold lO;refine Tm.bind (qm ha (by omega)) ?_;rintro x ⟨hx,hxl⟩;refine Tm.bind (qm hb (by omega)) ?_;rintro y ⟨hy,hyl⟩;have hz:=hy.dg.zero (by decide);refine bB (λh=>aZ ?_) (λh=>?_)
 . have h0:bv b=0:=by have:=hz.1 (nD.1 (by omega));omega
   refine⟨⟨by simp[h0],?_,?_⟩,by simp,by simp⟩
   . rw[h0,P4];exact⟨Dg.nil,rfl⟩
   . rw[bA h0];exact⟨Dg.nil,rfl⟩
 . have h0:bv b≠0:=λe=>h (by rw[hz.2 (by omega)];rfl);have hyl0:0<y.aR.length:=by omega
   have vx:=hx.Cr;have vy:=hy.Cr;have n1:=hx.neg;have n2:=hy.neg;have X0:=ir (B:=aD) (by decide) hx.dg.bT;refine Tm.bind (NN hx.dg.bT hy.dg.bT hx.dg.fP hy.dg.fP hyl0 (by omega) (by omega)) ?_;rintro⟨q,r⟩ ⟨hq,hr,hql,hrl⟩;dsimp only at*;generalize hX:val aD x.aR=X at*;generalize hY:val aD y.aR=Y at*;have Y0:0<Y:=by rw[vy];split<;>omega
   have hr0:=nG X (show Y≠0 by omega);have hr1:=nH X Y0;have hq0:=Al X0 (show 0<=Y by omega);have hrz:=hr.zero (by decide);refine bB (λhs=>?_) (λhs=>?_)
   . 
     have hab:(bv a).fdiv (bv b)=(-X).fdiv Y/\(bv a).fmod (bv b)=if y.bR=true then-((-X).fmod Y)else(-X).fmod Y:=by
      have hs':¬x.bR=y.bR:=by simpa using hs
      by_cases p:bv a<0<;>by_cases p':bv b<0<;>simp only[p,p',decide_true,decide_false,if_true,if_false]at n1 n2 vx vy
      . rw[n1,n2]at hs';exact bX rfl hs'
      . rw[n2,show bv a=-X by omega,show bv b=Y by omega];simp
      . rw[n2,show bv a=X by omega,show bv b=-Y by omega];simpa using Om
      . rw[n1,n2]at hs';exact bX rfl hs'
     have hdd:=Pb (x:=X) Y0;refine Tm.bind (Q:=λt:List Int×List Int=>bJ aD t.1/\bJ aD t.2∧-(val aD t.1)=(-X).fdiv Y/\val aD t.2=(-X).fmod Y/\t.1.length<=x.aR.length+2/\t.2.length<=max (x.aR.length+1) y.aR.length) (bB (λhrp=>?_) (λhrp=>aZ ?_)) ?_
     . have hrne:X%Y≠0:=λe=>by have:=hrz.2 e;rw[this]at hrp;simp at hrp
       rw[aQ hrne,aQ hrne]at hdd;refine Tm.bind (JE hq.bT inB1 (by omega) (by simp)) ?_;rintro q1 ⟨hq1,hq1v,hq1l⟩;have hle:r.length<=y.aR.length:=by
        rcases cG y.aR.length r.length with h'|h'
        . have:=nU nT hy.dg.bT hr.bT hr.fP h';rw[hY,hr.val]at this;omega
        . exact h'
       refine Tm.bind (Fu hy.dg.bT hr.bT (by omega) hle (by rw[hY,hr.val];omega)) ?_;rintro r1 ⟨hr1B,hr1v,hr1l⟩;refine aZ ⟨hq1,hr1B,?_,?_,?_,by dsimp only;omega⟩
       . rw[hdd.1,hq1v,hq.val];simp[val]
       . rw[hdd.2,hr1v,hY,hr.val]
       . simp only[cN,dY]at hq1l;dsimp only;omega
     . have hre:r=[]:=nD.1 (by omega);have hrz':=hrz.1 hre;rw[bA hrz',bA hrz']at hdd;refine⟨hq.bT,hr.bT,?_,?_,by dsimp only;omega,by dsimp only;omega⟩
       . rw[hdd.1,hq.val]
       . rw[hdd.2,hr.val,hrz']
     rintro⟨q1,r1⟩ ⟨hq1,hr1B,hq1v,hr1v,hq1l,hr1l⟩;dsimp only at*;refine Tm.bind (ni hq1 (by omega)) ?_;rintro q2 ⟨hq2,hq2l⟩;refine Tm.bind (ni hr1B (by omega)) ?_;rintro r2 ⟨hr2,hr2l⟩;refine aZ ⟨⟨by simp[h0],?_,?_⟩,by dsimp only;omega,by dsimp only;omega⟩
     . rw[hab.1,<-hq1v];simpa using hq2
     . rw[aQ h0,hab.2,<-hr1v];exact hr2
   . 
     have hs':x.bR=y.bR:=by simpa using hs
     have hab:(bv a).fdiv (bv b)=X/Y/\(bv a).fmod (bv b)=if y.bR=true then-(X%Y)else X%Y:=by
      by_cases p:bv a<0<;>by_cases p':bv b<0<;>simp only[p,p',decide_true,decide_false,if_true,if_false]at n1 n2 vx vy
      . rw[n2,show bv a=-X by omega,show bv b=-Y by omega];simpa using Ni X0 Y0
      . rw[n1,n2]at hs';cases hs'
      . rw[n1,n2]at hs';cases hs'
      . rw[n2,show bv a=X by omega,show bv b=Y by omega,j4 _ (by omega),I2 _ (by omega)];simp
     refine Tm.bind (ni hq.bT (by omega)) ?_;rintro q2 ⟨hq2,hq2l⟩;refine Tm.bind (ni hr.bT (by omega)) ?_;rintro r2 ⟨hr2,hr2l⟩;refine aZ ⟨⟨by simp[h0],?_,?_⟩,by dsimp only;omega,by dsimp only;omega⟩
     . rw[hab.1,<-hq.val];simpa using hq2
     . rw[aQ h0,hab.2,<-hr.val];exact hr2
open Go Go.X
theorem Fi{B:Int}(hB:1<B){a b:List Int}(ha:bJ B a)(hb:bJ B b)(nb:gC b)(h:val B b<=val B a):b.length<=a.length:=by
 rcases cG a.length b.length with h'|h'
 . have:=nU hB ha hb nb h';omega
 . exact h'
def vn(j:Nat):Int:=if j=0 then 0 else 2^(j-1)
theorem C0(j:Nat):vn (j+1)=2^j:=by simp[vn]
theorem Rf(j:Nat)(hj:j<16):iw (Int.tdiv (vn (j+1)) 2)=vn j:=by
 rw[C0];cases j with
 |zero=>decide
 |succ j=>
  rw[C0,BR (eK (lK (by decide))),fR,Int.mul_ediv_cancel _ (by decide)];have h1:=lP (B:=2) (by decide) j;have h2:=lq (B:=2) (by decide) (show j<=15 by omega);have e:(2:Int)^15=32768:=by decide
  rw[bU]<;>omega
theorem T1{x:Int}(hx:0<=x)(j:Nat):x/2^j=2*(x/2^(j+1))+x/2^j%2:=by
 have h:=kI (x/2^j) 2;have e:x/2^j/2=x/2^(j+1):=by rw[Int.ediv_ediv_of_nonneg (eK (lK (by decide))),fR]
 rw[e]at h;omega
theorem UN{a b q r:List Int}{n:Nat}{H Qh:Int}(ha:bJ bC a)(hb:bJ bC b)(nb:gC b)(hb0:0<val bC b)(hla:a.length<=4398046511104)(hlb:b.length<=4398046511104)(hn:n<a.length)(hq:q.length=a.length)(hqB:bJ bC q)(hqn:q.getD n 0=0)
 (hr:Dg bC r (val bC r))(hrlt:val bC r<val bC b)(hI:H=val bC b*Qh+val bC r):
 Tm (λN=>bO (BP N a b n) N (q,r,32768)) (λt=>t.1.length=a.length/\bJ bC t.1/\Dg bC t.2 (val bC t.2)/\val bC t.2<val bC b/\(∀m,m≠n->t.1.getD m 0=q.getD m 0)/\H*65536+a.getD n 0=val bC b*(Qh*65536+t.1.getD n 0)+val bC t.2):=by
 have hx:=ha.getD (B:=bC) (by decide) n;generalize hxx:a.getD n 0=x at*;simp only[bC]at hx;have key:∀r:List Int,Dg bC r (val bC r)->val bC r<val bC b->r.length<=b.length:=λr h1 h2=>Fi oS hb h1.bT h1.fP (by omega);refine Tm.loop (λt:List Int×List Int×Int=>∃(j:Nat) (y:Int),t.2.2=vn j/\j<=16/\t.1.length=a.length/\bJ bC t.1/\Dg bC t.2.1 (val bC t.2.1)/\val bC t.2.1<val bC b/\(∀m,m≠n->t.1.getD m 0=q.getD m 0)/\0<=y/\y<2^(16-j)/\t.1.getD n 0=y*2^j/\H*2^(16-j)+x/2^j=val bC b*(Qh*2^(16-j)+y)+val bC t.2.1) (λt=>t.2.2.toNat)
  ⟨16,0,rfl,bQ _,hq,hqB,hr,hrlt,λ_ _=>rfl,by simp,by simp,by rw[hqn];simp,?_⟩ ?_
 . show H*2^(16-16)+x/2^16=_;have e:(2:Int)^16=65536:=by decide
   rw[e,P1 hx.1 hx.2];simp;omega
 rintro⟨qq,rr,bit⟩ ⟨j,y,rfl,hj,hql,hqqB,hrr,hrrlt,hoth,y0,y1,hy,hI2⟩;dsimp only[BP]at*;have hr0:=hrr.xI (by decide);cases j with
 |zero=>
  refine cE (by decide) (aZ ⟨hql,hqqB,hrr,hrrlt,hoth,?_⟩);simp only[Nat.sub_zero,Int.pow_zero,xv,Int.ediv_one]at hy hI2;have e:(2:Int)^16=65536:=by decide
  rw[e]at hI2;show H*65536+x=val bC b*(Qh*65536+qq.getD n 0)+val bC rr;rw[hy];exact hI2
 |succ j=>
  have hhalf:=Rf j (by omega);rw[hhalf];rw[C0];have hP:=lK (n:=2) (m:=j) (by decide);have hP2:(2:Int)^j<=32768:=lq (B:=2) (by decide) (show j<=15 by omega);refine cR (by omega) ?_;have hrl:=key rr hrr hrrlt;refine Tm.bind (CT hrr.bT hrr.bT (by omega) (by omega)) ?_;rintro r2 ⟨hr2,hr2l⟩;refine aJ (gY rfl (by omega)) ?_;rw[hxx];refine aJ (FH (by omega)) ?_;rw[BR hx.1];have hd0:=Al hx.1 (show(0:Int)<=2^j by omega);have hd1:x/2^j<=x:=Int.ediv_le_self _ hx.1;rw[show IntKind.i64.wrap (x/2^j)=x/2^j from wi64 (by omega) (by omega),Hr hd0];have hhb:=T1 hx.1 j;have hv:val bC r2=val bC rr+val bC rr:=hr2.val;have r3:Tm (λN=>if x/2^j%2=1 then(qK N r2 [1]).bind λr1352=>some r1352 else some r2) (λt=>Dg bC t (2*val bC rr+x/2^j%2)/\t.length<=b.length+2):=by
   refine bB (λh=>?_) (λh=>aZ ⟨?_,by omega⟩)
   . refine Tm.bind (CT hr2.bT (bJ.cons (by decide) bJ.nil) (by omega) (by simp)) ?_;rintro t ⟨ht,htl⟩;refine aZ ⟨?_,by simp only[cN,dY]at htl;omega⟩;rw[hv]at ht;simp only[val]at ht;rw[h,show 2*val bC rr+1=val bC rr+val bC rr+(1+bC*0) by omega];exact ht
   . rw[show 2*val bC rr+x/2^j%2=val bC rr+val bC rr by omega];exact hr2
  refine Tm.bind r3 ?_;rintro r3 ⟨h3,h3l⟩;refine Tm.bind (ML h3.bT hb h3.fP nb (by omega) (by omega)) ?_;rintro _ rfl;rw[h3.val];have hbit:0<=x/2^j%2/\x/2^j%2<=1:=by omega
  have hsub:16-j=(16-(j+1))+1:=by omega
  have hy2:(2:Int)^(16-j)=2*2^(16-(j+1)):=by rw[hsub,fR,fU]
  have hyj:y*2^(j+1)=2*y*2^j:=by rw[fR];grind
  have hmeas:(vn j).toNat<((2:Int)^j).toNat:=by
   cases j with
   |zero=>decide
   |succ j=>
    rw[C0,fR];have:=lK (n:=2) (m:=j) (by decide);omega
  refine bB (λh=>?_) (λh=>aZ ⟨⟨j,2*y,rfl,by omega,hql,hqqB,by rw[h3.val];exact h3,?_,hoth,by omega,by omega,by rw[hy,hyj],?_⟩,hmeas⟩)
  . have hge:val bC b<=2*val bC rr+x/2^j%2:=by revert h;unfold bZ;split<;>(try split)<;>omega
    have hle:b.length<=r3.length:=Fi oS h3.bT hb nb (by rw[h3.val];exact hge);refine Tm.bind (Fq h3.bT hb (by omega) hle (by rw[h3.val];exact hge)) ?_;rintro r4 ⟨h4,h4l⟩;rw[h3.val]at h4;have hqn:=hqqB.getD (B:=bC) (by decide) n;refine aJ (gY rfl (by omega)) (aJ (gY rfl (by omega)) (aJ (eH rfl (by omega)) (aZ ?_)));simp only[bC]at hqn;rw[hy,hyj]at hqn⊢;have hq2:2*y*2^j+2^j=(2*y+1)*2^j:=by grind
    have hlt:(2*y+1)*2^j<65536:=by
     have h5:=fp (show 2*y+1+1<=2^(16-j) by omega) (show(0:Int)<=2^j by omega);rw[<-kH,show 16-j+j=16 by omega]at h5;have e:(2:Int)^16=65536:=by decide
     have e2:(2*y+1+1)*2^j=(2*y+1)*2^j+2^j:=by grind
     omega
    rw[show iw (2*y*2^j+2^j)=(2*y+1)*2^j by rw[bU]<;>omega];refine⟨⟨j,2*y+1,rfl,by omega,by simp;omega,hqqB.set (by simp only[bC];omega),by rw[h4.val];exact h4,by dsimp only;rw[h4.val];omega,λm hm=>?_,by omega,by omega,?_,?_⟩,hmeas⟩
    . show(qq.set n _).getD m 0=_;rw[uz (by omega),aQ (λe=>hm e.symm)];exact hoth m hm
    . show(qq.set n _).getD n 0=_;rw[uz (by omega),bA rfl]
    . show H*2^(16-j)+x/2^j=val bC b*(Qh*2^(16-j)+(2*y+1))+val bC r4;rw[h4.val,hy2,hhb];generalize val bC b=B at*;generalize val bC rr=R at*;generalize(2:Int)^(16-(j+1))=T at*;generalize x/2^(j+1)=X at*;generalize x/2^j%2=z at*;grind
  . show val bC r3<val bC b;rw[h3.val];revert h;unfold bZ;split<;>(try split)<;>omega
  . show H*2^(16-j)+x/2^j=val bC b*(Qh*2^(16-j)+2*y)+val bC r3;rw[h3.val,hy2,hhb];generalize val bC b=B at*;generalize val bC rr=R at*;generalize(2:Int)^(16-(j+1))=T at*;generalize x/2^(j+1)=X at*;generalize x/2^j%2=z at*;grind
theorem Wt{a b:List Int}(ha:bJ bC a)(hb:bJ bC b)(nb:gC b)(hb0:0<val bC b)(hla:a.length<=4398046511104)(hlb:b.length<=4398046511104):
 Tm (λN=>yH N a b) (λt=>Dg bC t.1 (val bC a/val bC b)/\Dg bC t.2 (val bC a%val bC b)/\t.1.length<=a.length/\t.2.length<=b.length):=by
 unfold yH;refine aJ (iu rfl (by omega) (by decide)) ?_;refine Tm.bind (Q:=λt:List Int×List Int=>t.1.length=a.length/\bJ bC t.1/\Dg bC t.2 (val bC t.2)/\val bC t.2<val bC b/\val bC a=val bC b*val bC t.1+val bC t.2)
  (Tm.loop (λt:List Int×List Int×Int=>∃k:Nat,t.2.2=(k:Int)-1/\k<=a.length/\t.1.length=a.length/\bJ bC t.1/\Dg bC t.2.1 (val bC t.2.1)/\val bC t.2.1<val bC b/\(∀m,m<k->t.1.getD m 0=0)/\val bC (a.drop k)=val bC b*val bC (t.1.drop k)+val bC t.2.1) (λt=>(t.2.2+1).toNat)
   ⟨a.length,by rw[bU]<;>omega,bQ _,by simp,bJ.dG (by decide),Dg.nil,by simpa[val]using hb0,λm hm=>by rw[gK (by simpa using hm)];simp,by simp[val]⟩ ?_) ?_
 . rintro⟨q,r,i⟩ ⟨k,rfl,hk,hq,hqB,hr,hrlt,hz,hv⟩;dsimp only[FL]at*;refine bB (λh=>?_) (λh=>aZ ?_)
   . obtain⟨n,rfl⟩:∃n,k=n+1:=⟨k-1,by omega⟩;have hi:((n+1:Nat):Int)-1=(n:Int):=by omega
     rw[hi];refine Tm.bind (UN (n:=n) ha hb nb hb0 hla hlb (by omega) hq hqB (hz n (by omega)) hr hrlt hv) ?_;rintro⟨q',r'⟩ ⟨h1,h2,h3,h4,h5,h6⟩;dsimp only at*;refine aZ ⟨⟨n,by show iw ((n:Int)-1)=_;rw[bU]<;>omega,by omega,h1,h2,h3,h4,λm hm=>?_,?_⟩,?_⟩
     . show q'.getD m 0=0;rw[h5 m (by omega)];exact hz m (by omega)
     . show val bC (a.drop n)=val bC b*val bC (q'.drop n)+val bC r';have hqd:q'.drop (n+1)=q.drop (n+1):=by
        apply oD (by simp;omega);intro i g1 g2;rw[IK,IK];have:=h5 (n+1+i) (by omega);simp only[xq]at g1 g2;rwa[gK (by omega),gK (by omega)]at this
       rw[gn (l:=a) (by omega),gn (l:=q') (by omega),tk,tk,hqd,<-gK (l:=a),<-gK (l:=q')];have hw:bC=65536:=rfl;rw[hw]at*;generalize val 65536 (a.drop (n+1))=H at*;generalize val 65536 (q.drop (n+1))=Qh at*;have e1:a.getD n 0+65536*H=H*65536+a.getD n 0:=by omega
       have e2:q'.getD n 0+65536*Qh=Qh*65536+q'.getD n 0:=by omega
       rw[e1,e2];exact h6
     . show(iw ((n:Int)-1)+1).toNat<((n:Int)+1).toNat;rw[bU]<;>omega
   . obtain rfl:k=0:=by omega
     simp only[mf]at hv;exact⟨hq,hqB,hr,hrlt,hv⟩
 . rintro⟨q,r⟩ ⟨hq,hqB,hr,hrlt,hv⟩;dsimp only at*;refine Tm.bind (xb hqB (by omega)) ?_;rintro q' ⟨hq',hql⟩;have hr0:=hr.xI (by decide);have hdm:=(IZ (a:=val bC a) (b:=val bC b) (r:=val bC r) (q:=val bC q) hb0).2 ⟨by omega,hr0,hrlt⟩;refine aZ ⟨?_,?_,by dsimp only;omega,Fi oS hb hr.bT hr.fP (show val bC r<=val bC b by omega)⟩
   . rw[hdm.1];exact hq'
   . rw[hdm.2];exact hr
theorem GG{a b:aC}(ha:bJ aD a.aR)(hb:bJ aD b.aR)(hl:a.aR.length<=1099511627776)(hl':b.aR.length<=1099511627776):
 Tm (λN=>uh N a b) (λr=>DivP (bv a) (bv b) r):=by
 unfold uh;refine Tm.bind (mS hb (by omega)) ?_;rintro _ rfl;refine bB (λh=>aZ ?_) (λh=>?_)
 . have h0:bv b=0:=by revert h;unfold bZ;split<;>(try split)<;>omega
   exact⟨by simp[h0],by rw[h0,P4];exact⟨Dg.nil,rfl⟩,by rw[bA h0];exact⟨Dg.nil,rfl⟩⟩
 . have h0:bv b≠0:=by revert h;unfold bZ;split<;>(try split)<;>omega
   refine Tm.bind (ql ha (by omega)) ?_;rintro l ⟨hl1,hl2⟩;refine Tm.bind (ql hb (by omega)) ?_;rintro m ⟨hm1,hm2⟩;have A0:=ir (B:=aD) (by decide) ha;have B0:=ir (B:=aD) (by decide) hb;have hbv:bv b=if b.bR=true then-val aD b.aR else val aD b.aR:=rfl;have hav:bv a=if a.bR=true then-val aD a.aR else val aD a.aR:=rfl;have B1:0<val aD b.aR:=by revert h0;rw[hbv];split<;>omega
   refine Tm.bind (Wt hl1.bT hm1.bT hm1.fP (by rw[hm1.val];exact B1) (by omega) (by omega)) ?_;rintro⟨q,r⟩ ⟨hq,hr,hql,hrl⟩;rw[hl1.val,hm1.val]at hq hr;dsimp only at*;refine Tm.bind (pQ (neg:=!(a.bR==b.bR)) hq.bT (by omega)) ?_;rintro q1 ⟨hq1,hq1l⟩;refine Tm.bind (pQ (neg:=a.bR) hr.bT (by omega)) ?_;rintro r1 ⟨hr1,hr1l⟩;rw[hq.val]at hq1;rw[hr.val]at hr1;generalize hA:val aD a.aR=A at*;generalize hB:val aD b.aR=B at*;have m0:=nG A (show B≠0 by omega);have m1:=nH A B1;have hdd:=Pb (x:=A) B1;have hds:=Ni A0 B1;have hdn:=Om (x:=A) (y:=B);generalize hQ:(if(!(a.bR==b.bR))=true then-(A/B)else A/B)=Q at*;generalize hR:(if a.bR=true then-(A%B)else A%B)=R at*;have hfd:(bv a).fdiv (bv b)=(if bZ R 0≠0/\bZ R 0≠bZ (bv b) 0 then Q-1 else Q)/\(bv a).fmod (bv b)=(if bZ R 0≠0/\bZ R 0≠bZ (bv b) 0 then R+bv b else R):=by
    have sp:bZ B 0=1:=by unfold bZ;rw[aQ (by omega),bA (by omega)]
    have sn:bZ (-B) 0=-1:=by unfold bZ;rw[bA (by omega)]
    rw[hav,hbv];cases hna:a.bR<;>cases hnb:b.bR<;>simp only[hna,hnb]at hQ hR<;>simp at hQ hR<;>subst hQ<;>subst hR
    . simp only[nB,if_false,sp];have e:¬(bZ (A%B) 0≠0/\bZ (A%B) 0≠1):=by unfold bZ;rw[aQ (by omega)];split<;>omega
      rw[aQ e,aQ e,j4 _ (by omega),I2 _ (by omega)];exact⟨rfl,rfl⟩
    . simp only[nB,if_false,if_true,sn];rw[hdn.1,hdn.2,hdd.1,hdd.2];by_cases e0:A%B=0
      . have e:¬(bZ (A%B) 0≠0/\bZ (A%B) 0≠-1):=by rw[e0];decide
        rw[aQ e,aQ e,bA e0,bA e0];omega
      . have e:bZ (A%B) 0≠0/\bZ (A%B) 0≠-1:=by unfold bZ;rw[aQ (by omega),bA (by omega)];decide
        rw[bA e,bA e,aQ e0,aQ e0];omega
    . simp only[nB,if_false,if_true,sp];rw[hdd.1,hdd.2];by_cases e0:A%B=0
      . have e:¬(bZ (-(A%B)) 0≠0/\bZ (-(A%B)) 0≠1):=by rw[e0];decide
        rw[aQ e,aQ e,bA e0,bA e0];omega
      . have e:bZ (-(A%B)) 0≠0/\bZ (-(A%B)) 0≠1:=by unfold bZ;rw[bA (by omega)];decide
        rw[bA e,bA e,aQ e0,aQ e0];omega
    . simp only[if_true,sn];have e:¬(bZ (-(A%B)) 0≠0/\bZ (-(A%B)) 0≠-1):=by unfold bZ;split<;>(try split)<;>omega
      rw[aQ e,aQ e];exact hds
   have hr1v:=hr1.bv;refine Tm.bind (Q:=(·=decide (bZ R 0≠0/\bZ R 0≠bZ (bv b) 0))) (Tm.bind (mS hr1.dg.bT (by omega)) ?_) ?_
   . rintro _ rfl;rw[hr1v];refine bB (λh1=>?_) (λh1=>aZ ?_)
     . refine Tm.bind (mS hr1.dg.bT (by omega)) ?_;rintro _ rfl;refine Tm.bind (mS hb (by omega)) ?_;rintro _ rfl;rw[hr1v];refine aZ ?_;simp[h1]
     . simp at h1;simp[h1]
   rintro _ rfl;refine Tm.bind (Q:=λt:aC×aC=>Is t.1 ((bv a).fdiv (bv b))/\Is t.2 ((bv a).fmod (bv b))) ?_ ?_
   . rw[hfd.1,hfd.2];refine bB (λh1=>?_) (λh1=>aZ ?_)
     . have h1:=jf h1;refine Tm.bind (tF (n:=1) (by decide) (by decide)) ?_;rintro o ⟨ho,hol⟩;refine Tm.bind (GH hq1.dg.bT ho.dg.bT (by omega) (by omega)) ?_;rintro q2 ⟨hq2,_⟩;refine Tm.bind (zn hr1.dg.bT hb (by omega) (by omega)) ?_;rintro r2 ⟨hr2,_⟩;rw[hq1.bv,ho.bv]at hq2;rw[hr1v]at hr2;refine aZ ⟨?_,?_⟩
       . rw[bA h1];exact hq2
       . rw[bA h1];exact hr2
     . have h1:¬(bZ R 0≠0/\bZ R 0≠bZ (bv b) 0):=by simpa using h1
       rw[aQ h1,aQ h1];exact⟨hq1,hr1⟩
   . rintro⟨q2,r2⟩ ⟨hq2,hr2⟩;exact aZ ⟨by simp[h0],hq2,by rw[aQ h0];exact hr2⟩
open Go Go.X
abbrev mD:bI:=⟨[],⟨false,[]⟩⟩
theorem vu{xs:List aC}{i:Int}{n:Nat}(e:i=(n:Int))(h:n<xs.length):idx xs i=some (xs.getD n fi):=by
 rw[uj h];exact ik e h
theorem ET{xs:List bI}{i:Int}{n:Nat}(e:i=(n:Int))(h:n<xs.length):idx xs i=some (xs.getD n mD):=by
 rw[cL,cy h];exact ik e h
theorem LU{l:List aC}{n m:Nat}{y:aC}(h:n<l.length):(l.set n y).getD m fi=if n=m then y else l.getD m fi:=by
 rw[cL,cL,uR];by_cases e:n=m
 . subst e;simp[h]
 . simp[e]
theorem Hy{l:List bI}{n:Nat}(h:n<l.length):l.getD n mD∈l:=by
 rw[cL,cy h];exact dC h
theorem N8{l:List aC}{n:Nat}(h:n<l.length):l.getD n fi∈l:=by
 rw[cL,cy h];exact dC h
def jm(n:Nat)(c:List aC)(f:Nat->Int):Prop:=c.length=n/\∀j,j<n->Is (c.getD j fi) (f j)
theorem jm.uniq{n:Nat}{c c':List aC}{f:Nat->Int}(h:jm n c f)(h':jm n c' f):c=c':=by
 apply oD (h.1.trans h'.1.symm);intro i h1 h2;have g1:=h.2 i (by rw[<-h.1];exact h1);have g2:=h'.2 i (by rw[<-h.1];exact h1);rw[uj h1]at g1;rw[uj h2]at g2;exact g1.uniq g2
theorem Nh{ρ:Type}{body:Nat->List aC×Int->Option (aH (List aC×Int) ρ)}{fin:List aC->ρ}{bad:ρ}{n K K':Nat}{f g:Nat->Int}{F:Nat->Prop}{c0:List aC}(hn:n<=1073741824)(h0:jm n c0 f)(hk0:∀j,j<n->(c0.getD j fi).aR.length<=K)
 (step:∀k,k<n->∀c:List aC,c.length=n->Is (c.getD k fi) (f k)->(c.getD k fi).aR.length<=K->
  Tm (λN=>body N (c,(k:Int))) (λs=>(∃y,s=.next (c.set k y,iw ((k:Int)+1))/\Is y (g k)/\y.aR.length<=K'/\¬F k)\/(s=.done bad/\F k)))
 (stop:∀c:List aC,c.length=n->Tm (λN=>body N (c,(n:Int))) (λs=>s=.done (fin c))):
 Tm (λN=>bO (body N) N (c0,0)) (λr=>(∃c,r=fin c/\jm n c g/\(∀j,j<n->(c.getD j fi).aR.length<=K')/\∀k,k<n->¬F k)\/(r=bad/\∃k,k<n/\F k)):=by
 refine Tm.loop (λt:List aC×Int=>∃k:Nat,t.2=k/\k<=n/\t.1.length=n/\(∀j,j<k->Is (t.1.getD j fi) (g j)/\(t.1.getD j fi).aR.length<=K'/\¬F j)/\∀j,k<=j->j<n->Is (t.1.getD j fi) (f j)/\(t.1.getD j fi).aR.length<=K) (λt=>n-t.2.toNat)
  ⟨0,rfl,fI _,h0.1,λj hj=>bX hj (by omega),λj _ hj=>⟨h0.2 j hj,hk0 j hj⟩⟩ ?_
 rintro⟨c,kk⟩ ⟨k,rfl,hk,hc,h1,h2⟩;dsimp only at*;rcases cG k n with hkn|hkn
 . refine(step k hkn c hc (h2 k (bQ _) hkn).1 (h2 k (bQ _) hkn).2).mono ?_;rintro s (⟨y,rfl,hy,hyl,hF⟩|⟨rfl,hF⟩)
   . refine⟨⟨k+1,by show iw ((k:Int)+1)=_;rw[bU]<;>omega,by omega,by simp;omega,λj hj=>?_,λj hj hjn=>?_⟩,?_⟩
     . show Is ((c.set k y).getD j fi) (g j)/\((c.set k y).getD j fi).aR.length<=K'/\¬F j;rw[LU (by omega)];by_cases e:k=j
       . subst e;rw[bA rfl];exact⟨hy,hyl,hF⟩
       . rw[aQ e];exact h1 j (by omega)
     . show Is ((c.set k y).getD j fi) (f j)/\((c.set k y).getD j fi).aR.length<=K;rw[LU (by omega),aQ (by omega)];exact h2 j (by omega) hjn
     . show n-(iw ((k:Int)+1)).toNat<n-((k:Int)).toNat;rw[bU]<;>omega
   . exact .inr ⟨rfl,k,hkn,hF⟩
 . obtain rfl:k=n:=by omega
   refine(stop c hc).mono ?_;rintro s rfl;exact .inl ⟨c,rfl,⟨hc,λj hj=>(h1 j hj).1⟩,λj hj=>(h1 j hj).2.1,λj hj=>(h1 j hj).2.2⟩
def nV(l:List bI):Nat:=(l.getD 0 mD).bG.length
def ns(l:List bI):Prop:=∀q∈l,q.bG.length=nV l
instance (l:List bI):Decidable (ns l):=inferInstanceAs (Decidable (∀q∈l,q.bG.length=nV l))
def od(l:List bI)(u:eF):Prop:=u.Index<0\/(l.length:Int)<=u.Index\/bv u.N<0
instance (l:List bI)(u:eF):Decidable (od l u):=inferInstanceAs (Decidable (_\/_\/_))
def zP(l:List bI)(u:eF)(a:(Nat->Int)×Int):(Nat->Int)×Int:=(λj=>a.1 j+bv u.N*bv ((l.getD u.Index.toNat mD).bG.getD j fi),a.2+bv u.N*bv (l.getD u.Index.toNat mD).dS)
def nt(l:List bI):List eF->(Nat->Int)×Int->Option ((Nat->Int)×Int)
 |[],a=>some a
 |u::us,a=>if od l u then none else nt l us (zP l u a)
def oz(l:List bI)(s:Step)(r:bI×Bool):Prop:= if ns l/\0<bv s.gT then match nt l s.Uses (λ_=>0,0)with
  |none=>r=(mD,false)
  |some (f,b)=>if∀j,j<nV l->f j%bv s.gT=0 then r.2=true/\jm (nV l) r.1.bG (λj=>f j/bv s.gT)/\Is r.1.dS (b/bv s.gT)else r=(mD,false) else r=(mD,false)
theorem oz.uniq{l:List bI}{s:Step}{r r':bI×Bool}(h:oz l s r)(h':oz l s r'):r=r':=by
 unfold oz at h h';split at h
 . rename_i hc;rw[bA hc]at h';cases hs:nt l s.Uses (λ_=>0,0)with
   |none=>rw[hs]at h h';exact h.trans h'.symm
   |some a=>
    rw[hs]at h h';obtain⟨f,b⟩:=a;dsimp only at h h';split at h
    . rename_i hd;rw[bA hd]at h';obtain⟨⟨c,d⟩,t⟩:=r;obtain⟨⟨c',d'⟩,t'⟩:=r';have h1:c=c':=h.2.1.uniq h'.2.1;have h2:d=d':=h.2.2.uniq h'.2.2;have h3:t=t':=h.1.trans h'.1.symm;subst h1;subst h2;subst h3;rfl
    . rename_i hd;rw[aQ hd]at h';exact h.trans h'.symm
 . rename_i hc;rw[aQ hc]at h';exact h.trans h'.symm
theorem Wk{a:Int}:0<bZ a 0↔0<a:=by unfold bZ;(repeat' split)<;>omega
structure OkS (s:Step):Prop where
 len:s.Uses.length<=12
 use:∀u∈s.Uses,kz 4 u.N
 div:kz 4 s.gT
theorem Ez{l:List bI}(hl:l.length<=9223372036854775807):Tm (λN=>va N l) (λr=>r=decide (ns l)):=by
 unfold va;refine Tm.bind (Tm.each (body:=λN=>yR N l) l (λq=>q.bG.length=nV l) (Q:=λr=>(r=.inl ()/\ns l)\/(r=.inr false/\¬ns l)) hl ?_ ?_) ?_
 . intro n hn hP;dsimp only[yR];refine cR (by omega) (aJ (dt hn) (aJ (ET (n:=0) rfl (by omega)) ?_));refine bB (λh=>aZ (.inr ⟨_,rfl,.inr ⟨rfl,λhe=>?_⟩⟩)) (λh=>aZ (.inl ⟨rfl,?_⟩))
   . have:=he _ (dC hn);unfold nV at this;omega
   . unfold nV;omega
 . intro hP;dsimp only[yR];exact cE (by omega) (aZ ⟨_,rfl,.inl ⟨rfl,hP⟩⟩)
 . rintro _ (⟨rfl,h⟩|⟨rfl,h⟩)
   . exact aZ (by simp[h])
   . exact aZ (by simp[h])
theorem ns.get{l:List bI}(h:ns l){n:Nat}(hn:n<l.length):(l.getD n mD).bG.length=nV l:=h _ (Hy hn)
theorem jm.dG{n:Nat}:jm n (List.replicate n fi) (λ_=>0):=⟨by simp,λj hj=>by rw[uj (by simpa using hj)];simpa using is0⟩
theorem drop_cons{l:List eF}{k:Nat}(h:k<l.length):l.drop k=l[k]::l.drop (k+1):=gn h
open Go Go.X
theorem pS.same{q:bI}{vs:List Int}{b:Int}(h:pS q vs b)(hv:∀v∈vs,(v.natAbs:Int)<aD^2)(hb:(b.natAbs:Int)<aD^2)(hl:vs.length<=512):qY 512 q:=by
 refine⟨by rw[h.1.1];exact hl,λx hx=>?_,h.2.dg.bT,by have:=h.2.len hb;omega⟩;obtain⟨j,hj,rfl⟩:=IG.1 hx;have:=h.1.2 j hj (by rw[<-h.1.1];exact hj);exact⟨this.dg.bT,by have:=this.len (hv _ (dC _));omega⟩
theorem M5{z:Int}(h:fY z):(z.natAbs:Int)<aD^2:=by unfold fY at h;have e:aD^2=18446744073709551616:=(by decide);omega
theorem Jd{z:Int}(h:fY z):((-z).natAbs:Int)<aD^2:=by unfold fY at h;have e:aD^2=18446744073709551616:=(by decide);omega
theorem oJ.ok{c:Constraint}{n:Int}{r:List bI}(hc:oW c)(h:oJ c n r):r.length<=2/\∀q∈r,qY 512 q:=by
 rcases h with⟨_,rfl⟩|⟨hR,q,hq,h⟩
 . exact⟨by simp,λq hq=>by cases hq⟩
 . have hn:(gN c n c.Linear.bG.length).length<=512:=by rw[te];have:=hR.2;omega
   have h1:qY 512 q:=hq.same (λv hv=>M5 (AK hc v hv)) (Jd hc.const) hn;rcases h with⟨_,rfl⟩|⟨_,q',hq',rfl⟩
   . exact⟨by simp,λp hp=>by simp at hp;exact hp▸h1⟩
   . have h2:qY 512 q':=hq'.same (λv hv=>by obtain⟨u,hu,rfl⟩:=eh.1 hv;exact Jd (AK hc u hu)) (M5 hc.const) (by simpa using hn);refine⟨by simp,λp hp=>?_⟩;simp only[eJ,PO,or_false]at hp;rcases hp with rfl|rfl
     . exact h1
     . exact h2
def lS(n:Int):List Constraint->List bI->Prop
 |[],r=>r=[]
 |c::l,r=>∃a b,oJ c n a/\lS n l b/\r=a++b
theorem lS.uniq{n:Int}:∀{l:List Constraint} {r s:List bI},lS n l r->lS n l s->r=s
 |[],_,_,h,h'=>h.trans h'.symm
 |_::_,_,_,⟨a,b,h1,h2,h3⟩,⟨a',b',g1,g2,g3⟩=>by rw[h3,g3,h1.uniq g1,lS.uniq h2 g2]
theorem lS.snoc{n:Int}:∀{l:List Constraint} {c:Constraint} {r a:List bI},lS n l r->oJ c n a->lS n (l++[c]) (r++a)
 |[],_,_,a,h,h'=>⟨a,[],h',rfl,by rw[show _=[] from h];simp⟩
 |_::_,_,_,_,⟨x,y,h1,h2,h3⟩,h'=>⟨x,_,h1,h2.snoc h',by rw[h3];simp⟩
theorem lS.ok{n:Int}:∀{l:List Constraint} {r:List bI},(∀c∈l,oW c)->lS n l r->r.length<=2*l.length/\∀q∈r,qY 512 q
 |[],_,_,h=>by rw[show _=[] from h];exact⟨by simp,λq hq=>by cases hq⟩
 |c::l,_,hc,⟨a,b,h1,h2,h3⟩=>by
  have e1:=h1.ok (hc c cU);have e2:=h2.ok (λc h=>hc c (cP _ h));subst h3;refine⟨by simp;omega,λq hq=>?_⟩;rcases gH.1 hq with h|h
  . exact e1.2 q h
  . exact e2.2 q h
def sD(l:List Constraint)(n:Int)(r:List bI):Prop:=((∀c∈l,gx c n)/\lS n l r)\/(¬(∀c∈l,gx c n)/\r=[])
theorem sD.uniq{l:List Constraint}{n:Int}{r s:List bI}(h:sD l n r)(h':sD l n s):r=s:=by
 rcases h with⟨h1,h2⟩|⟨h1,rfl⟩<;>rcases h' with⟨g1,g2⟩|⟨g1,rfl⟩
 . exact h2.uniq g2
 . exact bX h1 g1
 . exact bX g1 h1
 . rfl
theorem J9{l:List Constraint}{n:Int}(hc:∀c∈l,oW c)(hl:l.length<=1000):Tm (λN=>uH N l n) (sD l n):=by
 unfold uH;refine Tm.bind (Tm.loop (λs:List bI×Int=>∃k:Nat,s.2=k/\k<=l.length/\(∀c∈l.take k,gx c n)/\lS n (l.take k) s.1) (λs=>l.length-s.2.toNat)
  (Q:=λr=>sD l n (match r with|.inl a=>a|.inr a=>a)) ⟨0,rfl,fI _,by simp,rfl⟩ ?_) (λr h=>by cases r<;>exact aZ h)
 rintro⟨out,i⟩ ⟨k,rfl,hk,hR,hS⟩;dsimp only[E7]at*;refine bB (λh1=>?_) (λh1=>aZ ?_)
 . have hkl:k<l.length:=by omega
   have hck:=hc _ (dC hkl);refine aJ (dt hkl) (Tm.bind (Ov hck.len) ?_);intro r hr;refine bB (λh=>aZ (.inr ⟨λe=>?_,rfl⟩)) (λh=>Tm.bind (Sb hck) ?_)
   . rw[hr.2 (e _ (dC hkl))]at h;cases h
   . intro a ha;have h2:=hS.ok (λc h=>hc c (uS h));have h3:=ha.ok hck;have h4:(l.take k).length<=1000:=by simp;omega
     refine aJ (eb (by omega) (by decide)) (aZ ⟨⟨k+1,by dsimp only;rw[bU]<;>omega,by omega,?_,?_⟩,?_⟩)
     . rw[pN hkl];intro c hc';rcases gH.1 hc' with h'|h'
       . exact hR c h'
       . rw[df.1 h'];exact hr.1 (by simpa using h)
     . rw[pN hkl];exact hS.snoc ha
     . show l.length-(iw ((k:Int)+1)).toNat<l.length-((k:Int)).toNat;rw[bU]<;>omega
 . rw[fx (by omega)]at hR hS;exact .inl ⟨hR,hS⟩
theorem Sr{l:List Constraint}{n:Int}(hc:∀c∈l,oW c)(hl:l.length<=1000):Tm (λN=>yt N l n) (sD l n):=by
 unfold yt;refine Tm.bind (Tm.loop (λs:List bI×Int=>∃k:Nat,s.2=k/\k<=l.length/\(∀c∈l.take k,gx c n)/\lS n (l.take k) s.1) (λs=>l.length-s.2.toNat)
  (Q:=λr=>sD l n (match r with|.inl a=>a|.inr a=>a)) ⟨0,rfl,fI _,by simp,rfl⟩ ?_) (λr h=>by cases r<;>exact aZ h)
 rintro⟨out,i⟩ ⟨k,rfl,hk,hR,hS⟩;dsimp only[Ik]at*;refine bB (λh1=>?_) (λh1=>aZ ?_)
 . have hkl:k<l.length:=by omega
   have hck:=hc _ (dC hkl);refine aJ (dt hkl) (Tm.bind (EM hck.len) ?_);intro r hr;refine bB (λh=>aZ (.inr ⟨λe=>?_,rfl⟩)) (λh=>aJ (dt hkl) (Tm.bind (QK hck) ?_))
   . rw[hr.2 (e _ (dC hkl))]at h;cases h
   . intro a ha;have h2:=hS.ok (λc h=>hc c (uS h));have h3:=ha.ok hck;have h4:(l.take k).length<=1000:=by simp;omega
     refine aJ (eb (by omega) (by decide)) (aZ ⟨⟨k+1,by dsimp only;rw[bU]<;>omega,by omega,?_,?_⟩,?_⟩)
     . rw[pN hkl];intro c hc';rcases gH.1 hc' with h'|h'
       . exact hR c h'
       . rw[df.1 h'];exact hr.1 (by simpa using h)
     . rw[pN hkl];exact hS.snoc ha
     . show l.length-(iw ((k:Int)+1)).toNat<l.length-((k:Int)).toNat;rw[bU]<;>omega
 . rw[fx (by omega)]at hR hS;exact .inl ⟨hR,hS⟩
open Go Go.X
def pz(vs xs:List Int):Nat->Int
 |0=>0
 |n+1=>pz vs xs n+vs.getD n 0*xs.getD n 0
theorem O0{l xs:List Int}{v:Nat}{y:Int}(hv:v<l.length):∀n,pz (l.set v y) xs n=pz l xs n+(if v<n then(y-l.getD v 0)*xs.getD v 0 else 0)
 |0=>by simp[pz]
 |n+1=>by
  rw[pz,pz,O0 hv n];rcases An v n with h|h|h
  . have:(l.set v y).getD n 0=l.getD n 0:=by rw[cL,cL,xn (by omega)]
    rw[this,bA h,bA (by omega)];grind
  . subst h;have:(l.set v y).getD v 0=y:=by rw[cL,Ae hv];rfl
    rw[this,aQ (by omega),bA (by omega)];grind
  . have:(l.set v y).getD n 0=l.getD n 0:=by rw[cL,cL,xn (by omega)]
    rw[this,aQ (by omega),aQ (by omega)];grind
theorem K4{xs:List Int}{m:Nat}:∀n,pz (List.replicate m 0) xs n=0
 |0=>rfl
 |n+1=>by
  rw[pz,K4 n];have:(List.replicate m (0:Int)).getD n 0=0:=by
   rcases cG n m with hn|hn
   . rw[gK (by simpa using hn)];simp
   . rw[nO (by simpa using hn)]
  rw[this];simp
theorem Js{c:Constraint}{n:Int}(h:gx c n):∀{i k:Nat},(hik:i<k)->(hk:k<c.Linear.bG.length)->(c.Linear.bG[i]'(by omega)).Var<c.Linear.bG[k].Var:=by
 intro i k
 induction k with
 |zero=>intro h;omega
 |succ k ih=>
  intro hik hk;have h1:=(h.1 (k+1) hk).2.2 (by omega);simp only[PJ]at h1;rcases cG i k with h2|h2
  . have:=ih h2 (by omega);omega
  . obtain rfl:i=k:=by omega
    exact h1
theorem TE{c:Constraint}{n:Int}(h:gx c n):(c.Linear.bG.length:Int)<=n:=by
 have key:∀k,(hk:k<c.Linear.bG.length)->(k:Int)<=c.Linear.bG[k].Var:=by
  intro k
  induction k with
  |zero=>intro hk;have:=(h.1 0 hk).1;omega
  |succ k ih=>intro hk;have:=ih (by omega);have:=Js h (show k<k+1 by omega) hk;omega
 rcases ij c.Linear.bG.length with h0|h0
 . have:=h.2;omega
 . have h1:=key (c.Linear.bG.length-1) (by omega);have h2:=(h.1 (c.Linear.bG.length-1) (by omega)).2.1;omega
theorem TT{c:Constraint}{n:Int}(h:gx c n){k:Nat}(hk:k<=c.Linear.bG.length){j:Nat}(hj:∀i,(hi:i<k)->(c.Linear.bG[i]'(by omega)).Var≠j):(gN c n k).getD j 0=0:=by
 induction k with
 |zero=>
  simp only[gN,PY,PZ];rcases cG j n.toNat with hn|hn
  . rw[gK (by simpa using hn)];simp
  . rw[nO (by simpa using hn)]
 |succ k ih=>
  rw[yG (by omega),sb,cL,xn]
  . rw[<-cL];exact ih (by omega) (λi hi=>hj i (by omega))
  . have h1:=hj k (by omega);have h2:=(h.1 k (by omega)).1;omega
def iU(c:Constraint)(x:List Int):Nat->Int
 |0=>0
 |k+1=>iU c x k+(c.Linear.bG.getD k ⟨0,0⟩).N*x.getD (c.Linear.bG.getD k ⟨0,0⟩).Var.toNat 0
theorem Mk{l:List jt}{n:Nat}(h:n<l.length):l.getD n ⟨0,0⟩=l[n]:=by rw[cL,cy h];rfl
theorem Uj{c:Constraint}{x:List Int}(h:gx c x.length):∀{k:Nat},k<=c.Linear.bG.length->pz (gN c x.length k) x x.length=iU c x k:=by
 intro k
 induction k with
 |zero=>intro _;simp only[gN,PY,PZ];rw[K4];rfl
 |succ k ih=>
  intro hk;have hv:=h.1 k (by omega);have hz:(gN c x.length k).getD c.Linear.bG[k].Var.toNat 0=0:=TT h (by omega) (λi hi=>by have:=Js h hi (by omega);omega);rw[yG (by omega),sb,O0 (by rw[te];omega),ih (by omega),bA (by omega),hz,iU,Mk (by omega)];grind
open Go Go.X
theorem kz.abs{K:Nat}{x:aC}(h:kz K x):((bv x).natAbs:Int)<aD^K:=by
 have h0:=ir (B:=aD) (by decide) h.1;have h1:=iV (B:=aD) (by decide) h.1;have h2:=lq (B:=aD) (by decide) h.2;unfold bv;split<;>omega
theorem Wy{K:Nat}{l:List bI}{s:Step}(hK:K<=536870912)(hl:l.length<=1073741824)(hq:∀q∈l,qY K q)(hs:OkS s):Tm (λN=>zA N l s) (λr=>oz l s r):=by
 unfold zA;refine Tm.bind (Q:=(·=decide (¬(ns l/\0<bv s.gT)))) (Tm.bind (Ez (by omega)) ?_) ?_
 . rintro _ rfl;refine bB (λh=>aZ ?_) (λh=>?_)
   . have:¬ns l:=by simpa using h
     simp[this]
   . have he:ns l:=by simpa using h
     refine Tm.bind (mS hs.div.1 (by have:=hs.div.2;omega)) ?_;rintro _ rfl;refine aZ ?_;have:=Wk (a:=bv s.gT);by_cases h1:0<bv s.gT
     . have h2:=this.2 h1;simp[he,h1];omega
     . have h2:¬0<bZ (bv s.gT) 0:=λe=>h1 (this.1 e);simp[h1];omega
 rintro _ rfl;refine bB (λh=>aZ ?_) (λh=>?_)
 . unfold oz;rw[aQ (jf h)]
 . have hc:ns l/\0<bv s.gT:=by simpa using h
   obtain⟨he,hd⟩:=hc;have hn:nV l<=K:=by
    rcases ij l.length with h0|h0
    . have:l=[]:=nD.1 h0;subst this;simp[nV]
    . exact(hq _ (Hy h0)).1
   refine Tm.bind (Q:=(·=(nV l:Int))) (bB (λh1=>aJ (ET (n:=0) rfl (by omega)) (aZ rfl)) (λh1=>aZ ?_)) ?_
   . have:l=[]:=nD.1 (by omega);subst this;simp[nV]
   rintro _ rfl;refine Tm.bind (Q:=(·=⟨List.replicate (nV l) fi,fi⟩)) (by unfold vK;exact aJ (iu rfl (by omega) (by decide)) (aZ rfl)) ?_;rintro _ rfl;dsimp only;refine Tm.bind (Q:=λr:Sum (List aC×Bool×List Int) (bI×Bool)=>(∃f c neg ds,r=.inl (c,neg,ds)/\nt l s.Uses (λ_=>0,0)=some (f,bv ⟨neg,ds⟩)/\jm (nV l) c f/\(∀j,j<nV l->(c.getD j fi).aR.length<=K+16)/\kz (K+16) ⟨neg,ds⟩)\/(r=.inr (mD,false)/\nt l s.Uses (λ_=>0,0)=none))
    (Tm.loop (λt:List aC×Bool×List Int×Int=>∃(k:Nat) (f:Nat->Int),t.2.2.2=k/\k<=s.Uses.length/\nt l s.Uses (λ_=>0,0)=nt l (s.Uses.drop k) (f,bv ⟨t.2.1,t.2.2.1⟩)/\jm (nV l) t.1 f/\(∀j,j<nV l->(t.1.getD j fi).aR.length<=K+4+k)/\kz (K+4+k) ⟨t.2.1,t.2.2.1⟩) (λt=>s.Uses.length-t.2.2.2.toNat)
     ⟨0,λ_=>0,rfl,fI _,by rw[mf,V9],jm.dG,λj hj=>by rw[uj (by simpa using hj)];simp,.nil⟩ ?_) ?_
   . rintro⟨c,neg,ds,kk⟩ ⟨k,f,rfl,hk,hsum,hcf,hcl,hb⟩;have hlen:=hs.len;dsimp only[GJ]at*;refine bB (λh1=>?_) (λh1=>aZ ?_)
     . have hku:k<s.Uses.length:=by omega
       refine aJ (dt hku) ?_;have hu:=hs.use _ (dC hku);rw[drop_cons hku]at hsum;generalize s.Uses[k]=u at*;simp only[nt]at hsum;refine Tm.bind (Q:=(·=decide (od l u))) (bB (λh2=>aZ ?_) (λh2=>bB (λh3=>aZ ?_) (λh3=>?_))) ?_
       . have:od l u:=.inl h2;simp[this]
       . have:od l u:=.inr (.inl (by omega));simp[this]
       . refine Tm.bind (mS hu.1 (by have:=hu.2;omega)) ?_;rintro _ rfl;refine aZ ?_;have:=BS (a:=bv u.N);unfold od;by_cases h4:bv u.N<0
         . simp[h4,this.2 h4]
         . have:¬bZ (bv u.N) 0<0:=λe=>h4 (this.1 e);simp[h4,this];omega
       rintro _ rfl;refine bB (λh2=>aZ ?_) (λh2=>?_)
       . rw[bA (jf h2)]at hsum;exact .inr ⟨rfl,hsum⟩
       . have hbu:¬od l u:=by simpa using h2
         rw[aQ hbu]at hsum;have hi:0<=u.Index/\u.Index<l.length/\0<=bv u.N:=by unfold od at hbu;omega
         have hii:u.Index=(u.Index.toNat:Int):=by omega
         have hil:u.Index.toNat<l.length:=by omega
         refine aJ (ET hii hil) ?_;have hqq:=hq _ (Hy hil);have hqn:=he.get hil;generalize hQ:l.getD u.Index.toNat mD=q at*;have hu4:=hu.2;have hqb:=hqq.2.2.2;have inner:=Nh (ρ:=List aC) (body:=λN=>yK N (nV l:Int) u q) (fin:=λc=>c) (bad:=[]) (n:=nV l) (K:=K+4+k) (K':=K+4+(k+1)) (f:=f) (g:=λj=>f j+bv u.N*bv (q.bG.getD j fi)) (F:=λ_=>False) (c0:=c) (by omega) hcf hcl
          (λj hj c' hc' h3 h4=>by
           dsimp only[yK];have hqj:=hqq.2.1 _ (N8 (l:=q.bG) (n:=j) (by omega));have:=hqj.2;refine cR (by omega) (aJ (vu rfl (by omega)) (aJ (vu rfl (by omega)) (Tm.bind (Dr hqj.1 hu.1 (by omega) (by omega)) ?_)));rintro m ⟨hm,hml⟩;refine Tm.bind (zn h3.dg.bT hm.dg.bT (by omega) (by omega)) ?_;rintro a ⟨ha,hal⟩;refine aJ (vu rfl (by omega)) (aJ (eH rfl (by omega)) (aZ (.inl ⟨a,rfl,?_,by omega,λe=>e⟩)));rw[h3.bv,hm.bv,fU]at ha;exact ha)
          (λc' hc'=>by dsimp only[yK];exact cE (by omega) (aZ rfl))
         refine Tm.bind inner ?_;rintro c2 (⟨_,rfl,hc2,hc2l,-⟩|⟨-,j,hj,hF⟩)
         . refine Tm.bind (Dr hqq.2.2.1 hu.1 (by omega) (by omega)) ?_;rintro m ⟨hm,hml⟩;have hb2:ds.length<=K+4+k:=hb.2;refine Tm.bind (zn hb.1 hm.dg.bT (show ds.length<=_ by omega) (by omega)) ?_;rintro a ⟨ha,hal⟩;dsimp only at hal;refine aZ ⟨⟨k+1,_,by show iw ((k:Int)+1)=_;rw[bU]<;>omega,by omega,?_,hc2,hc2l,ha.ok ?_⟩,?_⟩
           . show nt l s.Uses (λ_=>0,0)=nt l (s.Uses.drop (k+1)) (_,bv a);rw[ha.bv,hm.bv,hsum,fU (bv q.dS)];unfold zP;rw[hQ]
           . omega
           . show s.Uses.length-(iw ((k:Int)+1)).toNat<s.Uses.length-((k:Int)).toNat;rw[bU]<;>omega
         . exact hF.elim
     . have hkL:k=s.Uses.length:=by omega
       subst hkL;rw[D5]at hsum;exact .inl ⟨f,c,neg,ds,rfl,hsum,hcf,λj hj=>by have:=hcl j hj;omega,hb.mono (by omega)⟩
   . rintro _ (⟨f,c,neg,ds,rfl,hsum,hcf,hcl,hb⟩|⟨rfl,hsum⟩)
     . dsimp only;have hb2:ds.length<=K+16:=hb.2;have hdv:=hs.div.2;have inner:=Nh (ρ:=Sum (List aC) (bI×Bool)) (body:=λN=>xF N s (nV l:Int)) (fin:=λc=>.inl c) (bad:=.inr (mD,false)) (n:=nV l) (K:=K+16) (K':=K+20) (f:=f) (g:=λj=>f j/bv s.gT) (F:=λj=>¬f j%bv s.gT=0) (c0:=c) (by omega) hcf hcl
        (λj hj c' hc' h3 h4=>by
         dsimp only[xF];refine cR (by have:=hcf.1;omega) (aJ (vu rfl (by omega)) (Tm.bind (GG h3.dg.bT hs.div.1 (by omega) (by omega)) ?_));rintro⟨qq,rr,oo⟩ hD;have hquo:=hD.quo;have hrem:=hD.rem;dsimp only at hquo hrem;rw[h3.bv,j4 _ (by omega)]at hquo;rw[h3.bv,aQ (by omega),I2 _ (by omega)]at hrem;have hrl:=hrem.len (k:=4) (by have:=hs.div.abs;have m0:=nG (f j) (show bv s.gT≠0 by omega);have m1:=nH (f j) hd;omega);have hql:=hquo.len (k:=K+16) (by have:=(h3.ok h4).abs;rw[h3.bv]at this;have:=Int.natAbs_ediv_le_natAbs (f j) (bv s.gT);omega);refine Tm.bind (mS hrem.dg.bT (show rr.aR.length<=_ by omega)) ?_;rintro _ rfl;rw[hrem.bv];refine bB (λh5=>aZ (.inr ⟨rfl,λe=>h5 (yV.2 e)⟩)) (λh5=>?_);refine aJ (vu rfl (by omega)) (aJ (eH rfl (by omega)) (aZ (.inl ⟨qq,rfl,hquo,by omega,λe=>e (yV.1 (by omega))⟩))))
        (λc' hc'=>by dsimp only[xF];exact cE (by have:=hcf.1;omega) (aZ rfl))
       refine Tm.bind inner ?_;rintro _ (⟨c2,rfl,hc2,hc2l,hall⟩|⟨rfl,j,hj,hF⟩)
       . refine Tm.bind (GG hb.1 hs.div.1 (show ds.length<=_ by omega) (by omega)) ?_;rintro⟨qq,rr,oo⟩ hD;have hquo:=hD.quo;dsimp only at hquo;rw[j4 _ (by omega)]at hquo;refine aZ ?_;unfold oz;rw[bA ⟨he,hd⟩,hsum];dsimp only;rw[bA (λj hj=>uW.1 (hall j hj))];exact⟨rfl,hc2,hquo⟩
       . refine aZ ?_;unfold oz;rw[bA ⟨he,hd⟩,hsum];dsimp only;rw[aQ (λh=>hF (h j hj))]
     . refine aZ ?_;unfold oz;rw[bA ⟨he,hd⟩,hsum]
open Go Go.X
def rB(n:Nat):List Int:=if h:n=0 then[]else((n%4294967296:Nat):Int)::rB (n/4294967296)
termination_by n
decreasing_by omega
theorem XA(n:Nat):Dg aD (rB n) n:=by
 induction n using Nat.strongRecOn with
 |ind n ih=>
  rw[rB];split
  . rename_i h;subst h;exact Dg.nil
  . rename_i h;have h1:=ih (n/4294967296) (by omega);refine⟨h1.bT.cons ⟨by omega,by show((n%4294967296:Nat):Int)<4294967296;omega⟩,?_,?_⟩
    . unfold gC;cases hd:rB (n/4294967296)with
      |nil=>
       have:n/4294967296=0:=by have:=(h1.zero (by decide)).1 hd;omega
       simp;omega
      |cons x r=>rw[XR,<-hd];exact h1.fP
    . rw[tk,h1.val];show((n%4294967296:Nat):Int)+4294967296*((n/4294967296:Nat):Int)=n;omega
def B(v:Int):aC:=⟨decide (v<0),rB v.natAbs⟩
theorem om(v:Int):Is (B v) v:=⟨XA _,rfl⟩
theorem nc{x:aC}{v:Int}(h:Is x v):x=B v:=h.uniq (om v)
theorem fC(v:Int):bv (B v)=v:=(om v).bv
theorem bT(v:Int):bJ aD (B v).aR:=(om v).dg.bT
theorem Cp{v w:Int}(h:B v=B w):v=w:=by rw[<-fC v,h,fC]
theorem B0:B 0=⟨false,[]⟩:=by unfold B;rw[show(0:Int).natAbs=0 from rfl,rB];rfl
def dl(v:Int):Nat:=(B v).aR.length
theorem okB{v:Int}{K:Nat}(h:dl v<=K):kz K (B v):=⟨bT v,h⟩
theorem uO{v:Int}{k:Nat}(h:(v.natAbs:Int)<aD^k):dl v<=k:=(om v).len h
theorem wD(v:Int):(v.natAbs:Int)<aD^dl v:=by have:=(okB (v:=v) (bQ _)).abs;rwa[fC]at this
theorem sY{a b:Int}(h:a.natAbs<=b.natAbs):dl a<=dl b:=uO (by have:=wD b;omega)
theorem Ed{m n:Nat}(h:m<=n):aD^m<=aD^n:=lq (by decide) h
theorem pV{a b:Int}{K:Nat}(ha:dl a<=K)(hb:dl b<=K):dl (a+b)<=K+1:=by
 apply uO;have h1:=wD a;have h2:=wD b;have h3:=Ed ha;have h4:=Ed hb;rw[fR];have h5:=lP (B:=aD) (by decide) K;have h6:aD^K*2<=aD^K*aD:=gU (by decide) (eK h5);omega
theorem gL(a:Int):dl (-a)=dl a:=Nat.le_antisymm (sY (by omega)) (sY (by omega))
theorem jX{a b:Int}{K:Nat}(ha:dl a<=K)(hb:dl b<=K):dl (a-b)<=K+1:=by
 rw[IS];exact pV ha (by rw[gL];exact hb)
theorem jO(a b:Int):dl (a*b)<=dl a+dl b:=by
 apply uO;have h1:=wD a;have h2:=wD b;rw[Ao,ID,kH];exact Int.mul_lt_mul' (eK h1) h2 (by omega) (by omega)
theorem fw:dl 0=0:=by unfold dl;rw[B0];rfl
theorem kD{a:Int}(h:a.natAbs<4294967296):dl a<=1:=uO (by show(a.natAbs:Int)<4294967296^1;omega)
theorem Dy{a:Int}(h:a.natAbs<18446744073709551616):dl a<=2:=uO (by show(a.natAbs:Int)<4294967296^2;omega)
theorem kE:dl 1<=1:=kD (by decide)
theorem NV{a b:Int}:(a.fdiv b).natAbs<=a.natAbs:=by
 rcases uX b 0 with h|h|h
 . have e:a.fdiv b=(-a).fdiv (-b):=(I0 a b).symm;rw[e,j4 _ (by omega)];have h1:0< -b:=by omega
   generalize-b=c at h1;have h2:=kI (-a) c;have h3:=nG (-a) (show c≠0 by omega);have h4:=nH (-a) h1;generalize(-a)/c=q at*;generalize(-a)%c=r at*;rcases pO q 0 with hq|hq
   . have:=fp (show(1:Int)<=c by omega) (show 0≤-q by omega);have e2:c*-q=-(c*q):=by grind
     have:c+c*q<=0:=by
      have:=gU (show q≤-1 by omega) (show 0<=c by omega);omega
     have h7:(c-1)*(-q-1)≥0:=fb (by omega) (by omega);have e3:(c-1)*(-q-1)=-(c*q)-c+q+1:=by grind
     omega
   . have:=fp (show(1:Int)<=c by omega) hq;omega
 . subst h;rw[P4];omega
 . rw[j4 _ (by omega)];have h2:=kI a b;have h3:=nG a (show b≠0 by omega);have h4:=nH a h;generalize a/b=q at*;generalize a%b=r at*;rcases pO q 0 with hq|hq
   . have:b+b*q<=0:=by
      have:=gU (show q≤-1 by omega) (show 0<=b by omega);omega
     have h7:(b-1)*(-q-1)≥0:=fb (by omega) (by omega);have e3:(b-1)*(-q-1)=-(b*q)-b+q+1:=by grind
     omega
   . have:=fp (show(1:Int)<=b by omega) hq;omega
theorem sZ(a b:Int):dl (a.fdiv b)<=dl a:=sY NV
theorem FU{a b:Int}(h:0<=b):dl (a/b)<=dl a:=by rw[<-j4 a h];exact sZ a b
abbrev cM:Nat:=1099511627776
section
variable {a b:Int}
theorem ox(ha:dl a<=cM)(hb:dl b<=cM):Tm (λN=>jK N (B a) (B b)) (·=B (a+b)):=
 (O5 (bT a) (bT b) (bV ha (by decide)) (bV hb (by decide))).mono λr h=>by rw[fC,fC]at h;exact nc h.1
theorem nq(ha:dl a<=cM)(hb:dl b<=cM):Tm (λN=>jL N (B a) (B b)) (·=B (a-b)):=
 (TM (bT a) (bT b) (bV ha (by decide)) (bV hb (by decide))).mono λr h=>by rw[fC,fC]at h;exact nc h.1
theorem pe(ha:dl a<=cM)(hb:dl b<=cM):Tm (λN=>lj N (B a) (B b)) (·=B (a*b)):=
 (Um (bT a) (bT b) (bV ha (by decide)) (bV hb (by decide))).mono λr h=>by rw[fC,fC]at h;exact nc h.1
theorem oR(ha:dl a<=cM):Tm (λN=>jZ N (B a)) (·=B (-a)):=
 (CK (bT a) (bV ha (by decide))).mono λr h=>by rw[fC]at h;exact nc h.1
theorem j2(ha:dl a<=cM):Tm (λN=>im N (B a)) (·=bZ a 0):=
 (Tu (bT a) (bV ha (by decide))).mono λr h=>by rw[fC]at h;exact h
theorem lg(ha:dl a<=cM)(hb:dl b<=cM):Tm (λN=>jx N (B a) (B b)) (·=bZ a b):=
 (Sq (bT a) (bT b) (bV ha (by decide)) (bV hb (by decide))).mono λr h=>by rw[fC,fC]at h;exact h
theorem rY(ha:dl a<=cM)(hb:dl b<=cM):Tm (λN=>lO N (B a) (B b)) (λr=>r.1=B (a.fdiv b)):=
 (We (bT a) (bT b) (bV ha (by decide)) (bV hb (by decide))).mono λr h=>by have:=h.1.quo;rw[fC,fC]at this;exact nc this
theorem kR{n:Int}(h1:-9223372036854775808<=n)(h2:n<=9223372036854775807):Tm (λN=>gF N n) (·=B n):=(Ax h1 h2).mono λr h=>nc h.1
end
theorem Xx{x y:Int}(hx:0<=x)(hy:0<=y):Nat.gcd y.toNat (x%y).toNat=Nat.gcd x.toNat y.toNat:=by
 obtain⟨m,rfl⟩:=sM hx;obtain⟨n,rfl⟩:=sM hy;rw[<-Int.natCast_emod,mQ,mQ,mQ,Nat.gcd_comm n,<-Nat.gcd_rec,Nat.gcd_comm]
def gOf(a b:aC):Nat:=Nat.gcd (val aD a.aR).toNat (val aD b.aR).toNat
theorem Vy{a b:aC}{K:Nat}(hK:K<=cM)(ha:bJ aD a.aR)(hb:bJ aD b.aR)(la:a.aR.length<=K)(lb:b.aR.length<=K):
 Tm (λN=>vJ N a b) (λr=>Is r (gOf a b:Int)):=by
 have hL:cM=1099511627776:=rfl;unfold vJ;refine Tm.bind (qf ha (by omega)) (λx ⟨hx,lx⟩=>Tm.bind (qf hb (by omega)) (λy ⟨hy,ly⟩=>?_));refine Tm.bind (Tm.loop (λs:List Int×List Int=>bJ aD s.1/\gC s.1/\s.1.length<=K/\bJ aD s.2/\gC s.2/\s.2.length<=K/\Nat.gcd (val aD s.1).toNat (val aD s.2).toNat=gOf a b) (λs=>(val aD s.2).toNat)
  (Q:=λr=>bJ aD r/\r.length<=K/\val aD r=gOf a b) ⟨hx.bT,hx.fP,by show x.length<=K;omega,hy.bT,hy.fP,by show y.length<=K;omega,by rw[hx.val,hy.val];rfl⟩ ?_) ?_
 . rintro⟨u,v⟩ ⟨u1,u2,u3,v1,v2,v3,hg⟩;dsimp only[Fl]at*;refine bB (λh=>?_) (λh=>aZ ?_)
   . have hv0:v≠[]:=λe=>by rw[e]at h;simp at h
     have hvp:=xD (B:=aD) (by decide) v1 v2 hv0;have hup:=ir (B:=aD) (by decide) u1;refine Tm.bind (NN u1 v1 u2 v2 (by omega) (by omega) (by omega)) (λr ⟨_,hr,_,_⟩=>aZ ?_);have hm:=hr.val;have h1:=nH (val aD u) hvp;have h2:=nG (val aD u) (show val aD v≠0 by omega);have h3:=iV (B:=aD) (by decide) v1;have hlen:r.2.length<=v.length:=Hl nT hr.bT hr.fP (by rw[hm];omega);exact⟨⟨v1,v2,v3,hr.bT,hr.fP,by show r.2.length<=K;omega,by rw[hm,Xx hup (eK hvp)];exact hg⟩,by show(val aD r.2).toNat<(val aD v).toNat;rw[hm];omega⟩
   . have hv0:v=[]:=nD.1 (by omega);have hup:=ir (B:=aD) (by decide) u1;rw[hv0]at hg;refine⟨u1,u3,?_⟩;rw[<-hg];simp[val];omega
 . rintro r ⟨r1,r2,r3⟩;refine Tm.bind (ni (neg:=false) r1 (by omega)) (λz ⟨hz,lz⟩=>aZ ?_);rw[<-r3];exact hz
theorem gOf_B(a b:Int):gOf (B a) (B b)=Int.gcd a b:=by
 unfold gOf Int.gcd;rw[(om a).dg.val,(om b).dg.val,mQ,mQ]
theorem tmGcd{a b:Int}(ha:dl a<=cM)(hb:dl b<=cM):Tm (λN=>vJ N (B a) (B b)) (·=B (Int.gcd a b)):=
 (Vy (bQ _) (bT a) (bT b) ha hb).mono λr h=>by rw[gOf_B]at h;exact nc h
open Go Go.X
def Fs(N:Nat)(l:(List Constraint)):((List Constraint)×Int)->Option (aH ((List Constraint)×Int) (List Constraint))
 |(b,a)=>(if(a:Int)<(List.length l:Int)then (idx l a).bind λc=>(if c.eP=true then (idx l a).bind λd=>(cY 40 b [d]).bind λe=>some (aH.next (e,(iw (a+1)))) else some (aH.next (b,(iw (a+1))))) else some (aH.done b))
def zq(N:Nat)(l:(List Constraint)):Option (List Constraint):=(bO (Fs N l) N (([]:(List Constraint)),0)).bind λss=>match ss with
  |a=>some a
def H5(N:Nat)(f:Linear)(x:(List aC)):(aC×Int)->Option (aH (aC×Int) aC)
 |(b,a)=>(if(a:Int)<(List.length f.bG:Int)then (idx f.bG a).bind λc=>(lX N c.N).bind λd=>(idx f.bG a).bind λe=>(idx x e.Var).bind λg=>(oU N d g).bind λi=>(p9 N b i).bind λj=>some (aH.next (j,(iw (a+1)))) else some (aH.done b))
def wA(N:Nat)(f:Linear)(x:(List aC)):Option aC:=(lX N f.Const).bind λa=>(bO (H5 N f x) N (a,0)).bind λss=>match ss with
  |b=>some b
def yu(N:Nat)(l:(List Constraint))(x:(List aC)):Int->Option (aH Int (Sum Unit Bool))
 |a=>(if(a:Int)<(List.length l:Int)then (idx l a).bind λc=>(wA N c.Linear x).bind λd=>(jP N d).bind λb=>(((if(b:Int)>0 then some true else (if(b:Int)<0 then (idx l a).bind λe=>some e.eP else some false)):Option Bool)).bind λss=>match ss with
    |f=>(if f=true then some (aH.done (Sum.inr false)) else some (aH.next (iw (a+1)))) else some (aH.done (Sum.inl ())))
def ra(N:Nat)(l:(List Constraint))(x:(List aC)):Option Bool:=(bO (yu N l x) N 0).bind λss=>match ss with
  |(Sum.inl _)=>some true
  |(Sum.inr a)=>some a
def ye(N:Nat)(l:(List Constraint))(x:(List aC)):Int->Option (aH Int (Sum Unit Bool))
 |a=>(if(a:Int)<(List.length l:Int)then (idx l a).bind λb=>(wA N (Linear.mk 0 b.Linear.bG) x).bind λc=>(jP N c).bind λd=>(if(d:Int)≠0 then some (aH.done (Sum.inr false)) else some (aH.next (iw (a+1)))) else some (aH.done (Sum.inl ())))
def zU(N:Nat)(l:(List Constraint))(x:(List aC)):Option Bool:=(bO (ye N l x) N 0).bind λss=>match ss with
  |(Sum.inl _)=>some true
  |(Sum.inr a)=>some a
def Ip(N:Nat)(l:(List Int)):((List aC)×Int)->Option (aH ((List aC)×Int) (List aC))
 |(b,a)=>(if(a:Int)<(List.length l:Int)then (idx l a).bind λc=>(lX N c).bind λd=>(cY 32 b [d]).bind λe=>some (aH.next (e,(iw (a+1)))) else some (aH.done b))
def wU(N:Nat)(l:(List Int)):Option (List aC):=(bO (Ip N l) N (([]:(List aC)),0)).bind λss=>match ss with
  |a=>some a
def yj(N:Nat)(l:(List Constraint))(n:Int):Int->Option (aH Int (Sum Unit Bool))
 |a=>(if(a:Int)<(List.length l:Int)then (idx l a).bind λb=>(uF N b n).bind λc=>(if(!c)=true then some (aH.done (Sum.inr false)) else some (aH.next (iw (a+1)))) else some (aH.done (Sum.inl ())))
def zo(N:Nat)(n:Int)(l:(List Constraint)):Option Bool:=(bO (yj N l n) N 0).bind λss=>match ss with
  |(Sum.inl _)=>(if(n:Int)≥0 then some (decide ((n:Int)<=512)) else some false)
  |(Sum.inr a)=>some a
def zS(N:Nat)(most:Int)(b:Constraint):Int->Option (aH Int (Sum Unit Bool))
 |a=>(if(a:Int)<(List.length b.Linear.bG:Int)then (((idx b.Linear.bG a).bind λc=>(if(c.N:Int)>most then some true else (idx b.Linear.bG a).bind λd=>some (decide ((d.N:Int)<(iw (0-most))))):Option Bool)).bind λss=>match ss with
    |e=>(if e=true then some (aH.done (Sum.inr false)) else some (aH.next (iw (a+1)))) else some (aH.done (Sum.inl ())))
def yI(N:Nat)(l:(List Constraint))(most:Int):Int->Option (aH Int (Sum Unit Bool))
 |a=>(if(a:Int)<(List.length l:Int)then (idx l a).bind λb=>(((if(b.Linear.Const:Int)>1000000 then some true else some (decide ((b.Linear.Const:Int)<(-1000000)))):Option Bool)).bind λss=>match ss with
    |c=>(if c=true then some (aH.done (Sum.inr false)) else (bO (zS N most b) N 0).bind λss=>match ss with
       |(Sum.inl _)=>some (aH.next (iw (a+1)))
       |(Sum.inr d)=>some (aH.done (Sum.inr d))) else some (aH.done (Sum.inl ())))
def yQ(N:Nat)(n:Int)(l:(List Constraint))(most:Int):Option Bool:=(bO (yI N l most) N 0).bind λss=>match ss with
  |(Sum.inl _)=>(if(n:Int)<=4 then (if((List.length l:Int):Int)<=6 then (zo N n l).bind λa=>some a else some false) else some false)
  |(Sum.inr b)=>some b
def HT(N:Nat)(a:aC)(b:aC)(p:(List aC))(q:(List aC)):((List aC)×Int)->Option (aH ((List aC)×Int) (List aC))
 |(d,c)=>(if(c:Int)<(List.length p:Int)then (idx p c).bind λe=>(oU N e a).bind λf=>(idx q c).bind λg=>(oU N g b).bind λi=>(qB N f i).bind λj=>(cY 32 d [j]).bind λk=>some (aH.next (k,(iw (c+1)))) else some (aH.done d))
def zL(N:Nat)(p:(List aC))(a:aC)(q:(List aC))(b:aC):Option (List aC):=(bO (HT N a b p q) N (([]:(List aC)),0)).bind λss=>match ss with
  |c=>some c
def If(N:Nat)(vectors:(List (List aC)))(c:Int):((List aC)×Int)->Option (aH ((List aC)×Int) (List aC))
 |(b,a)=>(if(a:Int)<(List.length vectors:Int)then (idx vectors a).bind λd=>(idx d c).bind λe=>(cY 32 b [e]).bind λf=>some (aH.next (f,(iw (a+1)))) else some (aH.done b))
def A8(N:Nat)(vectors:(List (List aC)))(y:(List aC)):((List (List aC))×Int)->Option (aH ((List (List aC))×Int) (List (List aC)))
 |(b,a)=>(if(a:Int)<(List.length y:Int)then (bO (If N vectors a) N (([]:(List aC)),0)).bind λss=>match ss with
    |c=>(idx y a).bind λd=>(cY 32 c [d]).bind λe=>(cY 24 b [e]).bind λf=>some (aH.next (f,(iw (a+1)))) else some (aH.done b))
def CE(N:Nat)(b:(List (List aC)))(c:Int):Int->Option (aH Int Int)
 |a=>(((if(a:Int)<(List.length b:Int)then (idx b a).bind λd=>(idx d c).bind λe=>(jP N e).bind λf=>some (decide ((f:Int)=0)) else some false):Option Bool)).bind λss=>match ss with
   |g=>(if g=true then some (aH.next (iw (a+1))) else some (aH.done a))
def BE(N:Nat)(c:Int):((List (List aC))×Int)->Option (aH ((List (List aC))×Int) (List (List aC)))
 |(a,b)=>(if(b:Int)<(List.length a:Int)then (if(b:Int)≠c then (idx a b).bind λd=>(idx a c).bind λe=>(idx e c).bind λf=>(idx a c).bind λg=>(idx a b).bind λi=>(idx i c).bind λj=>(zL N d f g j).bind λk=>(idx a b).bind λm=>(dw a b k).bind λl=>some (aH.next (l,(iw (b+1)))) else some (aH.next (a,(iw (b+1))))) else some (aH.done a))
def Cz(N:Nat)(vectors:(List (List aC))):((List (List aC))×Int)->Option (aH ((List (List aC))×Int) (Sum (List (List aC)) Bool))
 |(b,a)=>(if(a:Int)<(List.length vectors:Int)then (bO (CE N b a) N a).bind λss=>match ss with
    |c=>(if(c:Int)≥(List.length b:Int)then some (aH.done (Sum.inr false)) else (idx b c).bind λe=>(idx b a).bind λf=>(idx b a).bind λj=>(dw b a e).bind λd=>(idx d c).bind λk=>(dw d c f).bind λg=>(bO (BE N a) N (g,0)).bind λss=>match ss with
       |i=>some (aH.next (i,(iw (a+1))))) else some (aH.done (Sum.inl b)))
def wR(N:Nat)(vectors:(List (List aC)))(b:(List (List aC))):Int->Option (aH Int (Sum Unit Bool))
 |a=>(if(a:Int)<(List.length b:Int)then (idx b a).bind λd=>(idx d (List.length vectors:Int)).bind λc=>(if(a:Int)≥(List.length vectors:Int)then (jP N c).bind λe=>(if(e:Int)≠0 then some (aH.done (Sum.inr false)) else some (aH.next (iw (a+1)))) else (idx b a).bind λf=>(idx f a).bind λg=>(uh N c g).bind λi=>(jP N i.2.1).bind λj=>(if(j:Int)≠0 then some (aH.done (Sum.inr false)) else some (aH.next (iw (a+1))))) else some (aH.done (Sum.inl ())))
def w8(N:Nat)(vectors:(List (List aC)))(y:(List aC)):Option Bool:=(bO (A8 N vectors y) N (([]:(List (List aC))),0)).bind λss=>match ss with
  |a=>(bO (Cz N vectors) N (a,0)).bind λss=>match ss with
    |(Sum.inl b)=>(bO (wR N vectors b) N 0).bind λss=>match ss with
      |(Sum.inl _)=>some true
      |(Sum.inr c)=>some c
    |(Sum.inr d)=>some d
def Ee(N:Nat)(a:(List aC))(b:(List aC)):((List aC)×Int)->Option (aH ((List aC)×Int) (List aC))
 |(d,c)=>(if(c:Int)<(List.length a:Int)then (idx a c).bind λe=>(idx b c).bind λf=>(qB N e f).bind λg=>(cY 32 d [g]).bind λi=>some (aH.next (i,(iw (c+1)))) else some (aH.done d))
def zp(N:Nat)(a:(List aC))(b:(List aC)):Option (List aC):=(bO (Ee N a b) N (([]:(List aC)),0)).bind λss=>match ss with
  |c=>some c
def uI(N:Nat)(n:Int)(l:(List Constraint))(p:Proof):Option Bool:=(yt N l n).bind λr6=>(uv N r6 p).bind λa=>some a
end Go.D

/- Walks of the symbolic machine, written by a program of mine (wip/tool). -/
import Derived.Test.YtipdkfmhfakbnaaGreatDoorTB
import Derived.Test.YtipdkfmhfakbnaaGreatDoorAd
import Derived.Test.YtipdkfmhfakbnaaGreatDoorSB
import Derived.Test.YtipdkfmhfakbnaaGreatDoorSC
import Derived.Test.YtipdkfmhfakbnaaGreatDoorSP
import Derived.Test.YtipdkfmhfakbnaaGreatDoorSQ
import Derived.Test.YtipdkfmhfakbnaaGreatDoorSV
set_option linter.unusedVariables false
set_option linter.unusedSimpArgs false
set_option linter.unusedSectionVars false
set_option maxRecDepth 100000
set_option maxHeartbeats 4000000
namespace Go.Proofs.YtipdkfmhfakbnaaGreatDoor.SW
open Go Go.RowKit Go.X Go.Q Go.D Go.Proofs.YtipdkfmhfakbnaaGreatDoor.TB Go.Proofs.YtipdkfmhfakbnaaGreatDoor.FS Go.Proofs.YtipdkfmhfakbnaaGreatDoor.SB Go.Proofs.YtipdkfmhfakbnaaGreatDoor.SC Go.Proofs.YtipdkfmhfakbnaaGreatDoor.SP Go.Proofs.YtipdkfmhfakbnaaGreatDoor.SQ Go.Proofs.YtipdkfmhfakbnaaGreatDoor.SV
theorem osides_c(N:Nat)(s:OState)(v:Int)(r:((List OItem)×(List OItem)))(h:osides N s v=some r):Cx Tryz.prog 133 [.lf (.ptr 0 0),sI .i64 v] [.box [(lI .i64 s.n),.ap 1 rIneq false s.known,.ap 2 rStep false s.steps,.own 3,.own 4,.own 5,.own 6,.ap 7 rOElim false s.stack],.arow rIneq false s.known,.arow rStep false s.steps,.row (rSl rBig) false s.u,.row (rInt .i64) true s.status,.row rBig false s.value,.row rOItem false s.items,.arow rOElim false s.stack] [(0,some (.box [(lI .i64 s.n),.ap 1 rIneq false s.known,.ap 2 rStep false s.steps,.own 3,.own 4,.own 5,.own 6,.ap 7 rOElim false s.stack])),(1,some (.arow rIneq false s.known)),(2,some (.arow rStep false s.steps)),(3,some (.row (rSl rBig) false s.u)),(4,some (.row (rInt .i64) true s.status)),(5,some (.row rBig false s.value)),(6,some (.row rOItem false s.items)),(7,some (.arow rOElim false s.stack))] [sR rOItem false r.1,sR rOItem false r.2]:=by
 unfold osides at h
 refine fn tb en133 Tryz.func133 fun X w H ν=>?_
 refine jn (fun x=>x) (fun⟨b,c⟩=>mkS 10 [.box [(lI .i64 s.n),(.ap 1 rIneq false s.known),(.ap 2 rStep false s.steps),(.own 3),(.own 4),(.own 5),(.own 6),(.ap 7 rOElim false s.stack)],.arow rIneq false s.known,.arow rStep false s.steps,.row (rSl rBig) false s.u,.row (rInt .i64) true s.status,.row rBig false s.value,.row rOItem false s.items,.arow rOElim false s.stack,.row rOItem false b,.row rOItem false c] [vp 0 0,vo 4 8,vo 5 9]) h (fun p j q=>?_) ?_
 refine bk ?_
 refine ps (nl 4 rOItem) ?_
 refine ps (nl 5 rOItem) ?_
 refine lp (fun⟨d,e,a⟩=>mkS 10 [.box [(lI .i64 s.n),(.ap 1 rIneq false s.known),(.ap 2 rStep false s.steps),(.own 3),(.own 4),(.own 5),(.own 6),(.ap 7 rOElim false s.stack)],.arow rIneq false s.known,.arow rStep false s.steps,.row (rSl rBig) false s.u,.row (rInt .i64) true s.status,.row rBig false s.value,.row rOItem false s.items,.arow rOElim false s.stack,.row rOItem false d,.row rOItem false e] [vp 0 0,vi 1 v,vo 4 8,vo 5 9,vo 11 6,vi 12 (List.length s.items:Int),vi 13 a]) j [0,1,2,3,4,5,6,7,8,9] ?_
 rintro⟨d,e,a⟩ oo h k
 rw[osides_b1]at h
 refine cd h (fun l h=>?_) (fun l h=>?_)
 refine jn (fun x=>x) (fun⟨f,g⟩=>mkS 10 [.box [(lI .i64 s.n),(.ap 1 rIneq false s.known),(.ap 2 rStep false s.steps),(.own 3),(.own 4),(.own 5),(.own 6),(.ap 7 rOElim false s.stack)],.arow rIneq false s.known,.arow rStep false s.steps,.row (rSl rBig) false s.u,.row (rInt .i64) true s.status,.row rBig false s.value,.row rOItem false s.items,.arow rOElim false s.stack,.row rOItem false f,.row rOItem false g] [vp 0 0,vi 1 v,vo 4 8,vo 5 9,vo 11 6,vi 12 (List.length s.items:Int),vi 13 a]) h (fun y h a0=>?_) ?_
 refine bk ?_
 refine ixO h fun i h=>?_
 refine ldO ?_
 refine ixR h fun a1 h=>?_
 refine cl none [] 0 h (bSign_c N _) fun a2 h=>?_
 refine bk ?_
 refine cd h (fun m h=>?_) (fun m h=>?_)
 refine litO rOItem false [i] ?_
 refine apO false h fun a3 h=>?_
 cases h
 exact bj _ [0,1,2,3,4,5,6,7,12,9]
 refine cd h (fun o h=>?_) (fun o h=>?_)
 refine litO rOItem false [i] ?_
 refine apO false h fun a4 h=>?_
 cases h
 exact bj _ [0,1,2,3,4,5,6,7,8,12]
 cases h
 exact bj _ [0,1,2,3,4,5,6,7,8,9]
 rintro⟨f,g⟩ h
 try dsimp only at h
 cases h
 exact bl [0,1,2,3,4,5,6,7,8,9]
 cases h
 exact bj _ [0,1,2,3,4,5,6,7,8,9] (hx:=k _ rfl)
 rintro⟨b,c⟩ h
 try dsimp only at h
 cases h
 exact rt [0,1,2,3,4,5,6,7]
theorem osidesR_c(N:Nat)(s:OState)(v:Int)(r:((List OItem)×(List OItem)))(h:osidesR N s v=some r):Cx Tryz.prog 133 [.lf (.ptr 0 0),sI .i64 v] [.box [(lI .i64 s.n),(.ro rIneq false s.known),(.ro rStep false s.steps),(.ro (rSl rBig) false s.u),(.ro (rInt .i64) false s.status),(.ro rBig false s.value),(.ro rOItem false s.items),(.ro rOElim false s.stack)]] [(0,some (.box [(lI .i64 s.n),(.ro rIneq false s.known),(.ro rStep false s.steps),(.ro (rSl rBig) false s.u),(.ro (rInt .i64) false s.status),(.ro rBig false s.value),(.ro rOItem false s.items),(.ro rOElim false s.stack)]))] [sR rOItem false r.1,sR rOItem false r.2]:=by
 unfold osidesR at h
 refine fn tb en133 Tryz.func133 fun X w H ν=>?_
 refine jn (fun x=>x) (fun⟨b,c⟩=>mkS 3 [.box [(lI .i64 s.n),(.ro rIneq false s.known),(.ro rStep false s.steps),(.ro (rSl rBig) false s.u),(.ro (rInt .i64) false s.status),(.ro rBig false s.value),(.ro rOItem false s.items),(.ro rOElim false s.stack)],.row rOItem false b,.row rOItem false c] [vp 0 0,vo 4 1,vo 5 2]) h (fun p j q=>?_) ?_
 refine bk ?_
 refine ps (nl 4 rOItem) ?_
 refine ps (nl 5 rOItem) ?_
 refine lp (fun⟨d,e,a⟩=>mkS 3 [.box [(lI .i64 s.n),(.ro rIneq false s.known),(.ro rStep false s.steps),(.ro (rSl rBig) false s.u),(.ro (rInt .i64) false s.status),(.ro rBig false s.value),(.ro rOItem false s.items),(.ro rOElim false s.stack)],.row rOItem false d,.row rOItem false e] [vp 0 0,vi 1 v,vo 4 1,vo 5 2,vr 11 rOItem false s.items,vi 12 (List.length s.items:Int),vi 13 a]) j [0,1,2] ?_
 rintro⟨d,e,a⟩ oo h k
 rw[osidesR_b1]at h
 refine cd h (fun l h=>?_) (fun l h=>?_)
 refine jn (fun x=>x) (fun⟨f,g⟩=>mkS 3 [.box [(lI .i64 s.n),(.ro rIneq false s.known),(.ro rStep false s.steps),(.ro (rSl rBig) false s.u),(.ro (rInt .i64) false s.status),(.ro rBig false s.value),(.ro rOItem false s.items),(.ro rOElim false s.stack)],.row rOItem false f,.row rOItem false g] [vp 0 0,vi 1 v,vo 4 1,vo 5 2,vr 11 rOItem false s.items,vi 12 (List.length s.items:Int),vi 13 a]) h (fun y h a0=>?_) ?_
 refine bk ?_
 refine ixR h fun i h=>?_
 refine ixR h fun a1 h=>?_
 refine cl none [] 0 h (bSign_c N _) fun a2 h=>?_
 refine bk ?_
 refine cd h (fun m h=>?_) (fun m h=>?_)
 refine litO rOItem false [i] ?_
 refine apO false h fun a3 h=>?_
 cases h
 exact bj _ [0,5,2]
 refine cd h (fun o h=>?_) (fun o h=>?_)
 refine litO rOItem false [i] ?_
 refine apO false h fun a4 h=>?_
 cases h
 exact bj _ [0,1,5]
 cases h
 exact bj _ [0,1,2]
 rintro⟨f,g⟩ h
 try dsimp only at h
 cases h
 exact bl [0,1,2]
 cases h
 exact bj _ [0,1,2] (hx:=k _ rfl)
 rintro⟨b,c⟩ h
 try dsimp only at h
 cases h
 exact rt [0]
theorem oprice_c(N:Nat)(s:OState)(v:Int)(r:(Big×Bool))(h:oprice N s v=some r):Cx Tryz.prog 130 [.lf (.ptr 0 0),sI .i64 v] [.box [(lI .i64 s.n),.ap 1 rIneq false s.known,.ap 2 rStep false s.steps,.own 3,.own 4,.own 5,.own 6,.ap 7 rOElim false s.stack],.arow rIneq false s.known,.arow rStep false s.steps,.row (rSl rBig) false s.u,.row (rInt .i64) true s.status,.row rBig false s.value,.row rOItem false s.items,.arow rOElim false s.stack] [(0,some (.box [(lI .i64 s.n),.ap 1 rIneq false s.known,.ap 2 rStep false s.steps,.own 3,.own 4,.own 5,.own 6,.ap 7 rOElim false s.stack])),(1,some (.arow rIneq false s.known)),(2,some (.arow rStep false s.steps)),(3,some (.row (rSl rBig) false s.u)),(4,some (.row (rInt .i64) true s.status)),(5,some (.row rBig false s.value)),(6,some (.row rOItem false s.items)),(7,some (.arow rOElim false s.stack))] [sA rBig true r.1,sB r.2]:=by
 unfold oprice at h
 refine fn tb en130 Tryz.func130 fun X w H ν=>?_
 refine clS (some false) [0,1,2,3,4,5,6,7] h (osides_c N _ _) fun r1 h=>?_
 refine cd h (fun hc4 h=>?_) (fun hc4 h=>?_)
 cases h
 exact rt [0,1,2,3,4,5,6,7]
 refine jn (fun x=>x) (fun x7=>mkS 9 [.box [(lI .i64 s.n),(.ap 1 rIneq false s.known),(.ap 2 rStep false s.steps),(.own 3),(.own 4),(.own 5),(.own 6),(.ap 7 rOElim false s.stack)],.arow rIneq false s.known,.arow rStep false s.steps,.row (rSl rBig) false s.u,.row (rInt .i64) true s.status,.row rBig false s.value,.row rOItem false s.items,.arow rOElim false s.stack,.box [(lB false),lN]] [vp 0 0,vi 1 v,vp 4 8,vr 6 rOItem false r1.1,vr 7 rOItem false r1.2,vb 32 x7]) h (fun s8 h g9=>?_) ?_
 refine rg ?_
 refine gd h (fun e h=>?_) (fun e h=>?_)
 cases h
 exact bj _ [0,1,2,3,4,5,6,7,8]
 cases h
 exact bj _ [0,1,2,3,4,5,6,7,8]
 intro x7 h
 try dsimp only at h
 refine cd h (fun f h=>?_) (fun f h=>?_)
 cases h
 exact rt [0,1,2,3,4,5,6,7]
 refine cl none [] 0 h (bOf_c N _) fun l h=>?_
 refine jn (fun x=>x) (fun b=>mkS 10 [.box [(lI .i64 s.n),(.ap 1 rIneq false s.known),(.ap 2 rStep false s.steps),(.own 3),(.own 4),(.own 5),(.own 6),(.ap 7 rOElim false s.stack)],.arow rIneq false s.known,.arow rStep false s.steps,.row (rSl rBig) false s.u,.row (rInt .i64) true s.status,.row rBig false s.value,.row rOItem false s.items,.arow rOElim false s.stack,.box [(lB false),lN],.box (Opn.cl rBig true b)] [vp 0 0,vp 4 8,vp 8 9]) h (fun m g o=>?_) ?_
 refine bk ?_
 refine lp (fun⟨c,a⟩=>mkS 10 [.box [(lI .i64 s.n),(.ap 1 rIneq false s.known),(.ap 2 rStep false s.steps),(.own 3),(.own 4),(.own 5),(.own 6),(.ap 7 rOElim false s.stack)],.arow rIneq false s.known,.arow rStep false s.steps,.row (rSl rBig) false s.u,.row (rInt .i64) true s.status,.row rBig false s.value,.row rOItem false s.items,.arow rOElim false s.stack,.box [(lB false),lN],.box (Opn.cl rBig true c)] [vp 0 0,vi 1 v,vp 4 8,vr 6 rOItem false r1.1,vp 8 9,vr 40 rOItem false r1.2,vi 41 (List.length r1.2:Int),vi 42 a]) g [0,1,2,3,4,5,6,7,8,9] ?_
 rintro⟨c,a⟩ oo h i
 rw[oprice_b1]at h
 refine cd h (fun j h=>?_) (fun j h=>?_)
 refine jn (fun x=>x) (fun d=>mkS 10 [.box [(lI .i64 s.n),(.ap 1 rIneq false s.known),(.ap 2 rStep false s.steps),(.own 3),(.own 4),(.own 5),(.own 6),(.ap 7 rOElim false s.stack)],.arow rIneq false s.known,.arow rStep false s.steps,.row (rSl rBig) false s.u,.row (rInt .i64) true s.status,.row rBig false s.value,.row rOItem false s.items,.arow rOElim false s.stack,.box [(lB false),lN],.box (Opn.cl rBig true d)] [vp 0 0,vi 1 v,vp 4 8,vr 6 rOItem false r1.1,vp 8 9,vr 40 rOItem false r1.2,vi 41 (List.length r1.2:Int),vi 42 a]) h (fun p h q=>?_) ?_
 refine bk ?_
 refine ixR h fun y h=>?_
 refine cl none [] 0 h (oslack_c N _ _ _) fun a0 h=>?_
 refine cl none [] 0 h (bSign_c N _) fun a1 h=>?_
 refine cd h (fun k h=>?_) (fun k h=>?_)
 refine dr mixed ?_
 refine cl none [] 0 h (bOf_c N _) fun a2 h=>?_
 refine cl none [] 0 h (bAdd_c N _ _) fun a3 h=>?_
 refine cl none [] 0 h (bMul_c N _ _) fun a4 h=>?_
 refine dk ?_
 cases h
 exact bj _ [0,1,2,3,4,5,6,7,8,9]
 cases h
 exact bj _ [0,1,2,3,4,5,6,7,8,9]
 intro d h
 try dsimp only at h
 cases h
 exact bl [0,1,2,3,4,5,6,7,8,9]
 cases h
 exact bj _ [0,1,2,3,4,5,6,7,8,9] (hx:=i _ rfl)
 intro b h
 try dsimp only at h
 cases h
 exact rt [0,1,2,3,4,5,6,7]
theorem ochoose_c(N:Nat)(s:OState)(r:(Int×Bool))(h:ochoose N s=some r):Cx Tryz.prog 105 [.lf (.ptr 0 0)] [.box [(lI .i64 s.n),.ap 1 rIneq false s.known,.ap 2 rStep false s.steps,.own 3,.own 4,.own 5,.own 6,.ap 7 rOElim false s.stack],.arow rIneq false s.known,.arow rStep false s.steps,.row (rSl rBig) false s.u,.row (rInt .i64) true s.status,.row rBig false s.value,.row rOItem false s.items,.arow rOElim false s.stack] [(0,some (.box [(lI .i64 s.n),.ap 1 rIneq false s.known,.ap 2 rStep false s.steps,.own 3,.own 4,.own 5,.own 6,.ap 7 rOElim false s.stack])),(1,some (.arow rIneq false s.known)),(2,some (.arow rStep false s.steps)),(3,some (.row (rSl rBig) false s.u)),(4,some (.row (rInt .i64) true s.status)),(5,some (.row rBig false s.value)),(6,some (.row rOItem false s.items)),(7,some (.arow rOElim false s.stack))] [sI .i64 r.1,sB r.2]:=by
 unfold ochoose at h
 refine fn tb en105 Tryz.func105 fun X w H ν=>?_
 refine jn (fun x=>x) (fun⟨e,f⟩=>mkS 8 [.box [(lI .i64 s.n),(.ap 1 rIneq false s.known),(.ap 2 rStep false s.steps),(.own 3),(.own 4),(.own 5),(.own 6),(.ap 7 rOElim false s.stack)],.arow rIneq false s.known,.arow rStep false s.steps,.row (rSl rBig) false s.u,.row (rInt .i64) true s.status,.row rBig false s.value,.row rOItem false s.items,.arow rOElim false s.stack] [vp 0 0,vi 4 e,vb 5 f]) h (fun a1 l a2=>?_) ?_
 refine bk ?_
 refine lp (fun⟨b,c,d,a⟩=>mkS 9 [.box [(lI .i64 s.n),(.ap 1 rIneq false s.known),(.ap 2 rStep false s.steps),(.own 3),(.own 4),(.own 5),(.own 6),(.ap 7 rOElim false s.stack)],.arow rIneq false s.known,.arow rStep false s.steps,.row (rSl rBig) false s.u,.row (rInt .i64) true s.status,.row rBig false s.value,.row rOItem false s.items,.arow rOElim false s.stack,.box (Opn.cl rBig true d)] [vp 0 0,vi 4 b,vb 5 c,vp 6 8,vi 13 s.n,vi 14 a]) l [0,1,2,3,4,5,6,7,8] ?_
 rintro⟨b,c,d,a⟩ oo h m
 rw[ochoose_b1]at h
 refine cd h (fun o h=>?_) (fun o h=>?_)
 refine jn (fun x=>x) (fun⟨g,i,j⟩=>mkS 9 [.box [(lI .i64 s.n),(.ap 1 rIneq false s.known),(.ap 2 rStep false s.steps),(.own 3),(.own 4),(.own 5),(.own 6),(.ap 7 rOElim false s.stack)],.arow rIneq false s.known,.arow rStep false s.steps,.row (rSl rBig) false s.u,.row (rInt .i64) true s.status,.row rBig false s.value,.row rOItem false s.items,.arow rOElim false s.stack,.box (Opn.cl rBig true j)] [vp 0 0,vi 4 g,vb 5 i,vp 6 8,vi 13 s.n,vi 14 a]) h (fun a3 h a4=>?_) ?_
 refine bk ?_
 refine ixO h fun a5 h=>?_
 refine ldO ?_
 refine cd h (fun p h=>?_) (fun p h=>?_)
 cases h
 exact bj _ [0,1,2,3,4,5,6,7,8]
 refine clS (some false) [0,1,2,3,4,5,6,7] h (oprice_c N _ _) fun q h=>?_
 refine jn (fun x=>x) (fun k=>mkS 10 [.box [(lI .i64 s.n),(.ap 1 rIneq false s.known),(.ap 2 rStep false s.steps),(.own 3),(.own 4),(.own 5),(.own 6),(.ap 7 rOElim false s.stack)],.arow rIneq false s.known,.arow rStep false s.steps,.row (rSl rBig) false s.u,.row (rInt .i64) true s.status,.row rBig false s.value,.row rOItem false s.items,.arow rOElim false s.stack,.box (Opn.cl rBig true d),.box (Opn.cl rBig true q.1)] [vp 0 0,vi 4 b,vb 5 c,vp 6 8,vi 7 a,vp 8 9,vi 13 s.n,vi 14 a,vb 41 k]) h (fun a6 h a7=>?_) ?_
 refine rg ?_
 refine gd h (fun v h=>?_) (fun v h=>?_)
 refine gd h (fun y h=>?_) (fun y h=>?_)
 cases h
 exact bj _ [0,1,2,3,4,5,6,7,8,9]
 refine cl none [] 0 h (bCompare_c N _ _) fun a8 h=>?_
 cases h
 exact bj _ [0,1,2,3,4,5,6,7,8,9]
 cases h
 exact bj _ [0,1,2,3,4,5,6,7,8,9]
 intro k h
 try dsimp only at h
 refine cd h (fun a0 h=>?_) (fun a0 h=>?_)
 refine dr mixed ?_
 refine dk ?_
 cases h
 exact bj _ [0,1,2,3,4,5,6,7,8]
 cases h
 exact bj _ [0,1,2,3,4,5,6,7,8]
 rintro⟨g,i,j⟩ h
 try dsimp only at h
 cases h
 exact bl [0,1,2,3,4,5,6,7,8]
 cases h
 exact bj _ [0,1,2,3,4,5,6,7] (hx:=m _ rfl)
 rintro⟨e,f⟩ h
 try dsimp only at h
 cases h
 exact rt [0,1,2,3,4,5,6,7]
theorem oexact_c(N:Nat)(s:OState)(v:Int)(r:Bool)(h:oexact N s v=some r):Cx Tryz.prog 107 [.lf (.ptr 0 0),sI .i64 v] [.box [(lI .i64 s.n),.ap 1 rIneq false s.known,.ap 2 rStep false s.steps,.own 3,.own 4,.own 5,.own 6,.ap 7 rOElim false s.stack],.arow rIneq false s.known,.arow rStep false s.steps,.row (rSl rBig) false s.u,.row (rInt .i64) true s.status,.row rBig false s.value,.row rOItem false s.items,.arow rOElim false s.stack] [(0,some (.box [(lI .i64 s.n),.ap 1 rIneq false s.known,.ap 2 rStep false s.steps,.own 3,.own 4,.own 5,.own 6,.ap 7 rOElim false s.stack])),(1,some (.arow rIneq false s.known)),(2,some (.arow rStep false s.steps)),(3,some (.row (rSl rBig) false s.u)),(4,some (.row (rInt .i64) true s.status)),(5,some (.row rBig false s.value)),(6,some (.row rOItem false s.items)),(7,some (.arow rOElim false s.stack))] [sB r]:=by
 unfold oexact at h
 refine fn tb en107 Tryz.func107 fun X w H ν=>?_
 refine clS (some false) [0,1,2,3,4,5,6,7] h (osides_c N _ _) fun r1 h=>?_
 refine cd h (fun hc4 h=>?_) (fun hc4 h=>?_)
 cases h
 exact rt [0,1,2,3,4,5,6,7]
 refine po (fzb 8 3) ?_
 refine po (fzb 9 5) ?_
 refine mkF (fun x:OItem=>[sA rOItem false x]) (fun r:Bool=>[sB r]) (fun xx=>oexact1 N xx v r1.1) (fun xx r h=>oexact1_c N xx v r1.1 r h) en135 ?_
 refine cl none [] 0 h (containsItem_c N _ _) fun r5 h=>?_
 cases h
 exact rt [0,1,2,3,4,5,6,7]
theorem obound_d(N:Nat)(s:OState)(x:OItem)(r:Big)(h:obound N s x=some r):Cx Tryz.prog 94 [.lf (.ptr 0 0),sA rOItem false x] [.box [(lI .i64 s.n),.ap 1 rIneq false s.known,.ap 2 rStep false s.steps,.own 3,.own 4,.own 5,.own 6,.own 7],.arow rIneq false s.known,.arow rStep false s.steps,.row (rSl rBig) false s.u,.row (rInt .i64) true s.status,.row rBig false s.value,.row rOItem false s.items,.row rOElim false s.stack] [(0,some (.box [(lI .i64 s.n),.ap 1 rIneq false s.known,.ap 2 rStep false s.steps,.own 3,.own 4,.own 5,.own 6,.own 7])),(1,some (.arow rIneq false s.known)),(2,some (.arow rStep false s.steps)),(3,some (.row (rSl rBig) false s.u)),(4,some (.row (rInt .i64) true s.status)),(5,some (.row rBig false s.value)),(6,some (.row rOItem false s.items)),(7,some (.row rOElim false s.stack))] [sA rBig false r]:=by
 unfold obound at h
 refine fn tb en94 Tryz.func94 fun X w H ν=>?_
 refine dr mixed ?_
 refine ixA h fun x1 h=>?_
 refine ldA ?_
 refine dk ?_
 cases h
 exact rt [0,1,2,3,4,5,6,7]
theorem osum_d(N:Nat)(s:OState)(uses:(List Use))(d:Big)(r:Ineq)(h:osum N s uses d=some r):Cx Tryz.prog 149 [.lf (.ptr 0 0),sR rUse false uses,sA rBig false d] [.box [(lI .i64 s.n),.ap 1 rIneq false s.known,.ap 2 rStep false s.steps,.own 3,.own 4,.own 5,.own 6,.own 7],.arow rIneq false s.known,.arow rStep false s.steps,.row (rSl rBig) false s.u,.row (rInt .i64) true s.status,.row rBig false s.value,.row rOItem false s.items,.row rOElim false s.stack] [(0,some (.box [(lI .i64 s.n),.ap 1 rIneq false s.known,.ap 2 rStep false s.steps,.own 3,.own 4,.own 5,.own 6,.own 7])),(1,some (.arow rIneq false s.known)),(2,some (.arow rStep false s.steps)),(3,some (.row (rSl rBig) false s.u)),(4,some (.row (rInt .i64) true s.status)),(5,some (.row rBig false s.value)),(6,some (.row rOItem false s.items)),(7,some (.row rOElim false s.stack))] [sA rIneq true r]:=by
 unfold osum at h
 refine fn tb en149 Tryz.func149 fun X w H ν=>?_
 refine mkO rBig h fun x1 h=>?_
 refine jn (fun x=>x) (fun⟨Coefs280,Bound281⟩=>mkS 12 [.box [(lI .i64 s.n),(.ap 1 rIneq false s.known),(.ap 2 rStep false s.steps),(.own 3),(.own 4),(.own 5),(.own 6),(.own 7)],.arow rIneq false s.known,.arow rStep false s.steps,.row (rSl rBig) false s.u,.row (rInt .i64) true s.status,.row rBig false s.value,.row rOItem false s.items,.row rOElim false s.stack,.box (Opn.cl rBig false d),.box [lN,(lB false),lN],.box [(.own 11),(lB Bound281.Negative),(.ro (rInt .u32) true Bound281.Digits)],.row rBig true Coefs280] [vp 0 0,vp 5 8,vp 6 9,vp 7 10]) h (fun v g y=>?_) ?_
 refine bk ?_
 refine lp (fun⟨Coefs138,Bound139,a⟩=>mkS 12 [.box [(lI .i64 s.n),(.ap 1 rIneq false s.known),(.ap 2 rStep false s.steps),(.own 3),(.own 4),(.own 5),(.own 6),(.own 7)],.arow rIneq false s.known,.arow rStep false s.steps,.row (rSl rBig) false s.u,.row (rInt .i64) true s.status,.row rBig false s.value,.row rOItem false s.items,.row rOElim false s.stack,.box (Opn.cl rBig false d),.box [lN,(lB false),lN],.box [(.own 11),(lB Bound139.Negative),(.ro (rInt .u32) true Bound139.Digits)],.row rBig true Coefs138] [vp 0 0,vp 5 8,vp 6 9,vp 7 10,vr 19 rUse false uses,vi 20 (List.length uses:Int),vi 21 a]) g [0,1,2,3,4,5,6,7,8,9,11,10] ?_
 rintro⟨Coefs138,Bound139,a⟩ oo h i
 rw[osum_b1]at h
 refine cd h (fun j h=>?_) (fun j h=>?_)
 refine bk ?_
 refine ixR h fun b h=>?_
 refine dr mixed ?_
 refine ixA h fun c h=>?_
 refine ldA ?_
 refine dk ?_
 refine jn (fun x=>x) (fun Coefs397=>mkS 14 [.box [(lI .i64 s.n),(.ap 1 rIneq false s.known),(.ap 2 rStep false s.steps),(.own 3),(.own 4),(.own 5),(.own 6),(.own 7)],.arow rIneq false s.known,.arow rStep false s.steps,.row (rSl rBig) false s.u,.row (rInt .i64) true s.status,.row rBig false s.value,.row rOItem false s.items,.row rOElim false s.stack,.box (Opn.cl rBig false d),.box [lN,(lB false),lN],.box [(.own 11),(lB Bound139.Negative),(.ro (rInt .u32) true Bound139.Digits)],.row rBig true Coefs397,.box (Opn.cl rUse false b),.box (Opn.cl rIneq false c)] [vp 0 0,vp 5 8,vp 6 9,vp 7 10,vp 9 12,vp 10 13,vr 19 rUse false uses,vi 20 (List.length uses:Int),vi 21 a]) h (fun a0 k a1=>?_) ?_
 refine bk ?_
 refine lp (fun⟨Coefs375,e⟩=>mkS 14 [.box [(lI .i64 s.n),(.ap 1 rIneq false s.known),(.ap 2 rStep false s.steps),(.own 3),(.own 4),(.own 5),(.own 6),(.own 7)],.arow rIneq false s.known,.arow rStep false s.steps,.row (rSl rBig) false s.u,.row (rInt .i64) true s.status,.row rBig false s.value,.row rOItem false s.items,.row rOElim false s.stack,.box (Opn.cl rBig false d),.box [lN,(lB false),lN],.box [(.own 11),(lB Bound139.Negative),(.ro (rInt .u32) true Bound139.Digits)],.row rBig true Coefs375,.box (Opn.cl rUse false b),.box (Opn.cl rIneq false c)] [vp 0 0,vp 5 8,vp 6 9,vp 7 10,vp 9 12,vp 10 13,vr 19 rUse false uses,vi 20 (List.length uses:Int),vi 21 a,vi 35 (List.length Coefs138:Int),vi 36 e]) k [0,1,2,3,4,5,6,7,8,9,10,11,12,13] ?_
 rintro⟨Coefs375,e⟩ oo h l
 rw[osum_b2]at h
 refine cd h (fun m h=>?_) (fun m h=>?_)
 refine bk ?_
 refine dr mixed ?_
 refine ixO h fun a2 h=>?_
 refine ldO ?_
 refine ixR h fun a3 h=>?_
 refine cl none [] 0 h (bMul_c N _ _) fun a4 h=>?_
 refine cl none [] 0 h (bAdd_c N _ _) fun a5 h=>?_
 refine ixO h fun a6 h=>?_
 refine stO true h fun a7 h=>?_
 refine dk ?_
 cases h
 exact bl [0,1,2,3,4,5,6,7,8,9,10,11,12,13]
 cases h
 exact bj _ [0,1,2,3,4,5,6,7,8,9,10,11,12,13] (hx:=l _ rfl)
 intro Coefs397 h
 try dsimp only at h
 refine dr mixed ?_
 refine cl none [] 0 h (bMul_c N _ _) fun a8 h=>?_
 refine cl none [] 0 h (bAdd_c N _ _) fun a9 h=>?_
 refine dk ?_
 cases h
 exact bl [0,1,2,3,4,5,6,7,8,9,10,11]
 cases h
 exact bj _ [0,1,2,3,4,5,6,7,8,9,10,11] (hx:=i _ rfl)
 rintro⟨Coefs280,Bound281⟩ h
 try dsimp only at h
 refine jn (fun x=>x) (fun Coefs452=>mkS 12 [.box [(lI .i64 s.n),(.ap 1 rIneq false s.known),(.ap 2 rStep false s.steps),(.own 3),(.own 4),(.own 5),(.own 6),(.own 7)],.arow rIneq false s.known,.arow rStep false s.steps,.row (rSl rBig) false s.u,.row (rInt .i64) true s.status,.row rBig false s.value,.row rOItem false s.items,.row rOElim false s.stack,.box (Opn.cl rBig false d),.box [lN,(lB false),lN],.box [(.own 11),(lB Bound281.Negative),(.ro (rInt .u32) true Bound281.Digits)],.row rBig true Coefs452] [vp 0 0,vp 5 8,vp 6 9,vp 7 10]) h (fun aa o ab=>?_) ?_
 refine bk ?_
 refine lp (fun⟨Coefs434,f⟩=>mkS 12 [.box [(lI .i64 s.n),(.ap 1 rIneq false s.known),(.ap 2 rStep false s.steps),(.own 3),(.own 4),(.own 5),(.own 6),(.own 7)],.arow rIneq false s.known,.arow rStep false s.steps,.row (rSl rBig) false s.u,.row (rInt .i64) true s.status,.row rBig false s.value,.row rOItem false s.items,.row rOElim false s.stack,.box (Opn.cl rBig false d),.box [lN,(lB false),lN],.box [(.own 11),(lB Bound281.Negative),(.ro (rInt .u32) true Bound281.Digits)],.row rBig true Coefs434] [vp 0 0,vp 5 8,vp 6 9,vp 7 10,vi 70 (List.length Coefs280:Int),vi 71 f]) o [0,1,2,3,4,5,6,7,8,9,10,11] ?_
 rintro⟨Coefs434,f⟩ oo h p
 rw[osum_b3]at h
 refine cd h (fun q h=>?_) (fun q h=>?_)
 refine bk ?_
 refine dr mixed ?_
 refine ixO h fun ac h=>?_
 refine ldO ?_
 refine cl none [] 0 h (bDivFloor_c N _ _) fun ad h=>?_
 refine ixO h fun ae h=>?_
 refine stO true h fun af h=>?_
 refine dk ?_
 cases h
 exact bl [0,1,2,3,4,5,6,7,8,9,10,11]
 cases h
 exact bj _ [0,1,2,3,4,5,6,7,8,9,10,11] (hx:=p _ rfl)
 intro Coefs452 h
 try dsimp only at h
 refine cl none [] 0 h (bDivFloor_c N _ _) fun ag h=>?_
 cases h
 exact rt [0,1,2,3,4,5,6,7]
theorem oderive_d(N:Nat)(s:OState)(g:(List Big))(uses:(List Use))(r:(OItem×Bool×Bool×OState))(h:oderive N s g uses=some r):Cx Tryz.prog 120 [.lf (.ptr 0 0),sR rBig false g,sR rUse false uses] [.box [(lI .i64 s.n),.ap 1 rIneq false s.known,.ap 2 rStep false s.steps,.own 3,.own 4,.own 5,.own 6,.own 7],.arow rIneq false s.known,.arow rStep false s.steps,.row (rSl rBig) false s.u,.row (rInt .i64) true s.status,.row rBig false s.value,.row rOItem false s.items,.row rOElim false s.stack] [(0,some (.box [(lI .i64 s.n),.ap 8 rIneq false r.2.2.2.known,.ap 9 rStep false r.2.2.2.steps,.own 10,.own 11,.own 12,.own 13,.own 14])),(8,some (.arow rIneq false r.2.2.2.known)),(9,some (.arow rStep false r.2.2.2.steps)),(10,some (.row (rSl rBig) false r.2.2.2.u)),(11,some (.row (rInt .i64) true r.2.2.2.status)),(12,some (.row rBig false r.2.2.2.value)),(13,some (.row rOItem false r.2.2.2.items)),(14,some (.row rOElim false r.2.2.2.stack))] [sA rOItem false r.1,sB r.2.1,sB r.2.2.1]:=by
 unfold oderive at h
 refine fnv (m:=8) tb (.comp (mva 0 1 1) (.comp (mva 0 2 2) (.comp (mvb 0 3 3) (.comp (mvb 0 4 4) (.comp (mvb 0 5 5) (.comp (mvb 0 6 6) (mvb 0 7 7))))))) en120 Tryz.func120 fun X w H ν=>?_
 refine cl none [] 0 h (ogcd_c N _) fun r1 h=>?_
 refine cl none [] 0 h (bSign_c N _) fun r2 h=>?_
 refine jn (fun x=>x) (fun d6=>mkG 17 [some (.box [(lI .i64 s.n),(.ap 8 rIneq false s.known),(.ap 9 rStep false s.steps),(.own 10),(.own 11),(.own 12),(.own 13),(.own 14)]),none,none,none,none,none,none,none,some (.arow rIneq false s.known),some (.arow rStep false s.steps),some (.row (rSl rBig) false s.u),some (.row (rInt .i64) true s.status),some (.row rBig false s.value),some (.row rOItem false s.items),some (.row rOElim false s.stack),some (.box [(lI .i64 0),lN]),some (.box (Opn.cl rBig true d6))] [vp 0 0,vr 1 rBig false g,vr 2 rUse false uses,vp 6 15,vp 9 16,vb 10 (decide ((r2:Int)≠0))]) h (fun s7 h g8=>?_) ?_
 refine cd h (fun hc9 h=>?_) (fun hc9 h=>?_)
 refine cl none [] 0 h (bOf_c N _) fun a4 h=>?_
 cases h
 exact bj _ [0,1,2,3,4,5,6,7,8,9,10,11,12,13,14,15,16]
 cases h
 exact bj _ [0,1,2,3,4,5,6,7,8,9,10,11,12,13,14,15,16]
 intro d6 h
 try dsimp only at h
 refine cl none [] 0 h (bOf_c N _) fun c h=>?_
 refine jn (fun x=>x) (fun d=>mkG 18 [some (.box [(lI .i64 s.n),(.ap 8 rIneq false s.known),(.ap 9 rStep false s.steps),(.own 10),(.own 11),(.own 12),(.own 13),(.own 14)]),none,none,none,none,none,none,none,some (.arow rIneq false s.known),some (.arow rStep false s.steps),some (.row (rSl rBig) false s.u),some (.row (rInt .i64) true s.status),some (.row rBig false s.value),some (.row rOItem false s.items),some (.row rOElim false s.stack),some (.box [(lI .i64 0),lN]),some (.box (Opn.cl rBig true d6)),some (.box (Opn.cl rBig true c))] [vp 0 0,vr 1 rBig false g,vr 2 rUse false uses,vp 6 15,vp 9 16,vb 10 (decide ((r2:Int)≠0)),vp 11 17,vb 40 d]) h (fun a5 h a6=>?_) ?_
 refine dr mixed ?_
 refine gd h (fun p h=>?_) (fun p h=>?_)
 refine dk ?_
 cases h
 exact bj _ [0,1,2,3,4,5,6,7,8,9,10,11,12,13,14,15,16,17]
 refine ixR h fun a7 h=>?_
 refine cl none [] 0 h (bCompare_c N _ _) fun a8 h=>?_
 refine gd h (fun q h=>?_) (fun q h=>?_)
 refine dk ?_
 cases h
 exact bj _ [0,1,2,3,4,5,6,7,8,9,10,11,12,13,14,15,16,17]
 refine cl none [] 0 h (bCompare_c N _ _) fun a9 h=>?_
 refine dk ?_
 cases h
 exact bj _ [0,1,2,3,4,5,6,7,8,9,10,11,12,13,14,15,16,17]
 intro d h
 try dsimp only at h
 refine jn (fun x=>x) (fun⟨a,b,e⟩=>mkG 17 [some (.box [(lI .i64 s.n),(.ap 8 rIneq false a),(.ap 9 rStep false b),(.own 10),(.own 11),(.own 12),(.own 13),(.own 14)]),none,none,none,none,none,none,none,some (.arow rIneq false a),some (.arow rStep false b),some (.row (rSl rBig) false s.u),some (.row (rInt .i64) true s.status),some (.row rBig false s.value),some (.row rOItem false s.items),some (.row rOElim false s.stack),some (.box [(lI .i64 0),lN]),some (.box (Opn.cl rBig true d6))] [vp 0 0,vr 1 rBig false g,vr 2 rUse false e,vp 6 15,vp 9 16,vb 10 (decide ((r2:Int)≠0))]) h (fun aa h ab=>?_) ?_
 refine cd h (fun v h=>?_) (fun v h=>?_)
 refine dr mixed ?_
 refine litO rStep false [(Step.mk uses d6)] ?_
 refine apA false h fun f h=>?_
 refine dk ?_
 refine ps (oa 0 2) ?_
 refine dr mixed ?_
 refine clS (some false) [0,8,19,10,11,12,13,14] h (osum_d N _ _ _) fun y h=>?_
 refine litO rIneq true [y] ?_
 refine apA false h fun i h=>?_
 refine dk ?_
 refine sn (mkG 18 [some (.box [(lI .i64 s.n),(.own 8),(.ap 9 rStep false f),(.own 10),(.own 11),(.own 12),(.own 13),(.own 14)]),none,none,none,none,none,none,none,some (.row rIneq false i),some (.arow rStep false f),some (.row (rSl rBig) false s.u),some (.row (rInt .i64) true s.status),some (.row rBig false s.value),some (.row rOItem false s.items),some (.row rOElim false s.stack),some (.box [(lI .i64 0),lN]),some (.box (Opn.cl rBig true d6)),some (.box (Opn.cl rBig true c))] [vp 0 0,vr 1 rBig false g,vp 6 15,vp 9 16,vb 10 (decide ((r2:Int)≠0)),vp 11 17]) [0,1,2,3,4,5,6,7,21,19,10,11,12,13,14,15,16,17] ?_
 refine dr mixed ?_
 refine litO rUse true [(Use.mk (iw ((List.length i:Int)-1)) c)] ?_
 refine dk ?_
 cases h
 exact bj _ [0,1,2,3,4,5,6,7,8,9,10,11,12,13,14,15,16]
 cases h
 exact bj _ [0,1,2,3,4,5,6,7,8,9,10,11,12,13,14,15,16]
 rintro⟨a,b,e⟩ h
 try dsimp only at h
 refine dr mixed ?_
 refine ixR h fun j h=>?_
 refine mkO rBig h fun ac h=>?_
 refine dk ?_
 refine jn (fun x=>x) (fun k=>mkG 18 [some (.box [(lI .i64 s.n),(.ap 8 rIneq false a),(.ap 9 rStep false b),(.own 10),(.own 11),(.own 12),(.own 13),(.own 14)]),none,none,none,none,none,none,none,some (.arow rIneq false a),some (.arow rStep false b),some (.row (rSl rBig) false s.u),some (.row (rInt .i64) true s.status),some (.row rBig false s.value),some (.row rOItem false s.items),some (.row rOElim false s.stack),some (.box [(lI .i64 0),lN]),some (.box [(lI .i64 j.Index),(.own 17)]),some (.row rBig true k)] [vp 0 0,vp 6 15,vb 10 (decide ((r2:Int)≠0)),vp 12 16]) h (fun ad a0 ae=>?_) ?_
 refine bk ?_
 refine lp (fun⟨l,o⟩=>mkG 19 [some (.box [(lI .i64 s.n),(.ap 8 rIneq false a),(.ap 9 rStep false b),(.own 10),(.own 11),(.own 12),(.own 13),(.own 14)]),none,none,none,none,none,none,none,some (.arow rIneq false a),some (.arow rStep false b),some (.row (rSl rBig) false s.u),some (.row (rInt .i64) true s.status),some (.row rBig false s.value),some (.row rOItem false s.items),some (.row rOElim false s.stack),some (.box [(lI .i64 0),lN]),some (.box (Opn.cl rBig true d6)),some (.box [(lI .i64 j.Index),(.own 18)]),some (.row rBig true l)] [vp 0 0,vr 1 rBig false g,vp 6 15,vp 9 16,vb 10 (decide ((r2:Int)≠0)),vp 12 17,vi 86 (List.length g:Int),vi 87 o]) a0 [0,1,2,3,4,5,6,7,8,9,10,11,12,13,14,15,16,18,17] ?_
 rintro⟨l,o⟩ oo h a1
 rw[oderive_b1]at h
 refine cd h (fun a2 h=>?_) (fun a2 h=>?_)
 refine bk ?_
 refine dr mixed ?_
 refine ixR h fun af h=>?_
 refine cl none [] 0 h (bDivFloor_c N _ _) fun ag h=>?_
 refine ixO h fun ah h=>?_
 refine stO true h fun ai h=>?_
 refine dk ?_
 cases h
 exact bl [0,1,2,3,4,5,6,7,8,9,10,11,12,13,14,15,16,17,18]
 cases h
 exact bj _ [0,1,2,3,4,5,6,7,8,9,10,11,12,13,14,15,17,18] (hx:=a1 _ rfl)
 intro k h
 try dsimp only at h
 refine ps (fzq 17 [] [16]) ?_
 refine dr mixed ?_
 refine gd h (fun a3 h=>?_) (fun a3 h=>?_)
 refine dk ?_
 cases h
 exact rt [0,1,2,3,4,5,6,7,8,9,10,11,12,13,14]
 refine clS (some false) [0,8,9,10,11,12,13,14] h (obound_d N _ _) fun aj h=>?_
 refine cl none [] 0 h (bSign_c N _) fun ak h=>?_
 refine dk ?_
 cases h
 exact rt [0,1,2,3,4,5,6,7,8,9,10,11,12,13,14]
theorem oadd_d(N:Nat)(s:OState)(x:OItem)(r:OState)(h:oadd N s x=some r):Cx Tryz.prog 96 [.lf (.ptr 0 0),sA rOItem false x] [.box [(lI .i64 s.n),.ap 1 rIneq false s.known,.ap 2 rStep false s.steps,.own 3,.own 4,.own 5,.own 6,.own 7],.arow rIneq false s.known,.arow rStep false s.steps,.row (rSl rBig) false s.u,.row (rInt .i64) true s.status,.row rBig false s.value,.row rOItem false s.items,.row rOElim false s.stack] [(0,some (.box [(lI .i64 s.n),.ap 8 rIneq false r.known,.ap 9 rStep false r.steps,.own 10,.own 11,.own 12,.own 13,.own 14])),(8,some (.arow rIneq false r.known)),(9,some (.arow rStep false r.steps)),(10,some (.row (rSl rBig) false r.u)),(11,some (.row (rInt .i64) true r.status)),(12,some (.row rBig false r.value)),(13,some (.row rOItem false r.items)),(14,some (.row rOElim false r.stack))] []:=by
 unfold oadd at h
 refine fnv (m:=8) tb (.comp (mva 0 1 1) (.comp (mva 0 2 2) (.comp (mvb 0 3 3) (.comp (mvb 0 4 4) (.comp (mvb 0 5 5) (.comp (mvb 0 6 6) (mvb 0 7 7))))))) en96 Tryz.func96 fun X w H ν=>?_
 refine jn (fun x=>(Sum.inl x)) (fun(_:Unit)=>mkG 16 [some (.box [(lI .i64 s.n),(.ap 8 rIneq false s.known),(.ap 9 rStep false s.steps),(.own 10),(.own 11),(.own 12),(.own 13),(.own 14)]),none,none,none,none,none,none,none,some (.arow rIneq false s.known),some (.arow rStep false s.steps),some (.row (rSl rBig) false s.u),some (.row (rInt .i64) true s.status),some (.row rBig false s.value),some (.row rOItem false s.items),some (.row rOElim false s.stack),some (.box (Opn.cl rOItem false x))] [vp 0 0,vp 3 15]) h (fun j d b=>?_) ?_
 refine bk ?_
 refine lp (fun c=>mkG 16 [some (.box [(lI .i64 s.n),(.ap 8 rIneq false s.known),(.ap 9 rStep false s.steps),(.own 10),(.own 11),(.own 12),(.own 13),(.own 14)]),none,none,none,none,none,none,none,some (.arow rIneq false s.known),some (.arow rStep false s.steps),some (.row (rSl rBig) false s.u),some (.row (rInt .i64) true s.status),some (.row rBig false s.value),some (.row rOItem false s.items),some (.row rOElim false s.stack),some (.box (Opn.cl rOItem false x))] [vp 0 0,vp 3 15,vo 9 13,vi 10 (List.length s.items:Int),vi 11 c]) d [0,1,2,3,4,5,6,7,8,9,10,11,12,13,14,15] ?_
 rintro c oo h a
 rw[oadd_b1]at h
 refine cd h (fun e h=>?_) (fun e h=>?_)
 refine bk ?_
 refine ixO h fun k h=>?_
 refine ldO ?_
 refine clF none [] 0 h (equalBig_c N _ _ _) (.s (.s (.f (fun x:Big×Big=>[sA rBig false x.1,sA rBig false x.2]) (fun r:Bool=>[sB r]) (fun x=>oadd1 N x.1 x.2) (fun x r h=>oadd1_c N x.1 x.2 r h) en127 .n))) fun l h=>?_
 refine cd h (fun g h=>?_) (fun g h=>?_)
 refine dr mixed ?_
 refine clS (some false) [0,8,9,10,11,12,13,14] h (obound_d N _ _) fun o h=>?_
 refine clS (some false) [0,8,9,10,11,12,13,14] h (obound_d N _ _) fun p h=>?_
 refine cl none [] 0 h (bCompare_c N _ _) fun q h=>?_
 refine dk ?_
 refine cd h (fun i h=>?_) (fun i h=>?_)
 refine dr mixed ?_
 refine ixO h fun v h=>?_
 refine stO false h fun y h=>?_
 refine dk ?_
 cases h
 have h:=b
 rw[←a _ rfl]at h
 try dsimp only at h
 cases h
 exact rt [0,1,2,3,4,5,6,7,8,9,10,11,12,13,14]
 cases h
 have h:=b
 rw[←a _ rfl]at h
 try dsimp only at h
 cases h
 exact rt [0,1,2,3,4,5,6,7,8,9,10,11,12,13,14]
 cases h
 exact bl [0,1,2,3,4,5,6,7,8,9,10,11,12,13,14,15]
 cases h
 exact bj _ [0,1,2,3,4,5,6,7,8,9,10,11,12,13,14,15] (hx:=a _ rfl)
 intro _ h
 try dsimp only at h
 refine dr mixed ?_
 refine litO rOItem false [x] ?_
 refine apO false h fun a0 h=>?_
 refine dk ?_
 cases h
 exact rt [0,1,2,3,4,5,6,7,8,9,10,11,12,17,14]
theorem oput_d(N:Nat)(s:OState)(g:(List Big))(uses:(List Use))(r:(Bool×OState))(h:oput N s g uses=some r):Cx Tryz.prog 91 [.lf (.ptr 0 0),sR rBig false g,sR rUse false uses] [.box [(lI .i64 s.n),.ap 1 rIneq false s.known,.ap 2 rStep false s.steps,.own 3,.own 4,.own 5,.own 6,.own 7],.arow rIneq false s.known,.arow rStep false s.steps,.row (rSl rBig) false s.u,.row (rInt .i64) true s.status,.row rBig false s.value,.row rOItem false s.items,.row rOElim false s.stack] [(0,some (.box [(lI .i64 s.n),.ap 8 rIneq false r.2.known,.ap 9 rStep false r.2.steps,.own 10,.own 11,.own 12,.own 13,.own 14])),(8,some (.arow rIneq false r.2.known)),(9,some (.arow rStep false r.2.steps)),(10,some (.row (rSl rBig) false r.2.u)),(11,some (.row (rInt .i64) true r.2.status)),(12,some (.row rBig false r.2.value)),(13,some (.row rOItem false r.2.items)),(14,some (.row rOElim false r.2.stack))] [sB r.1]:=by
 unfold oput at h
 refine fnv (m:=8) tb (.comp (mva 0 1 1) (.comp (mva 0 2 2) (.comp (mvb 0 3 3) (.comp (mvb 0 4 4) (.comp (mvb 0 5 5) (.comp (mvb 0 6 6) (mvb 0 7 7))))))) en91 Tryz.func91 fun X w H ν=>?_
 refine cl (some false) [0,8,9,10,11,12,13,14] 7 h (oderive_d N _ _ _) fun r1 h=>?_
 refine jn (fun x=>x) (fun⟨known5,steps6,u7,status8,value9,a,b⟩=>mkG 15 [some (.box [(lI .i64 s.n),(.ap 8 rIneq false known5),(.ap 9 rStep false steps6),(.own 10),(.own 11),(.own 12),(.own 13),(.own 14)]),none,none,none,none,none,none,none,some (.arow rIneq false known5),some (.arow rStep false steps6),some (.row (rSl rBig) false u7),some (.row (rInt .i64) true status8),some (.row rBig false value9),some (.row rOItem false a),some (.row rOElim false b)] [vp 0 0,vb 9 r1.2.2.1]) h (fun d h e=>?_) ?_
 refine cd h (fun c h=>?_) (fun c h=>?_)
 refine cl (some false) [0,15,16,17,18,19,20,21] 7 h (oadd_d N _ _) fun f h=>?_
 cases h
 exact bj _ [0,1,2,3,4,5,6,7,23,24,25,26,27,28,29]
 cases h
 exact bj _ [0,1,2,3,4,5,6,7,15,16,17,18,19,20,21]
 rintro⟨known5,steps6,u7,status8,value9,a,b⟩ h
 try dsimp only at h
 cases h
 exact rt [0,1,2,3,4,5,6,7,8,9,10,11,12,13,14]
theorem odrop_c(N:Nat)(s:OState)(v:Int)(tried:Bool)(r:(Bool×OState))(h:odrop N s v tried=some r):Cx Tryz.prog 109 [.lf (.ptr 0 0),sI .i64 v,sB tried] [.box [(lI .i64 s.n),.ap 1 rIneq false s.known,.ap 2 rStep false s.steps,.own 3,.own 4,.own 5,.own 6,.ap 7 rOElim false s.stack],.arow rIneq false s.known,.arow rStep false s.steps,.row (rSl rBig) false s.u,.row (rInt .i64) true s.status,.row rBig false s.value,.row rOItem false s.items,.arow rOElim false s.stack] [(0,some (.box [(lI .i64 s.n),.ap 8 rIneq false r.2.known,.ap 9 rStep false r.2.steps,.own 10,.own 11,.own 12,.own 13,.own 14])),(8,some (.arow rIneq false r.2.known)),(9,some (.arow rStep false r.2.steps)),(10,some (.row (rSl rBig) false r.2.u)),(11,some (.row (rInt .i64) true r.2.status)),(12,some (.row rBig false r.2.value)),(13,some (.row rOItem false r.2.items)),(14,some (.row rOElim false r.2.stack))] [sB r.1]:=by
 unfold odrop at h
 refine fnv (m:=8) tb (.comp (mva 0 1 1) (.comp (mva 0 2 2) (.comp (mvb 0 3 3) (.comp (mvb 0 4 4) (.comp (mvb 0 5 5) (.comp (mvb 0 6 6) (mva 0 7 7))))))) en109 Tryz.func109 fun X w H ν=>?_
 refine clS (some false) [0,8,9,10,11,12,13,14] h (osides_c N _ _) fun r1 h=>?_
 refine litO (rSl rOItem) false [r1.1,r1.2] ?_
 refine po (fzq 17 [31] []) ?_
 refine cl (some false) [] 0 h (concatItem_c N _) fun r2 h=>?_
 refine jn (fun x=>x) (fun l=>mkG 18 [some (.box [(lI .i64 s.n),(.ap 8 rIneq false s.known),(.ap 9 rStep false s.steps),(.own 10),(.own 11),(.own 12),(.own 13),(.ap 14 rOElim false s.stack)]),none,none,none,none,none,none,none,some (.arow rIneq false s.known),some (.arow rStep false s.steps),some (.row (rSl rBig) false s.u),some (.row (rInt .i64) true s.status),some (.row rBig false s.value),some (.row rOItem false s.items),some (.arow rOElim false s.stack),some (.box [(lI .i64 v)]),some (.box [(lI .i64 v),(.own 17),(lB tried)]),some (.row (rInt .i64) true l)] [vp 0 0,vp 4 15,vr 7 rOItem false r1.1,vr 8 rOItem false r1.2,vp 9 16]) h (fun ba av bb=>?_) ?_
 refine bk ?_
 refine ps (nb 16 1 (rInt .i64)) ?_
 refine lp (fun⟨a5,a6⟩=>mkG 18 [some (.box [(lI .i64 s.n),(.ap 8 rIneq false s.known),(.ap 9 rStep false s.steps),(.own 10),(.own 11),(.own 12),(.own 13),(.ap 14 rOElim false s.stack)]),none,none,none,none,none,none,none,some (.arow rIneq false s.known),some (.arow rStep false s.steps),some (.row (rSl rBig) false s.u),some (.row (rInt .i64) true s.status),some (.row rBig false s.value),some (.row rOItem false s.items),some (.arow rOElim false s.stack),some (.box [(lI .i64 v)]),some (.box [(lI .i64 v),(.own 17),(lB tried)]),some (.row (rInt .i64) true a5)] [vp 0 0,vp 4 15,vr 7 rOItem false r1.1,vr 8 rOItem false r1.2,vp 9 16,vr 32 rOItem false r2,vi 33 (List.length r2:Int),vi 34 a6]) av [0,1,2,3,4,5,6,7,8,9,10,11,12,13,14,15,16,18] ?_
 rintro⟨a5,a6⟩ oo h aw
 rw[odrop_b1]at h
 refine cd h (fun ax h=>?_) (fun ax h=>?_)
 refine bk ?_
 refine ixR h fun ay h=>?_
 refine litO (rInt .i64) true [ay.pos] ?_
 refine apO true h fun bc h=>?_
 cases h
 exact bl [0,1,2,3,4,5,6,7,8,9,10,11,12,13,14,15,16,20]
 cases h
 exact bj _ [0,1,2,3,4,5,6,7,8,9,10,11,12,13,14,15,16,17] (hx:=aw _ rfl)
 intro l h
 try dsimp only at h
 refine ps (fzq 17 [] [16]) ?_
 refine dr mixed ?_
 refine litO rOElim true [(OElim.mk v l tried)] ?_
 refine apA false h fun bd h=>?_
 refine dk ?_
 refine dr mixed ?_
 refine ixO h fun be h=>?_
 refine stO true h fun bf h=>?_
 refine dk ?_
 refine po (fzq 13 [66] [0]) ?_
 refine cl (some false) [] 1 h (cloneItem_c N _) fun bg h=>?_
 refine po (fzb 15 4) ?_
 refine mkF (fun x:OItem=>[sA rOItem false x]) (fun r:Bool=>[sB r]) (fun xx=>odrop1 N xx v) (fun xx r h=>odrop1_c N xx v r h) en145 ?_
 refine cl (some false) [20] 1 h (deleteItem_c N _ _) fun bh h=>?_
 refine jn (fun x=>(Sum.inl x)) (fun⟨o,p,a7,a8,a9,aa,ab⟩=>mkG 15 [some (.box [(lI .i64 s.n),(.ap 8 rIneq false o),(.ap 9 rStep false p),(.own 10),(.own 11),(.own 12),(.own 13),(.own 14)]),none,none,none,none,none,none,none,some (.arow rIneq false o),some (.arow rStep false p),some (.row (rSl rBig) false a7),some (.row (rInt .i64) true a8),some (.row rBig false a9),some (.row rOItem false aa),some (.row rOElim false ab)] [vp 0 0]) h (fun bi az b0=>?_) ?_
 refine bk ?_
 refine lp (fun⟨q,y,ac,ad,ae,af,ag,c⟩=>mkG 15 [some (.box [(lI .i64 s.n),(.ap 8 rIneq false q),(.ap 9 rStep false y),(.own 10),(.own 11),(.own 12),(.own 13),(.own 14)]),none,none,none,none,none,none,none,some (.arow rIneq false q),some (.arow rStep false y),some (.row (rSl rBig) false ac),some (.row (rInt .i64) true ad),some (.row rBig false ae),some (.row rOItem false af),some (.row rOElim false ag)] [vp 0 0,(4,some (.pr true [(lI .i64 v)] 0)),vr 8 rOItem false r1.2,vr 72 rOItem false r1.1,vi 73 (List.length r1.1:Int),vi 74 c]) az [0,1,2,3,4,5,6,7,8,9,10,11,12,21,19] ?_
 rintro⟨q,y,ac,ad,ae,af,ag,c⟩ oo h ah
 rw[odrop_b2]at h
 refine cd h (fun b1 h=>?_) (fun b1 h=>?_)
 refine bk ?_
 refine ixR h fun d h=>?_
 refine jn (fun x=>(Sum.inl x)) (fun⟨a0,a1,ai,aj,ak,al,am⟩=>mkG 15 [some (.box [(lI .i64 s.n),(.ap 8 rIneq false a0),(.ap 9 rStep false a1),(.own 10),(.own 11),(.own 12),(.own 13),(.own 14)]),none,none,none,none,none,none,none,some (.arow rIneq false a0),some (.arow rStep false a1),some (.row (rSl rBig) false ai),some (.row (rInt .i64) true aj),some (.row rBig false ak),some (.row rOItem false al),some (.row rOElim false am)] [vp 0 0,(4,some (.pr true [(lI .i64 v)] 0)),vr 8 rOItem false r1.2,vr 72 rOItem false r1.1,vi 73 (List.length r1.1:Int),vi 74 c]) h (fun bm b2 b3=>?_) ?_
 refine bk ?_
 refine lp (fun⟨a,b,e,f,g,i,j,k⟩=>mkG 16 [some (.box [(lI .i64 s.n),(.ap 8 rIneq false a),(.ap 9 rStep false b),(.own 10),(.own 11),(.own 12),(.own 13),(.own 14)]),none,none,none,none,none,none,none,some (.arow rIneq false a),some (.arow rStep false b),some (.row (rSl rBig) false e),some (.row (rInt .i64) true f),some (.row rBig false g),some (.row rOItem false i),some (.row rOElim false j),some (.box (Opn.cl rOItem false d))] [vp 0 0,(4,some (.pr true [(lI .i64 v)] 0)),vr 8 rOItem false r1.2,vp 13 15,vr 72 rOItem false r1.1,vi 73 (List.length r1.1:Int),vi 74 c,vr 78 rOItem false r1.2,vi 79 (List.length r1.2:Int),vi 80 k]) b2 [0,1,2,3,4,5,6,7,8,9,10,11,12,13,14,15] ?_
 rintro⟨a,b,e,f,g,i,j,k⟩ oo h an
 rw[odrop_b3]at h
 refine cd h (fun b4 h=>?_) (fun b4 h=>?_)
 refine bk ?_
 refine ixR h fun a2 h=>?_
 refine dr mixed ?_
 refine ixR h fun a3 h=>?_
 refine ixR h fun bn h=>?_
 refine cl none [] 0 h (bNeg_c N _) fun a4 h=>?_
 refine dk ?_
 refine mkO rBig h fun b5 h=>?_
 refine jn (fun x=>x) (fun ao=>mkG 20 [some (.box [(lI .i64 s.n),(.ap 8 rIneq false a),(.ap 9 rStep false b),(.own 10),(.own 11),(.own 12),(.own 13),(.own 14)]),none,none,none,none,none,none,none,some (.arow rIneq false a),some (.arow rStep false b),some (.row (rSl rBig) false e),some (.row (rInt .i64) true f),some (.row rBig false g),some (.row rOItem false i),some (.row rOElim false j),some (.box (Opn.cl rOItem false d)),some (.box (Opn.cl rOItem false a2)),some (.box (Opn.cl rBig false a3)),some (.box (Opn.cl rBig true a4)),some (.row rBig true ao)] [vp 0 0,(4,some (.pr true [(lI .i64 v)] 0)),vr 8 rOItem false r1.2,vp 13 15,vp 15 16,vp 16 17,vp 17 18,vo 18 19,vr 72 rOItem false r1.1,vi 73 (List.length r1.1:Int),vi 74 c,vr 78 rOItem false r1.2,vi 79 (List.length r1.2:Int),vi 80 k]) h (fun bo b6 bp=>?_) ?_
 refine bk ?_
 refine lp (fun⟨aq,ar⟩=>mkG 20 [some (.box [(lI .i64 s.n),(.ap 8 rIneq false a),(.ap 9 rStep false b),(.own 10),(.own 11),(.own 12),(.own 13),(.own 14)]),none,none,none,none,none,none,none,some (.arow rIneq false a),some (.arow rStep false b),some (.row (rSl rBig) false e),some (.row (rInt .i64) true f),some (.row rBig false g),some (.row rOItem false i),some (.row rOElim false j),some (.box (Opn.cl rOItem false d)),some (.box (Opn.cl rOItem false a2)),some (.box (Opn.cl rBig false a3)),some (.box (Opn.cl rBig true a4)),some (.row rBig true aq)] [vp 0 0,(4,some (.pr true [(lI .i64 v)] 0)),vr 8 rOItem false r1.2,vp 13 15,vp 15 16,vp 16 17,vp 17 18,vo 18 19,vr 72 rOItem false r1.1,vi 73 (List.length r1.1:Int),vi 74 c,vr 78 rOItem false r1.2,vi 79 (List.length r1.2:Int),vi 80 k,vi 101 (List.length b5:Int),vi 102 ar]) b6 [0,1,2,3,4,5,6,7,8,9,10,11,12,13,14,15,16,17,18,19] ?_
 rintro⟨aq,ar⟩ oo h b7
 rw[odrop_b4]at h
 refine cd h (fun b8 h=>?_) (fun b8 h=>?_)
 refine bk ?_
 refine dr mixed ?_
 refine ixR h fun br h=>?_
 refine cl none [] 0 h (bMul_c N _ _) fun bs h=>?_
 refine ixR h fun bt h=>?_
 refine cl none [] 0 h (bMul_c N _ _) fun bu h=>?_
 refine cl none [] 0 h (bAdd_c N _ _) fun bw h=>?_
 refine ixO h fun bx h=>?_
 refine stO true h fun bz h=>?_
 refine dk ?_
 cases h
 exact bl [0,1,2,3,4,5,6,7,8,9,10,11,12,13,14,15,16,17,18,19]
 cases h
 exact bj _ [0,1,2,3,4,5,6,7,8,9,10,11,12,13,14,15,16,17,18,19] (hx:=b7 _ rfl)
 intro ao h
 try dsimp only at h
 refine litO rUse false [(Use.mk d.pos a4),(Use.mk a2.pos a3)] ?_
 refine po (fzq 19 [18,125] []) ?_
 refine po (fzq 20 [134] []) ?_
 refine cl (some false) [0,8,9,10,11,12,13,14] 7 h (oput_d N _ _ _) fun c0 h=>?_
 refine cd h (fun b9 h=>?_) (fun b9 h=>?_)
 cases h
 have h:=b3
 rw[←an _ rfl]at h
 try dsimp only at h
 cases h
 have h:=b0
 rw[←ah _ rfl]at h
 try dsimp only at h
 cases h
 exact rt [0,1,2,3,4,5,6,7,21,22,23,24,25,26,27]
 cases h
 exact bl [0,1,2,3,4,5,6,7,21,22,23,24,25,26,27,15]
 cases h
 exact bj _ [0,1,2,3,4,5,6,7,8,9,10,11,12,13,14] (hx:=an _ rfl)
 rintro⟨a0,a1,ai,aj,ak,al,am⟩ h
 try dsimp only at h
 cases h
 exact bl [0,1,2,3,4,5,6,7,8,9,10,11,12,13,14]
 cases h
 exact bj _ [0,1,2,3,4,5,6,7,8,9,10,11,12,13,14] (hx:=ah _ rfl)
 rintro⟨o,p,a7,a8,a9,aa,ab⟩ h
 try dsimp only at h
 cases h
 exact rt [0,1,2,3,4,5,6,7,8,9,10,11,12,13,14]
theorem orefuted_c(N:Nat)(s:OState)(r:OOut)(h:orefuted N s=some r):Cx Tryz.prog 74 [.lf (.ptr 0 0)] [.box [(lI .i64 s.n),.ap 1 rIneq false s.known,.ap 2 rStep false s.steps,.own 3,.own 4,.own 5,.own 6,.ap 7 rOElim false s.stack],.arow rIneq false s.known,.arow rStep false s.steps,.row (rSl rBig) false s.u,.row (rInt .i64) true s.status,.row rBig false s.value,.row rOItem false s.items,.arow rOElim false s.stack] [] [sA rOOut false r]:=by
 unfold orefuted at h
 refine fnv (m:=8) tb (.comp (fa 0 1) (.comp (fa 0 2) (.comp (fzq 3 [] [0]) (.comp (fzq 4 [] [0]) (.comp (fzq 5 [] [0]) (.comp (fzq 6 [] [0]) (fa 0 7))))))) en74 Tryz.func74 fun X w H ν=>?_
 cases h
 exact rt [0,1,2,3,4,5,6,7]
theorem onew_c(N:Nat)(n:Int)(system:(List Ineq))(r:OState)(h:onew N n system=some r):Cx Tryz.prog 62 [sI .i64 n,sR rIneq false system] [] [(0,some (.box [(lI .i64 r.n),.own 1,.own 2,.own 3,.own 4,.own 5,.own 6,.own 7])),(1,some (.row rIneq false r.known)),(2,some (.row rStep false r.steps)),(3,some (.row (rSl rBig) false r.u)),(4,some (.row (rInt .i64) true r.status)),(5,some (.row rBig false r.value)),(6,some (.row rOItem false r.items)),(7,some (.row rOElim false r.stack))] [.lf (.ptr 0 0)]:=by
 unfold onew at h
 refine fn tb en62 Tryz.func62 fun X w H ν=>?_
 refine dr mixed ?_
 refine cl (some false) [] 1 h (cloneIneq_c N _) fun r1 h=>?_
 refine mkO (rInt .i64) h fun x2 h=>?_
 refine mkO rBig h fun x3 h=>?_
 refine dk ?_
 refine jn (fun x=>x) (fun a=>mkS 5 [.box [(lI .i64 n),(.own 1),lN,(.own 2),(.own 3),(.own 4),lN,lN],.row rIneq false r1,.row (rSl rBig) true a,.row (rInt .i64) true x2,.row rBig true x3] [vp 5 0]) h (fun i d j=>?_) ?_
 refine bk ?_
 refine ps (nb 3 3 (rSl rBig)) ?_
 refine lp (fun⟨b,c⟩=>mkS 5 [.box [(lI .i64 n),(.own 1),lN,(.own 2),(.own 3),(.own 4),lN,lN],.row rIneq false r1,.row (rSl rBig) true b,.row (rInt .i64) true x2,.row rBig true x3] [vi 0 n,vp 5 0,vi 17 n,vi 18 c]) d [3,0,4,1,2] ?_
 rintro⟨b,c⟩ oo h e
 rw[onew_b1]at h
 refine cd h (fun f h=>?_) (fun f h=>?_)
 refine bk ?_
 refine mkO rBig h fun k h=>?_
 refine cl none [] 0 h (bOf_c N _) fun l h=>?_
 refine ixO h fun m h=>?_
 refine stO true h fun g h=>?_
 refine po (fzq 5 [7,22,23,32] []) ?_
 refine litO (rSl rBig) true [g] ?_
 refine apO true h fun o h=>?_
 cases h
 exact bl [0,1,7,3,4]
 cases h
 exact bj _ [0,1,2,3,4] (hx:=e _ rfl)
 intro a h
 try dsimp only at h
 refine pr (nb 0 2 rStep) ?_
 refine pr (nb 0 6 rOItem) ?_
 refine pr (nb 0 7 rOElim) ?_
 cases h
 exact rt [0,1,5,2,3,4,6,7]
theorem ocopy_c(N:Nat)(s:OState)(r:OState)(h:ocopy N s=some r):Cx Tryz.prog 140 [.lf (.ptr 0 0)] [.box [(lI .i64 s.n),(.ro rIneq false s.known),(.ro rStep false s.steps),(.ro (rSl rBig) false s.u),(.ro (rInt .i64) false s.status),(.ro rBig false s.value),(.ro rOItem false s.items),(.ro rOElim false s.stack)]] [(0,some (.box [(lI .i64 s.n),(.ro rIneq false s.known),(.ro rStep false s.steps),(.ro (rSl rBig) false s.u),(.ro (rInt .i64) false s.status),(.ro rBig false s.value),(.ro rOItem false s.items),(.ro rOElim false s.stack)])),(1,some (.box [(lI .i64 r.n),.cp rIneq false r.known,.cp rStep false r.steps,.own 2,.own 3,.own 4,.own 5,.cp rOElim false r.stack])),(2,some (.row (rSl rBig) false r.u)),(3,some (.row (rInt .i64) true r.status)),(4,some (.row rBig false r.value)),(5,some (.row rOItem false r.items))] [.lf (.ptr 1 0)]:=by
 unfold ocopy at h
 refine fn tb en140 Tryz.func140 fun X w H ν=>?_
 refine dr mixed ?_
 refine cl (some false) [] 0 h (clipIneq_c N _) fun r1 h=>?_
 refine cl (some false) [] 0 h (clipStep_c N _) fun r2 h=>?_
 refine dk ?_
 refine dr mixed ?_
 refine cl (some false) [] 1 h (cloneRows_c N _) fun r3 h=>?_
 refine cl none [] 1 h (cloneInt_c N _) fun r4 h=>?_
 refine cl (some false) [] 1 h (cloneBig_c N _) fun r5 h=>?_
 refine dk ?_
 refine sn (mkS 5 [.box [(lI .i64 s.n),(.ro rIneq false s.known),(.ro rStep false s.steps),(.ro (rSl rBig) false s.u),(.ro (rInt .i64) false s.status),(.ro rBig false s.value),(.ro rOItem false s.items),(.ro rOElim false s.stack)],.box [(lI .i64 s.n),(.cp rIneq false r1),(.cp rStep false r2),(.own 2),(.own 3),(.own 4),(.ro rOItem false s.items),(.ro rOElim false s.stack)],.row (rSl rBig) false r3,.row (rInt .i64) true r4,.row rBig false r5] [vp 0 0,vp 3 1]) [0,1,2,3,4] ?_
 refine dr mixed ?_
 refine cl (some false) [] 1 h (cloneItem_c N _) fun r6 h=>?_
 refine cl (some false) [] 0 h (clipElim_c N _) fun r7 h=>?_
 refine dk ?_
 cases h
 exact rt [0,1,2,3,4,5]
theorem oassume_c(N:Nat)(s:OState)(q:Ineq)(r:OState)(h:oassume N s q=some r):Cx Tryz.prog 162 [.lf (.ptr 0 0),sA rIneq false q] [.box [(lI .i64 s.n),(.ro rIneq false s.known),(.ro rStep false s.steps),(.ro (rSl rBig) false s.u),(.ro (rInt .i64) false s.status),(.ro rBig false s.value),(.ro rOItem false s.items),(.ro rOElim false s.stack)]] [(0,some (.box [(lI .i64 s.n),(.ro rIneq false s.known),(.ro rStep false s.steps),(.ro (rSl rBig) false s.u),(.ro (rInt .i64) false s.status),(.ro rBig false s.value),(.ro rOItem false s.items),(.ro rOElim false s.stack)])),(1,some (.box [(lI .i64 r.n),.own 2,.own 3,.own 4,.own 5,.own 6,.own 7,.cp rOElim false r.stack])),(2,some (.row rIneq false r.known)),(3,some (.row rStep false r.steps)),(4,some (.row (rSl rBig) false r.u)),(5,some (.row (rInt .i64) true r.status)),(6,some (.row rBig false r.value)),(7,some (.row rOItem false r.items))] [.lf (.ptr 1 0)]:=by
 unfold oassume at h
 refine fn tb en162 Tryz.func162 fun X w H ν=>?_
 refine cl (some false) [0] 5 h (ocopy_c N _) fun r1 h=>?_
 refine dr mixed ?_
 refine litO rIneq false [q] ?_
 refine apC false h fun x2 h=>?_
 refine dk ?_
 refine pr (nb 2 2 rStep) ?_
 cases h
 exact rt [0,2,8,9,3,4,5,6]
theorem ojoined_c(N:Nat)(s:OState)(form:(List Big))(bound:Big)(left:OOut)(right:OOut)(r:OOut)(h:ojoined N s form bound left right=some r):Cx Tryz.prog 163 [.lf (.ptr 0 0),sR rBig false form,sA rBig false bound,sA rOOut false left,sA rOOut false right] [.box [(lI .i64 s.n),(.ro rIneq false s.known),(.ro rStep false s.steps),(.ro (rSl rBig) false s.u),(.ro (rInt .i64) false s.status),(.ro rBig false s.value),(.ro rOItem false s.items),(.ro rOElim false s.stack)]] [(0,some (.box [(lI .i64 s.n),(.ro rIneq false s.known),(.ro rStep false s.steps),(.ro (rSl rBig) false s.u),(.ro (rInt .i64) false s.status),(.ro rBig false s.value),(.ro rOItem false s.items),(.ro rOElim false s.stack)]))] [sA rOOut false r]:=by
 unfold ojoined at h
 refine fn tb en163 Tryz.func163 fun X w H ν=>?_
 refine dr mixed ?_
 refine litO rProof false [left.proof,right.proof] ?_
 refine dk ?_
 cases h
 exact rt [0]
theorem ototal_c(N:Nat)(s:OState)(v:Int)(r:Big)(h:ototal N s v=some r):Cx Tryz.prog 138 [.lf (.ptr 0 0),sI .i64 v] [.box [(lI .i64 s.n),(.ro rIneq false s.known),(.ro rStep false s.steps),(.ro (rSl rBig) false s.u),(.ro (rInt .i64) false s.status),(.ro rBig false s.value),(.ro rOItem false s.items),(.ro rOElim false s.stack)]] [(0,some (.box [(lI .i64 s.n),(.ro rIneq false s.known),(.ro rStep false s.steps),(.ro (rSl rBig) false s.u),(.ro (rInt .i64) false s.status),(.ro rBig false s.value),(.ro rOItem false s.items),(.ro rOElim false s.stack)]))] [sA rBig true r]:=by
 unfold ototal at h
 refine fn tb en138 Tryz.func138 fun X w H ν=>?_
 refine clS (some false) [0] h (osidesR_c N _ _) fun r1 h=>?_
 refine jn (fun x=>x) (fun b=>mkS 3 [.box [(lI .i64 s.n),(.ro rIneq false s.known),(.ro rStep false s.steps),(.ro (rSl rBig) false s.u),(.ro (rInt .i64) false s.status),(.ro rBig false s.value),(.ro rOItem false s.items),(.ro rOElim false s.stack)],.box [(lB false),lN],.box (Opn.cl rBig true b)] [vp 0 0,vp 4 1,vp 7 2]) h (fun j e k=>?_) ?_
 refine bk ?_
 refine lp (fun⟨c,a⟩=>mkS 3 [.box [(lI .i64 s.n),(.ro rIneq false s.known),(.ro rStep false s.steps),(.ro (rSl rBig) false s.u),(.ro (rInt .i64) false s.status),(.ro rBig false s.value),(.ro rOItem false s.items),(.ro rOElim false s.stack)],.box [(lB false),lN],.box (Opn.cl rBig true c)] [vp 0 0,vi 1 v,vp 4 1,vr 5 rOItem false r1.1,vp 7 2,vr 17 rOItem false r1.2,vi 18 (List.length r1.2:Int),vi 19 a]) e [0,1,2] ?_
 rintro⟨c,a⟩ oo h f
 rw[ototal_b1]at h
 refine cd h (fun g h=>?_) (fun g h=>?_)
 refine jn (fun x=>x) (fun d=>mkS 3 [.box [(lI .i64 s.n),(.ro rIneq false s.known),(.ro rStep false s.steps),(.ro (rSl rBig) false s.u),(.ro (rInt .i64) false s.status),(.ro rBig false s.value),(.ro rOItem false s.items),(.ro rOElim false s.stack)],.box [(lB false),lN],.box (Opn.cl rBig true d)] [vp 0 0,vi 1 v,vp 4 1,vr 5 rOItem false r1.1,vp 7 2,vr 17 rOItem false r1.2,vi 18 (List.length r1.2:Int),vi 19 a]) h (fun l h m=>?_) ?_
 refine bk ?_
 refine ixR h fun o h=>?_
 refine cl none [] 0 h (oslack_c N _ _ _) fun p h=>?_
 refine cl none [] 0 h (bSign_c N _) fun q h=>?_
 refine cd h (fun i h=>?_) (fun i h=>?_)
 refine dr mixed ?_
 refine cl none [] 0 h (bOf_c N _) fun y h=>?_
 refine cl none [] 0 h (bAdd_c N _ _) fun a0 h=>?_
 refine cl none [] 0 h (bAdd_c N _ _) fun a1 h=>?_
 refine dk ?_
 cases h
 exact bj _ [0,1,2]
 cases h
 exact bj _ [0,1,2]
 intro d h
 try dsimp only at h
 cases h
 exact bl [0,1,2]
 cases h
 exact bj _ [0,1,2] (hx:=f _ rfl)
 intro b h
 try dsimp only at h
 cases h
 exact rt [0]
theorem onarrow_c(N:Nat)(s:OState)(r:(OSpan×Bool))(h:onarrow N s=some r):Cx Tryz.prog 137 [.lf (.ptr 0 0)] [.box [(lI .i64 s.n),(.ro rIneq false s.known),(.ro rStep false s.steps),(.ro (rSl rBig) false s.u),(.ro (rInt .i64) false s.status),(.ro rBig false s.value),(.ro rOItem false s.items),(.ro rOElim false s.stack)]] [(0,some (.box [(lI .i64 s.n),(.ro rIneq false s.known),(.ro rStep false s.steps),(.ro (rSl rBig) false s.u),(.ro (rInt .i64) false s.status),(.ro rBig false s.value),(.ro rOItem false s.items),(.ro rOElim false s.stack)]))] [sA rOSpan false r.1,sB r.2]:=by
 unfold onarrow at h
 refine fn tb en137 Tryz.func137 fun X w H ν=>?_
 refine jn (fun x=>x) (fun⟨k,l⟩=>mkS 3 [.box [(lI .i64 s.n),(.ro rIneq false s.known),(.ro rStep false s.steps),(.ro (rSl rBig) false s.u),(.ro (rInt .i64) false s.status),(.ro rBig false s.value),(.ro rOItem false s.items),(.ro rOElim false s.stack)],.box [(lI .i64 0),lN,(lB false),lN,(lB false),lN],.box (Opn.cl rOSpan false k)] [vp 0 0,vp 2 1,vp 4 2,vb 5 l]) h (fun aj a5 ak=>?_) ?_
 refine bk ?_
 refine lp (fun⟨i,j,a⟩=>mkS 3 [.box [(lI .i64 s.n),(.ro rIneq false s.known),(.ro rStep false s.steps),(.ro (rSl rBig) false s.u),(.ro (rInt .i64) false s.status),(.ro rBig false s.value),(.ro rOItem false s.items),(.ro rOElim false s.stack)],.box [(lI .i64 0),lN,(lB false),lN,(lB false),lN],.box (Opn.cl rOSpan false i)] [vp 0 0,vp 2 1,vp 4 2,vb 5 j,vr 18 rOItem false s.items,vi 19 (List.length s.items:Int),vi 20 a]) a5 [0,1,2] ?_
 rintro⟨i,j,a⟩ oo h a6
 rw[onarrow_b1]at h
 refine cd h (fun a7 h=>?_) (fun a7 h=>?_)
 refine jn (fun x=>x) (fun⟨m,o⟩=>mkS 3 [.box [(lI .i64 s.n),(.ro rIneq false s.known),(.ro rStep false s.steps),(.ro (rSl rBig) false s.u),(.ro (rInt .i64) false s.status),(.ro rBig false s.value),(.ro rOItem false s.items),(.ro rOElim false s.stack)],.box [(lI .i64 0),lN,(lB false),lN,(lB false),lN],.box (Opn.cl rOSpan false m)] [vp 0 0,vp 2 1,vp 4 2,vb 5 o,vr 18 rOItem false s.items,vi 19 (List.length s.items:Int),vi 20 a]) h (fun al h am=>?_) ?_
 refine bk ?_
 refine ixR h fun b h=>?_
 refine cl none [] 0 h (osingle_c N _) fun c h=>?_
 refine jn (fun x=>x) (fun p=>mkS 4 [.box [(lI .i64 s.n),(.ro rIneq false s.known),(.ro rStep false s.steps),(.ro (rSl rBig) false s.u),(.ro (rInt .i64) false s.status),(.ro rBig false s.value),(.ro rOItem false s.items),(.ro rOElim false s.stack)],.box [(lI .i64 0),lN,(lB false),lN,(lB false),lN],.box (Opn.cl rOSpan false i),.box (Opn.cl rOItem false b)] [vp 0 0,vp 2 1,vp 4 2,vb 5 j,vp 7 3,vi 8 c.1,vr 18 rOItem false s.items,vi 19 (List.length s.items:Int),vi 20 a,vb 39 p]) h (fun an h ao=>?_) ?_
 refine rg ?_
 refine gd h (fun a8 h=>?_) (fun a8 h=>?_)
 cases h
 exact bj _ [0,1,2,3]
 refine ixR h fun aq h=>?_
 refine cl none [] 0 h (bSign_c N _) fun ar h=>?_
 cases h
 exact bj _ [0,1,2,3]
 intro p h
 try dsimp only at h
 refine cd h (fun a9 h=>?_) (fun a9 h=>?_)
 cases h
 exact bj _ [0,1,2]
 refine jn (fun x=>x) (fun⟨q,v⟩=>mkS 3 [.box [(lI .i64 s.n),(.ro rIneq false s.known),(.ro rStep false s.steps),(.ro (rSl rBig) false s.u),(.ro (rInt .i64) false s.status),(.ro rBig false s.value),(.ro rOItem false s.items),(.ro rOElim false s.stack)],.box [(lI .i64 0),lN,(lB false),lN,(lB false),lN],.box (Opn.cl rOSpan false q)] [vp 0 0,vp 2 1,vp 4 2,vb 5 v,vr 18 rOItem false s.items,vi 19 (List.length s.items:Int),vi 20 a]) h (fun av aa aw=>?_) ?_
 refine bk ?_
 refine lp (fun⟨e,f,d⟩=>mkS 4 [.box [(lI .i64 s.n),(.ro rIneq false s.known),(.ro rStep false s.steps),(.ro (rSl rBig) false s.u),(.ro (rInt .i64) false s.status),(.ro rBig false s.value),(.ro rOItem false s.items),(.ro rOElim false s.stack)],.box [(lI .i64 0),lN,(lB false),lN,(lB false),lN],.box (Opn.cl rOSpan false e),.box (Opn.cl rOItem false b)] [vp 0 0,vp 2 1,vp 4 2,vb 5 f,vp 7 3,vi 8 c.1,vr 18 rOItem false s.items,vi 19 (List.length s.items:Int),vi 20 a,vr 43 rOItem false s.items,vi 44 (List.length s.items:Int),vi 45 d]) aa [0,1,2,3] ?_
 rintro⟨e,f,d⟩ oo h ab
 rw[onarrow_b2]at h
 refine cd h (fun ac h=>?_) (fun ac h=>?_)
 refine jn (fun x=>x) (fun⟨y,a0⟩=>mkS 4 [.box [(lI .i64 s.n),(.ro rIneq false s.known),(.ro rStep false s.steps),(.ro (rSl rBig) false s.u),(.ro (rInt .i64) false s.status),(.ro rBig false s.value),(.ro rOItem false s.items),(.ro rOElim false s.stack)],.box [(lI .i64 0),lN,(lB false),lN,(lB false),lN],.box (Opn.cl rOSpan false y),.box (Opn.cl rOItem false b)] [vp 0 0,vp 2 1,vp 4 2,vb 5 a0,vp 7 3,vi 8 c.1,vr 18 rOItem false s.items,vi 19 (List.length s.items:Int),vi 20 a,vr 43 rOItem false s.items,vi 44 (List.length s.items:Int),vi 45 d]) h (fun ax h ay=>?_) ?_
 refine bk ?_
 refine ixR h fun ad h=>?_
 refine cl none [] 0 h (osingle_c N _) fun az h=>?_
 refine jn (fun x=>x) (fun a1=>mkS 5 [.box [(lI .i64 s.n),(.ro rIneq false s.known),(.ro rStep false s.steps),(.ro (rSl rBig) false s.u),(.ro (rInt .i64) false s.status),(.ro rBig false s.value),(.ro rOItem false s.items),(.ro rOElim false s.stack)],.box [(lI .i64 0),lN,(lB false),lN,(lB false),lN],.box (Opn.cl rOSpan false e),.box (Opn.cl rOItem false b),.box (Opn.cl rOItem false ad)] [vp 0 0,vp 2 1,vp 4 2,vb 5 f,vp 7 3,vi 8 c.1,vp 11 4,vr 18 rOItem false s.items,vi 19 (List.length s.items:Int),vi 20 a,vr 43 rOItem false s.items,vi 44 (List.length s.items:Int),vi 45 d,vb 69 a1]) h (fun b0 h b1=>?_) ?_
 refine rg ?_
 refine gd h (fun ae h=>?_) (fun ae h=>?_)
 cases h
 exact bj _ [0,1,2,3,4]
 refine gd h (fun af h=>?_) (fun af h=>?_)
 cases h
 exact bj _ [0,1,2,3,4]
 refine ixR h fun b2 h=>?_
 refine cl none [] 0 h (bSign_c N _) fun b3 h=>?_
 cases h
 exact bj _ [0,1,2,3,4]
 intro a1 h
 try dsimp only at h
 refine cd h (fun ag h=>?_) (fun ag h=>?_)
 cases h
 exact bj _ [0,1,2,3]
 refine dr mixed ?_
 refine clS (some false) [0] h (oboundR_c N _ _) fun b4 h=>?_
 refine cl none [] 0 h (bNeg_c N _) fun a2 h=>?_
 refine clS (some false) [0] h (oboundR_c N _ _) fun a3 h=>?_
 refine dk ?_
 refine jn (fun x=>x) (fun a4=>mkS 5 [.box [(lI .i64 s.n),(.ro rIneq false s.known),(.ro rStep false s.steps),(.ro (rSl rBig) false s.u),(.ro (rInt .i64) false s.status),(.ro rBig false s.value),(.ro rOItem false s.items),(.ro rOElim false s.stack)],.box [(lI .i64 0),lN,(lB false),lN,(lB false),lN],.box (Opn.cl rOSpan false e),.box (Opn.cl rOItem false b),.box [(lI .i64 b.pos),(.ro rBig false b.g),(lB a2.Negative),(.ro (rInt .u32) true a2.Digits),(lB a3.Negative),(.ro (rInt .u32) false a3.Digits)]] [vp 0 0,vp 2 1,vp 4 2,vb 5 f,vp 7 3,vi 8 c.1,vp 14 4,vr 18 rOItem false s.items,vi 19 (List.length s.items:Int),vi 20 a,vr 43 rOItem false s.items,vi 44 (List.length s.items:Int),vi 45 d,vb 94 a4]) h (fun b5 h b6=>?_) ?_
 refine dr mixed ?_
 refine gd h (fun ah h=>?_) (fun ah h=>?_)
 refine dk ?_
 cases h
 exact bj _ [0,1,2,3,5]
 refine cl none [] 0 h (bSub_c N _ _) fun b7 h=>?_
 refine cl none [] 0 h (bSub_c N _ _) fun b8 h=>?_
 refine cl none [] 0 h (bCompare_c N _ _) fun b9 h=>?_
 refine dk ?_
 cases h
 exact bj _ [0,1,2,3,5]
 intro a4 h
 try dsimp only at h
 refine cd h (fun ai h=>?_) (fun ai h=>?_)
 cases h
 exact bj _ [0,1,2,3]
 cases h
 exact bj _ [0,1,2,3]
 rintro⟨y,a0⟩ h
 try dsimp only at h
 cases h
 exact bl [0,1,2,3]
 cases h
 exact bj _ [0,1,2] (hx:=ab _ rfl)
 rintro⟨q,v⟩ h
 try dsimp only at h
 cases h
 exact bj _ [0,1,2]
 rintro⟨m,o⟩ h
 try dsimp only at h
 cases h
 exact bl [0,1,2]
 cases h
 exact bj _ [0,1,2] (hx:=a6 _ rfl)
 rintro⟨k,l⟩ h
 try dsimp only at h
 cases h
 exact rt [0]
theorem ocoef_e(N:Nat)(s:OState)(vat1:Int)(j:Int)(r:Big)(h:ocoef N s vat1 j=some r):Cx Tryz.prog 159 [.lf (.ptr 0 0),sI .i64 vat1,sI .i64 j] [.box [(lI .i64 s.n),(.ro rIneq false s.known),(.ro rStep false s.steps),(.ro (rSl rBig) false s.u),(.ro (rInt .i64) false s.status),(.ro rBig false s.value),(.ro rOItem false s.items),(.ro rOElim false s.stack)]] [(0,some (.box [(lI .i64 s.n),(.ro rIneq false s.known),(.ro rStep false s.steps),(.ro (rSl rBig) false s.u),(.ro (rInt .i64) false s.status),(.ro rBig false s.value),(.ro rOItem false s.items),(.ro rOElim false s.stack)]))] [sA rBig true r]:=by
 unfold ocoef at h
 refine fn tb en159 Tryz.func159 fun X w H ν=>?_
 refine ixR h fun x1 h=>?_
 refine jn (fun x=>x) (fun a=>mkS 3 [.box [(lI .i64 s.n),(.ro rIneq false s.known),(.ro rStep false s.steps),(.ro (rSl rBig) false s.u),(.ro (rInt .i64) false s.status),(.ro rBig false s.value),(.ro rOItem false s.items),(.ro rOElim false s.stack)],.box [(lB false),lN],.box (Opn.cl rBig true a)] [vp 0 0,vp 6 1,vp 7 2]) h (fun g d i=>?_) ?_
 refine bk ?_
 refine lp (fun⟨b,c⟩=>mkS 3 [.box [(lI .i64 s.n),(.ro rIneq false s.known),(.ro rStep false s.steps),(.ro (rSl rBig) false s.u),(.ro (rInt .i64) false s.status),(.ro rBig false s.value),(.ro rOItem false s.items),(.ro rOElim false s.stack)],.box [(lB false),lN],.box (Opn.cl rBig true b)] [vp 0 0,vi 2 j,vp 6 1,vp 7 2,vr 17 rBig false x1.Coefs,vi 18 (List.length x1.Coefs:Int),vi 19 c]) d [0,1,2] ?_
 rintro⟨b,c⟩ oo h e
 rw[ocoef_b1]at h
 refine cd h (fun f h=>?_) (fun f h=>?_)
 refine bk ?_
 refine ixR h fun k h=>?_
 refine dr mixed ?_
 refine ixR h fun l h=>?_
 refine ixR h fun m h=>?_
 refine cl none [] 0 h (bMul_c N _ _) fun o h=>?_
 refine cl none [] 0 h (bAdd_c N _ _) fun p h=>?_
 refine dk ?_
 cases h
 exact bl [0,1,2]
 cases h
 exact bj _ [0,1,2] (hx:=e _ rfl)
 intro a h
 try dsimp only at h
 cases h
 exact rt [0]
theorem ooriginal_e(N:Nat)(s:OState)(y:(List Big))(r:(List Big))(h:ooriginal N s y=some r):Cx Tryz.prog 66 [.lf (.ptr 0 0),sO 1] [.box [(lI .i64 s.n),(.ro rIneq false s.known),(.ro rStep false s.steps),(.ro (rSl rBig) false s.u),(.ro (rInt .i64) false s.status),(.ro rBig false s.value),(.ro rOItem false s.items),(.ro rOElim false s.stack)],.row rBig false y] [(0,some (.box [(lI .i64 s.n),(.ro rIneq false s.known),(.ro rStep false s.steps),(.ro (rSl rBig) false s.u),(.ro (rInt .i64) false s.status),(.ro rBig false s.value),(.ro rOItem false s.items),(.ro rOElim false s.stack)])),(1,some (.row rBig false y))] [sR rBig true r]:=by
 unfold ooriginal at h
 refine fn tb en66 Tryz.func66 fun X w H ν=>?_
 refine mkO rBig h fun x1 h=>?_
 refine jn (fun x=>x) (fun b=>mkS 3 [.box [(lI .i64 s.n),(.ro rIneq false s.known),(.ro rStep false s.steps),(.ro (rSl rBig) false s.u),(.ro (rInt .i64) false s.status),(.ro rBig false s.value),(.ro rOItem false s.items),(.ro rOElim false s.stack)],.row rBig false y,.row rBig true b] [vp 0 0,vo 1 1,vo 5 2]) h (fun o g p=>?_) ?_
 refine bk ?_
 refine lp (fun⟨c,a⟩=>mkS 3 [.box [(lI .i64 s.n),(.ro rIneq false s.known),(.ro rStep false s.steps),(.ro (rSl rBig) false s.u),(.ro (rInt .i64) false s.status),(.ro rBig false s.value),(.ro rOItem false s.items),(.ro rOElim false s.stack)],.row rBig false y,.row rBig true c] [vp 0 0,vo 1 1,vo 5 2,vi 14 (List.length x1:Int),vi 15 a]) g [0,1,2] ?_
 rintro⟨c,a⟩ oo h i
 rw[ooriginal_b1]at h
 refine cd h (fun j h=>?_) (fun j h=>?_)
 refine bk ?_
 refine jn (fun x=>x) (fun d=>mkS 3 [.box [(lI .i64 s.n),(.ro rIneq false s.known),(.ro rStep false s.steps),(.ro (rSl rBig) false s.u),(.ro (rInt .i64) false s.status),(.ro rBig false s.value),(.ro rOItem false s.items),(.ro rOElim false s.stack)],.row rBig false y,.row rBig true d] [vp 0 0,vo 1 1,vo 5 2,vi 14 (List.length x1:Int),vi 15 a]) h (fun q k v=>?_) ?_
 refine bk ?_
 refine lp (fun⟨e,f⟩=>mkS 3 [.box [(lI .i64 s.n),(.ro rIneq false s.known),(.ro rStep false s.steps),(.ro (rSl rBig) false s.u),(.ro (rInt .i64) false s.status),(.ro rBig false s.value),(.ro rOItem false s.items),(.ro rOElim false s.stack)],.row rBig false y,.row rBig true e] [vp 0 0,vo 1 1,vo 5 2,vi 6 a,vi 14 (List.length x1:Int),vi 15 a,vi 19 (List.length y:Int),vi 20 f]) k [0,1,2] ?_
 rintro⟨e,f⟩ oo h l
 rw[ooriginal_b2]at h
 refine cd h (fun m h=>?_) (fun m h=>?_)
 refine bk ?_
 refine dr mixed ?_
 refine ixO h fun a0 h=>?_
 refine ldO ?_
 refine ixR h fun a1 h=>?_
 refine ixR h fun a2 h=>?_
 refine ixO h fun a3 h=>?_
 refine ldO ?_
 refine cl none [] 0 h (bMul_c N _ _) fun a4 h=>?_
 refine cl none [] 0 h (bAdd_c N _ _) fun a5 h=>?_
 refine ixO h fun a6 h=>?_
 refine stO true h fun a7 h=>?_
 refine dk ?_
 cases h
 exact bl [0,1,2]
 cases h
 exact bj _ [0,1,2] (hx:=l _ rfl)
 intro d h
 try dsimp only at h
 cases h
 exact bl [0,1,2]
 cases h
 exact bj _ [0,1,2] (hx:=i _ rfl)
 intro b h
 try dsimp only at h
 cases h
 exact rt [0,1]
theorem obetween_e(N:Nat)(s:OState)(e:OElim)(y:(List Big))(r:(Big×Bool))(h:obetween N s e y=some r):Cx Tryz.prog 132 [.lf (.ptr 0 0),sA rOElim false e,sO 1] [.box [(lI .i64 s.n),(.ro rIneq false s.known),(.ro rStep false s.steps),(.ro (rSl rBig) false s.u),(.ro (rInt .i64) false s.status),(.ro rBig false s.value),(.ro rOItem false s.items),(.ro rOElim false s.stack)],.row rBig false y] [(0,some (.box [(lI .i64 s.n),(.ro rIneq false s.known),(.ro rStep false s.steps),(.ro (rSl rBig) false s.u),(.ro (rInt .i64) false s.status),(.ro rBig false s.value),(.ro rOItem false s.items),(.ro rOElim false s.stack)])),(1,some (.row rBig false y))] [sA rBig true r.1,sB r.2]:=by
 unfold obetween at h
 refine fn tb en132 Tryz.func132 fun X w H ν=>?_
 refine jn (fun x=>x) (fun⟨j,k,l,m⟩=>mkS 5 [.box [(lI .i64 s.n),(.ro rIneq false s.known),(.ro rStep false s.steps),(.ro (rSl rBig) false s.u),(.ro (rInt .i64) false s.status),(.ro rBig false s.value),(.ro rOItem false s.items),(.ro rOElim false s.stack)],.row rBig false y,.box [(lB false),lN],.box (Opn.cl rBig true j),.box (Opn.cl rBig true k)] [vp 0 0,vo 2 1,vp 6 2,vp 8 3,vp 9 4,vb 10 l,vb 11 m]) h (fun al a5 am=>?_) ?_
 refine bk ?_
 refine lp (fun⟨b,c,d,f,a⟩=>mkS 6 [.box [(lI .i64 s.n),(.ro rIneq false s.known),(.ro rStep false s.steps),(.ro (rSl rBig) false s.u),(.ro (rInt .i64) false s.status),(.ro rBig false s.value),(.ro rOItem false s.items),(.ro rOElim false s.stack)],.row rBig false y,.box (Opn.cl rOElim false e),.box [(lB false),lN],.box (Opn.cl rBig true b),.box (Opn.cl rBig true c)] [vp 0 0,vo 2 1,vp 4 2,vp 6 3,vp 8 4,vp 9 5,vb 10 d,vb 11 f,vr 24 (rInt .i64) false e.items,vi 25 (List.length e.items:Int),vi 26 a]) a5 [0,1,2,3,4,5] ?_
 rintro⟨b,c,d,f,a⟩ oo h a6
 rw[obetween_b1]at h
 refine cd h (fun a7 h=>?_) (fun a7 h=>?_)
 refine jn (fun x=>x) (fun⟨o,p,q,v⟩=>mkS 6 [.box [(lI .i64 s.n),(.ro rIneq false s.known),(.ro rStep false s.steps),(.ro (rSl rBig) false s.u),(.ro (rInt .i64) false s.status),(.ro rBig false s.value),(.ro rOItem false s.items),(.ro rOElim false s.stack)],.row rBig false y,.box (Opn.cl rOElim false e),.box [(lB false),lN],.box (Opn.cl rBig true o),.box (Opn.cl rBig true p)] [vp 0 0,vo 2 1,vp 4 2,vp 6 3,vp 8 4,vp 9 5,vb 10 q,vb 11 v,vr 24 (rInt .i64) false e.items,vi 25 (List.length e.items:Int),vi 26 a]) h (fun an h ao=>?_) ?_
 refine bk ?_
 refine ixR h fun g h=>?_
 refine ixR h fun aq h=>?_
 refine jn (fun x=>x) (fun a0=>mkS 7 [.box [(lI .i64 s.n),(.ro rIneq false s.known),(.ro rStep false s.steps),(.ro (rSl rBig) false s.u),(.ro (rInt .i64) false s.status),(.ro rBig false s.value),(.ro rOItem false s.items),(.ro rOElim false s.stack)],.row rBig false y,.box (Opn.cl rOElim false e),.box [(lB false),lN],.box (Opn.cl rBig true b),.box (Opn.cl rBig true c),.box (Opn.cl rBig false a0)] [vp 0 0,vo 2 1,vp 4 2,vp 6 3,vp 8 4,vp 9 5,vb 10 d,vb 11 f,vi 13 g,vp 14 6,vr 24 (rInt .i64) false e.items,vi 25 (List.length e.items:Int),vi 26 a]) h (fun ar a8 av=>?_) ?_
 refine bk ?_
 refine lp (fun⟨a1,i⟩=>mkS 7 [.box [(lI .i64 s.n),(.ro rIneq false s.known),(.ro rStep false s.steps),(.ro (rSl rBig) false s.u),(.ro (rInt .i64) false s.status),(.ro rBig false s.value),(.ro rOItem false s.items),(.ro rOElim false s.stack)],.row rBig false y,.box (Opn.cl rOElim false e),.box [(lB false),lN],.box (Opn.cl rBig true b),.box (Opn.cl rBig true c),.box (Opn.cl rBig false a1)] [vp 0 0,vo 2 1,vp 4 2,vp 6 3,vp 8 4,vp 9 5,vb 10 d,vb 11 f,vi 13 g,vp 14 6,vr 24 (rInt .i64) false e.items,vi 25 (List.length e.items:Int),vi 26 a,vi 39 (List.length y:Int),vi 40 i]) a8 [0,1,2,3,4,5,6] ?_
 rintro⟨a1,i⟩ oo h a9
 rw[obetween_b2]at h
 refine cd h (fun aa h=>?_) (fun aa h=>?_)
 refine jn (fun x=>x) (fun a2=>mkS 7 [.box [(lI .i64 s.n),(.ro rIneq false s.known),(.ro rStep false s.steps),(.ro (rSl rBig) false s.u),(.ro (rInt .i64) false s.status),(.ro rBig false s.value),(.ro rOItem false s.items),(.ro rOElim false s.stack)],.row rBig false y,.box (Opn.cl rOElim false e),.box [(lB false),lN],.box (Opn.cl rBig true b),.box (Opn.cl rBig true c),.box (Opn.cl rBig false a2)] [vp 0 0,vo 2 1,vp 4 2,vp 6 3,vp 8 4,vp 9 5,vb 10 d,vb 11 f,vi 13 g,vp 14 6,vr 24 (rInt .i64) false e.items,vi 25 (List.length e.items:Int),vi 26 a,vi 39 (List.length y:Int),vi 40 i]) h (fun aw h ax=>?_) ?_
 refine bk ?_
 refine cd h (fun ab h=>?_) (fun ab h=>?_)
 refine dr mixed ?_
 refine clS (some false) [0] h (ocoef_e N _ _ _) fun ay h=>?_
 refine ixO h fun az h=>?_
 refine ldO ?_
 refine cl none [] 0 h (bMul_c N _ _) fun b0 h=>?_
 refine cl none [] 0 h (bSub_c N _ _) fun b1 h=>?_
 refine dk ?_
 cases h
 exact bj _ [0,1,2,3,4,5,6]
 cases h
 exact bj _ [0,1,2,3,4,5,6]
 intro a2 h
 try dsimp only at h
 cases h
 exact bl [0,1,2,3,4,5,6]
 cases h
 exact bj _ [0,1,2,3,4,5,6] (hx:=a9 _ rfl)
 intro a0 h
 try dsimp only at h
 refine clS (some false) [0] h (ocoef_e N _ _ _) fun b2 h=>?_
 refine cl none [] 0 h (bSign_c N _) fun b3 h=>?_
 refine cd h (fun ac h=>?_) (fun ac h=>?_)
 refine cl none [] 0 h (bDivFloor_c N _ _) fun ad h=>?_
 refine jn (fun x=>x) (fun a3=>mkS 7 [.box [(lI .i64 s.n),(.ro rIneq false s.known),(.ro rStep false s.steps),(.ro (rSl rBig) false s.u),(.ro (rInt .i64) false s.status),(.ro rBig false s.value),(.ro rOItem false s.items),(.ro rOElim false s.stack)],.row rBig false y,.box (Opn.cl rOElim false e),.box [(lB false),lN],.box (Opn.cl rBig true b),.box (Opn.cl rBig true c),.box (Opn.cl rBig true ad.1)] [vp 0 0,vo 2 1,vp 4 2,vp 6 3,vp 8 4,vp 9 5,vb 10 d,vb 11 f,vp 17 6,vr 24 (rInt .i64) false e.items,vi 25 (List.length e.items:Int),vi 26 a,vb 81 a3]) h (fun b4 h b5=>?_) ?_
 refine rg ?_
 refine gd h (fun ae h=>?_) (fun ae h=>?_)
 cases h
 exact bj _ [0,1,2,3,4,5,8]
 refine cl none [] 0 h (bCompare_c N _ _) fun b6 h=>?_
 cases h
 exact bj _ [0,1,2,3,4,5,8]
 intro a3 h
 try dsimp only at h
 refine cd h (fun af h=>?_) (fun af h=>?_)
 cases h
 exact bj _ [0,1,2,3,4,5]
 cases h
 exact bj _ [0,1,2,3,4,5]
 refine dr mixed ?_
 refine cl none [] 0 h (bNeg_c N _) fun b7 h=>?_
 refine cl none [] 0 h (bDivFloor_c N _ _) fun b8 h=>?_
 refine dk ?_
 refine cl none [] 0 h (bNeg_c N _) fun ag h=>?_
 refine jn (fun x=>x) (fun a4=>mkS 7 [.box [(lI .i64 s.n),(.ro rIneq false s.known),(.ro rStep false s.steps),(.ro (rSl rBig) false s.u),(.ro (rInt .i64) false s.status),(.ro rBig false s.value),(.ro rOItem false s.items),(.ro rOElim false s.stack)],.row rBig false y,.box (Opn.cl rOElim false e),.box [(lB false),lN],.box (Opn.cl rBig true b),.box (Opn.cl rBig true c),.box (Opn.cl rBig true ag)] [vp 0 0,vo 2 1,vp 4 2,vp 6 3,vp 8 4,vp 9 5,vb 10 d,vb 11 f,vp 20 6,vr 24 (rInt .i64) false e.items,vi 25 (List.length e.items:Int),vi 26 a,vb 100 a4]) h (fun b9 h ba=>?_) ?_
 refine rg ?_
 refine gd h (fun ah h=>?_) (fun ah h=>?_)
 cases h
 exact bj _ [0,1,2,3,4,5,8]
 refine cl none [] 0 h (bCompare_c N _ _) fun bb h=>?_
 cases h
 exact bj _ [0,1,2,3,4,5,8]
 intro a4 h
 try dsimp only at h
 refine cd h (fun ai h=>?_) (fun ai h=>?_)
 cases h
 exact bj _ [0,1,2,3,4,5]
 cases h
 exact bj _ [0,1,2,3,4,5]
 rintro⟨o,p,q,v⟩ h
 try dsimp only at h
 cases h
 exact bl [0,1,2,3,4,5]
 cases h
 exact bj _ [0,1,3,4,5] (hx:=a6 _ rfl)
 rintro⟨j,k,l,m⟩ h
 try dsimp only at h
 refine cd h (fun aj h=>?_) (fun aj h=>?_)
 cases h
 exact rt [0,1]
 refine dr mixed ?_
 refine gd h (fun ak h=>?_) (fun ak h=>?_)
 refine dk ?_
 cases h
 exact rt [0,1]
 refine cl none [] 0 h (bCompare_c N _ _) fun bc h=>?_
 refine dk ?_
 cases h
 exact rt [0,1]
end Go.Proofs.YtipdkfmhfakbnaaGreatDoor.SW

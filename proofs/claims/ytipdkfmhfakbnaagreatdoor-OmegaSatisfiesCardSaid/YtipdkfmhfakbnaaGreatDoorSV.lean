/- Walks of the symbolic machine, written by a program of mine (wip/tool). -/
import Derived.Test.YtipdkfmhfakbnaaGreatDoorTB
import Derived.Test.YtipdkfmhfakbnaaGreatDoorAd
import Derived.Test.YtipdkfmhfakbnaaGreatDoorSB
import Derived.Test.YtipdkfmhfakbnaaGreatDoorSP
import Derived.Test.YtipdkfmhfakbnaaGreatDoorSQ
set_option linter.unusedVariables false
set_option linter.unusedSimpArgs false
set_option linter.unusedSectionVars false
set_option maxRecDepth 100000
set_option maxHeartbeats 4000000
namespace Go.Proofs.YtipdkfmhfakbnaaGreatDoor.SV
open Go Go.RowKit Go.X Go.Q Go.D Go.Proofs.YtipdkfmhfakbnaaGreatDoor.TB Go.Proofs.YtipdkfmhfakbnaaGreatDoor.FS Go.Proofs.YtipdkfmhfakbnaaGreatDoor.SB Go.Proofs.YtipdkfmhfakbnaaGreatDoor.SP Go.Proofs.YtipdkfmhfakbnaaGreatDoor.SQ
theorem obound_c(N:Nat)(s:OState)(x:OItem)(r:Big)(h:obound N s x=some r):Cx Tryz.prog 94 [.lf (.ptr 0 0),sA rOItem false x] [.box [(lI .i64 s.n),.ap 1 rIneq false s.known,.ap 2 rStep false s.steps,.own 3,.own 4,.own 5,.own 6,.ap 7 rOElim false s.stack],.arow rIneq false s.known,.arow rStep false s.steps,.row (rSl rBig) false s.u,.row (rInt .i64) true s.status,.row rBig false s.value,.row rOItem false s.items,.arow rOElim false s.stack] [(0,some (.box [(lI .i64 s.n),.ap 1 rIneq false s.known,.ap 2 rStep false s.steps,.own 3,.own 4,.own 5,.own 6,.ap 7 rOElim false s.stack])),(1,some (.arow rIneq false s.known)),(2,some (.arow rStep false s.steps)),(3,some (.row (rSl rBig) false s.u)),(4,some (.row (rInt .i64) true s.status)),(5,some (.row rBig false s.value)),(6,some (.row rOItem false s.items)),(7,some (.arow rOElim false s.stack))] [sA rBig false r]:=by
 unfold obound at h
 refine fn tb en94 Tryz.func94 fun X w H ν=>?_
 refine dr mixed ?_
 refine ixA h fun x1 h=>?_
 refine ldA ?_
 refine dk ?_
 cases h
 exact rt [0,1,2,3,4,5,6,7]
theorem oboundR_c(N:Nat)(s:OState)(x:OItem)(r:Big)(h:oboundR N s x=some r):Cx Tryz.prog 94 [.lf (.ptr 0 0),sA rOItem false x] [.box [(lI .i64 s.n),(.ro rIneq false s.known),(.ro rStep false s.steps),(.ro (rSl rBig) false s.u),(.ro (rInt .i64) false s.status),(.ro rBig false s.value),(.ro rOItem false s.items),(.ro rOElim false s.stack)]] [(0,some (.box [(lI .i64 s.n),(.ro rIneq false s.known),(.ro rStep false s.steps),(.ro (rSl rBig) false s.u),(.ro (rInt .i64) false s.status),(.ro rBig false s.value),(.ro rOItem false s.items),(.ro rOElim false s.stack)]))] [sA rBig false r]:=by
 unfold oboundR at h
 refine fn tb en94 Tryz.func94 fun X w H ν=>?_
 refine dr mixed ?_
 refine ixR h fun x1 h=>?_
 refine dk ?_
 cases h
 exact rt [0]
theorem osum_c(N:Nat)(s:OState)(uses:(List Use))(d:Big)(r:Ineq)(h:osum N s uses d=some r):Cx Tryz.prog 149 [.lf (.ptr 0 0),sR rUse false uses,sA rBig false d] [.box [(lI .i64 s.n),.ap 1 rIneq false s.known,.ap 2 rStep false s.steps,.own 3,.own 4,.own 5,.own 6,.ap 7 rOElim false s.stack],.arow rIneq false s.known,.arow rStep false s.steps,.row (rSl rBig) false s.u,.row (rInt .i64) true s.status,.row rBig false s.value,.row rOItem false s.items,.arow rOElim false s.stack] [(0,some (.box [(lI .i64 s.n),.ap 1 rIneq false s.known,.ap 2 rStep false s.steps,.own 3,.own 4,.own 5,.own 6,.ap 7 rOElim false s.stack])),(1,some (.arow rIneq false s.known)),(2,some (.arow rStep false s.steps)),(3,some (.row (rSl rBig) false s.u)),(4,some (.row (rInt .i64) true s.status)),(5,some (.row rBig false s.value)),(6,some (.row rOItem false s.items)),(7,some (.arow rOElim false s.stack))] [sA rIneq true r]:=by
 unfold osum at h
 refine fn tb en149 Tryz.func149 fun X w H ν=>?_
 refine mkO rBig h fun x1 h=>?_
 refine jn (fun x=>x) (fun⟨Coefs280,Bound281⟩=>mkS 12 [.box [(lI .i64 s.n),(.ap 1 rIneq false s.known),(.ap 2 rStep false s.steps),(.own 3),(.own 4),(.own 5),(.own 6),(.ap 7 rOElim false s.stack)],.arow rIneq false s.known,.arow rStep false s.steps,.row (rSl rBig) false s.u,.row (rInt .i64) true s.status,.row rBig false s.value,.row rOItem false s.items,.arow rOElim false s.stack,.box (Opn.cl rBig false d),.box [lN,(lB false),lN],.box [(.own 11),(lB Bound281.Negative),(.ro (rInt .u32) true Bound281.Digits)],.row rBig true Coefs280] [vp 0 0,vp 5 8,vp 6 9,vp 7 10]) h (fun v g y=>?_) ?_
 refine bk ?_
 refine lp (fun⟨Coefs138,Bound139,a⟩=>mkS 12 [.box [(lI .i64 s.n),(.ap 1 rIneq false s.known),(.ap 2 rStep false s.steps),(.own 3),(.own 4),(.own 5),(.own 6),(.ap 7 rOElim false s.stack)],.arow rIneq false s.known,.arow rStep false s.steps,.row (rSl rBig) false s.u,.row (rInt .i64) true s.status,.row rBig false s.value,.row rOItem false s.items,.arow rOElim false s.stack,.box (Opn.cl rBig false d),.box [lN,(lB false),lN],.box [(.own 11),(lB Bound139.Negative),(.ro (rInt .u32) true Bound139.Digits)],.row rBig true Coefs138] [vp 0 0,vp 5 8,vp 6 9,vp 7 10,vr 19 rUse false uses,vi 20 (List.length uses:Int),vi 21 a]) g [0,1,2,3,4,5,6,7,8,9,11,10] ?_
 rintro⟨Coefs138,Bound139,a⟩ oo h i
 rw[osum_b1]at h
 refine cd h (fun j h=>?_) (fun j h=>?_)
 refine bk ?_
 refine ixR h fun b h=>?_
 refine dr mixed ?_
 refine ixA h fun c h=>?_
 refine ldA ?_
 refine dk ?_
 refine jn (fun x=>x) (fun Coefs397=>mkS 14 [.box [(lI .i64 s.n),(.ap 1 rIneq false s.known),(.ap 2 rStep false s.steps),(.own 3),(.own 4),(.own 5),(.own 6),(.ap 7 rOElim false s.stack)],.arow rIneq false s.known,.arow rStep false s.steps,.row (rSl rBig) false s.u,.row (rInt .i64) true s.status,.row rBig false s.value,.row rOItem false s.items,.arow rOElim false s.stack,.box (Opn.cl rBig false d),.box [lN,(lB false),lN],.box [(.own 11),(lB Bound139.Negative),(.ro (rInt .u32) true Bound139.Digits)],.row rBig true Coefs397,.box (Opn.cl rUse false b),.box (Opn.cl rIneq false c)] [vp 0 0,vp 5 8,vp 6 9,vp 7 10,vp 9 12,vp 10 13,vr 19 rUse false uses,vi 20 (List.length uses:Int),vi 21 a]) h (fun a0 k a1=>?_) ?_
 refine bk ?_
 refine lp (fun⟨Coefs375,e⟩=>mkS 14 [.box [(lI .i64 s.n),(.ap 1 rIneq false s.known),(.ap 2 rStep false s.steps),(.own 3),(.own 4),(.own 5),(.own 6),(.ap 7 rOElim false s.stack)],.arow rIneq false s.known,.arow rStep false s.steps,.row (rSl rBig) false s.u,.row (rInt .i64) true s.status,.row rBig false s.value,.row rOItem false s.items,.arow rOElim false s.stack,.box (Opn.cl rBig false d),.box [lN,(lB false),lN],.box [(.own 11),(lB Bound139.Negative),(.ro (rInt .u32) true Bound139.Digits)],.row rBig true Coefs375,.box (Opn.cl rUse false b),.box (Opn.cl rIneq false c)] [vp 0 0,vp 5 8,vp 6 9,vp 7 10,vp 9 12,vp 10 13,vr 19 rUse false uses,vi 20 (List.length uses:Int),vi 21 a,vi 35 (List.length Coefs138:Int),vi 36 e]) k [0,1,2,3,4,5,6,7,8,9,10,11,12,13] ?_
 rintro⟨Coefs375,e⟩ oo h l
 rw[osum_b2]at h
 refine cd h (fun m h=>?_) (fun m h=>?_)
 refine bk ?_
 refine dr mixed ?_
 refine ixO h fun a2 h=>?_
 refine ldO ?_
 refine ixR h fun a3 h=>?_
 refine cl none [] 0 h (bMul_c N _ _) fun a4 h=>?_
 refine cl none [] 0 h (bAdd_c N _ _) fun a5 h=>?_
 refine ixO h fun a6 h=>?_
 refine stO true h fun a7 h=>?_
 refine dk ?_
 cases h
 exact bl [0,1,2,3,4,5,6,7,8,9,10,11,12,13]
 cases h
 exact bj _ [0,1,2,3,4,5,6,7,8,9,10,11,12,13] (hx:=l _ rfl)
 intro Coefs397 h
 try dsimp only at h
 refine dr mixed ?_
 refine cl none [] 0 h (bMul_c N _ _) fun a8 h=>?_
 refine cl none [] 0 h (bAdd_c N _ _) fun a9 h=>?_
 refine dk ?_
 cases h
 exact bl [0,1,2,3,4,5,6,7,8,9,10,11]
 cases h
 exact bj _ [0,1,2,3,4,5,6,7,8,9,10,11] (hx:=i _ rfl)
 rintro⟨Coefs280,Bound281⟩ h
 try dsimp only at h
 refine jn (fun x=>x) (fun Coefs452=>mkS 12 [.box [(lI .i64 s.n),(.ap 1 rIneq false s.known),(.ap 2 rStep false s.steps),(.own 3),(.own 4),(.own 5),(.own 6),(.ap 7 rOElim false s.stack)],.arow rIneq false s.known,.arow rStep false s.steps,.row (rSl rBig) false s.u,.row (rInt .i64) true s.status,.row rBig false s.value,.row rOItem false s.items,.arow rOElim false s.stack,.box (Opn.cl rBig false d),.box [lN,(lB false),lN],.box [(.own 11),(lB Bound281.Negative),(.ro (rInt .u32) true Bound281.Digits)],.row rBig true Coefs452] [vp 0 0,vp 5 8,vp 6 9,vp 7 10]) h (fun aa o ab=>?_) ?_
 refine bk ?_
 refine lp (fun⟨Coefs434,f⟩=>mkS 12 [.box [(lI .i64 s.n),(.ap 1 rIneq false s.known),(.ap 2 rStep false s.steps),(.own 3),(.own 4),(.own 5),(.own 6),(.ap 7 rOElim false s.stack)],.arow rIneq false s.known,.arow rStep false s.steps,.row (rSl rBig) false s.u,.row (rInt .i64) true s.status,.row rBig false s.value,.row rOItem false s.items,.arow rOElim false s.stack,.box (Opn.cl rBig false d),.box [lN,(lB false),lN],.box [(.own 11),(lB Bound281.Negative),(.ro (rInt .u32) true Bound281.Digits)],.row rBig true Coefs434] [vp 0 0,vp 5 8,vp 6 9,vp 7 10,vi 70 (List.length Coefs280:Int),vi 71 f]) o [0,1,2,3,4,5,6,7,8,9,10,11] ?_
 rintro⟨Coefs434,f⟩ oo h p
 rw[osum_b3]at h
 refine cd h (fun q h=>?_) (fun q h=>?_)
 refine bk ?_
 refine dr mixed ?_
 refine ixO h fun ac h=>?_
 refine ldO ?_
 refine cl none [] 0 h (bDivFloor_c N _ _) fun ad h=>?_
 refine ixO h fun ae h=>?_
 refine stO true h fun af h=>?_
 refine dk ?_
 cases h
 exact bl [0,1,2,3,4,5,6,7,8,9,10,11]
 cases h
 exact bj _ [0,1,2,3,4,5,6,7,8,9,10,11] (hx:=p _ rfl)
 intro Coefs452 h
 try dsimp only at h
 refine cl none [] 0 h (bDivFloor_c N _ _) fun ag h=>?_
 cases h
 exact rt [0,1,2,3,4,5,6,7]
theorem oderive_c(N:Nat)(s:OState)(g:(List Big))(uses:(List Use))(r:(OItem×Bool×Bool×OState))(h:oderive N s g uses=some r):Cx Tryz.prog 120 [.lf (.ptr 0 0),sR rBig false g,sR rUse false uses] [.box [(lI .i64 s.n),.ap 1 rIneq false s.known,.ap 2 rStep false s.steps,.own 3,.own 4,.own 5,.own 6,.ap 7 rOElim false s.stack],.arow rIneq false s.known,.arow rStep false s.steps,.row (rSl rBig) false s.u,.row (rInt .i64) true s.status,.row rBig false s.value,.row rOItem false s.items,.arow rOElim false s.stack] [(0,some (.box [(lI .i64 s.n),.ap 8 rIneq false r.2.2.2.known,.ap 9 rStep false r.2.2.2.steps,.own 10,.own 11,.own 12,.own 13,.ap 14 rOElim false r.2.2.2.stack])),(8,some (.arow rIneq false r.2.2.2.known)),(9,some (.arow rStep false r.2.2.2.steps)),(10,some (.row (rSl rBig) false r.2.2.2.u)),(11,some (.row (rInt .i64) true r.2.2.2.status)),(12,some (.row rBig false r.2.2.2.value)),(13,some (.row rOItem false r.2.2.2.items)),(14,some (.arow rOElim false r.2.2.2.stack))] [sA rOItem false r.1,sB r.2.1,sB r.2.2.1]:=by
 unfold oderive at h
 refine fnv (m:=8) tb (.comp (mva 0 1 1) (.comp (mva 0 2 2) (.comp (mvb 0 3 3) (.comp (mvb 0 4 4) (.comp (mvb 0 5 5) (.comp (mvb 0 6 6) (mva 0 7 7))))))) en120 Tryz.func120 fun X w H ν=>?_
 refine cl none [] 0 h (ogcd_c N _) fun r1 h=>?_
 refine cl none [] 0 h (bSign_c N _) fun r2 h=>?_
 refine jn (fun x=>x) (fun d6=>mkG 17 [some (.box [(lI .i64 s.n),(.ap 8 rIneq false s.known),(.ap 9 rStep false s.steps),(.own 10),(.own 11),(.own 12),(.own 13),(.ap 14 rOElim false s.stack)]),none,none,none,none,none,none,none,some (.arow rIneq false s.known),some (.arow rStep false s.steps),some (.row (rSl rBig) false s.u),some (.row (rInt .i64) true s.status),some (.row rBig false s.value),some (.row rOItem false s.items),some (.arow rOElim false s.stack),some (.box [(lI .i64 0),lN]),some (.box (Opn.cl rBig true d6))] [vp 0 0,vr 1 rBig false g,vr 2 rUse false uses,vp 6 15,vp 9 16,vb 10 (decide ((r2:Int)≠0))]) h (fun s7 h g8=>?_) ?_
 refine cd h (fun hc9 h=>?_) (fun hc9 h=>?_)
 refine cl none [] 0 h (bOf_c N _) fun a4 h=>?_
 cases h
 exact bj _ [0,1,2,3,4,5,6,7,8,9,10,11,12,13,14,15,16]
 cases h
 exact bj _ [0,1,2,3,4,5,6,7,8,9,10,11,12,13,14,15,16]
 intro d6 h
 try dsimp only at h
 refine cl none [] 0 h (bOf_c N _) fun c h=>?_
 refine jn (fun x=>x) (fun d=>mkG 18 [some (.box [(lI .i64 s.n),(.ap 8 rIneq false s.known),(.ap 9 rStep false s.steps),(.own 10),(.own 11),(.own 12),(.own 13),(.ap 14 rOElim false s.stack)]),none,none,none,none,none,none,none,some (.arow rIneq false s.known),some (.arow rStep false s.steps),some (.row (rSl rBig) false s.u),some (.row (rInt .i64) true s.status),some (.row rBig false s.value),some (.row rOItem false s.items),some (.arow rOElim false s.stack),some (.box [(lI .i64 0),lN]),some (.box (Opn.cl rBig true d6)),some (.box (Opn.cl rBig true c))] [vp 0 0,vr 1 rBig false g,vr 2 rUse false uses,vp 6 15,vp 9 16,vb 10 (decide ((r2:Int)≠0)),vp 11 17,vb 40 d]) h (fun a5 h a6=>?_) ?_
 refine dr mixed ?_
 refine gd h (fun p h=>?_) (fun p h=>?_)
 refine dk ?_
 cases h
 exact bj _ [0,1,2,3,4,5,6,7,8,9,10,11,12,13,14,15,16,17]
 refine ixR h fun a7 h=>?_
 refine cl none [] 0 h (bCompare_c N _ _) fun a8 h=>?_
 refine gd h (fun q h=>?_) (fun q h=>?_)
 refine dk ?_
 cases h
 exact bj _ [0,1,2,3,4,5,6,7,8,9,10,11,12,13,14,15,16,17]
 refine cl none [] 0 h (bCompare_c N _ _) fun a9 h=>?_
 refine dk ?_
 cases h
 exact bj _ [0,1,2,3,4,5,6,7,8,9,10,11,12,13,14,15,16,17]
 intro d h
 try dsimp only at h
 refine jn (fun x=>x) (fun⟨a,b,e⟩=>mkG 17 [some (.box [(lI .i64 s.n),(.ap 8 rIneq false a),(.ap 9 rStep false b),(.own 10),(.own 11),(.own 12),(.own 13),(.ap 14 rOElim false s.stack)]),none,none,none,none,none,none,none,some (.arow rIneq false a),some (.arow rStep false b),some (.row (rSl rBig) false s.u),some (.row (rInt .i64) true s.status),some (.row rBig false s.value),some (.row rOItem false s.items),some (.arow rOElim false s.stack),some (.box [(lI .i64 0),lN]),some (.box (Opn.cl rBig true d6))] [vp 0 0,vr 1 rBig false g,vr 2 rUse false e,vp 6 15,vp 9 16,vb 10 (decide ((r2:Int)≠0))]) h (fun aa h ab=>?_) ?_
 refine cd h (fun v h=>?_) (fun v h=>?_)
 refine dr mixed ?_
 refine litO rStep false [(Step.mk uses d6)] ?_
 refine apA false h fun f h=>?_
 refine dk ?_
 refine ps (oa 0 2) ?_
 refine dr mixed ?_
 refine clS (some false) [0,8,19,10,11,12,13,14] h (osum_c N _ _ _) fun y h=>?_
 refine litO rIneq true [y] ?_
 refine apA false h fun i h=>?_
 refine dk ?_
 refine sn (mkG 18 [some (.box [(lI .i64 s.n),(.own 8),(.ap 9 rStep false f),(.own 10),(.own 11),(.own 12),(.own 13),(.ap 14 rOElim false s.stack)]),none,none,none,none,none,none,none,some (.row rIneq false i),some (.arow rStep false f),some (.row (rSl rBig) false s.u),some (.row (rInt .i64) true s.status),some (.row rBig false s.value),some (.row rOItem false s.items),some (.arow rOElim false s.stack),some (.box [(lI .i64 0),lN]),some (.box (Opn.cl rBig true d6)),some (.box (Opn.cl rBig true c))] [vp 0 0,vr 1 rBig false g,vp 6 15,vp 9 16,vb 10 (decide ((r2:Int)≠0)),vp 11 17]) [0,1,2,3,4,5,6,7,21,19,10,11,12,13,14,15,16,17] ?_
 refine dr mixed ?_
 refine litO rUse true [(Use.mk (iw ((List.length i:Int)-1)) c)] ?_
 refine dk ?_
 cases h
 exact bj _ [0,1,2,3,4,5,6,7,8,9,10,11,12,13,14,15,16]
 cases h
 exact bj _ [0,1,2,3,4,5,6,7,8,9,10,11,12,13,14,15,16]
 rintro⟨a,b,e⟩ h
 try dsimp only at h
 refine dr mixed ?_
 refine ixR h fun j h=>?_
 refine mkO rBig h fun ac h=>?_
 refine dk ?_
 refine jn (fun x=>x) (fun k=>mkG 18 [some (.box [(lI .i64 s.n),(.ap 8 rIneq false a),(.ap 9 rStep false b),(.own 10),(.own 11),(.own 12),(.own 13),(.ap 14 rOElim false s.stack)]),none,none,none,none,none,none,none,some (.arow rIneq false a),some (.arow rStep false b),some (.row (rSl rBig) false s.u),some (.row (rInt .i64) true s.status),some (.row rBig false s.value),some (.row rOItem false s.items),some (.arow rOElim false s.stack),some (.box [(lI .i64 0),lN]),some (.box [(lI .i64 j.Index),(.own 17)]),some (.row rBig true k)] [vp 0 0,vp 6 15,vb 10 (decide ((r2:Int)≠0)),vp 12 16]) h (fun ad a0 ae=>?_) ?_
 refine bk ?_
 refine lp (fun⟨l,o⟩=>mkG 19 [some (.box [(lI .i64 s.n),(.ap 8 rIneq false a),(.ap 9 rStep false b),(.own 10),(.own 11),(.own 12),(.own 13),(.ap 14 rOElim false s.stack)]),none,none,none,none,none,none,none,some (.arow rIneq false a),some (.arow rStep false b),some (.row (rSl rBig) false s.u),some (.row (rInt .i64) true s.status),some (.row rBig false s.value),some (.row rOItem false s.items),some (.arow rOElim false s.stack),some (.box [(lI .i64 0),lN]),some (.box (Opn.cl rBig true d6)),some (.box [(lI .i64 j.Index),(.own 18)]),some (.row rBig true l)] [vp 0 0,vr 1 rBig false g,vp 6 15,vp 9 16,vb 10 (decide ((r2:Int)≠0)),vp 12 17,vi 86 (List.length g:Int),vi 87 o]) a0 [0,1,2,3,4,5,6,7,8,9,10,11,12,13,14,15,16,18,17] ?_
 rintro⟨l,o⟩ oo h a1
 rw[oderive_b1]at h
 refine cd h (fun a2 h=>?_) (fun a2 h=>?_)
 refine bk ?_
 refine dr mixed ?_
 refine ixR h fun af h=>?_
 refine cl none [] 0 h (bDivFloor_c N _ _) fun ag h=>?_
 refine ixO h fun ah h=>?_
 refine stO true h fun ai h=>?_
 refine dk ?_
 cases h
 exact bl [0,1,2,3,4,5,6,7,8,9,10,11,12,13,14,15,16,17,18]
 cases h
 exact bj _ [0,1,2,3,4,5,6,7,8,9,10,11,12,13,14,15,17,18] (hx:=a1 _ rfl)
 intro k h
 try dsimp only at h
 refine ps (fzq 17 [] [16]) ?_
 refine dr mixed ?_
 refine gd h (fun a3 h=>?_) (fun a3 h=>?_)
 refine dk ?_
 cases h
 exact rt [0,1,2,3,4,5,6,7,8,9,10,11,12,13,14]
 refine clS (some false) [0,8,9,10,11,12,13,14] h (obound_c N _ _) fun aj h=>?_
 refine cl none [] 0 h (bSign_c N _) fun ak h=>?_
 refine dk ?_
 cases h
 exact rt [0,1,2,3,4,5,6,7,8,9,10,11,12,13,14]
theorem oadd_c(N:Nat)(s:OState)(x:OItem)(r:OState)(h:oadd N s x=some r):Cx Tryz.prog 96 [.lf (.ptr 0 0),sA rOItem false x] [.box [(lI .i64 s.n),.ap 1 rIneq false s.known,.ap 2 rStep false s.steps,.own 3,.own 4,.own 5,.own 6,.ap 7 rOElim false s.stack],.arow rIneq false s.known,.arow rStep false s.steps,.row (rSl rBig) false s.u,.row (rInt .i64) true s.status,.row rBig false s.value,.row rOItem false s.items,.arow rOElim false s.stack] [(0,some (.box [(lI .i64 s.n),.ap 8 rIneq false r.known,.ap 9 rStep false r.steps,.own 10,.own 11,.own 12,.own 13,.ap 14 rOElim false r.stack])),(8,some (.arow rIneq false r.known)),(9,some (.arow rStep false r.steps)),(10,some (.row (rSl rBig) false r.u)),(11,some (.row (rInt .i64) true r.status)),(12,some (.row rBig false r.value)),(13,some (.row rOItem false r.items)),(14,some (.arow rOElim false r.stack))] []:=by
 unfold oadd at h
 refine fnv (m:=8) tb (.comp (mva 0 1 1) (.comp (mva 0 2 2) (.comp (mvb 0 3 3) (.comp (mvb 0 4 4) (.comp (mvb 0 5 5) (.comp (mvb 0 6 6) (mva 0 7 7))))))) en96 Tryz.func96 fun X w H ν=>?_
 refine jn (fun x=>(Sum.inl x)) (fun(_:Unit)=>mkG 16 [some (.box [(lI .i64 s.n),(.ap 8 rIneq false s.known),(.ap 9 rStep false s.steps),(.own 10),(.own 11),(.own 12),(.own 13),(.ap 14 rOElim false s.stack)]),none,none,none,none,none,none,none,some (.arow rIneq false s.known),some (.arow rStep false s.steps),some (.row (rSl rBig) false s.u),some (.row (rInt .i64) true s.status),some (.row rBig false s.value),some (.row rOItem false s.items),some (.arow rOElim false s.stack),some (.box (Opn.cl rOItem false x))] [vp 0 0,vp 3 15]) h (fun j d b=>?_) ?_
 refine bk ?_
 refine lp (fun c=>mkG 16 [some (.box [(lI .i64 s.n),(.ap 8 rIneq false s.known),(.ap 9 rStep false s.steps),(.own 10),(.own 11),(.own 12),(.own 13),(.ap 14 rOElim false s.stack)]),none,none,none,none,none,none,none,some (.arow rIneq false s.known),some (.arow rStep false s.steps),some (.row (rSl rBig) false s.u),some (.row (rInt .i64) true s.status),some (.row rBig false s.value),some (.row rOItem false s.items),some (.arow rOElim false s.stack),some (.box (Opn.cl rOItem false x))] [vp 0 0,vp 3 15,vo 9 13,vi 10 (List.length s.items:Int),vi 11 c]) d [0,1,2,3,4,5,6,7,8,9,10,11,12,13,14,15] ?_
 rintro c oo h a
 rw[oadd_b1]at h
 refine cd h (fun e h=>?_) (fun e h=>?_)
 refine bk ?_
 refine ixO h fun k h=>?_
 refine ldO ?_
 refine clF none [] 0 h (equalBig_c N _ _ _) (.s (.s (.f (fun x:Big×Big=>[sA rBig false x.1,sA rBig false x.2]) (fun r:Bool=>[sB r]) (fun x=>oadd1 N x.1 x.2) (fun x r h=>oadd1_c N x.1 x.2 r h) en127 .n))) fun l h=>?_
 refine cd h (fun g h=>?_) (fun g h=>?_)
 refine dr mixed ?_
 refine clS (some false) [0,8,9,10,11,12,13,14] h (obound_c N _ _) fun o h=>?_
 refine clS (some false) [0,8,9,10,11,12,13,14] h (obound_c N _ _) fun p h=>?_
 refine cl none [] 0 h (bCompare_c N _ _) fun q h=>?_
 refine dk ?_
 refine cd h (fun i h=>?_) (fun i h=>?_)
 refine dr mixed ?_
 refine ixO h fun v h=>?_
 refine stO false h fun y h=>?_
 refine dk ?_
 cases h
 have h:=b
 rw[←a _ rfl]at h
 try dsimp only at h
 cases h
 exact rt [0,1,2,3,4,5,6,7,8,9,10,11,12,13,14]
 cases h
 have h:=b
 rw[←a _ rfl]at h
 try dsimp only at h
 cases h
 exact rt [0,1,2,3,4,5,6,7,8,9,10,11,12,13,14]
 cases h
 exact bl [0,1,2,3,4,5,6,7,8,9,10,11,12,13,14,15]
 cases h
 exact bj _ [0,1,2,3,4,5,6,7,8,9,10,11,12,13,14,15] (hx:=a _ rfl)
 intro _ h
 try dsimp only at h
 refine dr mixed ?_
 refine litO rOItem false [x] ?_
 refine apO false h fun a0 h=>?_
 refine dk ?_
 cases h
 exact rt [0,1,2,3,4,5,6,7,8,9,10,11,12,17,14]
theorem oput_c(N:Nat)(s:OState)(g:(List Big))(uses:(List Use))(r:(Bool×OState))(h:oput N s g uses=some r):Cx Tryz.prog 91 [.lf (.ptr 0 0),sR rBig false g,sR rUse false uses] [.box [(lI .i64 s.n),.ap 1 rIneq false s.known,.ap 2 rStep false s.steps,.own 3,.own 4,.own 5,.own 6,.ap 7 rOElim false s.stack],.arow rIneq false s.known,.arow rStep false s.steps,.row (rSl rBig) false s.u,.row (rInt .i64) true s.status,.row rBig false s.value,.row rOItem false s.items,.arow rOElim false s.stack] [(0,some (.box [(lI .i64 s.n),.ap 8 rIneq false r.2.known,.ap 9 rStep false r.2.steps,.own 10,.own 11,.own 12,.own 13,.ap 14 rOElim false r.2.stack])),(8,some (.arow rIneq false r.2.known)),(9,some (.arow rStep false r.2.steps)),(10,some (.row (rSl rBig) false r.2.u)),(11,some (.row (rInt .i64) true r.2.status)),(12,some (.row rBig false r.2.value)),(13,some (.row rOItem false r.2.items)),(14,some (.arow rOElim false r.2.stack))] [sB r.1]:=by
 unfold oput at h
 refine fnv (m:=8) tb (.comp (mva 0 1 1) (.comp (mva 0 2 2) (.comp (mvb 0 3 3) (.comp (mvb 0 4 4) (.comp (mvb 0 5 5) (.comp (mvb 0 6 6) (mva 0 7 7))))))) en91 Tryz.func91 fun X w H ν=>?_
 refine cl (some false) [0,8,9,10,11,12,13,14] 7 h (oderive_c N _ _ _) fun r1 h=>?_
 refine jn (fun x=>x) (fun⟨known5,steps6,u7,status8,value9,b,a⟩=>mkG 15 [some (.box [(lI .i64 s.n),(.ap 8 rIneq false known5),(.ap 9 rStep false steps6),(.own 10),(.own 11),(.own 12),(.own 13),(.ap 14 rOElim false a)]),none,none,none,none,none,none,none,some (.arow rIneq false known5),some (.arow rStep false steps6),some (.row (rSl rBig) false u7),some (.row (rInt .i64) true status8),some (.row rBig false value9),some (.row rOItem false b),some (.arow rOElim false a)] [vp 0 0,vb 9 r1.2.2.1]) h (fun d h e=>?_) ?_
 refine cd h (fun c h=>?_) (fun c h=>?_)
 refine cl (some false) [0,15,16,17,18,19,20,21] 7 h (oadd_c N _ _) fun f h=>?_
 cases h
 exact bj _ [0,1,2,3,4,5,6,7,23,24,25,26,27,28,29]
 cases h
 exact bj _ [0,1,2,3,4,5,6,7,15,16,17,18,19,20,21]
 rintro⟨known5,steps6,u7,status8,value9,b,a⟩ h
 try dsimp only at h
 cases h
 exact rt [0,1,2,3,4,5,6,7,8,9,10,11,12,13,14]
theorem obegin_c(N:Nat)(s:OState)(r:(Bool×OState))(h:obegin N s=some r):Cx Tryz.prog 63 [.lf (.ptr 0 0)] [.box [(lI .i64 s.n),.ap 1 rIneq false s.known,.ap 2 rStep false s.steps,.own 3,.own 4,.own 5,.own 6,.ap 7 rOElim false s.stack],.arow rIneq false s.known,.arow rStep false s.steps,.row (rSl rBig) false s.u,.row (rInt .i64) true s.status,.row rBig false s.value,.row rOItem false s.items,.arow rOElim false s.stack] [(0,some (.box [(lI .i64 s.n),.ap 8 rIneq false r.2.known,.ap 9 rStep false r.2.steps,.own 10,.own 11,.own 12,.own 13,.ap 14 rOElim false r.2.stack])),(8,some (.arow rIneq false r.2.known)),(9,some (.arow rStep false r.2.steps)),(10,some (.row (rSl rBig) false r.2.u)),(11,some (.row (rInt .i64) true r.2.status)),(12,some (.row rBig false r.2.value)),(13,some (.row rOItem false r.2.items)),(14,some (.arow rOElim false r.2.stack))] [sB r.1]:=by
 unfold obegin at h
 refine fnv (m:=8) tb (.comp (mva 0 1 1) (.comp (mva 0 2 2) (.comp (mvb 0 3 3) (.comp (mvb 0 4 4) (.comp (mvb 0 5 5) (.comp (mvb 0 6 6) (mva 0 7 7))))))) en63 Tryz.func63 fun X w H ν=>?_
 refine jn (fun x=>(Sum.inl x)) (fun⟨a,b,i,j,k,l,c⟩=>mkG 15 [some (.box [(lI .i64 s.n),(.ap 8 rIneq false a),(.ap 9 rStep false b),(.own 10),(.own 11),(.own 12),(.own 13),(.ap 14 rOElim false c)]),none,none,none,none,none,none,none,some (.arow rIneq false a),some (.arow rStep false b),some (.row (rSl rBig) false i),some (.row (rInt .i64) true j),some (.row rBig false k),some (.row rOItem false l),some (.arow rOElim false c)] [vp 0 0]) h (fun a5 a0 a1=>?_) ?_
 refine bk ?_
 refine lp (fun⟨d,e,o,p,q,v,f,g⟩=>mkG 15 [some (.box [(lI .i64 s.n),(.ap 8 rIneq false d),(.ap 9 rStep false e),(.own 10),(.own 11),(.own 12),(.own 13),(.ap 14 rOElim false f)]),none,none,none,none,none,none,none,some (.arow rIneq false d),some (.arow rStep false e),some (.row (rSl rBig) false o),some (.row (rInt .i64) true p),some (.row rBig false q),some (.row rOItem false v),some (.arow rOElim false f)] [vp 0 0,vi 9 (List.length s.known:Int),vi 10 g]) a0 [0,1,2,3,4,5,6,7,8,9,10,11,12,13,14] ?_
 rintro⟨d,e,o,p,q,v,f,g⟩ oo h y
 rw[obegin_b1]at h
 refine cd h (fun a2 h=>?_) (fun a2 h=>?_)
 refine bk ?_
 refine ixA h fun a6 h=>?_
 refine ldA ?_
 refine cl (some false) [] 1 h (cloneBig_c N _) fun a7 h=>?_
 refine cl none [] 0 h (bOf_c N _) fun a3 h=>?_
 refine litO rUse true [(Use.mk g a3)] ?_
 refine po (fzq 15 [4,21,23] []) ?_
 refine po (fzq 16 [27] []) ?_
 refine cl (some false) [0,8,9,10,11,12,13,14] 7 h (oput_c N _ _ _) fun a8 h=>?_
 refine cd h (fun a4 h=>?_) (fun a4 h=>?_)
 cases h
 have h:=a1
 rw[←y _ rfl]at h
 try dsimp only at h
 cases h
 exact rt [0,1,2,3,4,5,6,7,17,18,19,20,21,22,23]
 cases h
 exact bl [0,1,2,3,4,5,6,7,17,18,19,20,21,22,23]
 cases h
 exact bj _ [0,1,2,3,4,5,6,7,8,9,10,11,12,13,14] (hx:=y _ rfl)
 rintro⟨a,b,i,j,k,l,c⟩ h
 try dsimp only at h
 cases h
 exact rt [0,1,2,3,4,5,6,7,8,9,10,11,12,13,14]
theorem opair_c(N:Nat)(s:OState)(r:(Int×Int×Bool×Bool×OState))(h:opair N s=some r):Cx Tryz.prog 64 [.lf (.ptr 0 0)] [.box [(lI .i64 s.n),.ap 1 rIneq false s.known,.ap 2 rStep false s.steps,.own 3,.own 4,.own 5,.own 6,.ap 7 rOElim false s.stack],.arow rIneq false s.known,.arow rStep false s.steps,.row (rSl rBig) false s.u,.row (rInt .i64) true s.status,.row rBig false s.value,.row rOItem false s.items,.arow rOElim false s.stack] [(0,some (.box [(lI .i64 s.n),.ap 8 rIneq false r.2.2.2.2.known,.ap 9 rStep false r.2.2.2.2.steps,.own 10,.own 11,.own 12,.own 13,.ap 14 rOElim false r.2.2.2.2.stack])),(8,some (.arow rIneq false r.2.2.2.2.known)),(9,some (.arow rStep false r.2.2.2.2.steps)),(10,some (.row (rSl rBig) false r.2.2.2.2.u)),(11,some (.row (rInt .i64) true r.2.2.2.2.status)),(12,some (.row rBig false r.2.2.2.2.value)),(13,some (.row rOItem false r.2.2.2.2.items)),(14,some (.arow rOElim false r.2.2.2.2.stack))] [sI .i64 r.1,sI .i64 r.2.1,sB r.2.2.1,sB r.2.2.2.1]:=by
 unfold opair at h
 refine fnv (m:=8) tb (.comp (mva 0 1 1) (.comp (mva 0 2 2) (.comp (mvb 0 3 3) (.comp (mvb 0 4 4) (.comp (mvb 0 5 5) (.comp (mvb 0 6 6) (mva 0 7 7))))))) en64 Tryz.func64 fun X w H ν=>?_
 refine mkM inferInstance ((fun x:List UInt8=>Value.string (s8 x))) ((fun x:Int=>Value.int .i64 x)) ?_
 refine jn (fun x=>x) (fun a=>mkG 16 [some (.box [(lI .i64 s.n),(.ap 8 rIneq false s.known),(.ap 9 rStep false s.steps),(.own 10),(.own 11),(.own 12),(.own 13),(.ap 14 rOElim false s.stack)]),none,none,none,none,none,none,none,some (.arow rIneq false s.known),some (.arow rStep false s.steps),some (.row (rSl rBig) false s.u),some (.row (rInt .i64) true s.status),some (.row rBig false s.value),some (.row rOItem false s.items),some (.arow rOElim false s.stack),some (.map inferInstance ((fun x:List UInt8=>Value.string (s8 x))) ((fun x:Int=>Value.int .i64 x)) a)] [vp 0 0,vl 6 (.mp 15)]) h (fun a7 l a8=>?_) ?_
 refine bk ?_
 refine lp (fun⟨e,c⟩=>mkG 16 [some (.box [(lI .i64 s.n),(.ap 8 rIneq false s.known),(.ap 9 rStep false s.steps),(.own 10),(.own 11),(.own 12),(.own 13),(.ap 14 rOElim false s.stack)]),none,none,none,none,none,none,none,some (.arow rIneq false s.known),some (.arow rStep false s.steps),some (.row (rSl rBig) false s.u),some (.row (rInt .i64) true s.status),some (.row rBig false s.value),some (.row rOItem false s.items),some (.arow rOElim false s.stack),some (.map inferInstance ((fun x:List UInt8=>Value.string (s8 x))) ((fun x:Int=>Value.int .i64 x)) e)] [vp 0 0,vl 6 (.mp 15),vo 17 13,vi 18 (List.length s.items:Int),vi 19 c]) l [0,1,2,3,4,5,6,7,8,9,10,11,12,13,14,15] ?_
 rintro⟨e,c⟩ oo h o
 rw[opair_b1]at h
 refine cd h (fun p h=>?_) (fun p h=>?_)
 refine bk ?_
 refine ixO h fun a9 h=>?_
 refine ldO ?_
 refine cl none [] 0 h (okey_c N _) fun q h=>?_
 refine puM q c mky_9 ?_
 cases h
 exact bl [0,1,2,3,4,5,6,7,8,9,10,11,12,13,14,15]
 cases h
 exact bj _ [0,1,2,3,4,5,6,7,8,9,10,11,12,13,14,15] (hx:=o _ rfl)
 intro a h
 try dsimp only at h
 refine jn (fun x=>(Sum.inl x)) (fun(_:Unit)=>mkG 15 [some (.box [(lI .i64 s.n),(.ap 8 rIneq false s.known),(.ap 9 rStep false s.steps),(.own 10),(.own 11),(.own 12),(.own 13),(.ap 14 rOElim false s.stack)]),none,none,none,none,none,none,none,some (.arow rIneq false s.known),some (.arow rStep false s.steps),some (.row (rSl rBig) false s.u),some (.row (rInt .i64) true s.status),some (.row rBig false s.value),some (.row rOItem false s.items),some (.arow rOElim false s.stack)] [vp 0 0]) h (fun aa v f=>?_) ?_
 refine bk ?_
 refine lp (fun b=>mkG 16 [some (.box [(lI .i64 s.n),(.ap 8 rIneq false s.known),(.ap 9 rStep false s.steps),(.own 10),(.own 11),(.own 12),(.own 13),(.ap 14 rOElim false s.stack)]),none,none,none,none,none,none,none,some (.arow rIneq false s.known),some (.arow rStep false s.steps),some (.row (rSl rBig) false s.u),some (.row (rInt .i64) true s.status),some (.row rBig false s.value),some (.row rOItem false s.items),some (.arow rOElim false s.stack),some (.map inferInstance ((fun x:List UInt8=>Value.string (s8 x))) ((fun x:Int=>Value.int .i64 x)) a)] [vp 0 0,vl 6 (.mp 15),vo 33 13,vi 34 (List.length s.items:Int),vi 35 b]) v [0,1,2,3,4,5,6,7,8,9,10,11,12,13,14,15] ?_
 rintro b oo h d
 rw[opair_b2]at h
 refine cd h (fun y h=>?_) (fun y h=>?_)
 refine jn (fun x=>(Sum.inl x)) (fun(_:Unit)=>mkG 16 [some (.box [(lI .i64 s.n),(.ap 8 rIneq false s.known),(.ap 9 rStep false s.steps),(.own 10),(.own 11),(.own 12),(.own 13),(.ap 14 rOElim false s.stack)]),none,none,none,none,none,none,none,some (.arow rIneq false s.known),some (.arow rStep false s.steps),some (.row (rSl rBig) false s.u),some (.row (rInt .i64) true s.status),some (.row rBig false s.value),some (.row rOItem false s.items),some (.arow rOElim false s.stack),some (.map inferInstance ((fun x:List UInt8=>Value.string (s8 x))) ((fun x:Int=>Value.int .i64 x)) a)] [vp 0 0,vl 6 (.mp 15),vo 33 13,vi 34 (List.length s.items:Int),vi 35 b]) h (fun ab h g=>?_) ?_
 refine bk ?_
 refine ixO h fun i h=>?_
 refine ldO ?_
 refine cl none [] 1 h (onegative_c N _) fun ac h=>?_
 refine cl none [] 0 h (okey_c N _) fun j h=>?_
 refine luM (0:Int) j mky_9 (fun _=>rfl) ?_
 refine jn (fun x=>x) (fun k=>mkG 17 [some (.box [(lI .i64 s.n),(.ap 8 rIneq false s.known),(.ap 9 rStep false s.steps),(.own 10),(.own 11),(.own 12),(.own 13),(.ap 14 rOElim false s.stack)]),none,none,none,none,none,none,none,some (.arow rIneq false s.known),some (.arow rStep false s.steps),some (.row (rSl rBig) false s.u),some (.row (rInt .i64) true s.status),some (.row rBig false s.value),some (.row rOItem false s.items),some (.arow rOElim false s.stack),some (.map inferInstance ((fun x:List UInt8=>Value.string (s8 x))) ((fun x:Int=>Value.int .i64 x)) a),some (.box (Opn.cl rOItem false i))] [vp 0 0,vl 6 (.mp 15),vi 9 b,vp 10 16,vi 11 ((mget a j 0).1),vo 33 13,vi 34 (List.length s.items:Int),vi 35 b,vb 55 k]) h (fun ad h ae=>?_) ?_
 refine rg ?_
 refine gd h (fun a0 h=>?_) (fun a0 h=>?_)
 cases h
 exact bj _ [0,1,2,3,4,5,6,7,8,9,10,11,12,13,14,15,16]
 cases h
 exact bj _ [0,1,2,3,4,5,6,7,8,9,10,11,12,13,14,15,16]
 intro k h
 try dsimp only at h
 refine cd h (fun a1 h=>?_) (fun a1 h=>?_)
 cases h
 exact bj _ [0,1,2,3,4,5,6,7,8,9,10,11,12,13,14,15]
 refine dr mixed ?_
 refine clS (some false) [0,8,9,10,11,12,13,14] h (obound_c N _ _) fun af h=>?_
 refine ixO h fun ag h=>?_
 refine ldO ?_
 refine clS (some false) [0,8,9,10,11,12,13,14] h (obound_c N _ _) fun ah h=>?_
 refine cl none [] 0 h (bAdd_c N _ _) fun ai h=>?_
 refine cl none [] 0 h (bSign_c N _) fun aj h=>?_
 refine dk ?_
 refine bk ?_
 refine cd h (fun a2 h=>?_) (fun a2 h=>?_)
 refine dr mixed ?_
 refine mkO rBig h fun ak h=>?_
 refine cl none [] 0 h (bOf_c N _) fun a3 h=>?_
 refine ixO h fun a4 h=>?_
 refine ldO ?_
 refine cl none [] 0 h (bOf_c N _) fun a5 h=>?_
 refine litO rUse true [(Use.mk i.pos a3),(Use.mk a4.pos a5)] ?_
 refine po (fzk 17 [77] []) ?_
 refine po (fzk 18 [92] []) ?_
 refine cl (some false) [0,8,9,10,11,12,13,14] 7 h (oput_c N _ _ _) fun al h=>?_
 refine dk ?_
 cases h
 replace h:=g
 try dsimp only at h
 cases h
 have h:=f
 rw[←d _ rfl]at h
 try dsimp only at h
 cases h
 exact rt [0,1,2,3,4,5,6,7,19,20,21,22,23,24,25]
 refine cd h (fun a6 h=>?_) (fun a6 h=>?_)
 cases h
 replace h:=g
 try dsimp only at h
 cases h
 have h:=f
 rw[←d _ rfl]at h
 try dsimp only at h
 cases h
 exact rt [0,1,2,3,4,5,6,7,8,9,10,11,12,13,14]
 cases h
 exact bj _ [0,1,2,3,4,5,6,7,8,9,10,11,12,13,14,15]
 intro _ h
 try dsimp only at h
 cases h
 exact bl [0,1,2,3,4,5,6,7,8,9,10,11,12,13,14,15]
 cases h
 exact bj _ [0,1,2,3,4,5,6,7,8,9,10,11,12,13,14] (hx:=d _ rfl)
 intro _ h
 try dsimp only at h
 cases h
 exact rt [0,1,2,3,4,5,6,7,8,9,10,11,12,13,14]
theorem oshift1_c(N:Nat)(l:(List Big))(c0:Int)(c1:Big)(c2:Int)(r:(List Big))(h:oshift1 N l c0 c1 c2=some r):Cx Tryz.prog 156 [sR rBig false l,.lf (.pd (ppPd false [(lI .i64 c0)])),.lf (.pd (ppPd false [(lB c1.Negative),(.ro (rInt .u32) false c1.Digits)])),.lf (.pd (ppPd false [(lI .i64 c2)]))] [] [] [sR rBig false r]:=by
 unfold oshift1 at h
 refine fnv (m:=0) tb (.comp (vpp 1) (.comp (vpp 2) (vpp 3))) en156 Tryz.func156 fun X w H ν=>?_
 refine cl (some false) [] 1 h (cloneBig_c N _) fun r1 h=>?_
 refine dr mixed ?_
 refine ixO h fun x2 h=>?_
 refine ldO ?_
 refine ixO h fun x3 h=>?_
 refine ldO ?_
 refine cl none [] 0 h (bMul_c N _ _) fun r4 h=>?_
 refine cl none [] 0 h (bSub_c N _ _) fun r5 h=>?_
 refine ixO h fun x6 h=>?_
 refine stO false h fun x7 h=>?_
 refine dk ?_
 cases h
 exact rt []
theorem oflip1_c(N:Nat)(l:(List Big))(c0:Int)(r:(List Big))(h:oflip1 N l c0=some r):Cx Tryz.prog 157 [sR rBig false l,.lf (.pd (ppPd false [(lI .i64 c0)]))] [] [] [sR rBig false r]:=by
 unfold oflip1 at h
 refine fnv (m:=0) tb (vpp 1) en157 Tryz.func157 fun X w H ν=>?_
 refine cl (some false) [] 1 h (cloneBig_c N _) fun r1 h=>?_
 refine dr mixed ?_
 refine ixO h fun x2 h=>?_
 refine ldO ?_
 refine cl none [] 0 h (bNeg_c N _) fun r3 h=>?_
 refine ixO h fun x4 h=>?_
 refine stO false h fun x5 h=>?_
 refine dk ?_
 cases h
 exact rt []
theorem oshift_c(N:Nat)(s:OState)(j:Int)(p:Int)(q:Big)(r:OState)(h:oshift N s j p q=some r):Cx Tryz.prog 124 [.lf (.ptr 0 0),sI .i64 j,sI .i64 p,sA rBig false q] [.box [(lI .i64 s.n),.ap 1 rIneq false s.known,.ap 2 rStep false s.steps,.own 3,.own 4,.own 5,.own 6,.ap 7 rOElim false s.stack],.arow rIneq false s.known,.arow rStep false s.steps,.row (rSl rBig) false s.u,.row (rInt .i64) true s.status,.row rBig false s.value,.row rOItem false s.items,.arow rOElim false s.stack] [(0,some (.box [(lI .i64 s.n),.ap 8 rIneq false r.known,.ap 9 rStep false r.steps,.own 10,.own 11,.own 12,.own 13,.ap 14 rOElim false r.stack])),(8,some (.arow rIneq false r.known)),(9,some (.arow rStep false r.steps)),(10,some (.row (rSl rBig) false r.u)),(11,some (.row (rInt .i64) true r.status)),(12,some (.row rBig false r.value)),(13,some (.row rOItem false r.items)),(14,some (.arow rOElim false r.stack))] []:=by
 unfold oshift at h
 refine fnv (m:=8) tb (.comp (mva 0 1 1) (.comp (mva 0 2 2) (.comp (mvb 0 3 3) (.comp (mvb 0 4 4) (.comp (mvb 0 5 5) (.comp (mvb 0 6 6) (mva 0 7 7))))))) en124 Tryz.func124 fun X w H ν=>?_
 refine po (fzb 15 5) ?_
 refine po (fzb 17 7) ?_
 refine po (fzb 16 6) ?_
 refine mkF (fun x:(List Big)=>[sR rBig false x]) (fun r:(List Big)=>[sR rBig false r]) (fun xx=>oshift1 N xx j q p) (fun xx r h=>oshift1_c N xx j q p r h) en156 ?_
 refine jn (fun x=>x) (fun a=>mkG 15 [some (.box [(lI .i64 s.n),(.ap 8 rIneq false s.known),(.ap 9 rStep false s.steps),(.own 10),(.own 11),(.own 12),(.own 13),(.ap 14 rOElim false s.stack)]),none,none,none,none,none,none,none,some (.arow rIneq false s.known),some (.arow rStep false s.steps),some (.row (rSl rBig) false a),some (.row (rInt .i64) true s.status),some (.row rBig false s.value),some (.row rOItem false s.items),some (.arow rOElim false s.stack)] [vp 0 0,vl 8 (.pd (fnPd Tryz.prog (fun x:(List Big)=>[sR rBig false x]) (fun r:(List Big)=>[sR rBig false r]) (fun y0=>oshift1 N y0 j q p)))]) h (fun a2 i a3=>?_) ?_
 refine bk ?_
 refine lp (fun⟨b,c⟩=>mkG 15 [some (.box [(lI .i64 s.n),(.ap 8 rIneq false s.known),(.ap 9 rStep false s.steps),(.own 10),(.own 11),(.own 12),(.own 13),(.ap 14 rOElim false s.stack)]),none,none,none,none,none,none,none,some (.arow rIneq false s.known),some (.arow rStep false s.steps),some (.row (rSl rBig) false b),some (.row (rInt .i64) true s.status),some (.row rBig false s.value),some (.row rOItem false s.items),some (.arow rOElim false s.stack)] [vp 0 0,vl 8 (.pd (fnPd Tryz.prog (fun x:(List Big)=>[sR rBig false x]) (fun r:(List Big)=>[sR rBig false r]) (fun y0=>oshift1 N y0 j q p))),vi 16 (List.length s.u:Int),vi 17 c]) i [0,1,2,3,4,5,6,7,8,9,10,11,12,13,14] ?_
 rintro⟨b,c⟩ oo h k
 rw[oshift_b1]at h
 refine cd h (fun l h=>?_) (fun l h=>?_)
 refine bk ?_
 refine dr mixed ?_
 refine ixO h fun o h=>?_
 refine ldO ?_
 refine cvlM (g:=(fun y0=>oshift1 N y0 j q p)) o h fun a4 h=>?_
 refine ixO h fun a5 h=>?_
 refine stO false h fun a6 h=>?_
 refine dk ?_
 cases h
 exact bl [0,1,2,3,4,5,6,7,8,9,10,11,12,13,14]
 cases h
 exact bj _ [0,1,2,3,4,5,6,7,8,9,10,11,12,13,14] (hx:=k _ rfl)
 intro a h
 try dsimp only at h
 refine jn (fun x=>x) (fun d=>mkG 15 [some (.box [(lI .i64 s.n),(.ap 8 rIneq false s.known),(.ap 9 rStep false s.steps),(.own 10),(.own 11),(.own 12),(.own 13),(.ap 14 rOElim false s.stack)]),none,none,none,none,none,none,none,some (.arow rIneq false s.known),some (.arow rStep false s.steps),some (.row (rSl rBig) false a),some (.row (rInt .i64) true s.status),some (.row rBig false s.value),some (.row rOItem false d),some (.arow rOElim false s.stack)] [vp 0 0]) h (fun a7 v a8=>?_) ?_
 refine bk ?_
 refine lp (fun⟨e,f⟩=>mkG 15 [some (.box [(lI .i64 s.n),(.ap 8 rIneq false s.known),(.ap 9 rStep false s.steps),(.own 10),(.own 11),(.own 12),(.own 13),(.ap 14 rOElim false s.stack)]),none,none,none,none,none,none,none,some (.arow rIneq false s.known),some (.arow rStep false s.steps),some (.row (rSl rBig) false a),some (.row (rInt .i64) true s.status),some (.row rBig false s.value),some (.row rOItem false e),some (.arow rOElim false s.stack)] [vp 0 0,vl 8 (.pd (fnPd Tryz.prog (fun x:(List Big)=>[sR rBig false x]) (fun r:(List Big)=>[sR rBig false r]) (fun y0=>oshift1 N y0 j q p))),vi 40 (List.length s.items:Int),vi 41 f]) v [0,1,2,3,4,5,6,7,8,9,10,11,12,13,14] ?_
 rintro⟨e,f⟩ oo h y
 rw[oshift_b2]at h
 refine cd h (fun a0 h=>?_) (fun a0 h=>?_)
 refine bk ?_
 refine dr mixed ?_
 refine ixQ h fun a1 a9 h=>?_
 refine ldO ?_
 refine cvlM (g:=(fun y0=>oshift1 N y0 j q p)) a1.g h fun aa h=>?_
 refine ixQ h fun ab ac h=>?_
 refine stP h (fun ad h=>?_) (by assumption)
 refine dk ?_
 cases h
 exact bl [0,1,2,3,4,5,6,7,8,9,10,11,12,13,14]
 cases h
 exact bj _ [0,1,2,3,4,5,6,7,8,9,10,11,12,13,14] (hx:=y _ rfl)
 intro d h
 try dsimp only at h
 cases h
 exact rt [0,1,2,3,4,5,6,7,8,9,10,11,12,13,14]
theorem oflip_c(N:Nat)(s:OState)(p:Int)(r:OState)(h:oflip N s p=some r):Cx Tryz.prog 125 [.lf (.ptr 0 0),sI .i64 p] [.box [(lI .i64 s.n),.ap 1 rIneq false s.known,.ap 2 rStep false s.steps,.own 3,.own 4,.own 5,.own 6,.ap 7 rOElim false s.stack],.arow rIneq false s.known,.arow rStep false s.steps,.row (rSl rBig) false s.u,.row (rInt .i64) true s.status,.row rBig false s.value,.row rOItem false s.items,.arow rOElim false s.stack] [(0,some (.box [(lI .i64 s.n),.ap 8 rIneq false r.known,.ap 9 rStep false r.steps,.own 10,.own 11,.own 12,.own 13,.ap 14 rOElim false r.stack])),(8,some (.arow rIneq false r.known)),(9,some (.arow rStep false r.steps)),(10,some (.row (rSl rBig) false r.u)),(11,some (.row (rInt .i64) true r.status)),(12,some (.row rBig false r.value)),(13,some (.row rOItem false r.items)),(14,some (.arow rOElim false r.stack))] []:=by
 unfold oflip at h
 refine fnv (m:=8) tb (.comp (mva 0 1 1) (.comp (mva 0 2 2) (.comp (mvb 0 3 3) (.comp (mvb 0 4 4) (.comp (mvb 0 5 5) (.comp (mvb 0 6 6) (mva 0 7 7))))))) en125 Tryz.func125 fun X w H ν=>?_
 refine po (fzb 15 3) ?_
 refine mkF (fun x:(List Big)=>[sR rBig false x]) (fun r:(List Big)=>[sR rBig false r]) (fun xx=>oflip1 N xx p) (fun xx r h=>oflip1_c N xx p r h) en157 ?_
 refine jn (fun x=>x) (fun a=>mkG 15 [some (.box [(lI .i64 s.n),(.ap 8 rIneq false s.known),(.ap 9 rStep false s.steps),(.own 10),(.own 11),(.own 12),(.own 13),(.ap 14 rOElim false s.stack)]),none,none,none,none,none,none,none,some (.arow rIneq false s.known),some (.arow rStep false s.steps),some (.row (rSl rBig) false a),some (.row (rInt .i64) true s.status),some (.row rBig false s.value),some (.row rOItem false s.items),some (.arow rOElim false s.stack)] [vp 0 0,vl 4 (.pd (fnPd Tryz.prog (fun x:(List Big)=>[sR rBig false x]) (fun r:(List Big)=>[sR rBig false r]) (fun y0=>oflip1 N y0 p)))]) h (fun a0 i a1=>?_) ?_
 refine bk ?_
 refine lp (fun⟨b,c⟩=>mkG 15 [some (.box [(lI .i64 s.n),(.ap 8 rIneq false s.known),(.ap 9 rStep false s.steps),(.own 10),(.own 11),(.own 12),(.own 13),(.ap 14 rOElim false s.stack)]),none,none,none,none,none,none,none,some (.arow rIneq false s.known),some (.arow rStep false s.steps),some (.row (rSl rBig) false b),some (.row (rInt .i64) true s.status),some (.row rBig false s.value),some (.row rOItem false s.items),some (.arow rOElim false s.stack)] [vp 0 0,vl 4 (.pd (fnPd Tryz.prog (fun x:(List Big)=>[sR rBig false x]) (fun r:(List Big)=>[sR rBig false r]) (fun y0=>oflip1 N y0 p))),vi 12 (List.length s.u:Int),vi 13 c]) i [0,1,2,3,4,5,6,7,8,9,10,11,12,13,14] ?_
 rintro⟨b,c⟩ oo h j
 rw[oflip_b1]at h
 refine cd h (fun k h=>?_) (fun k h=>?_)
 refine bk ?_
 refine dr mixed ?_
 refine ixO h fun l h=>?_
 refine ldO ?_
 refine cvlM (g:=(fun y0=>oflip1 N y0 p)) l h fun a2 h=>?_
 refine ixO h fun a3 h=>?_
 refine stO false h fun a4 h=>?_
 refine dk ?_
 cases h
 exact bl [0,1,2,3,4,5,6,7,8,9,10,11,12,13,14]
 cases h
 exact bj _ [0,1,2,3,4,5,6,7,8,9,10,11,12,13,14] (hx:=j _ rfl)
 intro a h
 try dsimp only at h
 refine jn (fun x=>x) (fun d=>mkG 15 [some (.box [(lI .i64 s.n),(.ap 8 rIneq false s.known),(.ap 9 rStep false s.steps),(.own 10),(.own 11),(.own 12),(.own 13),(.ap 14 rOElim false s.stack)]),none,none,none,none,none,none,none,some (.arow rIneq false s.known),some (.arow rStep false s.steps),some (.row (rSl rBig) false a),some (.row (rInt .i64) true s.status),some (.row rBig false s.value),some (.row rOItem false d),some (.arow rOElim false s.stack)] [vp 0 0]) h (fun a5 o a6=>?_) ?_
 refine bk ?_
 refine lp (fun⟨e,f⟩=>mkG 15 [some (.box [(lI .i64 s.n),(.ap 8 rIneq false s.known),(.ap 9 rStep false s.steps),(.own 10),(.own 11),(.own 12),(.own 13),(.ap 14 rOElim false s.stack)]),none,none,none,none,none,none,none,some (.arow rIneq false s.known),some (.arow rStep false s.steps),some (.row (rSl rBig) false a),some (.row (rInt .i64) true s.status),some (.row rBig false s.value),some (.row rOItem false e),some (.arow rOElim false s.stack)] [vp 0 0,vl 4 (.pd (fnPd Tryz.prog (fun x:(List Big)=>[sR rBig false x]) (fun r:(List Big)=>[sR rBig false r]) (fun y0=>oflip1 N y0 p))),vi 36 (List.length s.items:Int),vi 37 f]) o [0,1,2,3,4,5,6,7,8,9,10,11,12,13,14] ?_
 rintro⟨e,f⟩ oo h q
 rw[oflip_b2]at h
 refine cd h (fun v h=>?_) (fun v h=>?_)
 refine bk ?_
 refine dr mixed ?_
 refine ixQ h fun y a7 h=>?_
 refine ldO ?_
 refine cvlM (g:=(fun y0=>oflip1 N y0 p)) y.g h fun a8 h=>?_
 refine ixQ h fun a9 aa h=>?_
 refine stP h (fun ab h=>?_) (by assumption)
 refine dk ?_
 cases h
 exact bl [0,1,2,3,4,5,6,7,8,9,10,11,12,13,14]
 cases h
 exact bj _ [0,1,2,3,4,5,6,7,8,9,10,11,12,13,14] (hx:=q _ rfl)
 intro d h
 try dsimp only at h
 cases h
 exact rt [0,1,2,3,4,5,6,7,8,9,10,11,12,13,14]
theorem oisolate_c(N:Nat)(s:OState)(i:Int)(r:(Int×OState))(h:oisolate N s i=some r):Cx Tryz.prog 95 [.lf (.ptr 0 0),sI .i64 i] [.box [(lI .i64 s.n),.ap 1 rIneq false s.known,.ap 2 rStep false s.steps,.own 3,.own 4,.own 5,.own 6,.ap 7 rOElim false s.stack],.arow rIneq false s.known,.arow rStep false s.steps,.row (rSl rBig) false s.u,.row (rInt .i64) true s.status,.row rBig false s.value,.row rOItem false s.items,.arow rOElim false s.stack] [(0,some (.box [(lI .i64 s.n),.ap 8 rIneq false r.2.known,.ap 9 rStep false r.2.steps,.own 10,.own 11,.own 12,.own 13,.ap 14 rOElim false r.2.stack])),(8,some (.arow rIneq false r.2.known)),(9,some (.arow rStep false r.2.steps)),(10,some (.row (rSl rBig) false r.2.u)),(11,some (.row (rInt .i64) true r.2.status)),(12,some (.row rBig false r.2.value)),(13,some (.row rOItem false r.2.items)),(14,some (.arow rOElim false r.2.stack))] [sI .i64 r.1]:=by
 unfold oisolate at h
 refine fnv (m:=8) tb (.comp (mva 0 1 1) (.comp (mva 0 2 2) (.comp (mvb 0 3 3) (.comp (mvb 0 4 4) (.comp (mvb 0 5 5) (.comp (mvb 0 6 6) (mva 0 7 7))))))) en95 Tryz.func95 fun X w H ν=>?_
 obtain⟨bm,b1,b2⟩:=bind_some h
 refine bk ?_
 refine lp (fun⟨b,c,f,j,k,l,d⟩=>mkG 15 [some (.box [(lI .i64 s.n),(.ap 8 rIneq false b),(.ap 9 rStep false c),(.own 10),(.own 11),(.own 12),(.own 13),(.ap 14 rOElim false d)]),none,none,none,none,none,none,none,some (.arow rIneq false b),some (.arow rStep false c),some (.row (rSl rBig) false f),some (.row (rInt .i64) true j),some (.row rBig false k),some (.row rOItem false l),some (.arow rOElim false d)] [vp 0 0,vi 1 i,vl 5 (.v (.func (.func 123) #[] #[]))]) b1 [0,1,2,3,4,5,6,7,8,9,10,11,12,13,14] ?_
 rintro⟨b,c,f,j,k,l,d⟩ oo h b3
 rw[oisolate_b1]at h
 refine bk ?_
 refine ixO h fun a h=>?_
 refine ldO ?_
 refine jn (fun x=>x) (fun e=>mkG 15 [some (.box [(lI .i64 s.n),(.ap 8 rIneq false b),(.ap 9 rStep false c),(.own 10),(.own 11),(.own 12),(.own 13),(.ap 14 rOElim false d)]),none,none,none,none,none,none,none,some (.arow rIneq false b),some (.arow rStep false c),some (.row (rSl rBig) false f),some (.row (rInt .i64) true j),some (.row rBig false k),some (.row rOItem false l),some (.arow rOElim false d)] [vp 0 0,vi 1 i,vl 5 (.v (.func (.func 123) #[] #[])),vr 6 rBig false a.g,vi 7 e]) h (fun bn b4 bo=>?_) ?_
 refine bk ?_
 refine lp (fun⟨a1,o⟩=>mkG 15 [some (.box [(lI .i64 s.n),(.ap 8 rIneq false b),(.ap 9 rStep false c),(.own 10),(.own 11),(.own 12),(.own 13),(.ap 14 rOElim false d)]),none,none,none,none,none,none,none,some (.arow rIneq false b),some (.arow rStep false c),some (.row (rSl rBig) false f),some (.row (rInt .i64) true j),some (.row rBig false k),some (.row rOItem false l),some (.arow rOElim false d)] [vp 0 0,vi 1 i,vl 5 (.v (.func (.func 123) #[] #[])),vr 6 rBig false a.g,vi 7 a1,vi 23 (List.length a.g:Int),vi 24 o]) b4 [0,1,2,3,4,5,6,7,8,9,10,11,12,13,14] ?_
 rintro⟨a1,o⟩ oo h b5
 rw[oisolate_b2]at h
 refine cd h (fun b6 h=>?_) (fun b6 h=>?_)
 refine jn (fun x=>x) (fun ag=>mkG 15 [some (.box [(lI .i64 s.n),(.ap 8 rIneq false b),(.ap 9 rStep false c),(.own 10),(.own 11),(.own 12),(.own 13),(.ap 14 rOElim false d)]),none,none,none,none,none,none,none,some (.arow rIneq false b),some (.arow rStep false c),some (.row (rSl rBig) false f),some (.row (rInt .i64) true j),some (.row rBig false k),some (.row rOItem false l),some (.arow rOElim false d)] [vp 0 0,vi 1 i,vl 5 (.v (.func (.func 123) #[] #[])),vr 6 rBig false a.g,vi 7 ag,vi 23 (List.length a.g:Int),vi 24 o]) h (fun bp h br=>?_) ?_
 refine bk ?_
 refine jn (fun x=>x) (fun ah=>mkG 15 [some (.box [(lI .i64 s.n),(.ap 8 rIneq false b),(.ap 9 rStep false c),(.own 10),(.own 11),(.own 12),(.own 13),(.ap 14 rOElim false d)]),none,none,none,none,none,none,none,some (.arow rIneq false b),some (.arow rStep false c),some (.row (rSl rBig) false f),some (.row (rInt .i64) true j),some (.row rBig false k),some (.row rOItem false l),some (.arow rOElim false d)] [vp 0 0,vi 1 i,vl 5 (.v (.func (.func 123) #[] #[])),vr 6 rBig false a.g,vi 7 a1,vi 8 o,vi 23 (List.length a.g:Int),vi 24 o,vb 52 ah]) h (fun bs h bt=>?_) ?_
 refine dr mixed ?_
 refine ixR h fun bu h=>?_
 refine cl none [] 0 h (bSign_c N _) fun bw h=>?_
 refine gd h (fun b7 h=>?_) (fun b7 h=>?_)
 refine gd h (fun b8 h=>?_) (fun b8 h=>?_)
 refine dk ?_
 cases h
 exact bj _ [0,1,2,3,4,5,6,7,8,9,10,11,12,13,14]
 refine ixR h fun b9 h=>?_
 refine po (fv 37 (fun x:Big=>[sA rBig false x]) (fun r:Big=>[sA rBig false r]) (fun x=>oisolate1 N x) (fun x r h=>oisolate1_c N x r h) en123) ?_
 refine cvlM (g:=(fun y0=>oisolate1 N y0)) b9 h fun bx h=>?_
 refine ixR h fun ba h=>?_
 refine po (fv 43 (fun x:Big=>[sA rBig false x]) (fun r:Big=>[sA rBig false r]) (fun x=>oisolate1 N x) (fun x r h=>oisolate1_c N x r h) en123) ?_
 refine cvlM (g:=(fun y0=>oisolate1 N y0)) ba h fun bz h=>?_
 refine cl none [] 0 h (bCompare_c N _ _) fun c0 h=>?_
 refine dk ?_
 cases h
 exact bj _ [0,1,2,3,4,5,6,7,8,9,10,11,12,13,14]
 refine dk ?_
 cases h
 exact bj _ [0,1,2,3,4,5,6,7,8,9,10,11,12,13,14]
 intro ah h
 try dsimp only at h
 refine cd h (fun bb h=>?_) (fun bb h=>?_)
 cases h
 exact bj _ [0,1,2,3,4,5,6,7,8,9,10,11,12,13,14]
 cases h
 exact bj _ [0,1,2,3,4,5,6,7,8,9,10,11,12,13,14]
 intro ag h
 try dsimp only at h
 cases h
 exact bl [0,1,2,3,4,5,6,7,8,9,10,11,12,13,14]
 cases h
 exact bj _ [0,1,2,3,4,5,6,7,8,9,10,11,12,13,14] (hx:=b5 _ rfl)
 intro e h
 try dsimp only at h
 refine jn (fun x=>x) (fun⟨a2,a3,ai,aj,ak,al,a4,am⟩=>mkG 15 [some (.box [(lI .i64 s.n),(.ap 8 rIneq false a2),(.ap 9 rStep false a3),(.own 10),(.own 11),(.own 12),(.own 13),(.ap 14 rOElim false a4)]),none,none,none,none,none,none,none,some (.arow rIneq false a2),some (.arow rStep false a3),some (.row (rSl rBig) false ai),some (.row (rInt .i64) true aj),some (.row rBig false ak),some (.row rOItem false al),some (.arow rOElim false a4)] [vp 0 0,vi 1 i,vl 5 (.v (.func (.func 123) #[] #[])),vr 6 rBig false a.g,vi 7 e,vb 9 am]) h (fun c1 bc c2=>?_) ?_
 refine bk ?_
 refine lp (fun⟨p,q,a5,a6,a7,a8,y,a9,a0⟩=>mkG 15 [some (.box [(lI .i64 s.n),(.ap 8 rIneq false p),(.ap 9 rStep false q),(.own 10),(.own 11),(.own 12),(.own 13),(.ap 14 rOElim false y)]),none,none,none,none,none,none,none,some (.arow rIneq false p),some (.arow rStep false q),some (.row (rSl rBig) false a5),some (.row (rInt .i64) true a6),some (.row rBig false a7),some (.row rOItem false a8),some (.arow rOElim false y)] [vp 0 0,vi 1 i,vl 5 (.v (.func (.func 123) #[] #[])),vr 6 rBig false a.g,vi 7 e,vb 9 a9,vi 56 (List.length a.g:Int),vi 57 a0]) bc [0,1,2,3,4,5,6,7,8,9,10,11,12,13,14] ?_
 rintro⟨p,q,a5,a6,a7,a8,y,a9,a0⟩ oo h bd
 rw[oisolate_b3]at h
 refine cd h (fun be h=>?_) (fun be h=>?_)
 refine jn (fun x=>x) (fun⟨aa,ab,an,ao,aq,ar,ac,av⟩=>mkG 15 [some (.box [(lI .i64 s.n),(.ap 8 rIneq false aa),(.ap 9 rStep false ab),(.own 10),(.own 11),(.own 12),(.own 13),(.ap 14 rOElim false ac)]),none,none,none,none,none,none,none,some (.arow rIneq false aa),some (.arow rStep false ab),some (.row (rSl rBig) false an),some (.row (rInt .i64) true ao),some (.row rBig false aq),some (.row rOItem false ar),some (.arow rOElim false ac)] [vp 0 0,vi 1 i,vl 5 (.v (.func (.func 123) #[] #[])),vr 6 rBig false a.g,vi 7 e,vb 9 av,vi 56 (List.length a.g:Int),vi 57 a0]) h (fun c3 h c4=>?_) ?_
 refine bk ?_
 refine jn (fun x=>x) (fun aw=>mkG 15 [some (.box [(lI .i64 s.n),(.ap 8 rIneq false p),(.ap 9 rStep false q),(.own 10),(.own 11),(.own 12),(.own 13),(.ap 14 rOElim false y)]),none,none,none,none,none,none,none,some (.arow rIneq false p),some (.arow rStep false q),some (.row (rSl rBig) false a5),some (.row (rInt .i64) true a6),some (.row rBig false a7),some (.row rOItem false a8),some (.arow rOElim false y)] [vp 0 0,vi 1 i,vl 5 (.v (.func (.func 123) #[] #[])),vr 6 rBig false a.g,vi 7 e,vb 9 a9,vi 10 a0,vi 56 (List.length a.g:Int),vi 57 a0,vb 77 aw]) h (fun c5 h c6=>?_) ?_
 refine rg ?_
 refine gd h (fun bf h=>?_) (fun bf h=>?_)
 refine ixO h fun c7 h=>?_
 refine ldO ?_
 refine ixR h fun c8 h=>?_
 refine cl none [] 0 h (bSign_c N _) fun c9 h=>?_
 cases h
 exact bj _ [0,1,2,3,4,5,6,7,8,9,10,11,12,13,14]
 cases h
 exact bj _ [0,1,2,3,4,5,6,7,8,9,10,11,12,13,14]
 intro aw h
 try dsimp only at h
 refine cd h (fun bg h=>?_) (fun bg h=>?_)
 refine dr mixed ?_
 refine ixR h fun cb h=>?_
 refine ixR h fun cc h=>?_
 refine cl none [] 0 h (bDivFloor_c N _ _) fun ce h=>?_
 refine dk ?_
 refine cl (some false) [0,8,9,10,11,12,13,14] 7 h (oshift_c N _ _ _ _) fun cg h=>?_
 cases h
 exact bj _ [0,1,2,3,4,5,6,7,17,18,19,20,21,22,23]
 cases h
 exact bj _ [0,1,2,3,4,5,6,7,8,9,10,11,12,13,14]
 rintro⟨aa,ab,an,ao,aq,ar,ac,av⟩ h
 try dsimp only at h
 cases h
 exact bl [0,1,2,3,4,5,6,7,8,9,10,11,12,13,14]
 cases h
 exact bj _ [0,1,2,3,4,5,6,7,8,9,10,11,12,13,14] (hx:=bd _ rfl)
 rintro⟨a2,a3,ai,aj,ak,al,a4,am⟩ h
 try dsimp only at h
 refine cd h (fun bh h=>?_) (fun bh h=>?_)
 refine ixR h fun ch h=>?_
 refine cl none [] 0 h (bSign_c N _) fun ci h=>?_
 refine jn (fun x=>x) (fun⟨ad,ae,ax,ay,az,b0,af⟩=>mkG 15 [some (.box [(lI .i64 s.n),(.ap 8 rIneq false ad),(.ap 9 rStep false ae),(.own 10),(.own 11),(.own 12),(.own 13),(.ap 14 rOElim false af)]),none,none,none,none,none,none,none,some (.arow rIneq false ad),some (.arow rStep false ae),some (.row (rSl rBig) false ax),some (.row (rInt .i64) true ay),some (.row rBig false az),some (.row rOItem false b0),some (.arow rOElim false af)] [vp 0 0,vi 7 e]) h (fun cj h ck=>?_) ?_
 refine cd h (fun bi h=>?_) (fun bi h=>?_)
 refine cl (some false) [0,8,9,10,11,12,13,14] 7 h (oflip_c N _ _) fun cm h=>?_
 cases h
 exact bj _ [0,1,2,3,4,5,6,7,15,16,17,18,19,20,21]
 cases h
 exact bj _ [0,1,2,3,4,5,6,7,8,9,10,11,12,13,14]
 rintro⟨ad,ae,ax,ay,az,b0,af⟩ h
 try dsimp only at h
 cases h
 have h:=b2
 rw[←b3 _ rfl]at h
 try dsimp only at h
 cases h
 exact rt [0,1,2,3,4,5,6,7,8,9,10,11,12,13,14]
 cases h
 exact bl [0,1,2,3,4,5,6,7,8,9,10,11,12,13,14]
theorem oequal_c(N:Nat)(s:OState)(i:Int)(j:Int)(r:(Bool×OState))(h:oequal N s i j=some r):Cx Tryz.prog 65 [.lf (.ptr 0 0),sI .i64 i,sI .i64 j] [.box [(lI .i64 s.n),.ap 1 rIneq false s.known,.ap 2 rStep false s.steps,.own 3,.own 4,.own 5,.own 6,.ap 7 rOElim false s.stack],.arow rIneq false s.known,.arow rStep false s.steps,.row (rSl rBig) false s.u,.row (rInt .i64) true s.status,.row rBig false s.value,.row rOItem false s.items,.arow rOElim false s.stack] [(0,some (.box [(lI .i64 s.n),.ap 8 rIneq false r.2.known,.ap 9 rStep false r.2.steps,.own 10,.own 11,.own 12,.own 13,.ap 14 rOElim false r.2.stack])),(8,some (.arow rIneq false r.2.known)),(9,some (.arow rStep false r.2.steps)),(10,some (.row (rSl rBig) false r.2.u)),(11,some (.row (rInt .i64) true r.2.status)),(12,some (.row rBig false r.2.value)),(13,some (.row rOItem false r.2.items)),(14,some (.arow rOElim false r.2.stack))] [sB r.1]:=by
 unfold oequal at h
 refine fnv (m:=8) tb (.comp (mva 0 1 1) (.comp (mva 0 2 2) (.comp (mvb 0 3 3) (.comp (mvb 0 4 4) (.comp (mvb 0 5 5) (.comp (mvb 0 6 6) (mva 0 7 7))))))) en65 Tryz.func65 fun X w H ν=>?_
 refine cl (some false) [0,8,9,10,11,12,13,14] 7 h (oisolate_c N _ _) fun r1 h=>?_
 refine dr mixed ?_
 refine ixO h fun x2 h=>?_
 refine ldO ?_
 refine ixO h fun x3 h=>?_
 refine ldO ?_
 refine dk ?_
 refine dr mixed ?_
 refine clS (some false) [0,15,16,17,18,19,20,21] h (obound_c N _ _) fun r4 h=>?_
 refine ixO h fun x5 h=>?_
 refine stO true h fun x6 h=>?_
 refine ixO h fun x7 h=>?_
 refine stO false h fun x8 h=>?_
 refine dk ?_
 refine jn (fun x=>(Sum.inl x)) (fun⟨o,p,a3,a4,a5,a6,q⟩=>mkG 15 [some (.box [(lI .i64 s.n),(.ap 8 rIneq false o),(.ap 9 rStep false p),(.own 10),(.own 11),(.own 12),(.own 13),(.ap 14 rOElim false q)]),none,none,none,none,none,none,none,some (.arow rIneq false o),some (.arow rStep false p),some (.row (rSl rBig) false a3),some (.row (rInt .i64) true a4),some (.row rBig false a5),some (.row rOItem false a6),some (.arow rOElim false q)] [vp 0 0]) h (fun aq ae af=>?_) ?_
 refine bk ?_
 refine ps (nb 0 6 rOItem) ?_
 refine lp (fun⟨a,b,e,f,g,k,c,d⟩=>mkG 18 [some (.box [(lI .i64 s.n),(.ap 8 rIneq false a),(.ap 9 rStep false b),(.own 10),(.own 11),(.own 12),(.own 13),(.ap 14 rOElim false c)]),none,none,none,none,none,none,none,some (.arow rIneq false a),some (.arow rStep false b),some (.row (rSl rBig) false e),some (.row (rInt .i64) true f),some (.row rBig false g),some (.row rOItem false k),some (.arow rOElim false c),some (.box (Opn.cl rOItem false x2)),some (.box (Opn.cl rOItem false x3)),some (.row rOItem false r1.2.items)] [vp 0 0,vi 1 i,vi 2 j,vi 7 r1.1,vp 8 15,vp 9 16,vo 55 17,vi 56 (List.length r1.2.items:Int),vi 57 d]) ae [0,1,2,3,4,5,6,7,15,16,17,18,19,24,21,22,23,20] ?_
 rintro⟨a,b,e,f,g,k,c,d⟩ oo h a7
 rw[oequal_b1]at h
 refine cd h (fun ag h=>?_) (fun ag h=>?_)
 refine jn (fun x=>(Sum.inl x)) (fun⟨v,y,a8,a9,aa,ab,a0⟩=>mkG 18 [some (.box [(lI .i64 s.n),(.ap 8 rIneq false v),(.ap 9 rStep false y),(.own 10),(.own 11),(.own 12),(.own 13),(.ap 14 rOElim false a0)]),none,none,none,none,none,none,none,some (.arow rIneq false v),some (.arow rStep false y),some (.row (rSl rBig) false a8),some (.row (rInt .i64) true a9),some (.row rBig false aa),some (.row rOItem false ab),some (.arow rOElim false a0),some (.box (Opn.cl rOItem false x2)),some (.box (Opn.cl rOItem false x3)),some (.row rOItem false r1.2.items)] [vp 0 0,vi 1 i,vi 2 j,vi 7 r1.1,vp 8 15,vp 9 16,vo 55 17,vi 56 (List.length r1.2.items:Int),vi 57 d]) h (fun ar h ah=>?_) ?_
 refine bk ?_
 refine ixO h fun l h=>?_
 refine ldO ?_
 refine jn (fun x=>x) (fun ac=>mkG 19 [some (.box [(lI .i64 s.n),(.ap 8 rIneq false a),(.ap 9 rStep false b),(.own 10),(.own 11),(.own 12),(.own 13),(.ap 14 rOElim false c)]),none,none,none,none,none,none,none,some (.arow rIneq false a),some (.arow rStep false b),some (.row (rSl rBig) false e),some (.row (rInt .i64) true f),some (.row rBig false g),some (.row rOItem false k),some (.arow rOElim false c),some (.box (Opn.cl rOItem false x2)),some (.box (Opn.cl rOItem false x3)),some (.box (Opn.cl rOItem false l)),some (.row rOItem false r1.2.items)] [vp 0 0,vi 1 i,vi 2 j,vi 7 r1.1,vp 8 15,vp 9 16,vp 12 17,vo 55 18,vi 56 (List.length r1.2.items:Int),vi 57 d,vb 69 ac]) h (fun av h aw=>?_) ?_
 refine rg ?_
 refine gd h (fun ai h=>?_) (fun ai h=>?_)
 cases h
 exact bj _ [0,1,2,3,4,5,6,7,8,9,10,11,12,13,14,15,16,18,17]
 cases h
 exact bj _ [0,1,2,3,4,5,6,7,8,9,10,11,12,13,14,15,16,18,17]
 intro ac h
 try dsimp only at h
 refine cd h (fun aj h=>?_) (fun aj h=>?_)
 cases h
 exact bj _ [0,1,2,3,4,5,6,7,8,9,10,11,12,13,14,15,16,18]
 refine ixR h fun a1 h=>?_
 refine cl none [] 0 h (bSign_c N _) fun ax h=>?_
 refine cd h (fun ak h=>?_) (fun ak h=>?_)
 refine cl (some false) [0,8,9,10,11,12,13,14] 7 h (oadd_c N _ _) fun ay h=>?_
 cases h
 exact bj _ [0,1,2,3,4,5,6,7,20,21,22,23,24,25,26,15,16,18]
 refine cl (some false) [] 1 h (cloneBig_c N _) fun az h=>?_
 refine ixO h fun b0 h=>?_
 refine stO false h fun ad h=>?_
 refine cl none [] 0 h (bSign_c N _) fun al h=>?_
 refine jn (fun x=>x) (fun a2=>mkG 21 [some (.box [(lI .i64 s.n),(.ap 8 rIneq false a),(.ap 9 rStep false b),(.own 10),(.own 11),(.own 12),(.own 13),(.ap 14 rOElim false c)]),none,none,none,none,none,none,none,some (.arow rIneq false a),some (.arow rStep false b),some (.row (rSl rBig) false e),some (.row (rInt .i64) true f),some (.row rBig false g),some (.row rOItem false k),some (.arow rOElim false c),some (.box (Opn.cl rOItem false x2)),some (.box (Opn.cl rOItem false x3)),some (.box (Opn.cl rOItem false l)),some (.row rBig false ad),some (.box (Opn.cl rUse false a2)),some (.row rOItem false r1.2.items)] [vp 0 0,vi 1 i,vi 2 j,vi 7 r1.1,vp 8 15,vp 9 16,vp 12 17,vo 14 18,vp 15 19,vo 55 20,vi 56 (List.length r1.2.items:Int),vi 57 d]) h (fun b1 h b2=>?_) ?_
 refine sn (mkG 22 [some (.box [(lI .i64 s.n),(.ap 8 rIneq false a),(.ap 9 rStep false b),(.own 10),(.own 11),(.own 12),(.own 13),(.ap 14 rOElim false c)]),none,none,none,none,none,none,none,some (.arow rIneq false a),some (.arow rStep false b),some (.row (rSl rBig) false e),some (.row (rInt .i64) true f),some (.row rBig false g),some (.row rOItem false k),some (.arow rOElim false c),some (.box (Opn.cl rOItem false x2)),some (.box (Opn.cl rOItem false x3)),some (.box (Opn.cl rOItem false l)),some (.box (Opn.cl rBig false a1)),some (.row rBig false ad),some (.box [(lI .i64 x3.pos),(lB a1.Negative),(.ro (rInt .u32) false a1.Digits)]),some (.row rOItem false r1.2.items)] [vp 0 0,vi 1 i,vi 2 j,vi 7 r1.1,vp 8 15,vp 9 16,vp 12 17,vp 13 18,vo 14 19,vp 15 20,vo 55 21,vi 56 (List.length r1.2.items:Int),vi 57 d,vb 94 (decide ((al:Int)<0))]) [0,1,2,3,4,5,6,7,8,9,10,11,12,13,14,15,16,17,19,20,21,18] ?_
 refine cd h (fun am h=>?_) (fun am h=>?_)
 refine dr mixed ?_
 refine cl none [] 0 h (bNeg_c N _) fun b3 h=>?_
 refine dk ?_
 cases h
 exact bj _ [0,1,2,3,4,5,6,7,8,9,10,11,12,13,14,15,16,17,19,20,21]
 cases h
 exact bj _ [0,1,2,3,4,5,6,7,8,9,10,11,12,13,14,15,16,17,19,20,21]
 intro a2 h
 try dsimp only at h
 refine ps (fzq 18 [14] []) ?_
 refine dr mixed ?_
 refine cl none [] 0 h (bOf_c N _) fun an h=>?_
 refine litO rUse false [(Use.mk l.pos an),a2] ?_
 refine po (fzk 21 [107] []) ?_
 refine cl (some false) [0,8,9,10,11,12,13,14] 7 h (oput_c N _ _ _) fun b4 h=>?_
 refine dk ?_
 refine cd h (fun ao h=>?_) (fun ao h=>?_)
 cases h
 replace h:=ah
 try dsimp only at h
 cases h
 have h:=af
 rw[←a7 _ rfl]at h
 try dsimp only at h
 cases h
 exact rt [0,1,2,3,4,5,6,7,22,23,24,25,26,27,28]
 cases h
 exact bj _ [0,1,2,3,4,5,6,7,22,23,24,25,26,27,28,15,16,20]
 rintro⟨v,y,a8,a9,aa,ab,a0⟩ h
 try dsimp only at h
 cases h
 exact bl [0,1,2,3,4,5,6,7,8,9,10,11,12,13,14,15,16,17]
 cases h
 exact bj _ [0,1,2,3,4,5,6,7,8,9,10,11,12,13,14] (hx:=a7 _ rfl)
 rintro⟨o,p,a3,a4,a5,a6,q⟩ h
 try dsimp only at h
 cases h
 exact rt [0,1,2,3,4,5,6,7,8,9,10,11,12,13,14]
end Go.Proofs.YtipdkfmhfakbnaaGreatDoor.SV

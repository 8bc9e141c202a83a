/- Walks of the symbolic machine, written by a program of mine (wip/tool). -/
import Derived.Test.YtipdkfmhfakbnaaGreatDoorTB
import Derived.Test.YtipdkfmhfakbnaaGreatDoorAg
import Derived.Test.YtipdkfmhfakbnaaGreatDoorAe
import Derived.Test.YtipdkfmhfakbnaaGreatDoorSB
import Derived.Test.YtipdkfmhfakbnaaGreatDoorSP
import Derived.Test.YtipdkfmhfakbnaaGreatDoorSQ
set_option linter.unusedVariables false
set_option linter.unusedSimpArgs false
set_option linter.unusedSectionVars false
set_option maxRecDepth 100000
set_option maxHeartbeats 4000000
namespace Go.Proofs.YtipdkfmhfakbnaaGreatDoor.SV
open Go Go.RowKit Go.X Go.Q Go.D Go.Proofs.YtipdkfmhfakbnaaGreatDoor.TB Go.Proofs.YtipdkfmhfakbnaaGreatDoor.FS Go.Proofs.YtipdkfmhfakbnaaGreatDoor.SB Go.Proofs.YtipdkfmhfakbnaaGreatDoor.SP Go.Proofs.YtipdkfmhfakbnaaGreatDoor.SQ
theorem uF(N:Nat)(s:aR)(x:aY)(r:aB)(h:lU N s x=some r):Cx Tryz.prog 94 [.lf (.ptr 0 0),sA aH false x] [.box [(lI .i64 s.n),.ap 1 aE false s.known,.ap 2 aJ false s.steps,.own 3,.own 4,.own 5,.own 6,.ap 7 aM false s.stack],.aG aE false s.known,.aG aJ false s.steps,.row (aV aA) false s.u,.row (aD .i64) true s.status,.row aA false s.value,.row aH false s.items,.aG aM false s.stack] [(0,some (.box [(lI .i64 s.n),.ap 1 aE false s.known,.ap 2 aJ false s.steps,.own 3,.own 4,.own 5,.own 6,.ap 7 aM false s.stack])),(1,some (.aG aE false s.known)),(2,some (.aG aJ false s.steps)),(3,some (.row (aV aA) false s.u)),(4,some (.row (aD .i64) true s.status)),(5,some (.row aA false s.value)),(6,some (.row aH false s.items)),(7,some (.aG aM false s.stack))] [sA aA false r]:=by
 unfold lU at h
 refine fn tb D5 Tryz.func94 fun X w H ν=>?_
 refine dr mixed ?_
 refine ixA h fun x1 h=>?_
 refine ldA ?_
 refine dk ?_
 cases h
 exact rt [0,1,2,3,4,5,6,7]
theorem Ho(N:Nat)(s:aR)(x:aY)(r:aB)(h:xf N s x=some r):Cx Tryz.prog 94 [.lf (.ptr 0 0),sA aH false x] [.box [(lI .i64 s.n),(.ro aE false s.known),(.ro aJ false s.steps),(.ro (aV aA) false s.u),(.ro (aD .i64) false s.status),(.ro aA false s.value),(.ro aH false s.items),(.ro aM false s.stack)]] [(0,some (.box [(lI .i64 s.n),(.ro aE false s.known),(.ro aJ false s.steps),(.ro (aV aA) false s.u),(.ro (aD .i64) false s.status),(.ro aA false s.value),(.ro aH false s.items),(.ro aM false s.stack)]))] [sA aA false r]:=by
 unfold xf at h
 refine fn tb D5 Tryz.func94 fun X w H ν=>?_
 refine dr mixed ?_
 refine bF h fun x1 h=>?_
 refine dk ?_
 cases h
 exact rt [0]
theorem Ol(N:Nat)(s:aR)(cG:(List dR))(d:aB)(r:bB)(h:pV N s cG d=some r):Cx Tryz.prog 149 [.lf (.ptr 0 0),sR ej false cG,sA aA false d] [.box [(lI .i64 s.n),.ap 1 aE false s.known,.ap 2 aJ false s.steps,.own 3,.own 4,.own 5,.own 6,.ap 7 aM false s.stack],.aG aE false s.known,.aG aJ false s.steps,.row (aV aA) false s.u,.row (aD .i64) true s.status,.row aA false s.value,.row aH false s.items,.aG aM false s.stack] [(0,some (.box [(lI .i64 s.n),.ap 1 aE false s.known,.ap 2 aJ false s.steps,.own 3,.own 4,.own 5,.own 6,.ap 7 aM false s.stack])),(1,some (.aG aE false s.known)),(2,some (.aG aJ false s.steps)),(3,some (.row (aV aA) false s.u)),(4,some (.row (aD .i64) true s.status)),(5,some (.row aA false s.value)),(6,some (.row aH false s.items)),(7,some (.aG aM false s.stack))] [sA aE true r]:=by
 unfold pV at h
 refine fn tb Hj Tryz.func149 fun X w H ν=>?_
 refine gP aA h fun x1 h=>?_
 refine jn (fun x=>x) (fun⟨Coefs280,Bound281⟩=>aW 12 [.box [(lI .i64 s.n),(.ap 1 aE false s.known),(.ap 2 aJ false s.steps),(.own 3),(.own 4),(.own 5),(.own 6),(.ap 7 aM false s.stack)],.aG aE false s.known,.aG aJ false s.steps,.row (aV aA) false s.u,.row (aD .i64) true s.status,.row aA false s.value,.row aH false s.items,.aG aM false s.stack,.box (aO.cl aA false d),.box [lN,(lB false),lN],.box [(.own 11),(lB Bound281.bG),(.ro (aD .u32) true Bound281.aP)],.row aA true Coefs280] [vp 0 0,vp 5 8,vp 6 9,vp 7 10]) h (fun y g a0=>?_) ?_
 refine bk ?_
 refine lp (fun⟨Coefs138,Bound139,a⟩=>aW 12 [.box [(lI .i64 s.n),(.ap 1 aE false s.known),(.ap 2 aJ false s.steps),(.own 3),(.own 4),(.own 5),(.own 6),(.ap 7 aM false s.stack)],.aG aE false s.known,.aG aJ false s.steps,.row (aV aA) false s.u,.row (aD .i64) true s.status,.row aA false s.value,.row aH false s.items,.aG aM false s.stack,.box (aO.cl aA false d),.box [lN,(lB false),lN],.box [(.own 11),(lB Bound139.bG),(.ro (aD .u32) true Bound139.aP)],.row aA true Coefs138] [vp 0 0,vp 5 8,vp 6 9,vp 7 10,vr 19 ej false cG,vi 20 (List.length cG:Int),vi 21 a]) g [0,1,2,3,4,5,6,7,8,9,11,10] ?_
 rintro⟨Coefs138,Bound139,a⟩ oo h i
 rw[Bm]at h
 refine cd h (fun j h=>?_) (fun j h=>?_)
 refine bk ?_
 refine bF h fun b h=>?_
 refine dr mixed ?_
 refine ixA h fun c h=>?_
 refine ldA ?_
 refine dk ?_
 refine jn (fun x=>x) (fun Coefs397=>aW 14 [.box [(lI .i64 s.n),(.ap 1 aE false s.known),(.ap 2 aJ false s.steps),(.own 3),(.own 4),(.own 5),(.own 6),(.ap 7 aM false s.stack)],.aG aE false s.known,.aG aJ false s.steps,.row (aV aA) false s.u,.row (aD .i64) true s.status,.row aA false s.value,.row aH false s.items,.aG aM false s.stack,.box (aO.cl aA false d),.box [lN,(lB false),lN],.box [(.own 11),(lB Bound139.bG),(.ro (aD .u32) true Bound139.aP)],.row aA true Coefs397,.box (aO.cl ej false b),.box (aO.cl aE false c)] [vp 0 0,vp 5 8,vp 6 9,vp 7 10,vp 9 12,vp 10 13,vr 19 ej false cG,vi 20 (List.length cG:Int),vi 21 a]) h (fun a1 k a2=>?_) ?_
 refine bk ?_
 refine lp (fun⟨Coefs375,e⟩=>aW 14 [.box [(lI .i64 s.n),(.ap 1 aE false s.known),(.ap 2 aJ false s.steps),(.own 3),(.own 4),(.own 5),(.own 6),(.ap 7 aM false s.stack)],.aG aE false s.known,.aG aJ false s.steps,.row (aV aA) false s.u,.row (aD .i64) true s.status,.row aA false s.value,.row aH false s.items,.aG aM false s.stack,.box (aO.cl aA false d),.box [lN,(lB false),lN],.box [(.own 11),(lB Bound139.bG),(.ro (aD .u32) true Bound139.aP)],.row aA true Coefs375,.box (aO.cl ej false b),.box (aO.cl aE false c)] [vp 0 0,vp 5 8,vp 6 9,vp 7 10,vp 9 12,vp 10 13,vr 19 ej false cG,vi 20 (List.length cG:Int),vi 21 a,vi 35 (List.length Coefs138:Int),vi 36 e]) k [0,1,2,3,4,5,6,7,8,9,10,11,12,13] ?_
 rintro⟨Coefs375,e⟩ oo h l
 rw[xT]at h
 refine cd h (fun m h=>?_) (fun m h=>?_)
 refine bk ?_
 refine dr mixed ?_
 refine cy h fun a3 h=>?_
 refine dL ?_
 refine bF h fun a4 h=>?_
 refine cl none [] 0 h (l6 N _ _) fun a5 h=>?_
 refine cl none [] 0 h (jP N _ _) fun a6 h=>?_
 refine cy h fun a7 h=>?_
 refine dW true h fun a8 h=>?_
 refine dk ?_
 cases h
 exact bl [0,1,2,3,4,5,6,7,8,9,10,11,12,13]
 cases h
 exact bj _ [0,1,2,3,4,5,6,7,8,9,10,11,12,13] (hx:=l _ rfl)
 intro Coefs397 h
 try dsimp only at h
 refine dr mixed ?_
 refine cl none [] 0 h (l6 N _ _) fun a9 h=>?_
 refine cl none [] 0 h (jP N _ _) fun aa h=>?_
 refine dk ?_
 cases h
 exact bl [0,1,2,3,4,5,6,7,8,9,10,11]
 cases h
 exact bj _ [0,1,2,3,4,5,6,7,8,9,10,11] (hx:=i _ rfl)
 rintro⟨Coefs280,Bound281⟩ h
 try dsimp only at h
 refine jn (fun x=>x) (fun Coefs452=>aW 12 [.box [(lI .i64 s.n),(.ap 1 aE false s.known),(.ap 2 aJ false s.steps),(.own 3),(.own 4),(.own 5),(.own 6),(.ap 7 aM false s.stack)],.aG aE false s.known,.aG aJ false s.steps,.row (aV aA) false s.u,.row (aD .i64) true s.status,.row aA false s.value,.row aH false s.items,.aG aM false s.stack,.box (aO.cl aA false d),.box [lN,(lB false),lN],.box [(.own 11),(lB Bound281.bG),(.ro (aD .u32) true Bound281.aP)],.row aA true Coefs452] [vp 0 0,vp 5 8,vp 6 9,vp 7 10]) h (fun ab o ac=>?_) ?_
 refine bk ?_
 refine lp (fun⟨Coefs434,f⟩=>aW 12 [.box [(lI .i64 s.n),(.ap 1 aE false s.known),(.ap 2 aJ false s.steps),(.own 3),(.own 4),(.own 5),(.own 6),(.ap 7 aM false s.stack)],.aG aE false s.known,.aG aJ false s.steps,.row (aV aA) false s.u,.row (aD .i64) true s.status,.row aA false s.value,.row aH false s.items,.aG aM false s.stack,.box (aO.cl aA false d),.box [lN,(lB false),lN],.box [(.own 11),(lB Bound281.bG),(.ro (aD .u32) true Bound281.aP)],.row aA true Coefs434] [vp 0 0,vp 5 8,vp 6 9,vp 7 10,vi 70 (List.length Coefs280:Int),vi 71 f]) o [0,1,2,3,4,5,6,7,8,9,10,11] ?_
 rintro⟨Coefs434,f⟩ oo h p
 rw[wK]at h
 refine cd h (fun v h=>?_) (fun v h=>?_)
 refine bk ?_
 refine dr mixed ?_
 refine cy h fun ad h=>?_
 refine dL ?_
 refine cl none [] 0 h (lS N _ _) fun ae h=>?_
 refine cy h fun af h=>?_
 refine dW true h fun ag h=>?_
 refine dk ?_
 cases h
 exact bl [0,1,2,3,4,5,6,7,8,9,10,11]
 cases h
 exact bj _ [0,1,2,3,4,5,6,7,8,9,10,11] (hx:=p _ rfl)
 intro Coefs452 h
 try dsimp only at h
 refine cl none [] 0 h (lS N _ _) fun ah h=>?_
 cases h
 exact rt [0,1,2,3,4,5,6,7]
theorem R4(N:Nat)(s:aR)(g:(List aB))(cG:(List dR))(r:(aY×Bool×Bool×aR))(h:sb N s g cG=some r):Cx Tryz.prog 120 [.lf (.ptr 0 0),sR aA false g,sR ej false cG] [.box [(lI .i64 s.n),.ap 1 aE false s.known,.ap 2 aJ false s.steps,.own 3,.own 4,.own 5,.own 6,.ap 7 aM false s.stack],.aG aE false s.known,.aG aJ false s.steps,.row (aV aA) false s.u,.row (aD .i64) true s.status,.row aA false s.value,.row aH false s.items,.aG aM false s.stack] [(0,some (.box [(lI .i64 s.n),.ap 8 aE false r.2.2.2.known,.ap 9 aJ false r.2.2.2.steps,.own 10,.own 11,.own 12,.own 13,.ap 14 aM false r.2.2.2.stack])),(8,some (.aG aE false r.2.2.2.known)),(9,some (.aG aJ false r.2.2.2.steps)),(10,some (.row (aV aA) false r.2.2.2.u)),(11,some (.row (aD .i64) true r.2.2.2.status)),(12,some (.row aA false r.2.2.2.value)),(13,some (.row aH false r.2.2.2.items)),(14,some (.aG aM false r.2.2.2.stack))] [sA aH false r.1,sB r.2.1,sB r.2.2.1]:=by
 unfold sb at h
 refine iA (m:=8) tb (.comp (eG 0 1 1) (.comp (eG 0 2 2) (.comp (df 0 3 3) (.comp (df 0 4 4) (.comp (df 0 5 5) (.comp (df 0 6 6) (eG 0 7 7))))))) Mv Tryz.func120 fun X w H ν=>?_
 refine cl none [] 0 h (IC N _) fun r1 h=>?_
 refine cl none [] 0 h (ic N _) fun r2 h=>?_
 refine jn (fun x=>x) (fun d6=>cH 17 [some (.box [(lI .i64 s.n),(.ap 8 aE false s.known),(.ap 9 aJ false s.steps),(.own 10),(.own 11),(.own 12),(.own 13),(.ap 14 aM false s.stack)]),none,none,none,none,none,none,none,some (.aG aE false s.known),some (.aG aJ false s.steps),some (.row (aV aA) false s.u),some (.row (aD .i64) true s.status),some (.row aA false s.value),some (.row aH false s.items),some (.aG aM false s.stack),some (.box [(lI .i64 0),lN]),some (.box (aO.cl aA true d6))] [vp 0 0,vr 1 aA false g,vr 2 ej false cG,vp 6 15,vp 9 16,vb 10 (decide ((r2:Int)≠0))]) h (fun s7 h g8=>?_) ?_
 refine cd h (fun hc9 h=>?_) (fun hc9 h=>?_)
 refine cl none [] 0 h (gw N _) fun a5 h=>?_
 cases h
 exact bj _ [0,1,2,3,4,5,6,7,8,9,10,11,12,13,14,15,16]
 cases h
 exact bj _ [0,1,2,3,4,5,6,7,8,9,10,11,12,13,14,15,16]
 intro d6 h
 try dsimp only at h
 refine cl none [] 0 h (gw N _) fun c h=>?_
 refine jn (fun x=>x) (fun d=>cH 18 [some (.box [(lI .i64 s.n),(.ap 8 aE false s.known),(.ap 9 aJ false s.steps),(.own 10),(.own 11),(.own 12),(.own 13),(.ap 14 aM false s.stack)]),none,none,none,none,none,none,none,some (.aG aE false s.known),some (.aG aJ false s.steps),some (.row (aV aA) false s.u),some (.row (aD .i64) true s.status),some (.row aA false s.value),some (.row aH false s.items),some (.aG aM false s.stack),some (.box [(lI .i64 0),lN]),some (.box (aO.cl aA true d6)),some (.box (aO.cl aA true c))] [vp 0 0,vr 1 aA false g,vr 2 ej false cG,vp 6 15,vp 9 16,vb 10 (decide ((r2:Int)≠0)),vp 11 17,vb 40 d]) h (fun a6 h a7=>?_) ?_
 refine dr mixed ?_
 refine gd h (fun p h=>?_) (fun p h=>?_)
 refine dk ?_
 cases h
 exact bj _ [0,1,2,3,4,5,6,7,8,9,10,11,12,13,14,15,16,17]
 refine bF h fun a8 h=>?_
 refine cl none [] 0 h (jm N _ _) fun a9 h=>?_
 refine gd h (fun v h=>?_) (fun v h=>?_)
 refine dk ?_
 cases h
 exact bj _ [0,1,2,3,4,5,6,7,8,9,10,11,12,13,14,15,16,17]
 refine cl none [] 0 h (jm N _ _) fun aa h=>?_
 refine dk ?_
 cases h
 exact bj _ [0,1,2,3,4,5,6,7,8,9,10,11,12,13,14,15,16,17]
 intro d h
 try dsimp only at h
 refine jn (fun x=>x) (fun⟨a,b,e⟩=>cH 17 [some (.box [(lI .i64 s.n),(.ap 8 aE false a),(.ap 9 aJ false b),(.own 10),(.own 11),(.own 12),(.own 13),(.ap 14 aM false s.stack)]),none,none,none,none,none,none,none,some (.aG aE false a),some (.aG aJ false b),some (.row (aV aA) false s.u),some (.row (aD .i64) true s.status),some (.row aA false s.value),some (.row aH false s.items),some (.aG aM false s.stack),some (.box [(lI .i64 0),lN]),some (.box (aO.cl aA true d6))] [vp 0 0,vr 1 aA false g,vr 2 ej false e,vp 6 15,vp 9 16,vb 10 (decide ((r2:Int)≠0))]) h (fun ab h ac=>?_) ?_
 refine cd h (fun y h=>?_) (fun y h=>?_)
 refine dr mixed ?_
 refine de aJ false [(Step.mk cG d6)] ?_
 refine apA false h fun f h=>?_
 refine dk ?_
 refine ps (oa 0 2) ?_
 refine dr mixed ?_
 refine eV (some false) [0,8,19,10,11,12,13,14] h (Ol N _ _ _) fun a0 h=>?_
 refine de aE true [a0] ?_
 refine apA false h fun i h=>?_
 refine dk ?_
 refine sn (cH 18 [some (.box [(lI .i64 s.n),(.own 8),(.ap 9 aJ false f),(.own 10),(.own 11),(.own 12),(.own 13),(.ap 14 aM false s.stack)]),none,none,none,none,none,none,none,some (.row aE false i),some (.aG aJ false f),some (.row (aV aA) false s.u),some (.row (aD .i64) true s.status),some (.row aA false s.value),some (.row aH false s.items),some (.aG aM false s.stack),some (.box [(lI .i64 0),lN]),some (.box (aO.cl aA true d6)),some (.box (aO.cl aA true c))] [vp 0 0,vr 1 aA false g,vp 6 15,vp 9 16,vb 10 (decide ((r2:Int)≠0)),vp 11 17]) [0,1,2,3,4,5,6,7,21,19,10,11,12,13,14,15,16,17] ?_
 refine dr mixed ?_
 refine de ej true [(dR.mk (iw ((List.length i:Int)-1)) c)] ?_
 refine dk ?_
 cases h
 exact bj _ [0,1,2,3,4,5,6,7,8,9,10,11,12,13,14,15,16]
 cases h
 exact bj _ [0,1,2,3,4,5,6,7,8,9,10,11,12,13,14,15,16]
 rintro⟨a,b,e⟩ h
 try dsimp only at h
 refine dr mixed ?_
 refine bF h fun j h=>?_
 refine gP aA h fun ad h=>?_
 refine dk ?_
 refine jn (fun x=>x) (fun k=>cH 18 [some (.box [(lI .i64 s.n),(.ap 8 aE false a),(.ap 9 aJ false b),(.own 10),(.own 11),(.own 12),(.own 13),(.ap 14 aM false s.stack)]),none,none,none,none,none,none,none,some (.aG aE false a),some (.aG aJ false b),some (.row (aV aA) false s.u),some (.row (aD .i64) true s.status),some (.row aA false s.value),some (.row aH false s.items),some (.aG aM false s.stack),some (.box [(lI .i64 0),lN]),some (.box [(lI .i64 j.Index),(.own 17)]),some (.row aA true k)] [vp 0 0,vp 6 15,vb 10 (decide ((r2:Int)≠0)),vp 12 16]) h (fun ae a1 af=>?_) ?_
 refine bk ?_
 refine lp (fun⟨l,o⟩=>cH 19 [some (.box [(lI .i64 s.n),(.ap 8 aE false a),(.ap 9 aJ false b),(.own 10),(.own 11),(.own 12),(.own 13),(.ap 14 aM false s.stack)]),none,none,none,none,none,none,none,some (.aG aE false a),some (.aG aJ false b),some (.row (aV aA) false s.u),some (.row (aD .i64) true s.status),some (.row aA false s.value),some (.row aH false s.items),some (.aG aM false s.stack),some (.box [(lI .i64 0),lN]),some (.box (aO.cl aA true d6)),some (.box [(lI .i64 j.Index),(.own 18)]),some (.row aA true l)] [vp 0 0,vr 1 aA false g,vp 6 15,vp 9 16,vb 10 (decide ((r2:Int)≠0)),vp 12 17,vi 86 (List.length g:Int),vi 87 o]) a1 [0,1,2,3,4,5,6,7,8,9,10,11,12,13,14,15,16,18,17] ?_
 rintro⟨l,o⟩ oo h a2
 rw[yu]at h
 refine cd h (fun a3 h=>?_) (fun a3 h=>?_)
 refine bk ?_
 refine dr mixed ?_
 refine bF h fun ag h=>?_
 refine cl none [] 0 h (lS N _ _) fun ah h=>?_
 refine cy h fun ai h=>?_
 refine dW true h fun aj h=>?_
 refine dk ?_
 cases h
 exact bl [0,1,2,3,4,5,6,7,8,9,10,11,12,13,14,15,16,17,18]
 cases h
 exact bj _ [0,1,2,3,4,5,6,7,8,9,10,11,12,13,14,15,17,18] (hx:=a2 _ rfl)
 intro k h
 try dsimp only at h
 refine ps (dE 17 [] [16]) ?_
 refine dr mixed ?_
 refine gd h (fun a4 h=>?_) (fun a4 h=>?_)
 refine dk ?_
 cases h
 exact rt [0,1,2,3,4,5,6,7,8,9,10,11,12,13,14]
 refine eV (some false) [0,8,9,10,11,12,13,14] h (uF N _ _) fun ak h=>?_
 refine cl none [] 0 h (ic N _) fun al h=>?_
 refine dk ?_
 cases h
 exact rt [0,1,2,3,4,5,6,7,8,9,10,11,12,13,14]
theorem tQ(N:Nat)(s:aR)(x:aY)(r:aR)(h:kX N s x=some r):Cx Tryz.prog 96 [.lf (.ptr 0 0),sA aH false x] [.box [(lI .i64 s.n),.ap 1 aE false s.known,.ap 2 aJ false s.steps,.own 3,.own 4,.own 5,.own 6,.ap 7 aM false s.stack],.aG aE false s.known,.aG aJ false s.steps,.row (aV aA) false s.u,.row (aD .i64) true s.status,.row aA false s.value,.row aH false s.items,.aG aM false s.stack] [(0,some (.box [(lI .i64 s.n),.ap 8 aE false r.known,.ap 9 aJ false r.steps,.own 10,.own 11,.own 12,.own 13,.ap 14 aM false r.stack])),(8,some (.aG aE false r.known)),(9,some (.aG aJ false r.steps)),(10,some (.row (aV aA) false r.u)),(11,some (.row (aD .i64) true r.status)),(12,some (.row aA false r.value)),(13,some (.row aH false r.items)),(14,some (.aG aM false r.stack))] []:=by
 unfold kX at h
 refine iA (m:=8) tb (.comp (eG 0 1 1) (.comp (eG 0 2 2) (.comp (df 0 3 3) (.comp (df 0 4 4) (.comp (df 0 5 5) (.comp (df 0 6 6) (eG 0 7 7))))))) en96 Tryz.func96 fun X w H ν=>?_
 refine jn (fun x=>(Sum.inl x)) (fun(_:Unit)=>cH 16 [some (.box [(lI .i64 s.n),(.ap 8 aE false s.known),(.ap 9 aJ false s.steps),(.own 10),(.own 11),(.own 12),(.own 13),(.ap 14 aM false s.stack)]),none,none,none,none,none,none,none,some (.aG aE false s.known),some (.aG aJ false s.steps),some (.row (aV aA) false s.u),some (.row (aD .i64) true s.status),some (.row aA false s.value),some (.row aH false s.items),some (.aG aM false s.stack),some (.box (aO.cl aH false x))] [vp 0 0,vp 3 15]) h (fun j d b=>?_) ?_
 refine bk ?_
 refine lp (fun c=>cH 16 [some (.box [(lI .i64 s.n),(.ap 8 aE false s.known),(.ap 9 aJ false s.steps),(.own 10),(.own 11),(.own 12),(.own 13),(.ap 14 aM false s.stack)]),none,none,none,none,none,none,none,some (.aG aE false s.known),some (.aG aJ false s.steps),some (.row (aV aA) false s.u),some (.row (aD .i64) true s.status),some (.row aA false s.value),some (.row aH false s.items),some (.aG aM false s.stack),some (.box (aO.cl aH false x))] [vp 0 0,vp 3 15,vo 9 13,vi 10 (List.length s.items:Int),vi 11 c]) d [0,1,2,3,4,5,6,7,8,9,10,11,12,13,14,15] ?_
 rintro c oo h a
 rw[yY]at h
 refine cd h (fun e h=>?_) (fun e h=>?_)
 refine bk ?_
 refine cy h fun k h=>?_
 refine dL ?_
 refine clF none [] 0 h (I7 N _ _ _) (.s (.s (.f (fun x:aB×aB=>[sA aA false x.1,sA aA false x.2]) (fun r:Bool=>[sB r]) (fun x=>qn N x.1 x.2) (fun x r h=>HY N x.1 x.2 r h) Fg .n))) fun l h=>?_
 refine cd h (fun g h=>?_) (fun g h=>?_)
 refine dr mixed ?_
 refine eV (some false) [0,8,9,10,11,12,13,14] h (uF N _ _) fun o h=>?_
 refine eV (some false) [0,8,9,10,11,12,13,14] h (uF N _ _) fun p h=>?_
 refine cl none [] 0 h (jm N _ _) fun v h=>?_
 refine dk ?_
 refine cd h (fun i h=>?_) (fun i h=>?_)
 refine dr mixed ?_
 refine cy h fun y h=>?_
 refine dW false h fun a0 h=>?_
 refine dk ?_
 cases h
 have h:=b
 rw[<-a _ rfl]at h
 try dsimp only at h
 cases h
 exact rt [0,1,2,3,4,5,6,7,8,9,10,11,12,13,14]
 cases h
 have h:=b
 rw[<-a _ rfl]at h
 try dsimp only at h
 cases h
 exact rt [0,1,2,3,4,5,6,7,8,9,10,11,12,13,14]
 cases h
 exact bl [0,1,2,3,4,5,6,7,8,9,10,11,12,13,14,15]
 cases h
 exact bj _ [0,1,2,3,4,5,6,7,8,9,10,11,12,13,14,15] (hx:=a _ rfl)
 intro _ h
 try dsimp only at h
 refine dr mixed ?_
 refine de aH false [x] ?_
 refine dQ false h fun a1 h=>?_
 refine dk ?_
 cases h
 exact rt [0,1,2,3,4,5,6,7,8,9,10,11,12,17,14]
theorem CL(N:Nat)(s:aR)(g:(List aB))(cG:(List dR))(r:(Bool×aR))(h:mY N s g cG=some r):Cx Tryz.prog 91 [.lf (.ptr 0 0),sR aA false g,sR ej false cG] [.box [(lI .i64 s.n),.ap 1 aE false s.known,.ap 2 aJ false s.steps,.own 3,.own 4,.own 5,.own 6,.ap 7 aM false s.stack],.aG aE false s.known,.aG aJ false s.steps,.row (aV aA) false s.u,.row (aD .i64) true s.status,.row aA false s.value,.row aH false s.items,.aG aM false s.stack] [(0,some (.box [(lI .i64 s.n),.ap 8 aE false r.2.known,.ap 9 aJ false r.2.steps,.own 10,.own 11,.own 12,.own 13,.ap 14 aM false r.2.stack])),(8,some (.aG aE false r.2.known)),(9,some (.aG aJ false r.2.steps)),(10,some (.row (aV aA) false r.2.u)),(11,some (.row (aD .i64) true r.2.status)),(12,some (.row aA false r.2.value)),(13,some (.row aH false r.2.items)),(14,some (.aG aM false r.2.stack))] [sB r.1]:=by
 unfold mY at h
 refine iA (m:=8) tb (.comp (eG 0 1 1) (.comp (eG 0 2 2) (.comp (df 0 3 3) (.comp (df 0 4 4) (.comp (df 0 5 5) (.comp (df 0 6 6) (eG 0 7 7))))))) en91 Tryz.func91 fun X w H ν=>?_
 refine cl (some false) [0,8,9,10,11,12,13,14] 7 h (R4 N _ _ _) fun r1 h=>?_
 refine jn (fun x=>x) (fun⟨known5,steps6,u7,status8,value9,b,a⟩=>cH 15 [some (.box [(lI .i64 s.n),(.ap 8 aE false known5),(.ap 9 aJ false steps6),(.own 10),(.own 11),(.own 12),(.own 13),(.ap 14 aM false a)]),none,none,none,none,none,none,none,some (.aG aE false known5),some (.aG aJ false steps6),some (.row (aV aA) false u7),some (.row (aD .i64) true status8),some (.row aA false value9),some (.row aH false b),some (.aG aM false a)] [vp 0 0,vb 9 r1.2.2.1]) h (fun d h e=>?_) ?_
 refine cd h (fun c h=>?_) (fun c h=>?_)
 refine cl (some false) [0,15,16,17,18,19,20,21] 7 h (tQ N _ _) fun f h=>?_
 cases h
 exact bj _ [0,1,2,3,4,5,6,7,23,24,25,26,27,28,29]
 cases h
 exact bj _ [0,1,2,3,4,5,6,7,15,16,17,18,19,20,21]
 rintro⟨known5,steps6,u7,status8,value9,b,a⟩ h
 try dsimp only at h
 cases h
 exact rt [0,1,2,3,4,5,6,7,8,9,10,11,12,13,14]
theorem R8(N:Nat)(s:aR)(r:(Bool×aR))(h:ur N s=some r):Cx Tryz.prog 63 [.lf (.ptr 0 0)] [.box [(lI .i64 s.n),.ap 1 aE false s.known,.ap 2 aJ false s.steps,.own 3,.own 4,.own 5,.own 6,.ap 7 aM false s.stack],.aG aE false s.known,.aG aJ false s.steps,.row (aV aA) false s.u,.row (aD .i64) true s.status,.row aA false s.value,.row aH false s.items,.aG aM false s.stack] [(0,some (.box [(lI .i64 s.n),.ap 8 aE false r.2.known,.ap 9 aJ false r.2.steps,.own 10,.own 11,.own 12,.own 13,.ap 14 aM false r.2.stack])),(8,some (.aG aE false r.2.known)),(9,some (.aG aJ false r.2.steps)),(10,some (.row (aV aA) false r.2.u)),(11,some (.row (aD .i64) true r.2.status)),(12,some (.row aA false r.2.value)),(13,some (.row aH false r.2.items)),(14,some (.aG aM false r.2.stack))] [sB r.1]:=by
 unfold ur at h
 refine iA (m:=8) tb (.comp (eG 0 1 1) (.comp (eG 0 2 2) (.comp (df 0 3 3) (.comp (df 0 4 4) (.comp (df 0 5 5) (.comp (df 0 6 6) (eG 0 7 7))))))) en63 Tryz.func63 fun X w H ν=>?_
 refine jn (fun x=>(Sum.inl x)) (fun⟨a,b,i,j,k,l,c⟩=>cH 15 [some (.box [(lI .i64 s.n),(.ap 8 aE false a),(.ap 9 aJ false b),(.own 10),(.own 11),(.own 12),(.own 13),(.ap 14 aM false c)]),none,none,none,none,none,none,none,some (.aG aE false a),some (.aG aJ false b),some (.row (aV aA) false i),some (.row (aD .i64) true j),some (.row aA false k),some (.row aH false l),some (.aG aM false c)] [vp 0 0]) h (fun a6 a1 a2=>?_) ?_
 refine bk ?_
 refine lp (fun⟨d,e,o,p,v,y,f,g⟩=>cH 15 [some (.box [(lI .i64 s.n),(.ap 8 aE false d),(.ap 9 aJ false e),(.own 10),(.own 11),(.own 12),(.own 13),(.ap 14 aM false f)]),none,none,none,none,none,none,none,some (.aG aE false d),some (.aG aJ false e),some (.row (aV aA) false o),some (.row (aD .i64) true p),some (.row aA false v),some (.row aH false y),some (.aG aM false f)] [vp 0 0,vi 9 (List.length s.known:Int),vi 10 g]) a1 [0,1,2,3,4,5,6,7,8,9,10,11,12,13,14] ?_
 rintro⟨d,e,o,p,v,y,f,g⟩ oo h a0
 rw[CK]at h
 refine cd h (fun a3 h=>?_) (fun a3 h=>?_)
 refine bk ?_
 refine ixA h fun a7 h=>?_
 refine ldA ?_
 refine cl (some false) [] 1 h (xn N _) fun a8 h=>?_
 refine cl none [] 0 h (gw N _) fun a4 h=>?_
 refine de ej true [(dR.mk g a4)] ?_
 refine po (dE 15 [4,21,23] []) ?_
 refine po (dE 16 [27] []) ?_
 refine cl (some false) [0,8,9,10,11,12,13,14] 7 h (CL N _ _ _) fun a9 h=>?_
 refine cd h (fun a5 h=>?_) (fun a5 h=>?_)
 cases h
 have h:=a2
 rw[<-a0 _ rfl]at h
 try dsimp only at h
 cases h
 exact rt [0,1,2,3,4,5,6,7,17,18,19,20,21,22,23]
 cases h
 exact bl [0,1,2,3,4,5,6,7,17,18,19,20,21,22,23]
 cases h
 exact bj _ [0,1,2,3,4,5,6,7,8,9,10,11,12,13,14] (hx:=a0 _ rfl)
 rintro⟨a,b,i,j,k,l,c⟩ h
 try dsimp only at h
 cases h
 exact rt [0,1,2,3,4,5,6,7,8,9,10,11,12,13,14]
theorem UT(N:Nat)(s:aR)(r:(Int×Int×Bool×Bool×aR))(h:ud N s=some r):Cx Tryz.prog 64 [.lf (.ptr 0 0)] [.box [(lI .i64 s.n),.ap 1 aE false s.known,.ap 2 aJ false s.steps,.own 3,.own 4,.own 5,.own 6,.ap 7 aM false s.stack],.aG aE false s.known,.aG aJ false s.steps,.row (aV aA) false s.u,.row (aD .i64) true s.status,.row aA false s.value,.row aH false s.items,.aG aM false s.stack] [(0,some (.box [(lI .i64 s.n),.ap 8 aE false r.2.2.2.2.known,.ap 9 aJ false r.2.2.2.2.steps,.own 10,.own 11,.own 12,.own 13,.ap 14 aM false r.2.2.2.2.stack])),(8,some (.aG aE false r.2.2.2.2.known)),(9,some (.aG aJ false r.2.2.2.2.steps)),(10,some (.row (aV aA) false r.2.2.2.2.u)),(11,some (.row (aD .i64) true r.2.2.2.2.status)),(12,some (.row aA false r.2.2.2.2.value)),(13,some (.row aH false r.2.2.2.2.items)),(14,some (.aG aM false r.2.2.2.2.stack))] [sI .i64 r.1,sI .i64 r.2.1,sB r.2.2.1,sB r.2.2.2.1]:=by
 unfold ud at h
 refine iA (m:=8) tb (.comp (eG 0 1 1) (.comp (eG 0 2 2) (.comp (df 0 3 3) (.comp (df 0 4 4) (.comp (df 0 5 5) (.comp (df 0 6 6) (eG 0 7 7))))))) en64 Tryz.func64 fun X w H ν=>?_
 refine mkM inferInstance ((fun x:List UInt8=>Value.string (s8 x))) ((fun x:Int=>Value.int .i64 x)) ?_
 refine jn (fun x=>x) (fun a=>cH 16 [some (.box [(lI .i64 s.n),(.ap 8 aE false s.known),(.ap 9 aJ false s.steps),(.own 10),(.own 11),(.own 12),(.own 13),(.ap 14 aM false s.stack)]),none,none,none,none,none,none,none,some (.aG aE false s.known),some (.aG aJ false s.steps),some (.row (aV aA) false s.u),some (.row (aD .i64) true s.status),some (.row aA false s.value),some (.row aH false s.items),some (.aG aM false s.stack),some (.map inferInstance ((fun x:List UInt8=>Value.string (s8 x))) ((fun x:Int=>Value.int .i64 x)) a)] [vp 0 0,vl 6 (.mp 15)]) h (fun a8 l a9=>?_) ?_
 refine bk ?_
 refine lp (fun⟨e,c⟩=>cH 16 [some (.box [(lI .i64 s.n),(.ap 8 aE false s.known),(.ap 9 aJ false s.steps),(.own 10),(.own 11),(.own 12),(.own 13),(.ap 14 aM false s.stack)]),none,none,none,none,none,none,none,some (.aG aE false s.known),some (.aG aJ false s.steps),some (.row (aV aA) false s.u),some (.row (aD .i64) true s.status),some (.row aA false s.value),some (.row aH false s.items),some (.aG aM false s.stack),some (.map inferInstance ((fun x:List UInt8=>Value.string (s8 x))) ((fun x:Int=>Value.int .i64 x)) e)] [vp 0 0,vl 6 (.mp 15),vo 17 13,vi 18 (List.length s.items:Int),vi 19 c]) l [0,1,2,3,4,5,6,7,8,9,10,11,12,13,14,15] ?_
 rintro⟨e,c⟩ oo h o
 rw[DI]at h
 refine cd h (fun p h=>?_) (fun p h=>?_)
 refine bk ?_
 refine cy h fun aa h=>?_
 refine dL ?_
 refine cl none [] 0 h (LZ N _) fun v h=>?_
 refine puM v c J7 ?_
 cases h
 exact bl [0,1,2,3,4,5,6,7,8,9,10,11,12,13,14,15]
 cases h
 exact bj _ [0,1,2,3,4,5,6,7,8,9,10,11,12,13,14,15] (hx:=o _ rfl)
 intro a h
 try dsimp only at h
 refine jn (fun x=>(Sum.inl x)) (fun(_:Unit)=>cH 15 [some (.box [(lI .i64 s.n),(.ap 8 aE false s.known),(.ap 9 aJ false s.steps),(.own 10),(.own 11),(.own 12),(.own 13),(.ap 14 aM false s.stack)]),none,none,none,none,none,none,none,some (.aG aE false s.known),some (.aG aJ false s.steps),some (.row (aV aA) false s.u),some (.row (aD .i64) true s.status),some (.row aA false s.value),some (.row aH false s.items),some (.aG aM false s.stack)] [vp 0 0]) h (fun ab y f=>?_) ?_
 refine bk ?_
 refine lp (fun b=>cH 16 [some (.box [(lI .i64 s.n),(.ap 8 aE false s.known),(.ap 9 aJ false s.steps),(.own 10),(.own 11),(.own 12),(.own 13),(.ap 14 aM false s.stack)]),none,none,none,none,none,none,none,some (.aG aE false s.known),some (.aG aJ false s.steps),some (.row (aV aA) false s.u),some (.row (aD .i64) true s.status),some (.row aA false s.value),some (.row aH false s.items),some (.aG aM false s.stack),some (.map inferInstance ((fun x:List UInt8=>Value.string (s8 x))) ((fun x:Int=>Value.int .i64 x)) a)] [vp 0 0,vl 6 (.mp 15),vo 33 13,vi 34 (List.length s.items:Int),vi 35 b]) y [0,1,2,3,4,5,6,7,8,9,10,11,12,13,14,15] ?_
 rintro b oo h d
 rw[EU]at h
 refine cd h (fun a0 h=>?_) (fun a0 h=>?_)
 refine jn (fun x=>(Sum.inl x)) (fun(_:Unit)=>cH 16 [some (.box [(lI .i64 s.n),(.ap 8 aE false s.known),(.ap 9 aJ false s.steps),(.own 10),(.own 11),(.own 12),(.own 13),(.ap 14 aM false s.stack)]),none,none,none,none,none,none,none,some (.aG aE false s.known),some (.aG aJ false s.steps),some (.row (aV aA) false s.u),some (.row (aD .i64) true s.status),some (.row aA false s.value),some (.row aH false s.items),some (.aG aM false s.stack),some (.map inferInstance ((fun x:List UInt8=>Value.string (s8 x))) ((fun x:Int=>Value.int .i64 x)) a)] [vp 0 0,vl 6 (.mp 15),vo 33 13,vi 34 (List.length s.items:Int),vi 35 b]) h (fun ac h g=>?_) ?_
 refine bk ?_
 refine cy h fun i h=>?_
 refine dL ?_
 refine cl none [] 1 h (rD N _) fun ad h=>?_
 refine cl none [] 0 h (LZ N _) fun j h=>?_
 refine luM (0:Int) j J7 (fun _=>rfl) ?_
 refine jn (fun x=>x) (fun k=>cH 17 [some (.box [(lI .i64 s.n),(.ap 8 aE false s.known),(.ap 9 aJ false s.steps),(.own 10),(.own 11),(.own 12),(.own 13),(.ap 14 aM false s.stack)]),none,none,none,none,none,none,none,some (.aG aE false s.known),some (.aG aJ false s.steps),some (.row (aV aA) false s.u),some (.row (aD .i64) true s.status),some (.row aA false s.value),some (.row aH false s.items),some (.aG aM false s.stack),some (.map inferInstance ((fun x:List UInt8=>Value.string (s8 x))) ((fun x:Int=>Value.int .i64 x)) a),some (.box (aO.cl aH false i))] [vp 0 0,vl 6 (.mp 15),vi 9 b,vp 10 16,vi 11 ((fx a j 0).1),vo 33 13,vi 34 (List.length s.items:Int),vi 35 b,vb 55 k]) h (fun ae h af=>?_) ?_
 refine rg ?_
 refine gd h (fun a1 h=>?_) (fun a1 h=>?_)
 cases h
 exact bj _ [0,1,2,3,4,5,6,7,8,9,10,11,12,13,14,15,16]
 cases h
 exact bj _ [0,1,2,3,4,5,6,7,8,9,10,11,12,13,14,15,16]
 intro k h
 try dsimp only at h
 refine cd h (fun a2 h=>?_) (fun a2 h=>?_)
 cases h
 exact bj _ [0,1,2,3,4,5,6,7,8,9,10,11,12,13,14,15]
 refine dr mixed ?_
 refine eV (some false) [0,8,9,10,11,12,13,14] h (uF N _ _) fun ag h=>?_
 refine cy h fun ah h=>?_
 refine dL ?_
 refine eV (some false) [0,8,9,10,11,12,13,14] h (uF N _ _) fun ai h=>?_
 refine cl none [] 0 h (jP N _ _) fun aj h=>?_
 refine cl none [] 0 h (ic N _) fun ak h=>?_
 refine dk ?_
 refine bk ?_
 refine cd h (fun a3 h=>?_) (fun a3 h=>?_)
 refine dr mixed ?_
 refine gP aA h fun al h=>?_
 refine cl none [] 0 h (gw N _) fun a4 h=>?_
 refine cy h fun a5 h=>?_
 refine dL ?_
 refine cl none [] 0 h (gw N _) fun a6 h=>?_
 refine de ej true [(dR.mk i.pos a4),(dR.mk a5.pos a6)] ?_
 refine po (jH 17 [77] []) ?_
 refine po (jH 18 [92] []) ?_
 refine cl (some false) [0,8,9,10,11,12,13,14] 7 h (CL N _ _ _) fun am h=>?_
 refine dk ?_
 cases h
 replace h:=g
 try dsimp only at h
 cases h
 have h:=f
 rw[<-d _ rfl]at h
 try dsimp only at h
 cases h
 exact rt [0,1,2,3,4,5,6,7,19,20,21,22,23,24,25]
 refine cd h (fun a7 h=>?_) (fun a7 h=>?_)
 cases h
 replace h:=g
 try dsimp only at h
 cases h
 have h:=f
 rw[<-d _ rfl]at h
 try dsimp only at h
 cases h
 exact rt [0,1,2,3,4,5,6,7,8,9,10,11,12,13,14]
 cases h
 exact bj _ [0,1,2,3,4,5,6,7,8,9,10,11,12,13,14,15]
 intro _ h
 try dsimp only at h
 cases h
 exact bl [0,1,2,3,4,5,6,7,8,9,10,11,12,13,14,15]
 cases h
 exact bj _ [0,1,2,3,4,5,6,7,8,9,10,11,12,13,14] (hx:=d _ rfl)
 intro _ h
 try dsimp only at h
 cases h
 exact rt [0,1,2,3,4,5,6,7,8,9,10,11,12,13,14]
theorem Oe(N:Nat)(l:(List aB))(c0:Int)(c1:aB)(c2:Int)(r:(List aB))(h:mj N l c0 c1 c2=some r):Cx Tryz.prog 156 [sR aA false l,.lf (.pd (oC false [(lI .i64 c0)])),.lf (.pd (oC false [(lB c1.bG),(.ro (aD .u32) false c1.aP)])),.lf (.pd (oC false [(lI .i64 c2)]))] [] [] [sR aA false r]:=by
 unfold mj at h
 refine iA (m:=0) tb (.comp (rq 1) (.comp (rq 2) (rq 3))) GQ Tryz.func156 fun X w H ν=>?_
 refine cl (some false) [] 1 h (xn N _) fun r1 h=>?_
 refine dr mixed ?_
 refine cy h fun x2 h=>?_
 refine dL ?_
 refine cy h fun x3 h=>?_
 refine dL ?_
 refine cl none [] 0 h (l6 N _ _) fun r4 h=>?_
 refine cl none [] 0 h (kN N _ _) fun r5 h=>?_
 refine cy h fun x6 h=>?_
 refine dW false h fun x7 h=>?_
 refine dk ?_
 cases h
 exact rt []
theorem Tq(N:Nat)(l:(List aB))(c0:Int)(r:(List aB))(h:mh N l c0=some r):Cx Tryz.prog 157 [sR aA false l,.lf (.pd (oC false [(lI .i64 c0)]))] [] [] [sR aA false r]:=by
 unfold mh at h
 refine iA (m:=0) tb (rq 1) Iy Tryz.func157 fun X w H ν=>?_
 refine cl (some false) [] 1 h (xn N _) fun r1 h=>?_
 refine dr mixed ?_
 refine cy h fun x2 h=>?_
 refine dL ?_
 refine cl none [] 0 h (ld N _) fun r3 h=>?_
 refine cy h fun x4 h=>?_
 refine dW false h fun x5 h=>?_
 refine dk ?_
 cases h
 exact rt []
theorem Si(N:Nat)(s:aR)(j:Int)(p:Int)(q:aB)(r:aR)(h:we N s j p q=some r):Cx Tryz.prog 124 [.lf (.ptr 0 0),sI .i64 j,sI .i64 p,sA aA false q] [.box [(lI .i64 s.n),.ap 1 aE false s.known,.ap 2 aJ false s.steps,.own 3,.own 4,.own 5,.own 6,.ap 7 aM false s.stack],.aG aE false s.known,.aG aJ false s.steps,.row (aV aA) false s.u,.row (aD .i64) true s.status,.row aA false s.value,.row aH false s.items,.aG aM false s.stack] [(0,some (.box [(lI .i64 s.n),.ap 8 aE false r.known,.ap 9 aJ false r.steps,.own 10,.own 11,.own 12,.own 13,.ap 14 aM false r.stack])),(8,some (.aG aE false r.known)),(9,some (.aG aJ false r.steps)),(10,some (.row (aV aA) false r.u)),(11,some (.row (aD .i64) true r.status)),(12,some (.row aA false r.value)),(13,some (.row aH false r.items)),(14,some (.aG aM false r.stack))] []:=by
 unfold we at h
 refine iA (m:=8) tb (.comp (eG 0 1 1) (.comp (eG 0 2 2) (.comp (df 0 3 3) (.comp (df 0 4 4) (.comp (df 0 5 5) (.comp (df 0 6 6) (eG 0 7 7))))))) en124 Tryz.func124 fun X w H ν=>?_
 refine po (rC 15 5) ?_
 refine po (rC 17 7) ?_
 refine po (rC 16 6) ?_
 refine mkF (fun x:(List aB)=>[sR aA false x]) (fun r:(List aB)=>[sR aA false r]) (fun xx=>mj N xx j q p) (fun xx r h=>Oe N xx j q p r h) GQ ?_
 refine jn (fun x=>x) (fun a=>cH 15 [some (.box [(lI .i64 s.n),(.ap 8 aE false s.known),(.ap 9 aJ false s.steps),(.own 10),(.own 11),(.own 12),(.own 13),(.ap 14 aM false s.stack)]),none,none,none,none,none,none,none,some (.aG aE false s.known),some (.aG aJ false s.steps),some (.row (aV aA) false a),some (.row (aD .i64) true s.status),some (.row aA false s.value),some (.row aH false s.items),some (.aG aM false s.stack)] [vp 0 0,vl 8 (.pd (iF Tryz.prog (fun x:(List aB)=>[sR aA false x]) (fun r:(List aB)=>[sR aA false r]) (fun y0=>mj N y0 j q p)))]) h (fun a2 i a3=>?_) ?_
 refine bk ?_
 refine lp (fun⟨b,c⟩=>cH 15 [some (.box [(lI .i64 s.n),(.ap 8 aE false s.known),(.ap 9 aJ false s.steps),(.own 10),(.own 11),(.own 12),(.own 13),(.ap 14 aM false s.stack)]),none,none,none,none,none,none,none,some (.aG aE false s.known),some (.aG aJ false s.steps),some (.row (aV aA) false b),some (.row (aD .i64) true s.status),some (.row aA false s.value),some (.row aH false s.items),some (.aG aM false s.stack)] [vp 0 0,vl 8 (.pd (iF Tryz.prog (fun x:(List aB)=>[sR aA false x]) (fun r:(List aB)=>[sR aA false r]) (fun y0=>mj N y0 j q p))),vi 16 (List.length s.u:Int),vi 17 c]) i [0,1,2,3,4,5,6,7,8,9,10,11,12,13,14] ?_
 rintro⟨b,c⟩ oo h k
 rw[y7]at h
 refine cd h (fun l h=>?_) (fun l h=>?_)
 refine bk ?_
 refine dr mixed ?_
 refine cy h fun o h=>?_
 refine dL ?_
 refine vH (g:=(fun y0=>mj N y0 j q p)) o h fun a4 h=>?_
 refine cy h fun a5 h=>?_
 refine dW false h fun a6 h=>?_
 refine dk ?_
 cases h
 exact bl [0,1,2,3,4,5,6,7,8,9,10,11,12,13,14]
 cases h
 exact bj _ [0,1,2,3,4,5,6,7,8,9,10,11,12,13,14] (hx:=k _ rfl)
 intro a h
 try dsimp only at h
 refine jn (fun x=>x) (fun d=>cH 15 [some (.box [(lI .i64 s.n),(.ap 8 aE false s.known),(.ap 9 aJ false s.steps),(.own 10),(.own 11),(.own 12),(.own 13),(.ap 14 aM false s.stack)]),none,none,none,none,none,none,none,some (.aG aE false s.known),some (.aG aJ false s.steps),some (.row (aV aA) false a),some (.row (aD .i64) true s.status),some (.row aA false s.value),some (.row aH false d),some (.aG aM false s.stack)] [vp 0 0]) h (fun a7 v a8=>?_) ?_
 refine bk ?_
 refine lp (fun⟨e,f⟩=>cH 15 [some (.box [(lI .i64 s.n),(.ap 8 aE false s.known),(.ap 9 aJ false s.steps),(.own 10),(.own 11),(.own 12),(.own 13),(.ap 14 aM false s.stack)]),none,none,none,none,none,none,none,some (.aG aE false s.known),some (.aG aJ false s.steps),some (.row (aV aA) false a),some (.row (aD .i64) true s.status),some (.row aA false s.value),some (.row aH false e),some (.aG aM false s.stack)] [vp 0 0,vl 8 (.pd (iF Tryz.prog (fun x:(List aB)=>[sR aA false x]) (fun r:(List aB)=>[sR aA false r]) (fun y0=>mj N y0 j q p))),vi 40 (List.length s.items:Int),vi 41 f]) v [0,1,2,3,4,5,6,7,8,9,10,11,12,13,14] ?_
 rintro⟨e,f⟩ oo h y
 rw[Bz]at h
 refine cd h (fun a0 h=>?_) (fun a0 h=>?_)
 refine bk ?_
 refine dr mixed ?_
 refine jC h fun a1 a9 h=>?_
 refine dL ?_
 refine vH (g:=(fun y0=>mj N y0 j q p)) a1.g h fun aa h=>?_
 refine jC h fun ab ac h=>?_
 refine stP h (fun ad h=>?_) (by assumption)
 refine dk ?_
 cases h
 exact bl [0,1,2,3,4,5,6,7,8,9,10,11,12,13,14]
 cases h
 exact bj _ [0,1,2,3,4,5,6,7,8,9,10,11,12,13,14] (hx:=y _ rfl)
 intro d h
 try dsimp only at h
 cases h
 exact rt [0,1,2,3,4,5,6,7,8,9,10,11,12,13,14]
theorem Nt(N:Nat)(s:aR)(p:Int)(r:aR)(h:wE N s p=some r):Cx Tryz.prog 125 [.lf (.ptr 0 0),sI .i64 p] [.box [(lI .i64 s.n),.ap 1 aE false s.known,.ap 2 aJ false s.steps,.own 3,.own 4,.own 5,.own 6,.ap 7 aM false s.stack],.aG aE false s.known,.aG aJ false s.steps,.row (aV aA) false s.u,.row (aD .i64) true s.status,.row aA false s.value,.row aH false s.items,.aG aM false s.stack] [(0,some (.box [(lI .i64 s.n),.ap 8 aE false r.known,.ap 9 aJ false r.steps,.own 10,.own 11,.own 12,.own 13,.ap 14 aM false r.stack])),(8,some (.aG aE false r.known)),(9,some (.aG aJ false r.steps)),(10,some (.row (aV aA) false r.u)),(11,some (.row (aD .i64) true r.status)),(12,some (.row aA false r.value)),(13,some (.row aH false r.items)),(14,some (.aG aM false r.stack))] []:=by
 unfold wE at h
 refine iA (m:=8) tb (.comp (eG 0 1 1) (.comp (eG 0 2 2) (.comp (df 0 3 3) (.comp (df 0 4 4) (.comp (df 0 5 5) (.comp (df 0 6 6) (eG 0 7 7))))))) en125 Tryz.func125 fun X w H ν=>?_
 refine po (rC 15 3) ?_
 refine mkF (fun x:(List aB)=>[sR aA false x]) (fun r:(List aB)=>[sR aA false r]) (fun xx=>mh N xx p) (fun xx r h=>Tq N xx p r h) Iy ?_
 refine jn (fun x=>x) (fun a=>cH 15 [some (.box [(lI .i64 s.n),(.ap 8 aE false s.known),(.ap 9 aJ false s.steps),(.own 10),(.own 11),(.own 12),(.own 13),(.ap 14 aM false s.stack)]),none,none,none,none,none,none,none,some (.aG aE false s.known),some (.aG aJ false s.steps),some (.row (aV aA) false a),some (.row (aD .i64) true s.status),some (.row aA false s.value),some (.row aH false s.items),some (.aG aM false s.stack)] [vp 0 0,vl 4 (.pd (iF Tryz.prog (fun x:(List aB)=>[sR aA false x]) (fun r:(List aB)=>[sR aA false r]) (fun y0=>mh N y0 p)))]) h (fun a1 i a2=>?_) ?_
 refine bk ?_
 refine lp (fun⟨b,c⟩=>cH 15 [some (.box [(lI .i64 s.n),(.ap 8 aE false s.known),(.ap 9 aJ false s.steps),(.own 10),(.own 11),(.own 12),(.own 13),(.ap 14 aM false s.stack)]),none,none,none,none,none,none,none,some (.aG aE false s.known),some (.aG aJ false s.steps),some (.row (aV aA) false b),some (.row (aD .i64) true s.status),some (.row aA false s.value),some (.row aH false s.items),some (.aG aM false s.stack)] [vp 0 0,vl 4 (.pd (iF Tryz.prog (fun x:(List aB)=>[sR aA false x]) (fun r:(List aB)=>[sR aA false r]) (fun y0=>mh N y0 p))),vi 12 (List.length s.u:Int),vi 13 c]) i [0,1,2,3,4,5,6,7,8,9,10,11,12,13,14] ?_
 rintro⟨b,c⟩ oo h j
 rw[A7]at h
 refine cd h (fun k h=>?_) (fun k h=>?_)
 refine bk ?_
 refine dr mixed ?_
 refine cy h fun l h=>?_
 refine dL ?_
 refine vH (g:=(fun y0=>mh N y0 p)) l h fun a3 h=>?_
 refine cy h fun a4 h=>?_
 refine dW false h fun a5 h=>?_
 refine dk ?_
 cases h
 exact bl [0,1,2,3,4,5,6,7,8,9,10,11,12,13,14]
 cases h
 exact bj _ [0,1,2,3,4,5,6,7,8,9,10,11,12,13,14] (hx:=j _ rfl)
 intro a h
 try dsimp only at h
 refine jn (fun x=>x) (fun d=>cH 15 [some (.box [(lI .i64 s.n),(.ap 8 aE false s.known),(.ap 9 aJ false s.steps),(.own 10),(.own 11),(.own 12),(.own 13),(.ap 14 aM false s.stack)]),none,none,none,none,none,none,none,some (.aG aE false s.known),some (.aG aJ false s.steps),some (.row (aV aA) false a),some (.row (aD .i64) true s.status),some (.row aA false s.value),some (.row aH false d),some (.aG aM false s.stack)] [vp 0 0]) h (fun a6 o a7=>?_) ?_
 refine bk ?_
 refine lp (fun⟨e,f⟩=>cH 15 [some (.box [(lI .i64 s.n),(.ap 8 aE false s.known),(.ap 9 aJ false s.steps),(.own 10),(.own 11),(.own 12),(.own 13),(.ap 14 aM false s.stack)]),none,none,none,none,none,none,none,some (.aG aE false s.known),some (.aG aJ false s.steps),some (.row (aV aA) false a),some (.row (aD .i64) true s.status),some (.row aA false s.value),some (.row aH false e),some (.aG aM false s.stack)] [vp 0 0,vl 4 (.pd (iF Tryz.prog (fun x:(List aB)=>[sR aA false x]) (fun r:(List aB)=>[sR aA false r]) (fun y0=>mh N y0 p))),vi 36 (List.length s.items:Int),vi 37 f]) o [0,1,2,3,4,5,6,7,8,9,10,11,12,13,14] ?_
 rintro⟨e,f⟩ oo h v
 rw[Ae]at h
 refine cd h (fun y h=>?_) (fun y h=>?_)
 refine bk ?_
 refine dr mixed ?_
 refine jC h fun a0 a8 h=>?_
 refine dL ?_
 refine vH (g:=(fun y0=>mh N y0 p)) a0.g h fun a9 h=>?_
 refine jC h fun aa ab h=>?_
 refine stP h (fun ac h=>?_) (by assumption)
 refine dk ?_
 cases h
 exact bl [0,1,2,3,4,5,6,7,8,9,10,11,12,13,14]
 cases h
 exact bj _ [0,1,2,3,4,5,6,7,8,9,10,11,12,13,14] (hx:=v _ rfl)
 intro d h
 try dsimp only at h
 cases h
 exact rt [0,1,2,3,4,5,6,7,8,9,10,11,12,13,14]
theorem RY(N:Nat)(s:aR)(i:Int)(r:(Int×aR))(h:wX N s i=some r):Cx Tryz.prog 95 [.lf (.ptr 0 0),sI .i64 i] [.box [(lI .i64 s.n),.ap 1 aE false s.known,.ap 2 aJ false s.steps,.own 3,.own 4,.own 5,.own 6,.ap 7 aM false s.stack],.aG aE false s.known,.aG aJ false s.steps,.row (aV aA) false s.u,.row (aD .i64) true s.status,.row aA false s.value,.row aH false s.items,.aG aM false s.stack] [(0,some (.box [(lI .i64 s.n),.ap 8 aE false r.2.known,.ap 9 aJ false r.2.steps,.own 10,.own 11,.own 12,.own 13,.ap 14 aM false r.2.stack])),(8,some (.aG aE false r.2.known)),(9,some (.aG aJ false r.2.steps)),(10,some (.row (aV aA) false r.2.u)),(11,some (.row (aD .i64) true r.2.status)),(12,some (.row aA false r.2.value)),(13,some (.row aH false r.2.items)),(14,some (.aG aM false r.2.stack))] [sI .i64 r.1]:=by
 unfold wX at h
 refine iA (m:=8) tb (.comp (eG 0 1 1) (.comp (eG 0 2 2) (.comp (df 0 3 3) (.comp (df 0 4 4) (.comp (df 0 5 5) (.comp (df 0 6 6) (eG 0 7 7))))))) en95 Tryz.func95 fun X w H ν=>?_
 obtain⟨bn,b2,b3⟩:=bind_some h
 refine bk ?_
 refine lp (fun⟨b,c,f,j,k,l,d⟩=>cH 15 [some (.box [(lI .i64 s.n),(.ap 8 aE false b),(.ap 9 aJ false c),(.own 10),(.own 11),(.own 12),(.own 13),(.ap 14 aM false d)]),none,none,none,none,none,none,none,some (.aG aE false b),some (.aG aJ false c),some (.row (aV aA) false f),some (.row (aD .i64) true j),some (.row aA false k),some (.row aH false l),some (.aG aM false d)] [vp 0 0,vi 1 i,vl 5 (.v (.func (.func 123) #[] #[]))]) b2 [0,1,2,3,4,5,6,7,8,9,10,11,12,13,14] ?_
 rintro⟨b,c,f,j,k,l,d⟩ oo h b4
 rw[Bk]at h
 refine bk ?_
 refine cy h fun a h=>?_
 refine dL ?_
 refine jn (fun x=>x) (fun e=>cH 15 [some (.box [(lI .i64 s.n),(.ap 8 aE false b),(.ap 9 aJ false c),(.own 10),(.own 11),(.own 12),(.own 13),(.ap 14 aM false d)]),none,none,none,none,none,none,none,some (.aG aE false b),some (.aG aJ false c),some (.row (aV aA) false f),some (.row (aD .i64) true j),some (.row aA false k),some (.row aH false l),some (.aG aM false d)] [vp 0 0,vi 1 i,vl 5 (.v (.func (.func 123) #[] #[])),vr 6 aA false a.g,vi 7 e]) h (fun bo b5 bp=>?_) ?_
 refine bk ?_
 refine lp (fun⟨a2,o⟩=>cH 15 [some (.box [(lI .i64 s.n),(.ap 8 aE false b),(.ap 9 aJ false c),(.own 10),(.own 11),(.own 12),(.own 13),(.ap 14 aM false d)]),none,none,none,none,none,none,none,some (.aG aE false b),some (.aG aJ false c),some (.row (aV aA) false f),some (.row (aD .i64) true j),some (.row aA false k),some (.row aH false l),some (.aG aM false d)] [vp 0 0,vi 1 i,vl 5 (.v (.func (.func 123) #[] #[])),vr 6 aA false a.g,vi 7 a2,vi 23 (List.length a.g:Int),vi 24 o]) b5 [0,1,2,3,4,5,6,7,8,9,10,11,12,13,14] ?_
 rintro⟨a2,o⟩ oo h b6
 rw[zJ]at h
 refine cd h (fun b7 h=>?_) (fun b7 h=>?_)
 refine jn (fun x=>x) (fun ah=>cH 15 [some (.box [(lI .i64 s.n),(.ap 8 aE false b),(.ap 9 aJ false c),(.own 10),(.own 11),(.own 12),(.own 13),(.ap 14 aM false d)]),none,none,none,none,none,none,none,some (.aG aE false b),some (.aG aJ false c),some (.row (aV aA) false f),some (.row (aD .i64) true j),some (.row aA false k),some (.row aH false l),some (.aG aM false d)] [vp 0 0,vi 1 i,vl 5 (.v (.func (.func 123) #[] #[])),vr 6 aA false a.g,vi 7 ah,vi 23 (List.length a.g:Int),vi 24 o]) h (fun br h bs=>?_) ?_
 refine bk ?_
 refine jn (fun x=>x) (fun ai=>cH 15 [some (.box [(lI .i64 s.n),(.ap 8 aE false b),(.ap 9 aJ false c),(.own 10),(.own 11),(.own 12),(.own 13),(.ap 14 aM false d)]),none,none,none,none,none,none,none,some (.aG aE false b),some (.aG aJ false c),some (.row (aV aA) false f),some (.row (aD .i64) true j),some (.row aA false k),some (.row aH false l),some (.aG aM false d)] [vp 0 0,vi 1 i,vl 5 (.v (.func (.func 123) #[] #[])),vr 6 aA false a.g,vi 7 a2,vi 8 o,vi 23 (List.length a.g:Int),vi 24 o,vb 52 ai]) h (fun bt h bu=>?_) ?_
 refine dr mixed ?_
 refine bF h fun bw h=>?_
 refine cl none [] 0 h (ic N _) fun bx h=>?_
 refine gd h (fun b8 h=>?_) (fun b8 h=>?_)
 refine gd h (fun b9 h=>?_) (fun b9 h=>?_)
 refine dk ?_
 cases h
 exact bj _ [0,1,2,3,4,5,6,7,8,9,10,11,12,13,14]
 refine bF h fun ba h=>?_
 refine po (fv 37 (fun x:aB=>[sA aA false x]) (fun r:aB=>[sA aA false r]) (fun x=>qh N x) (fun x r h=>IS N x r h) ES) ?_
 refine vH (g:=(fun y0=>qh N y0)) ba h fun bz h=>?_
 refine bF h fun bb h=>?_
 refine po (fv 43 (fun x:aB=>[sA aA false x]) (fun r:aB=>[sA aA false r]) (fun x=>qh N x) (fun x r h=>IS N x r h) ES) ?_
 refine vH (g:=(fun y0=>qh N y0)) bb h fun c0 h=>?_
 refine cl none [] 0 h (jm N _ _) fun c1 h=>?_
 refine dk ?_
 cases h
 exact bj _ [0,1,2,3,4,5,6,7,8,9,10,11,12,13,14]
 refine dk ?_
 cases h
 exact bj _ [0,1,2,3,4,5,6,7,8,9,10,11,12,13,14]
 intro ai h
 try dsimp only at h
 refine cd h (fun bc h=>?_) (fun bc h=>?_)
 cases h
 exact bj _ [0,1,2,3,4,5,6,7,8,9,10,11,12,13,14]
 cases h
 exact bj _ [0,1,2,3,4,5,6,7,8,9,10,11,12,13,14]
 intro ah h
 try dsimp only at h
 cases h
 exact bl [0,1,2,3,4,5,6,7,8,9,10,11,12,13,14]
 cases h
 exact bj _ [0,1,2,3,4,5,6,7,8,9,10,11,12,13,14] (hx:=b6 _ rfl)
 intro e h
 try dsimp only at h
 refine jn (fun x=>x) (fun⟨a3,a4,aj,ak,al,am,a5,an⟩=>cH 15 [some (.box [(lI .i64 s.n),(.ap 8 aE false a3),(.ap 9 aJ false a4),(.own 10),(.own 11),(.own 12),(.own 13),(.ap 14 aM false a5)]),none,none,none,none,none,none,none,some (.aG aE false a3),some (.aG aJ false a4),some (.row (aV aA) false aj),some (.row (aD .i64) true ak),some (.row aA false al),some (.row aH false am),some (.aG aM false a5)] [vp 0 0,vi 1 i,vl 5 (.v (.func (.func 123) #[] #[])),vr 6 aA false a.g,vi 7 e,vb 9 an]) h (fun c2 bd c3=>?_) ?_
 refine bk ?_
 refine lp (fun⟨p,y,a6,a7,a8,a9,a0,aa,a1⟩=>cH 15 [some (.box [(lI .i64 s.n),(.ap 8 aE false p),(.ap 9 aJ false y),(.own 10),(.own 11),(.own 12),(.own 13),(.ap 14 aM false a0)]),none,none,none,none,none,none,none,some (.aG aE false p),some (.aG aJ false y),some (.row (aV aA) false a6),some (.row (aD .i64) true a7),some (.row aA false a8),some (.row aH false a9),some (.aG aM false a0)] [vp 0 0,vi 1 i,vl 5 (.v (.func (.func 123) #[] #[])),vr 6 aA false a.g,vi 7 e,vb 9 aa,vi 56 (List.length a.g:Int),vi 57 a1]) bd [0,1,2,3,4,5,6,7,8,9,10,11,12,13,14] ?_
 rintro⟨p,y,a6,a7,a8,a9,a0,aa,a1⟩ oo h be
 rw[AZ]at h
 refine cd h (fun bf h=>?_) (fun bf h=>?_)
 refine jn (fun x=>x) (fun⟨ab,ac,ao,aq,ar,av,ad,aw⟩=>cH 15 [some (.box [(lI .i64 s.n),(.ap 8 aE false ab),(.ap 9 aJ false ac),(.own 10),(.own 11),(.own 12),(.own 13),(.ap 14 aM false ad)]),none,none,none,none,none,none,none,some (.aG aE false ab),some (.aG aJ false ac),some (.row (aV aA) false ao),some (.row (aD .i64) true aq),some (.row aA false ar),some (.row aH false av),some (.aG aM false ad)] [vp 0 0,vi 1 i,vl 5 (.v (.func (.func 123) #[] #[])),vr 6 aA false a.g,vi 7 e,vb 9 aw,vi 56 (List.length a.g:Int),vi 57 a1]) h (fun c4 h c5=>?_) ?_
 refine bk ?_
 refine jn (fun x=>x) (fun ax=>cH 15 [some (.box [(lI .i64 s.n),(.ap 8 aE false p),(.ap 9 aJ false y),(.own 10),(.own 11),(.own 12),(.own 13),(.ap 14 aM false a0)]),none,none,none,none,none,none,none,some (.aG aE false p),some (.aG aJ false y),some (.row (aV aA) false a6),some (.row (aD .i64) true a7),some (.row aA false a8),some (.row aH false a9),some (.aG aM false a0)] [vp 0 0,vi 1 i,vl 5 (.v (.func (.func 123) #[] #[])),vr 6 aA false a.g,vi 7 e,vb 9 aa,vi 10 a1,vi 56 (List.length a.g:Int),vi 57 a1,vb 77 ax]) h (fun c6 h c7=>?_) ?_
 refine rg ?_
 refine gd h (fun bg h=>?_) (fun bg h=>?_)
 refine cy h fun c8 h=>?_
 refine dL ?_
 refine bF h fun c9 h=>?_
 refine cl none [] 0 h (ic N _) fun cb h=>?_
 cases h
 exact bj _ [0,1,2,3,4,5,6,7,8,9,10,11,12,13,14]
 cases h
 exact bj _ [0,1,2,3,4,5,6,7,8,9,10,11,12,13,14]
 intro ax h
 try dsimp only at h
 refine cd h (fun bh h=>?_) (fun bh h=>?_)
 refine dr mixed ?_
 refine bF h fun cc h=>?_
 refine bF h fun ce h=>?_
 refine cl none [] 0 h (lS N _ _) fun cg h=>?_
 refine dk ?_
 refine cl (some false) [0,8,9,10,11,12,13,14] 7 h (Si N _ _ _ _) fun ci h=>?_
 cases h
 exact bj _ [0,1,2,3,4,5,6,7,17,18,19,20,21,22,23]
 cases h
 exact bj _ [0,1,2,3,4,5,6,7,8,9,10,11,12,13,14]
 rintro⟨ab,ac,ao,aq,ar,av,ad,aw⟩ h
 try dsimp only at h
 cases h
 exact bl [0,1,2,3,4,5,6,7,8,9,10,11,12,13,14]
 cases h
 exact bj _ [0,1,2,3,4,5,6,7,8,9,10,11,12,13,14] (hx:=be _ rfl)
 rintro⟨a3,a4,aj,ak,al,am,a5,an⟩ h
 try dsimp only at h
 refine cd h (fun bi h=>?_) (fun bi h=>?_)
 refine bF h fun cj h=>?_
 refine cl none [] 0 h (ic N _) fun ck h=>?_
 refine jn (fun x=>x) (fun⟨ae,af,ay,az,b0,b1,ag⟩=>cH 15 [some (.box [(lI .i64 s.n),(.ap 8 aE false ae),(.ap 9 aJ false af),(.own 10),(.own 11),(.own 12),(.own 13),(.ap 14 aM false ag)]),none,none,none,none,none,none,none,some (.aG aE false ae),some (.aG aJ false af),some (.row (aV aA) false ay),some (.row (aD .i64) true az),some (.row aA false b0),some (.row aH false b1),some (.aG aM false ag)] [vp 0 0,vi 7 e]) h (fun cm h co=>?_) ?_
 refine cd h (fun bm h=>?_) (fun bm h=>?_)
 refine cl (some false) [0,8,9,10,11,12,13,14] 7 h (Nt N _ _) fun cq h=>?_
 cases h
 exact bj _ [0,1,2,3,4,5,6,7,15,16,17,18,19,20,21]
 cases h
 exact bj _ [0,1,2,3,4,5,6,7,8,9,10,11,12,13,14]
 rintro⟨ae,af,ay,az,b0,b1,ag⟩ h
 try dsimp only at h
 cases h
 have h:=b3
 rw[<-b4 _ rfl]at h
 try dsimp only at h
 cases h
 exact rt [0,1,2,3,4,5,6,7,8,9,10,11,12,13,14]
 cases h
 exact bl [0,1,2,3,4,5,6,7,8,9,10,11,12,13,14]
theorem Ua(N:Nat)(s:aR)(i:Int)(j:Int)(r:(Bool×aR))(h:td N s i j=some r):Cx Tryz.prog 65 [.lf (.ptr 0 0),sI .i64 i,sI .i64 j] [.box [(lI .i64 s.n),.ap 1 aE false s.known,.ap 2 aJ false s.steps,.own 3,.own 4,.own 5,.own 6,.ap 7 aM false s.stack],.aG aE false s.known,.aG aJ false s.steps,.row (aV aA) false s.u,.row (aD .i64) true s.status,.row aA false s.value,.row aH false s.items,.aG aM false s.stack] [(0,some (.box [(lI .i64 s.n),.ap 8 aE false r.2.known,.ap 9 aJ false r.2.steps,.own 10,.own 11,.own 12,.own 13,.ap 14 aM false r.2.stack])),(8,some (.aG aE false r.2.known)),(9,some (.aG aJ false r.2.steps)),(10,some (.row (aV aA) false r.2.u)),(11,some (.row (aD .i64) true r.2.status)),(12,some (.row aA false r.2.value)),(13,some (.row aH false r.2.items)),(14,some (.aG aM false r.2.stack))] [sB r.1]:=by
 unfold td at h
 refine iA (m:=8) tb (.comp (eG 0 1 1) (.comp (eG 0 2 2) (.comp (df 0 3 3) (.comp (df 0 4 4) (.comp (df 0 5 5) (.comp (df 0 6 6) (eG 0 7 7))))))) en65 Tryz.func65 fun X w H ν=>?_
 refine cl (some false) [0,8,9,10,11,12,13,14] 7 h (RY N _ _) fun r1 h=>?_
 refine dr mixed ?_
 refine cy h fun x2 h=>?_
 refine dL ?_
 refine cy h fun x3 h=>?_
 refine dL ?_
 refine dk ?_
 refine dr mixed ?_
 refine eV (some false) [0,15,16,17,18,19,20,21] h (uF N _ _) fun r4 h=>?_
 refine cy h fun x5 h=>?_
 refine dW true h fun x6 h=>?_
 refine cy h fun x7 h=>?_
 refine dW false h fun x8 h=>?_
 refine dk ?_
 refine jn (fun x=>(Sum.inl x)) (fun⟨o,p,a4,a5,a6,a7,v⟩=>cH 15 [some (.box [(lI .i64 s.n),(.ap 8 aE false o),(.ap 9 aJ false p),(.own 10),(.own 11),(.own 12),(.own 13),(.ap 14 aM false v)]),none,none,none,none,none,none,none,some (.aG aE false o),some (.aG aJ false p),some (.row (aV aA) false a4),some (.row (aD .i64) true a5),some (.row aA false a6),some (.row aH false a7),some (.aG aM false v)] [vp 0 0]) h (fun ar af ag=>?_) ?_
 refine bk ?_
 refine ps (nb 0 6 aH) ?_
 refine lp (fun⟨a,b,e,f,g,k,c,d⟩=>cH 18 [some (.box [(lI .i64 s.n),(.ap 8 aE false a),(.ap 9 aJ false b),(.own 10),(.own 11),(.own 12),(.own 13),(.ap 14 aM false c)]),none,none,none,none,none,none,none,some (.aG aE false a),some (.aG aJ false b),some (.row (aV aA) false e),some (.row (aD .i64) true f),some (.row aA false g),some (.row aH false k),some (.aG aM false c),some (.box (aO.cl aH false x2)),some (.box (aO.cl aH false x3)),some (.row aH false r1.2.items)] [vp 0 0,vi 1 i,vi 2 j,vi 7 r1.1,vp 8 15,vp 9 16,vo 55 17,vi 56 (List.length r1.2.items:Int),vi 57 d]) af [0,1,2,3,4,5,6,7,15,16,17,18,19,24,21,22,23,20] ?_
 rintro⟨a,b,e,f,g,k,c,d⟩ oo h a8
 rw[E4]at h
 refine cd h (fun ah h=>?_) (fun ah h=>?_)
 refine jn (fun x=>(Sum.inl x)) (fun⟨y,a0,a9,aa,ab,ac,a1⟩=>cH 18 [some (.box [(lI .i64 s.n),(.ap 8 aE false y),(.ap 9 aJ false a0),(.own 10),(.own 11),(.own 12),(.own 13),(.ap 14 aM false a1)]),none,none,none,none,none,none,none,some (.aG aE false y),some (.aG aJ false a0),some (.row (aV aA) false a9),some (.row (aD .i64) true aa),some (.row aA false ab),some (.row aH false ac),some (.aG aM false a1),some (.box (aO.cl aH false x2)),some (.box (aO.cl aH false x3)),some (.row aH false r1.2.items)] [vp 0 0,vi 1 i,vi 2 j,vi 7 r1.1,vp 8 15,vp 9 16,vo 55 17,vi 56 (List.length r1.2.items:Int),vi 57 d]) h (fun av h ai=>?_) ?_
 refine bk ?_
 refine cy h fun l h=>?_
 refine dL ?_
 refine jn (fun x=>x) (fun ad=>cH 19 [some (.box [(lI .i64 s.n),(.ap 8 aE false a),(.ap 9 aJ false b),(.own 10),(.own 11),(.own 12),(.own 13),(.ap 14 aM false c)]),none,none,none,none,none,none,none,some (.aG aE false a),some (.aG aJ false b),some (.row (aV aA) false e),some (.row (aD .i64) true f),some (.row aA false g),some (.row aH false k),some (.aG aM false c),some (.box (aO.cl aH false x2)),some (.box (aO.cl aH false x3)),some (.box (aO.cl aH false l)),some (.row aH false r1.2.items)] [vp 0 0,vi 1 i,vi 2 j,vi 7 r1.1,vp 8 15,vp 9 16,vp 12 17,vo 55 18,vi 56 (List.length r1.2.items:Int),vi 57 d,vb 69 ad]) h (fun aw h ax=>?_) ?_
 refine rg ?_
 refine gd h (fun aj h=>?_) (fun aj h=>?_)
 cases h
 exact bj _ [0,1,2,3,4,5,6,7,8,9,10,11,12,13,14,15,16,18,17]
 cases h
 exact bj _ [0,1,2,3,4,5,6,7,8,9,10,11,12,13,14,15,16,18,17]
 intro ad h
 try dsimp only at h
 refine cd h (fun ak h=>?_) (fun ak h=>?_)
 cases h
 exact bj _ [0,1,2,3,4,5,6,7,8,9,10,11,12,13,14,15,16,18]
 refine bF h fun a2 h=>?_
 refine cl none [] 0 h (ic N _) fun ay h=>?_
 refine cd h (fun al h=>?_) (fun al h=>?_)
 refine cl (some false) [0,8,9,10,11,12,13,14] 7 h (tQ N _ _) fun az h=>?_
 cases h
 exact bj _ [0,1,2,3,4,5,6,7,20,21,22,23,24,25,26,15,16,18]
 refine cl (some false) [] 1 h (xn N _) fun b0 h=>?_
 refine cy h fun b1 h=>?_
 refine dW false h fun ae h=>?_
 refine cl none [] 0 h (ic N _) fun am h=>?_
 refine jn (fun x=>x) (fun a3=>cH 21 [some (.box [(lI .i64 s.n),(.ap 8 aE false a),(.ap 9 aJ false b),(.own 10),(.own 11),(.own 12),(.own 13),(.ap 14 aM false c)]),none,none,none,none,none,none,none,some (.aG aE false a),some (.aG aJ false b),some (.row (aV aA) false e),some (.row (aD .i64) true f),some (.row aA false g),some (.row aH false k),some (.aG aM false c),some (.box (aO.cl aH false x2)),some (.box (aO.cl aH false x3)),some (.box (aO.cl aH false l)),some (.row aA false ae),some (.box (aO.cl ej false a3)),some (.row aH false r1.2.items)] [vp 0 0,vi 1 i,vi 2 j,vi 7 r1.1,vp 8 15,vp 9 16,vp 12 17,vo 14 18,vp 15 19,vo 55 20,vi 56 (List.length r1.2.items:Int),vi 57 d]) h (fun b2 h b3=>?_) ?_
 refine sn (cH 22 [some (.box [(lI .i64 s.n),(.ap 8 aE false a),(.ap 9 aJ false b),(.own 10),(.own 11),(.own 12),(.own 13),(.ap 14 aM false c)]),none,none,none,none,none,none,none,some (.aG aE false a),some (.aG aJ false b),some (.row (aV aA) false e),some (.row (aD .i64) true f),some (.row aA false g),some (.row aH false k),some (.aG aM false c),some (.box (aO.cl aH false x2)),some (.box (aO.cl aH false x3)),some (.box (aO.cl aH false l)),some (.box (aO.cl aA false a2)),some (.row aA false ae),some (.box [(lI .i64 x3.pos),(lB a2.bG),(.ro (aD .u32) false a2.aP)]),some (.row aH false r1.2.items)] [vp 0 0,vi 1 i,vi 2 j,vi 7 r1.1,vp 8 15,vp 9 16,vp 12 17,vp 13 18,vo 14 19,vp 15 20,vo 55 21,vi 56 (List.length r1.2.items:Int),vi 57 d,vb 94 (decide ((am:Int)<0))]) [0,1,2,3,4,5,6,7,8,9,10,11,12,13,14,15,16,17,19,20,21,18] ?_
 refine cd h (fun an h=>?_) (fun an h=>?_)
 refine dr mixed ?_
 refine cl none [] 0 h (ld N _) fun b4 h=>?_
 refine dk ?_
 cases h
 exact bj _ [0,1,2,3,4,5,6,7,8,9,10,11,12,13,14,15,16,17,19,20,21]
 cases h
 exact bj _ [0,1,2,3,4,5,6,7,8,9,10,11,12,13,14,15,16,17,19,20,21]
 intro a3 h
 try dsimp only at h
 refine ps (dE 18 [14] []) ?_
 refine dr mixed ?_
 refine cl none [] 0 h (gw N _) fun ao h=>?_
 refine de ej false [(dR.mk l.pos ao),a3] ?_
 refine po (jH 21 [107] []) ?_
 refine cl (some false) [0,8,9,10,11,12,13,14] 7 h (CL N _ _ _) fun b5 h=>?_
 refine dk ?_
 refine cd h (fun aq h=>?_) (fun aq h=>?_)
 cases h
 replace h:=ai
 try dsimp only at h
 cases h
 have h:=ag
 rw[<-a8 _ rfl]at h
 try dsimp only at h
 cases h
 exact rt [0,1,2,3,4,5,6,7,22,23,24,25,26,27,28]
 cases h
 exact bj _ [0,1,2,3,4,5,6,7,22,23,24,25,26,27,28,15,16,20]
 rintro⟨y,a0,a9,aa,ab,ac,a1⟩ h
 try dsimp only at h
 cases h
 exact bl [0,1,2,3,4,5,6,7,8,9,10,11,12,13,14,15,16,17]
 cases h
 exact bj _ [0,1,2,3,4,5,6,7,8,9,10,11,12,13,14] (hx:=a8 _ rfl)
 rintro⟨o,p,a4,a5,a6,a7,v⟩ h
 try dsimp only at h
 cases h
 exact rt [0,1,2,3,4,5,6,7,8,9,10,11,12,13,14]
end Go.Proofs.YtipdkfmhfakbnaaGreatDoor.SV

/- Walks of the symbolic machine, written by a program of mine (wip/tool). -/
import Derived.Test.YtipdkfmhfakbnaaGreatDoorTB
import Derived.Test.YtipdkfmhfakbnaaGreatDoorAg
import Derived.Test.YtipdkfmhfakbnaaGreatDoorAf
import Derived.Test.YtipdkfmhfakbnaaGreatDoorOB
import Derived.Test.YtipdkfmhfakbnaaGreatDoorSB
import Derived.Test.YtipdkfmhfakbnaaGreatDoorSC
import Derived.Test.YtipdkfmhfakbnaaGreatDoorSP
import Derived.Test.YtipdkfmhfakbnaaGreatDoorSQ
import Derived.Test.YtipdkfmhfakbnaaGreatDoorSV
import Derived.Test.YtipdkfmhfakbnaaGreatDoorSW
set_option linter.unusedVariables false
set_option linter.unusedSimpArgs false
set_option linter.unusedSectionVars false
set_option maxRecDepth 100000
set_option maxHeartbeats 4000000
namespace Go.Proofs.YtipdkfmhfakbnaaGreatDoor.SY
open Go Go.RowKit Go.X Go.Q Go.D Go.Proofs.YtipdkfmhfakbnaaGreatDoor.TB Go.Proofs.YtipdkfmhfakbnaaGreatDoor.FS Go.Proofs.YtipdkfmhfakbnaaGreatDoor.OB Go.Proofs.YtipdkfmhfakbnaaGreatDoor.SB Go.Proofs.YtipdkfmhfakbnaaGreatDoor.SC Go.Proofs.YtipdkfmhfakbnaaGreatDoor.SP Go.Proofs.YtipdkfmhfakbnaaGreatDoor.SQ Go.Proofs.YtipdkfmhfakbnaaGreatDoor.SV Go.Proofs.YtipdkfmhfakbnaaGreatDoor.SW
theorem Od(N:Nat)(run:aR->Option bX)(hrun:∀(s:aR) (r:bX) (h:run s=some r),Cx Tryz.prog 75 [.lf (.ptr 0 0)] [.box [(lI .i64 s.n),.ap 1 aE false s.known,.ap 2 aJ false s.steps,.own 3,.own 4,.own 5,.own 6,.ap 7 aM false s.stack],.aG aE false s.known,.aG aJ false s.steps,.row (aV aA) false s.u,.row (aD .i64) true s.status,.row aA false s.value,.row aH false s.items,.aG aM false s.stack] [] [sA fw false r]):∀(s:aR) (low:aY) (k:aB) (most:aB) (r:bX) (h:qC N run s low k most=some r),Cx Tryz.prog 170 [.lf (.ptr 0 0),sA aH false low,sA aA false k,sA aA false most] [.box [(lI .i64 s.n),(.ro aE false s.known),(.ro aJ false s.steps),(.ro (aV aA) false s.u),(.ro (aD .i64) false s.status),(.ro aA false s.value),(.ro aH false s.items),(.ro aM false s.stack)]] [(0,some (.box [(lI .i64 s.n),(.ro aE false s.known),(.ro aJ false s.steps),(.ro (aV aA) false s.u),(.ro (aD .i64) false s.status),(.ro aA false s.value),(.ro aH false s.items),(.ro aM false s.stack)]))] [sA fw false r]:=by
 induction N with
 |zero=>intro s low k most r h;cases h
 |succ N ih=>
  intro s low k most r h
  replace h:sa N run (qC N run) s low k most=some r:=h
  unfold sa at h
  refine fn tb en170 Tryz.func170 fun X w H ν=>?_
  refine cl none [] 0 h (jm N _ _) fun r1 h=>?_
  refine cd h (fun hc6 h=>?_) (fun hc6 h=>?_)
  refine cl (some false) [0] 5 h (Bf N _) fun r7 h=>?_
  refine po (ca 5 1) ?_
  refine po (ca 5 2) ?_
  refine po (ca 5 7) ?_
  refine cl (some false) [5,10,11,6,7,8,9,12] 0 h (hrun _) fun r8 h=>?_
  cases h
  exact rt [0]
  refine dr mixed ?_
  refine bF h fun x9 h=>?_
  refine dk ?_
  refine dr mixed ?_
  refine cl none [] 1 h (rD N _) fun c h=>?_
  refine cl none [] 0 h (ld N _) fun d h=>?_
  refine dk ?_
  refine po (dE 6 [10,34,39,41] []) ?_
  refine cl (some false) [0] 7 h (uV N _ _) fun a h=>?_
  refine sn (aW 14 [.box [(lI .i64 s.n),(.ro aE false s.known),(.ro aJ false s.steps),(.ro (aV aA) false s.u),(.ro (aD .i64) false s.status),(.ro aA false s.value),(.ro aH false s.items),(.ro aM false s.stack)],.box (aO.cl aH false low),.box (aO.cl aA false k),.box (aO.cl aA false most),.box [(lI .i64 0),lN,lN,lN,(lB false),lN,lN,(lI .i64 0)],.box (aO.cl aE false x9),.box (aO.cl aA true d),.box [(lI .i64 a.n),(.own 8),(.own 9),(.own 10),(.own 11),(.own 12),(.own 13),(.cp aM false a.stack)],.row aE false a.known,.row aJ false a.steps,.row (aV aA) false a.u,.row (aD .i64) true a.status,.row aA false a.value,.row aH false a.items] [vp 0 0,vp 5 1,vp 6 2,vp 7 3,vp 8 4,vp 9 5,vr 10 aA true c,vp 11 6,vp 12 7]) [0,1,2,3,4,5,7,8,9,10,11,12,13,14] ?_
  refine ps (oa 7 1) ?_
  refine ps (oa 7 2) ?_
  refine ps (ca 7 7) ?_
  refine dr mixed ?_
  refine cl none [] 1 h (rD N _) fun l h=>?_
  refine po (jH 15 [52,53] []) ?_
  refine cl (some false) [7,8,9,10,11,12,13,14] 7 h (tQ N _ _) fun m h=>?_
  refine dk ?_
  refine cl (some false) [7,16,17,18,19,20,21,22] 0 h (hrun _) fun e h=>?_
  refine sn (aW 8 [.box [(lI .i64 s.n),(.ro aE false s.known),(.ro aJ false s.steps),(.ro (aV aA) false s.u),(.ro (aD .i64) false s.status),(.ro aA false s.value),(.ro aH false s.items),(.ro aM false s.stack)],.box (aO.cl aH false low),.box (aO.cl aA false k),.box (aO.cl aA false most),.box [(lI .i64 0),lN,lN,lN,(lB false),lN,lN,(lI .i64 0)],.box (aO.cl aE false x9),.box (aO.cl aA true d),.box (aO.cl fw false e)] [vp 0 0,vp 5 1,vp 6 2,vp 7 3,vp 8 4,vp 9 5,vr 10 aA true c,vp 11 6,vp 13 7,vb 59 (decide ((e.kind:Int)≠1))]) [0,1,2,3,4,5,6,23] ?_
  refine cd h (fun f h=>?_) (fun f h=>?_)
  cases h
  exact rt [0]
  refine dr mixed ?_
  refine cl none [] 0 h (gw N _) fun o h=>?_
  refine cl none [] 0 h (kN N _ _) fun p h=>?_
  refine cl (some false) [0] 7 h (uV N _ _) fun b h=>?_
  refine dk ?_
  refine ps (dE 14 [] [8]) ?_
  refine dr mixed ?_
  refine cl (some false) [] 1 h (LU N _ _ _) fun i h=>?_
  refine dk ?_
  refine sn (aW 14 [.box [(lI .i64 s.n),(.ro aE false s.known),(.ro aJ false s.steps),(.ro (aV aA) false s.u),(.ro (aD .i64) false s.status),(.ro aA false s.value),(.ro aH false s.items),(.ro aM false s.stack)],.box (aO.cl aA false k),.box (aO.cl aA false most),.box [(lI .i64 0),lN,lN,lN,(lB false),lN,lN,(lI .i64 0)],.box (aO.cl aA true d),.box (aO.cl fw false e),.box [(lI .i64 b.n),(.own 7),(.own 8),(.own 9),(.own 10),(.own 11),(.own 12),(.cp aM false b.stack)],.row aE false b.known,.row aJ false b.steps,.row (aV aA) false b.u,.row (aD .i64) true b.status,.row aA false b.value,.row aH false i,.box [(lI .i64 (iw ((List.length b.known:Int)-1))),(.ro aA false low.g)]] [vp 0 0,vp 6 1,vp 7 2,vp 8 3,vr 10 aA true c,vp 11 4,vp 13 5,vp 14 6,vp 15 13]) [0,2,3,4,6,7,8,9,10,11,12,13,15,16] ?_
  refine ps (dE 7 [] [6]) ?_
  refine ps (dE 8 [] [6]) ?_
  refine ps (dE 9 [] [6]) ?_
  refine ps (dE 10 [] [6]) ?_
  refine ps (dE 11 [] [6]) ?_
  refine ps (dE 12 [] [6]) ?_
  refine dr mixed ?_
  refine cl none [] 0 h (gw N _) fun v h=>?_
  refine cl none [] 0 h (jP N _ _) fun y h=>?_
  refine cl (some false) [6] 0 h (ih _ _ _ _) fun a0 h=>?_
  refine dk ?_
  refine cd h (fun j h=>?_) (fun j h=>?_)
  cases h
  exact rt [0]
  refine eV (some false) [0] h (D8 N _ _ _ _ _) fun a1 h=>?_
  cases h
  exact rt [0]
theorem Uw(N:Nat)(run:aR->Option bX)(hrun:∀(s:aR) (r:bX) (h:run s=some r),Cx Tryz.prog 75 [.lf (.ptr 0 0)] [.box [(lI .i64 s.n),.ap 1 aE false s.known,.ap 2 aJ false s.steps,.own 3,.own 4,.own 5,.own 6,.ap 7 aM false s.stack],.aG aE false s.known,.aG aJ false s.steps,.row (aV aA) false s.u,.row (aD .i64) true s.status,.row aA false s.value,.row aH false s.items,.aG aM false s.stack] [] [sA fw false r]):∀(s:aR) (v:Int) (lows:(List aY)) (vat3:(List Int)) (r:bX) (h:mD N run s v lows vat3=some r),Cx Tryz.prog 142 [.lf (.ptr 0 0),sI .i64 v,sR aH false lows,sR (aD .i64) false vat3] [.box [(lI .i64 s.n),(.ro aE false s.known),(.ro aJ false s.steps),(.ro (aV aA) false s.u),(.ro (aD .i64) false s.status),(.ro aA false s.value),(.ro aH false s.items),(.ro aM false s.stack)]] [(0,some (.box [(lI .i64 s.n),(.ro aE false s.known),(.ro aJ false s.steps),(.ro (aV aA) false s.u),(.ro (aD .i64) false s.status),(.ro aA false s.value),(.ro aH false s.items),(.ro aM false s.stack)]))] [sA fw false r]:=by
 induction N with
 |zero=>intro s v lows vat3 r h;cases h
 |succ N ih=>
  intro s v lows vat3 r h
  replace h:pI N run (mD N run) s v lows vat3=some r:=h
  unfold pI at h
  refine fn tb en142 Tryz.func142 fun X w H ν=>?_
  refine eV (some false) [0] h (FD N _ _) fun r1 h=>?_
  refine jn (fun x=>x) (fun b=>aW 2 [.box [(lI .i64 s.n),(.ro aE false s.known),(.ro aJ false s.steps),(.ro (aV aA) false s.u),(.ro (aD .i64) false s.status),(.ro aA false s.value),(.ro aH false s.items),(.ro aM false s.stack)],.box [(lI .i64 0),lN,lN,lN,(lB false),lN,lN,(lI .i64 0)]] [vp 0 0,vi 1 v,vr 2 aH false b,vr 3 (aD .i64) false vat3,vp 8 1,vr 9 aH false r1.1]) h (fun a6 l a7=>?_) ?_
  refine bk ?_
  refine lp (fun c=>aW 2 [.box [(lI .i64 s.n),(.ro aE false s.known),(.ro aJ false s.steps),(.ro (aV aA) false s.u),(.ro (aD .i64) false s.status),(.ro aA false s.value),(.ro aH false s.items),(.ro aM false s.stack)],.box [(lI .i64 0),lN,lN,lN,(lB false),lN,lN,(lI .i64 0)]] [vp 0 0,vi 1 v,vr 2 aH false c,vr 3 (aD .i64) false vat3,vp 8 1,vr 9 aH false r1.1]) l [0,1] ?_
  rintro c oo h m
  rw[ua]at h
  refine jn (fun x=>x) (fun f=>aW 2 [.box [(lI .i64 s.n),(.ro aE false s.known),(.ro aJ false s.steps),(.ro (aV aA) false s.u),(.ro (aD .i64) false s.status),(.ro aA false s.value),(.ro aH false s.items),(.ro aM false s.stack)],.box [(lI .i64 0),lN,lN,lN,(lB false),lN,lN,(lI .i64 0)]] [vp 0 0,vi 1 v,vr 2 aH false c,vr 3 (aD .i64) false vat3,vp 8 1,vr 9 aH false r1.1,vb 40 f]) h (fun a8 h a9=>?_) ?_
  refine rg ?_
  refine gd h (fun o h=>?_) (fun o h=>?_)
  refine bF h fun aa h=>?_
  refine cl none [] 0 h (xb N _ _ _) fun ab h=>?_
  refine cl none [] 0 h (ic N _) fun ac h=>?_
  cases h
  exact bj _ [0,1]
  cases h
  exact bj _ [0,1]
  intro f h
  try dsimp only at h
  refine cd h (fun p h=>?_) (fun p h=>?_)
  refine bk ?_
  refine Bw h fun ad h=>?_
  cases h
  exact bl [0,1]
  cases h
  exact bj _ [0,1] (hx:=m _ rfl)
  intro b h
  try dsimp only at h
  refine cd h (fun y h=>?_) (fun y h=>?_)
  refine cl (some false) [0] 5 h (Bf N _) fun a0 h=>?_
  refine po (ca 2 1) ?_
  refine po (ca 2 2) ?_
  refine po (ca 2 7) ?_
  refine cl (some false) [2,7,8,3,4,5,6,9] 7 h (Dc N _ _ _) fun a h=>?_
  refine dr mixed ?_
  refine jC h fun ae af h=>?_
  refine stP h (fun a1 h=>?_) (by assumption)
  refine dk ?_
  refine sn (aW 10 [.box [(lI .i64 s.n),(.ro aE false s.known),(.ro aJ false s.steps),(.ro (aV aA) false s.u),(.ro (aD .i64) false s.status),(.ro aA false s.value),(.ro aH false s.items),(.ro aM false s.stack)],.box [(lI .i64 0),lN,lN,lN,(lB false),lN,lN,(lI .i64 0)],.box [(lI .i64 a0.n),(.ap 3 aE false a.2.known),(.ap 4 aJ false a.2.steps),(.own 5),(.own 6),(.own 7),(.own 8),(.own 9)],.aG aE false a.2.known,.aG aJ false a.2.steps,.row (aV aA) false a.2.u,.row (aD .i64) true a.2.status,.row aA false a.2.value,.row aH false a.2.items,.row aM false a1] [vp 0 0,vp 8 1,vp 11 2,vb 65 (!a.1)]) [0,1,2,10,11,12,13,14,15,16] ?_
  refine cd h (fun a2 h=>?_) (fun a2 h=>?_)
  refine po (oa 2 7) ?_
  refine cl (some false) [2,3,4,5,6,7,8,9] 0 h (tI N _) fun ag h=>?_
  cases h
  exact rt [0]
  refine po (oa 2 7) ?_
  refine cl (some false) [2,3,4,5,6,7,8,9] 0 h (hrun _) fun ah h=>?_
  cases h
  exact rt [0]
  refine dr mixed ?_
  refine bF h fun g h=>?_
  refine bF h fun ai h=>?_
  refine cl none [] 0 h (xb N _ _ _) fun i h=>?_
  refine dk ?_
  refine dr mixed ?_
  refine bF h fun j h=>?_
  refine dk ?_
  refine cl none [] 1 h (rD N _) fun d h=>?_
  refine sn (aW 6 [.box [(lI .i64 s.n),(.ro aE false s.known),(.ro aJ false s.steps),(.ro (aV aA) false s.u),(.ro (aD .i64) false s.status),(.ro aA false s.value),(.ro aH false s.items),(.ro aM false s.stack)],.box [(lI .i64 0),lN,lN,lN,(lB false),lN,lN,(lI .i64 0)],.box (aO.cl aH false g),.box (aO.cl aA true i),.box (aO.cl aE false j),.row aA true d] [vp 0 0,vi 1 v,vr 2 aH false b,vr 3 (aD .i64) false vat3,vp 8 1,vp 13 2,vp 14 3,vp 15 4,vo 16 5]) [0,1,2,3,4,5] ?_
  refine dr mixed ?_
  refine cl none [] 0 h (kN N _ _) fun aj h=>?_
  refine cl none [] 0 h (gw N _) fun ak h=>?_
  refine cl none [] 0 h (kN N _ _) fun al h=>?_
  refine cl (some false) [0] 7 h (uV N _ _) fun am h=>?_
  refine dk ?_
  refine ps (dE 12 [] [6]) ?_
  refine dr mixed ?_
  refine cl (some false) [] 1 h (LU N _ _ _) fun an h=>?_
  refine dk ?_
  refine Bw h fun ao h=>?_
  refine po (dE 7 [111] [6]) ?_
  refine po (dE 8 [] [6]) ?_
  refine po (dE 9 [] [6]) ?_
  refine po (dE 10 [] [6]) ?_
  refine po (dE 11 [] [6]) ?_
  refine po (dE 13 [114] [6]) ?_
  refine cl (some false) [6] 0 h (ih _ _ _ _) fun e h=>?_
  refine sn (aW 7 [.box [(lI .i64 s.n),(.ro aE false s.known),(.ro aJ false s.steps),(.ro (aV aA) false s.u),(.ro (aD .i64) false s.status),(.ro aA false s.value),(.ro aH false s.items),(.ro aM false s.stack)],.box [(lI .i64 0),lN,lN,lN,(lB false),lN,lN,(lI .i64 0)],.box (aO.cl aH false g),.box (aO.cl aA true i),.box (aO.cl aE false j),.row aA true d,.box (aO.cl fw false e)] [vp 0 0,vp 8 1,vp 13 2,vp 14 3,vp 15 4,vo 16 5,vp 18 6,vb 125 (decide ((e.kind:Int)≠1))]) [0,1,2,3,4,5,14] ?_
  refine cd h (fun a3 h=>?_) (fun a3 h=>?_)
  cases h
  exact rt [0]
  refine cl none [] 0 h (kN N _ _) fun a4 h=>?_
  refine po (dE 5 [16,132,134] []) ?_
  refine cl (some false) [0] 7 h (uV N _ _) fun aq h=>?_
  refine ps (oa 8 1) ?_
  refine ps (oa 8 2) ?_
  refine ps (ca 8 7) ?_
  refine dr mixed ?_
  refine cl none [] 1 h (rD N _) fun ar h=>?_
  refine po (jH 16 [145,146] []) ?_
  refine cl (some false) [8,9,10,11,12,13,14,15] 7 h (tQ N _ _) fun av h=>?_
  refine dk ?_
  refine po (fa 8 1) ?_
  refine po (fa 8 2) ?_
  refine po (dE 19 [] [8]) ?_
  refine po (dE 20 [] [8]) ?_
  refine po (dE 21 [] [8]) ?_
  refine po (dE 22 [] [8]) ?_
  refine po (fa 8 7) ?_
  refine cl (some false) [8] 0 h (Od N run hrun _ _ _ _) fun k h=>?_
  refine sn (aW 5 [.box [(lI .i64 s.n),(.ro aE false s.known),(.ro aJ false s.steps),(.ro (aV aA) false s.u),(.ro (aD .i64) false s.status),(.ro aA false s.value),(.ro aH false s.items),(.ro aM false s.stack)],.box [(lI .i64 0),lN,lN,lN,(lB false),lN,lN,(lI .i64 0)],.box (aO.cl fw false e),.box (aO.cl aA true a4),.box (aO.cl fw false k)] [vp 0 0,vp 8 1,vr 16 aA true d,vp 18 2,vp 19 3,vp 21 4,vb 155 (decide ((k.kind:Int)≠1))]) [0,1,6,7,24] ?_
  refine cd h (fun a5 h=>?_) (fun a5 h=>?_)
  cases h
  exact rt [0]
  refine eV (some false) [0] h (D8 N _ _ _ _ _) fun aw h=>?_
  cases h
  exact rt [0]
theorem Ut(N:Nat)(run:aR->Option bX)(hrun:∀(s:aR) (r:bX) (h:run s=some r),Cx Tryz.prog 75 [.lf (.ptr 0 0)] [.box [(lI .i64 s.n),.ap 1 aE false s.known,.ap 2 aJ false s.steps,.own 3,.own 4,.own 5,.own 6,.ap 7 aM false s.stack],.aG aE false s.known,.aG aJ false s.steps,.row (aV aA) false s.u,.row (aD .i64) true s.status,.row aA false s.value,.row aH false s.items,.aG aM false s.stack] [] [sA fw false r])(s:aR)(c:gQ)(r:bX)(h:wZ N run s c=some r):Cx Tryz.prog 139 [.lf (.ptr 0 0),sA jB false c] [.box [(lI .i64 s.n),(.ro aE false s.known),(.ro aJ false s.steps),(.ro (aV aA) false s.u),(.ro (aD .i64) false s.status),(.ro aA false s.value),(.ro aH false s.items),(.ro aM false s.stack)]] [(0,some (.box [(lI .i64 s.n),(.ro aE false s.known),(.ro aJ false s.steps),(.ro (aV aA) false s.u),(.ro (aD .i64) false s.status),(.ro aA false s.value),(.ro aH false s.items),(.ro aM false s.stack)]))] [sA fw false r]:=by
 unfold wZ at h
 refine fn tb en139 Tryz.func139 fun X w H ν=>?_
 refine cl none [] 0 h (jP N _ _) fun r1 h=>?_
 refine cl none [] 0 h (gw N _) fun r2 h=>?_
 refine cl none [] 0 h (lS N _ _) fun r3 h=>?_
 refine dr mixed ?_
 refine bF h fun x4 h=>?_
 refine dk ?_
 refine cl (some false) [0] 7 h (uV N _ _) fun r5 h=>?_
 refine sn (aW 11 [.box [(lI .i64 s.n),(.ro aE false s.known),(.ro aJ false s.steps),(.ro (aV aA) false s.u),(.ro (aD .i64) false s.status),(.ro aA false s.value),(.ro aH false s.items),(.ro aM false s.stack)],.box (aO.cl jB false c),.box [(lI .i64 0),lN,lN,lN,(lB false),lN,lN,(lI .i64 0)],.box (aO.cl aA true r3.1),.box [(lI .i64 r5.n),(.own 5),(.own 6),(.own 7),(.own 8),(.own 9),(.own 10),(.cp aM false r5.stack)],.row aE false r5.known,.row aJ false r5.steps,.row (aV aA) false r5.u,.row (aD .i64) true r5.status,.row aA false r5.value,.row aH false r5.items] [vp 0 0,vp 3 1,vp 4 2,vp 5 3,vr 8 aA false x4.aT,vp 9 4]) [0,1,2,3,5,6,7,8,9,10,11] ?_
 refine ps (oa 4 1) ?_
 refine ps (oa 4 2) ?_
 refine ps (ca 4 7) ?_
 refine dr mixed ?_
 refine cl (some false) [4,5,6,7,8,9,10,11] 7 h (tQ N _ _) fun r6 h=>?_
 refine dk ?_
 refine cl (some false) [4,12,13,14,15,16,17,18] 0 h (hrun _) fun r7 h=>?_
 refine sn (aW 5 [.box [(lI .i64 s.n),(.ro aE false s.known),(.ro aJ false s.steps),(.ro (aV aA) false s.u),(.ro (aD .i64) false s.status),(.ro aA false s.value),(.ro aH false s.items),(.ro aM false s.stack)],.box (aO.cl jB false c),.box [(lI .i64 0),lN,lN,lN,(lB false),lN,lN,(lI .i64 0)],.box (aO.cl aA true r3.1),.box (aO.cl fw false r7)] [vp 0 0,vp 3 1,vp 4 2,vp 5 3,vr 8 aA false x4.aT,vp 10 4,vb 55 (decide ((r7.kind:Int)≠1))]) [0,1,2,3,19] ?_
 refine cd h (fun b h=>?_) (fun b h=>?_)
 cases h
 exact rt [0]
 refine dr mixed ?_
 refine cl none [] 1 h (rD N _) fun e h=>?_
 refine cl none [] 0 h (ld N _) fun f h=>?_
 refine cl none [] 0 h (gw N _) fun g h=>?_
 refine cl none [] 0 h (kN N _ _) fun i h=>?_
 refine po (jH 5 [59,64] []) ?_
 refine cl (some false) [0] 7 h (uV N _ _) fun j h=>?_
 refine dk ?_
 refine ps (oa 6 1) ?_
 refine ps (oa 6 2) ?_
 refine ps (ca 6 7) ?_
 refine dr mixed ?_
 refine cl none [] 1 h (rD N _) fun k h=>?_
 refine po (jH 14 [76,77] []) ?_
 refine cl (some false) [6,7,8,9,10,11,12,13] 7 h (tQ N _ _) fun l h=>?_
 refine dk ?_
 refine cl (some false) [6,15,16,17,18,19,20,21] 0 h (hrun _) fun a h=>?_
 refine sn (aW 5 [.box [(lI .i64 s.n),(.ro aE false s.known),(.ro aJ false s.steps),(.ro (aV aA) false s.u),(.ro (aD .i64) false s.status),(.ro aA false s.value),(.ro aH false s.items),(.ro aM false s.stack)],.box [(lI .i64 0),lN,lN,lN,(lB false),lN,lN,(lI .i64 0)],.box (aO.cl aA true r3.1),.box (aO.cl fw false r7),.box (aO.cl fw false a)] [vp 0 0,vp 4 1,vp 5 2,vr 8 aA false x4.aT,vp 10 3,vp 12 4,vb 83 (decide ((a.kind:Int)≠1))]) [0,2,3,4,22] ?_
 refine cd h (fun d h=>?_) (fun d h=>?_)
 cases h
 exact rt [0]
 refine eV (some false) [0] h (D8 N _ _ _ _ _) fun m h=>?_
 cases h
 exact rt [0]
theorem Pf(N:Nat)(run:aR->Option bX)(hrun:∀(s:aR) (r:bX) (h:run s=some r),Cx Tryz.prog 75 [.lf (.ptr 0 0)] [.box [(lI .i64 s.n),.ap 1 aE false s.known,.ap 2 aJ false s.steps,.own 3,.own 4,.own 5,.own 6,.ap 7 aM false s.stack],.aG aE false s.known,.aG aJ false s.steps,.row (aV aA) false s.u,.row (aD .i64) true s.status,.row aA false s.value,.row aH false s.items,.aG aM false s.stack] [] [sA fw false r])(s:aR)(v:Int)(r:bX)(h:vz N run s v=some r):Cx Tryz.prog 108 [.lf (.ptr 0 0),sI .i64 v] [.box [(lI .i64 s.n),(.ro aE false s.known),(.ro aJ false s.steps),(.ro (aV aA) false s.u),(.ro (aD .i64) false s.status),(.ro aA false s.value),(.ro aH false s.items),(.ro aM false s.stack)]] [(0,some (.box [(lI .i64 s.n),(.ro aE false s.known),(.ro aJ false s.steps),(.ro (aV aA) false s.u),(.ro (aD .i64) false s.status),(.ro aA false s.value),(.ro aH false s.items),(.ro aM false s.stack)]))] [sA fw false r]:=by
 unfold vz at h
 refine fn tb en108 Tryz.func108 fun X w H ν=>?_
 refine eV (some false) [0] h (T1 N _) fun r1 h=>?_
 refine jn (fun x=>(Sum.inl x)) (fun(_:Unit)=>aW 2 [.box [(lI .i64 s.n),(.ro aE false s.known),(.ro aJ false s.steps),(.ro (aV aA) false s.u),(.ro (aD .i64) false s.status),(.ro aA false s.value),(.ro aH false s.items),(.ro aM false s.stack)],.box [(lI .i64 0),lN,lN,lN,(lB false),lN,lN,(lI .i64 0)]] [vp 0 0,vi 1 v,vp 4 1]) h (fun a4 h i=>?_) ?_
 refine cd h (fun j h=>?_) (fun j h=>?_)
 refine cl none [] 0 h (kN N _ _) fun a5 h=>?_
 refine jn (fun x=>x) (fun b=>aW 3 [.box [(lI .i64 s.n),(.ro aE false s.known),(.ro aJ false s.steps),(.ro (aV aA) false s.u),(.ro (aD .i64) false s.status),(.ro aA false s.value),(.ro aH false s.items),(.ro aM false s.stack)],.box [(lI .i64 0),lN,lN,lN,(lB false),lN,lN,(lI .i64 0)],.box (aO.cl jB false r1.1)] [vp 0 0,vi 1 v,vp 4 1,vp 5 2,vb 37 b]) h (fun a6 h a7=>?_) ?_
 refine dr mixed ?_
 refine cl none [] 0 h (gw N _) fun a8 h=>?_
 refine cl none [] 0 h (jm N _ _) fun a9 h=>?_
 refine gd h (fun k h=>?_) (fun k h=>?_)
 refine eV (some false) [0] h (Rp N _ _) fun aa h=>?_
 refine cl none [] 0 h (jm N _ _) fun ab h=>?_
 refine dk ?_
 cases h
 exact bj _ [0,1,2]
 refine dk ?_
 cases h
 exact bj _ [0,1,2]
 intro b h
 try dsimp only at h
 refine cd h (fun l h=>?_) (fun l h=>?_)
 refine eV (some false) [0] h (Ut N run hrun _ _) fun ac h=>?_
 cases h
 replace h:=i
 try dsimp only at h
 cases h
 exact rt [0]
 cases h
 exact bj _ [0,1]
 cases h
 exact bj _ [0,1]
 intro _ h
 try dsimp only at h
 refine cl (some false) [0] 5 h (Bf N _) fun ad h=>?_
 refine po (ca 2 1) ?_
 refine po (ca 2 2) ?_
 refine po (ca 2 7) ?_
 refine cl (some false) [2,7,8,3,4,5,6,9] 7 h (Dc N _ _ _) fun ae h=>?_
 refine cd h (fun m h=>?_) (fun m h=>?_)
 refine po (oa 2 7) ?_
 refine cl (some false) [2,10,11,12,13,14,15,16] 0 h (tI N _) fun af h=>?_
 cases h
 exact rt [0]
 refine po (oa 2 7) ?_
 refine cl (some false) [2,10,11,12,13,14,15,16] 0 h (hrun _) fun o h=>?_
 refine jn (fun x=>x) (fun c=>aW 3 [.box [(lI .i64 s.n),(.ro aE false s.known),(.ro aJ false s.steps),(.ro (aV aA) false s.u),(.ro (aD .i64) false s.status),(.ro aA false s.value),(.ro aH false s.items),(.ro aM false s.stack)],.box [(lI .i64 0),lN,lN,lN,(lB false),lN,lN,(lI .i64 0)],.box (aO.cl fw false o)] [vp 0 0,vi 1 v,vp 4 1,vp 9 2,vb 59 c]) h (fun ag h ah=>?_) ?_
 refine rg ?_
 refine gd h (fun p h=>?_) (fun p h=>?_)
 cases h
 exact bj _ [0,1,17]
 cases h
 exact bj _ [0,1,17]
 intro c h
 try dsimp only at h
 refine cd h (fun y h=>?_) (fun y h=>?_)
 cases h
 exact rt [0]
 refine eV (some false) [0] h (FD N _ _) fun a h=>?_
 refine de (aV aH) false [a.1,a.2] ?_
 refine po (dE 3 [69] []) ?_
 refine cl (some false) [] 0 h (Hq N _) fun d h=>?_
 refine jn (fun x=>x) (fun e=>aW 3 [.box [(lI .i64 s.n),(.ro aE false s.known),(.ro aJ false s.steps),(.ro (aV aA) false s.u),(.ro (aD .i64) false s.status),(.ro aA false s.value),(.ro aH false s.items),(.ro aM false s.stack)],.box [(lI .i64 0),lN,lN,lN,(lB false),lN,lN,(lI .i64 0)],.row (aD .i64) true e] [vp 0 0,vi 1 v,vp 4 1,vr 11 aH false a.2,vo 12 2]) h (fun ai a0 aj=>?_) ?_
 refine bk ?_
 refine ps (nl 12 (aD .i64)) ?_
 refine lp (fun⟨f,g⟩=>aW 3 [.box [(lI .i64 s.n),(.ro aE false s.known),(.ro aJ false s.steps),(.ro (aV aA) false s.u),(.ro (aD .i64) false s.status),(.ro aA false s.value),(.ro aH false s.items),(.ro aM false s.stack)],.box [(lI .i64 0),lN,lN,lN,(lB false),lN,lN,(lI .i64 0)],.row (aD .i64) true f] [vp 0 0,vi 1 v,vp 4 1,vr 11 aH false a.2,vo 12 2,vr 70 aH false d,vi 71 (List.length d:Int),vi 72 g]) a0 [0,1,4] ?_
 rintro⟨f,g⟩ oo h a1
 rw[DV]at h
 refine cd h (fun a2 h=>?_) (fun a2 h=>?_)
 refine bk ?_
 refine bF h fun a3 h=>?_
 refine de (aD .i64) true [a3.pos] ?_
 refine dQ true h fun ak h=>?_
 cases h
 exact bl [0,1,5]
 cases h
 exact bj _ [0,1,2] (hx:=a1 _ rfl)
 intro e h
 try dsimp only at h
 refine po (dE 2 [12,85] []) ?_
 refine eV (some false) [0] h (Uw N run hrun _ _ _ _) fun al h=>?_
 cases h
 exact rt [0]
theorem Td(N:Nat):∀(s:aR) (r:bX) (h:jS N s=some r),Cx Tryz.prog 75 [.lf (.ptr 0 0)] [.box [(lI .i64 s.n),.ap 1 aE false s.known,.ap 2 aJ false s.steps,.own 3,.own 4,.own 5,.own 6,.ap 7 aM false s.stack],.aG aE false s.known,.aG aJ false s.steps,.row (aV aA) false s.u,.row (aD .i64) true s.status,.row aA false s.value,.row aH false s.items,.aG aM false s.stack] [] [sA fw false r]:=by
 induction N with
 |zero=>intro s r h;cases h
 |succ N ih=>
  intro s r h
  replace h:xB N (jS N) s=some r:=h
  unfold xB at h
  refine iA (m:=8) tb (.comp (eG 0 1 1) (.comp (eG 0 2 2) (.comp (df 0 3 3) (.comp (df 0 4 4) (.comp (df 0 5 5) (.comp (df 0 6 6) (eG 0 7 7))))))) en75 Tryz.func75 fun X w H ν=>?_
  obtain⟨a4,p,d⟩:=bind_some h
  refine bk ?_
  refine lp (fun⟨f,g,j,k,l,o,i⟩=>cH 16 [some (.box [(lI .i64 s.n),(.ap 8 aE false f),(.ap 9 aJ false g),(.own 10),(.own 11),(.own 12),(.own 13),(.ap 14 aM false i)]),none,none,none,none,none,none,none,some (.aG aE false f),some (.aG aJ false g),some (.row (aV aA) false j),some (.row (aD .i64) true k),some (.row aA false l),some (.row aH false o),some (.aG aM false i),some (.box [(lI .i64 0),lN,lN,lN,(lB false),lN,lN,(lI .i64 0)])] [vp 0 0,vp 2 15]) p [0,1,2,3,4,5,6,7,8,9,10,11,12,13,14,15] ?_
  rintro⟨f,g,j,k,l,o,i⟩ oo h e
  rw[uS]at h
  refine bk ?_
  refine cl (some false) [0,8,9,10,11,12,13,14] 7 h (UT N _) fun a h=>?_
  refine sn (cH 16 [some (.box [(lI .i64 s.n),(.ap 8 aE false a.2.2.2.2.known),(.ap 9 aJ false a.2.2.2.2.steps),(.own 10),(.own 11),(.own 12),(.own 13),(.ap 14 aM false a.2.2.2.2.stack)]),none,none,none,none,none,none,none,some (.aG aE false a.2.2.2.2.known),some (.aG aJ false a.2.2.2.2.steps),some (.row (aV aA) false a.2.2.2.2.u),some (.row (aD .i64) true a.2.2.2.2.status),some (.row aA false a.2.2.2.2.value),some (.row aH false a.2.2.2.2.items),some (.aG aM false a.2.2.2.2.stack),some (.box [(lI .i64 0),lN,lN,lN,(lB false),lN,lN,(lI .i64 0)])] [vp 0 0,vp 2 15,vi 3 a.1,vi 4 a.2.1,vb 5 a.2.2.1,vb 17 (!a.2.2.2.1)]) [0,1,2,3,4,5,6,7,16,17,18,19,20,21,22,15] ?_
  refine cd h (fun v h=>?_) (fun v h=>?_)
  refine cl (some false) [0,8,9,10,11,12,13,14] 0 h (tI N _) fun a5 h=>?_
  cases h
  have h:=d
  rw[<-e _ rfl]at h
  try dsimp only at h
  cases h
  exact rt [0,1,2,3,4,5,6,7]
  refine cd h (fun y h=>?_) (fun y h=>?_)
  refine cl (some false) [0,8,9,10,11,12,13,14] 7 h (Ua N _ _ _) fun b h=>?_
  refine sn (cH 16 [some (.box [(lI .i64 s.n),(.ap 8 aE false b.2.known),(.ap 9 aJ false b.2.steps),(.own 10),(.own 11),(.own 12),(.own 13),(.ap 14 aM false b.2.stack)]),none,none,none,none,none,none,none,some (.aG aE false b.2.known),some (.aG aJ false b.2.steps),some (.row (aV aA) false b.2.u),some (.row (aD .i64) true b.2.status),some (.row aA false b.2.value),some (.row aH false b.2.items),some (.aG aM false b.2.stack),some (.box [(lI .i64 0),lN,lN,lN,(lB false),lN,lN,(lI .i64 0)])] [vp 0 0,vp 2 15,vb 25 (!b.1)]) [0,1,2,3,4,5,6,7,16,17,18,19,20,21,22,15] ?_
  refine cd h (fun a0 h=>?_) (fun a0 h=>?_)
  refine cl (some false) [0,8,9,10,11,12,13,14] 0 h (tI N _) fun a6 h=>?_
  cases h
  have h:=d
  rw[<-e _ rfl]at h
  try dsimp only at h
  cases h
  exact rt [0,1,2,3,4,5,6,7]
  cases h
  exact bl [0,1,2,3,4,5,6,7,8,9,10,11,12,13,14,15]
  refine eV (some false) [0,8,9,10,11,12,13,14] h (O4 N _) fun a7 h=>?_
  refine cd h (fun a1 h=>?_) (fun a1 h=>?_)
  refine cl (some false) [0,8,9,10,11,12,13,14] 0 h (Ud N _) fun a8 h=>?_
  cases h
  have h:=d
  rw[<-e _ rfl]at h
  try dsimp only at h
  cases h
  exact rt [0,1,2,3,4,5,6,7]
  refine eV (some false) [0,8,9,10,11,12,13,14] h (Pr N _ _) fun a9 h=>?_
  refine cd h (fun a2 h=>?_) (fun a2 h=>?_)
  refine po (fa 0 1) ?_
  refine po (fa 0 2) ?_
  refine po (dE 10 [] [0]) ?_
  refine po (dE 11 [] [0]) ?_
  refine po (dE 12 [] [0]) ?_
  refine po (dE 13 [] [0]) ?_
  refine po (fa 0 7) ?_
  refine cl (some false) [0] 0 h (Pf N (jS N) ih _ _) fun aa h=>?_
  cases h
  have h:=d
  rw[<-e _ rfl]at h
  try dsimp only at h
  cases h
  exact rt [0,1,2,3,4,5,6,7]
  refine cl (some false) [0,8,9,10,11,12,13,14] 7 h (Dc N _ _ _) fun c h=>?_
  refine sn (cH 16 [some (.box [(lI .i64 s.n),(.ap 8 aE false c.2.known),(.ap 9 aJ false c.2.steps),(.own 10),(.own 11),(.own 12),(.own 13),(.own 14)]),none,none,none,none,none,none,none,some (.aG aE false c.2.known),some (.aG aJ false c.2.steps),some (.row (aV aA) false c.2.u),some (.row (aD .i64) true c.2.status),some (.row aA false c.2.value),some (.row aH false c.2.items),some (.row aM false c.2.stack),some (.box [(lI .i64 0),lN,lN,lN,(lB false),lN,lN,(lI .i64 0)])] [vp 0 0,vp 2 15,vb 47 (!c.1)]) [0,1,2,3,4,5,6,7,16,17,18,19,20,21,22,15] ?_
  refine cd h (fun a3 h=>?_) (fun a3 h=>?_)
  refine po (oa 0 7) ?_
  refine cl (some false) [0,8,9,10,11,12,13,14] 0 h (tI N _) fun ab h=>?_
  cases h
  have h:=d
  rw[<-e _ rfl]at h
  try dsimp only at h
  cases h
  exact rt [0,1,2,3,4,5,6,7]
  cases h
  exact bl [0,1,2,3,4,5,6,7,8,9,10,11,12,13,14,15]
theorem AR(N:Nat)(n:Int)(system:(List bB))(r:bX)(h:qj N n system=some r):Cx Tryz.prog 40 [sI .i64 n,sR aE false system] [] [] [sA fw false r]:=by
 unfold qj at h
 refine fn tb en40 Tryz.func40 fun X w H ν=>?_
 refine cl (some false) [] 8 h (PK N _ _) fun r1 h=>?_
 refine po (oa 1 1) ?_
 refine po (oa 1 2) ?_
 refine po (oa 1 7) ?_
 refine cl (some false) [1,2,3,4,5,6,7,8] 7 h (R8 N _) fun r2 h=>?_
 refine cd h (fun hc6 h=>?_) (fun hc6 h=>?_)
 refine cl (some false) [1,9,10,11,12,13,14,15] 0 h (tI N _) fun r7 h=>?_
 cases h
 exact rt []
 refine cl (some false) [1,9,10,11,12,13,14,15] 0 h (Td N _) fun r8 h=>?_
 cases h
 exact rt []
theorem BB(N:Nat)(n:Int)(l:(List Constraint))(r:((List aB)×Proof×Bool))(h:qp N n l=some r):Cx Tryz.prog 36 [sI .i64 n,sR ct false l] [] [] [sR aA false r.1,sA jb false r.2.1,sB r.2.2]:=by
 unfold qp at h
 refine fn tb en36 Tryz.func36 fun X w H ν=>?_
 refine cl none [] 1 h (I8 N _ _) fun r1 h=>?_
 refine po (dE 1 [11] []) ?_
 refine cl (some true) [] 0 h (AR N _ _) fun r2 h=>?_
 refine cd h (fun hc5 h=>?_) (fun hc5 h=>?_)
 cases h
 exact rt []
 refine dr mixed ?_
 refine dk ?_
 cases h
 exact rt []
theorem ND(N:Nat)(n:Int)(system:(List bB))(v:Int)(r:Bool)(h:DH N n system v=some r):Cx Tryz.prog 41 [sI .i64 n,sR aE false system,sI .i64 v] [] [] [sB r]:=by
 unfold DH at h
 refine fn tb en41 Tryz.func41 fun X w H ν=>?_
 refine jn (fun x=>x) (fun a=>aW 1 [.row aE false a] [vi 0 n,vi 2 v,vo 7 0]) h (fun j d k=>?_) ?_
 refine bk ?_
 refine ps (nl 7 aE) ?_
 refine lp (fun⟨b,c⟩=>aW 1 [.row aE false b] [vi 0 n,vi 2 v,vo 7 0,vr 10 aE false system,vi 11 (List.length system:Int),vi 12 c]) d [0] ?_
 rintro⟨b,c⟩ oo h e
 rw[Kc]at h
 refine cd h (fun f h=>?_) (fun f h=>?_)
 refine bk ?_
 refine bF h fun g h=>?_
 refine de aE false [(bB.mk g.aT (aB.mk false ([]:(List Int))))] ?_
 refine dQ false h fun l h=>?_
 cases h
 exact bl [3]
 cases h
 exact bj _ [0] (hx:=e _ rfl)
 intro a h
 try dsimp only at h
 refine cl none [] 0 h (gw N _) fun m h=>?_
 refine cl (some true) [] 0 h (JA N _ _ _ _) fun i h=>?_
 refine de aE true [i] ?_
 refine dQ false h fun o h=>?_
 refine po (dE 2 [30] []) ?_
 refine cl (some false) [] 0 h (AR N _ _) fun p h=>?_
 cases h
 exact rt []
theorem UP(N:Nat)(n:Int)(l:(List Constraint))(v:Int)(r:(aB×Bool))(h:Eo N n l v=some r):Cx Tryz.prog 15 [sI .i64 n,sR ct false l,sI .i64 v] [] [] [sA aA false r.1,sB r.2]:=by
 unfold Eo at h
 refine fn tb en15 Tryz.func15 fun X w H ν=>?_
 refine cl none [] 1 h (I8 N _ _) fun r1 h=>?_
 refine po (dE 1 [8,22,24] []) ?_
 refine cl (some true) [] 0 h (AR N _ _) fun r2 h=>?_
 refine jn (fun x=>x) (fun x6=>aW 2 [.box [(lB false),lN],.box (aO.cl fw true r2)] [vi 0 n,vi 2 v,vp 6 0,vr 8 aE true r1,vp 9 1,vb 34 x6]) h (fun s7 h g8=>?_) ?_
 refine rg ?_
 refine gd h (fun hc9 h=>?_) (fun hc9 h=>?_)
 cases h
 exact bj _ [0,2]
 refine cl none [] 0 h (ND N _ _ _) fun a6 h=>?_
 cases h
 exact bj _ [0,2]
 intro x6 h
 try dsimp only at h
 refine cd h (fun m h=>?_) (fun m h=>?_)
 cases h
 exact rt []
 refine cl none [] 0 h (gw N _) fun a h=>?_
 refine bF h fun a7 h=>?_
 obtain⟨a8,o,p⟩:=bind_some h
 refine bk ?_
 refine lp (fun⟨b,c,d,e⟩=>aW 5 [.box [(lB false),lN],.box (aO.cl aA true a),.box (aO.cl aA true b),.box (aO.cl aA true c),.box (aO.cl aA true e)] [vi 0 n,vi 2 v,vp 6 0,vr 8 aE true r1,vp 10 1,vp 11 2,vp 12 3,vb 13 d,vp 14 4]) o [0,2,3,4,5] ?_
 rintro⟨b,c,d,e⟩ oo h s
 rw[LN]at h
 refine jn (fun x=>(Sum.inl x)) (fun⟨f,g,i,j⟩=>aW 5 [.box [(lB false),lN],.box (aO.cl aA true a),.box (aO.cl aA true f),.box (aO.cl aA true g),.box (aO.cl aA true j)] [vi 0 n,vi 2 v,vp 6 0,vr 8 aE true r1,vp 10 1,vp 11 2,vp 12 3,vb 13 i,vp 14 4]) h (fun a9 h u=>?_) ?_
 refine bk ?_
 refine cl none [] 0 h (kN N _ _) fun aa h=>?_
 refine jn (fun x=>(Sum.inl x)) (fun k=>aW 6 [.box [(lB false),lN],.box (aO.cl aA true a),.box (aO.cl aA true b),.box (aO.cl aA true c),.box (aO.cl aA true e),.box (aO.cl aA true k)] [vi 0 n,vi 2 v,vp 6 0,vr 8 aE true r1,vp 10 1,vp 11 2,vp 12 3,vb 13 d,vp 14 4,vp 15 5]) h (fun ab h y=>?_) ?_
 refine cd h (fun a0 h=>?_) (fun a0 h=>?_)
 refine cl none [] 0 h (jP N _ _) fun ac h=>?_
 refine cl none [] 0 h (gw N _) fun ad h=>?_
 refine cl none [] 0 h (lS N _ _) fun a1 h=>?_
 refine dr mixed ?_
 refine cl none [] 0 h (kN N _ _) fun ae h=>?_
 refine cl none [] 0 h (jm N _ _) fun a2 h=>?_
 refine dk ?_
 refine sn (aW 6 [.box [(lB false),lN],.box (aO.cl aA true a),.box (aO.cl aA true b),.box (aO.cl aA true c),.box (aO.cl aA true e),.box (aO.cl aA true a1.1)] [vi 0 n,vi 2 v,vp 6 0,vr 8 aE true r1,vp 10 1,vp 11 2,vp 12 3,vb 13 d,vp 14 4,vp 15 5,vb 63 (decide ((a2:Int)<=0))]) [0,1,2,3,4,5] ?_
 refine cd h (fun a3 h=>?_) (fun a3 h=>?_)
 cases h
 replace h:=y
 try dsimp only at h
 cases h
 replace h:=u
 try dsimp only at h
 cases h
 have h:=p
 rw[<-s _ rfl]at h
 try dsimp only at h
 cases h
 exact rt []
 cases h
 exact bj _ [0,1,2,3,4,5]
 cases h
 exact bj _ [0,1,2,3,4,5]
 intro k h
 try dsimp only at h
 refine dr mixed ?_
 refine cl (some true) [] 0 h (Kv N _) fun af h=>?_
 refine cl (some true) [] 0 h (JA N _ _ _ _) fun a4 h=>?_
 refine de aE true [a4] ?_
 refine apC true h fun ag h=>?_
 refine po (jH 7 [73] []) ?_
 refine cl (some true) [] 0 h (AR N _ _) fun ah h=>?_
 refine dk ?_
 refine cd h (fun a5 h=>?_) (fun a5 h=>?_)
 refine dr mixed ?_
 refine bF h fun ai h=>?_
 refine cl none [] 0 h (jP N _ _) fun aj h=>?_
 refine dk ?_
 cases h
 exact bj _ [0,1,2,3,4]
 cases h
 exact bj _ [0,1,2,3,4]
 rintro⟨f,g,i,j⟩ h
 try dsimp only at h
 cases h
 exact bl [0,1,2,3,5]
end Go.Proofs.YtipdkfmhfakbnaaGreatDoor.SY

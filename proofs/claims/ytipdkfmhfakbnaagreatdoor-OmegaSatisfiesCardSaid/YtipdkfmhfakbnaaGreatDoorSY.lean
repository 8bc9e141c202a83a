/- Walks of the symbolic machine, written by a program of mine (wip/tool). -/
import Derived.Test.YtipdkfmhfakbnaaGreatDoorTB
import Derived.Test.YtipdkfmhfakbnaaGreatDoorAd
import Derived.Test.YtipdkfmhfakbnaaGreatDoorOB
import Derived.Test.YtipdkfmhfakbnaaGreatDoorSB
import Derived.Test.YtipdkfmhfakbnaaGreatDoorSC
import Derived.Test.YtipdkfmhfakbnaaGreatDoorSP
import Derived.Test.YtipdkfmhfakbnaaGreatDoorSQ
import Derived.Test.YtipdkfmhfakbnaaGreatDoorSV
import Derived.Test.YtipdkfmhfakbnaaGreatDoorSW
set_option linter.unusedVariables false
set_option linter.unusedSimpArgs false
set_option linter.unusedSectionVars false
set_option maxRecDepth 100000
set_option maxHeartbeats 4000000
namespace Go.Proofs.YtipdkfmhfakbnaaGreatDoor.SY
open Go Go.RowKit Go.X Go.Q Go.D Go.Proofs.YtipdkfmhfakbnaaGreatDoor.TB Go.Proofs.YtipdkfmhfakbnaaGreatDoor.FS Go.Proofs.YtipdkfmhfakbnaaGreatDoor.OB Go.Proofs.YtipdkfmhfakbnaaGreatDoor.SB Go.Proofs.YtipdkfmhfakbnaaGreatDoor.SC Go.Proofs.YtipdkfmhfakbnaaGreatDoor.SP Go.Proofs.YtipdkfmhfakbnaaGreatDoor.SQ Go.Proofs.YtipdkfmhfakbnaaGreatDoor.SV Go.Proofs.YtipdkfmhfakbnaaGreatDoor.SW
theorem ochain_c(N:Nat)(run:OState→Option OOut)(hrun:∀(s:OState) (r:OOut) (h:run s=some r),Cx Tryz.prog 75 [.lf (.ptr 0 0)] [.box [(lI .i64 s.n),.ap 1 rIneq false s.known,.ap 2 rStep false s.steps,.own 3,.own 4,.own 5,.own 6,.ap 7 rOElim false s.stack],.arow rIneq false s.known,.arow rStep false s.steps,.row (rSl rBig) false s.u,.row (rInt .i64) true s.status,.row rBig false s.value,.row rOItem false s.items,.arow rOElim false s.stack] [] [sA rOOut false r]):∀(s:OState) (low:OItem) (k:Big) (most:Big) (r:OOut) (h:ochain N run s low k most=some r),Cx Tryz.prog 170 [.lf (.ptr 0 0),sA rOItem false low,sA rBig false k,sA rBig false most] [.box [(lI .i64 s.n),(.ro rIneq false s.known),(.ro rStep false s.steps),(.ro (rSl rBig) false s.u),(.ro (rInt .i64) false s.status),(.ro rBig false s.value),(.ro rOItem false s.items),(.ro rOElim false s.stack)]] [(0,some (.box [(lI .i64 s.n),(.ro rIneq false s.known),(.ro rStep false s.steps),(.ro (rSl rBig) false s.u),(.ro (rInt .i64) false s.status),(.ro rBig false s.value),(.ro rOItem false s.items),(.ro rOElim false s.stack)]))] [sA rOOut false r]:=by
 induction N with
 |zero=>intro s low k most r h;cases h
 |succ N ih=>
  intro s low k most r h
  replace h:ochain_step N run (ochain N run) s low k most=some r:=h
  unfold ochain_step at h
  refine fn tb en170 Tryz.func170 fun X w H ν=>?_
  refine cl none [] 0 h (bCompare_c N _ _) fun r1 h=>?_
  refine cd h (fun hc6 h=>?_) (fun hc6 h=>?_)
  refine cl (some false) [0] 5 h (ocopy_c N _) fun r7 h=>?_
  refine po (ca 5 1) ?_
  refine po (ca 5 2) ?_
  refine po (ca 5 7) ?_
  refine cl (some false) [5,10,11,6,7,8,9,12] 0 h (hrun _) fun r8 h=>?_
  cases h
  exact rt [0]
  refine dr mixed ?_
  refine ixR h fun x9 h=>?_
  refine dk ?_
  refine dr mixed ?_
  refine cl none [] 1 h (onegative_c N _) fun c h=>?_
  refine cl none [] 0 h (bNeg_c N _) fun d h=>?_
  refine dk ?_
  refine po (fzq 6 [10,34,39,41] []) ?_
  refine cl (some false) [0] 7 h (oassume_c N _ _) fun a h=>?_
  refine sn (mkS 14 [.box [(lI .i64 s.n),(.ro rIneq false s.known),(.ro rStep false s.steps),(.ro (rSl rBig) false s.u),(.ro (rInt .i64) false s.status),(.ro rBig false s.value),(.ro rOItem false s.items),(.ro rOElim false s.stack)],.box (Opn.cl rOItem false low),.box (Opn.cl rBig false k),.box (Opn.cl rBig false most),.box [(lI .i64 0),lN,lN,lN,(lB false),lN,lN,(lI .i64 0)],.box (Opn.cl rIneq false x9),.box (Opn.cl rBig true d),.box [(lI .i64 a.n),(.own 8),(.own 9),(.own 10),(.own 11),(.own 12),(.own 13),(.cp rOElim false a.stack)],.row rIneq false a.known,.row rStep false a.steps,.row (rSl rBig) false a.u,.row (rInt .i64) true a.status,.row rBig false a.value,.row rOItem false a.items] [vp 0 0,vp 5 1,vp 6 2,vp 7 3,vp 8 4,vp 9 5,vr 10 rBig true c,vp 11 6,vp 12 7]) [0,1,2,3,4,5,7,8,9,10,11,12,13,14] ?_
  refine ps (oa 7 1) ?_
  refine ps (oa 7 2) ?_
  refine ps (ca 7 7) ?_
  refine dr mixed ?_
  refine cl none [] 1 h (onegative_c N _) fun l h=>?_
  refine po (fzk 15 [52,53] []) ?_
  refine cl (some false) [7,8,9,10,11,12,13,14] 7 h (oadd_c N _ _) fun m h=>?_
  refine dk ?_
  refine cl (some false) [7,16,17,18,19,20,21,22] 0 h (hrun _) fun e h=>?_
  refine sn (mkS 8 [.box [(lI .i64 s.n),(.ro rIneq false s.known),(.ro rStep false s.steps),(.ro (rSl rBig) false s.u),(.ro (rInt .i64) false s.status),(.ro rBig false s.value),(.ro rOItem false s.items),(.ro rOElim false s.stack)],.box (Opn.cl rOItem false low),.box (Opn.cl rBig false k),.box (Opn.cl rBig false most),.box [(lI .i64 0),lN,lN,lN,(lB false),lN,lN,(lI .i64 0)],.box (Opn.cl rIneq false x9),.box (Opn.cl rBig true d),.box (Opn.cl rOOut false e)] [vp 0 0,vp 5 1,vp 6 2,vp 7 3,vp 8 4,vp 9 5,vr 10 rBig true c,vp 11 6,vp 13 7,vb 59 (decide ((e.kind:Int)≠1))]) [0,1,2,3,4,5,6,23] ?_
  refine cd h (fun f h=>?_) (fun f h=>?_)
  cases h
  exact rt [0]
  refine dr mixed ?_
  refine cl none [] 0 h (bOf_c N _) fun o h=>?_
  refine cl none [] 0 h (bSub_c N _ _) fun p h=>?_
  refine cl (some false) [0] 7 h (oassume_c N _ _) fun b h=>?_
  refine dk ?_
  refine ps (fzq 14 [] [8]) ?_
  refine dr mixed ?_
  refine cl (some false) [] 1 h (oreplaced_c N _ _ _) fun i h=>?_
  refine dk ?_
  refine sn (mkS 14 [.box [(lI .i64 s.n),(.ro rIneq false s.known),(.ro rStep false s.steps),(.ro (rSl rBig) false s.u),(.ro (rInt .i64) false s.status),(.ro rBig false s.value),(.ro rOItem false s.items),(.ro rOElim false s.stack)],.box (Opn.cl rBig false k),.box (Opn.cl rBig false most),.box [(lI .i64 0),lN,lN,lN,(lB false),lN,lN,(lI .i64 0)],.box (Opn.cl rBig true d),.box (Opn.cl rOOut false e),.box [(lI .i64 b.n),(.own 7),(.own 8),(.own 9),(.own 10),(.own 11),(.own 12),(.cp rOElim false b.stack)],.row rIneq false b.known,.row rStep false b.steps,.row (rSl rBig) false b.u,.row (rInt .i64) true b.status,.row rBig false b.value,.row rOItem false i,.box [(lI .i64 (iw ((List.length b.known:Int)-1))),(.ro rBig false low.g)]] [vp 0 0,vp 6 1,vp 7 2,vp 8 3,vr 10 rBig true c,vp 11 4,vp 13 5,vp 14 6,vp 15 13]) [0,2,3,4,6,7,8,9,10,11,12,13,15,16] ?_
  refine ps (fzq 7 [] [6]) ?_
  refine ps (fzq 8 [] [6]) ?_
  refine ps (fzq 9 [] [6]) ?_
  refine ps (fzq 10 [] [6]) ?_
  refine ps (fzq 11 [] [6]) ?_
  refine ps (fzq 12 [] [6]) ?_
  refine dr mixed ?_
  refine cl none [] 0 h (bOf_c N _) fun q h=>?_
  refine cl none [] 0 h (bAdd_c N _ _) fun v h=>?_
  refine cl (some false) [6] 0 h (ih _ _ _ _) fun y h=>?_
  refine dk ?_
  refine cd h (fun j h=>?_) (fun j h=>?_)
  cases h
  exact rt [0]
  refine clS (some false) [0] h (ojoined_c N _ _ _ _ _) fun a0 h=>?_
  cases h
  exact rt [0]
theorem osplit_c(N:Nat)(run:OState→Option OOut)(hrun:∀(s:OState) (r:OOut) (h:run s=some r),Cx Tryz.prog 75 [.lf (.ptr 0 0)] [.box [(lI .i64 s.n),.ap 1 rIneq false s.known,.ap 2 rStep false s.steps,.own 3,.own 4,.own 5,.own 6,.ap 7 rOElim false s.stack],.arow rIneq false s.known,.arow rStep false s.steps,.row (rSl rBig) false s.u,.row (rInt .i64) true s.status,.row rBig false s.value,.row rOItem false s.items,.arow rOElim false s.stack] [] [sA rOOut false r]):∀(s:OState) (v:Int) (lows:(List OItem)) (vat3:(List Int)) (r:OOut) (h:osplit N run s v lows vat3=some r),Cx Tryz.prog 142 [.lf (.ptr 0 0),sI .i64 v,sR rOItem false lows,sR (rInt .i64) false vat3] [.box [(lI .i64 s.n),(.ro rIneq false s.known),(.ro rStep false s.steps),(.ro (rSl rBig) false s.u),(.ro (rInt .i64) false s.status),(.ro rBig false s.value),(.ro rOItem false s.items),(.ro rOElim false s.stack)]] [(0,some (.box [(lI .i64 s.n),(.ro rIneq false s.known),(.ro rStep false s.steps),(.ro (rSl rBig) false s.u),(.ro (rInt .i64) false s.status),(.ro rBig false s.value),(.ro rOItem false s.items),(.ro rOElim false s.stack)]))] [sA rOOut false r]:=by
 induction N with
 |zero=>intro s v lows vat3 r h;cases h
 |succ N ih=>
  intro s v lows vat3 r h
  replace h:osplit_step N run (osplit N run) s v lows vat3=some r:=h
  unfold osplit_step at h
  refine fn tb en142 Tryz.func142 fun X w H ν=>?_
  refine clS (some false) [0] h (osidesR_c N _ _) fun r1 h=>?_
  refine jn (fun x=>x) (fun b=>mkS 2 [.box [(lI .i64 s.n),(.ro rIneq false s.known),(.ro rStep false s.steps),(.ro (rSl rBig) false s.u),(.ro (rInt .i64) false s.status),(.ro rBig false s.value),(.ro rOItem false s.items),(.ro rOElim false s.stack)],.box [(lI .i64 0),lN,lN,lN,(lB false),lN,lN,(lI .i64 0)]] [vp 0 0,vi 1 v,vr 2 rOItem false b,vr 3 (rInt .i64) false vat3,vp 8 1,vr 9 rOItem false r1.1]) h (fun a5 l a6=>?_) ?_
  refine bk ?_
  refine lp (fun c=>mkS 2 [.box [(lI .i64 s.n),(.ro rIneq false s.known),(.ro rStep false s.steps),(.ro (rSl rBig) false s.u),(.ro (rInt .i64) false s.status),(.ro rBig false s.value),(.ro rOItem false s.items),(.ro rOElim false s.stack)],.box [(lI .i64 0),lN,lN,lN,(lB false),lN,lN,(lI .i64 0)]] [vp 0 0,vi 1 v,vr 2 rOItem false c,vr 3 (rInt .i64) false vat3,vp 8 1,vr 9 rOItem false r1.1]) l [0,1] ?_
  rintro c oo h m
  rw[osplit_b1]at h
  refine jn (fun x=>x) (fun f=>mkS 2 [.box [(lI .i64 s.n),(.ro rIneq false s.known),(.ro rStep false s.steps),(.ro (rSl rBig) false s.u),(.ro (rInt .i64) false s.status),(.ro rBig false s.value),(.ro rOItem false s.items),(.ro rOElim false s.stack)],.box [(lI .i64 0),lN,lN,lN,(lB false),lN,lN,(lI .i64 0)]] [vp 0 0,vi 1 v,vr 2 rOItem false c,vr 3 (rInt .i64) false vat3,vp 8 1,vr 9 rOItem false r1.1,vb 40 f]) h (fun a7 h a8=>?_) ?_
  refine rg ?_
  refine gd h (fun o h=>?_) (fun o h=>?_)
  refine ixR h fun a9 h=>?_
  refine cl none [] 0 h (oslack_c N _ _ _) fun aa h=>?_
  refine cl none [] 0 h (bSign_c N _) fun ab h=>?_
  cases h
  exact bj _ [0,1]
  cases h
  exact bj _ [0,1]
  intro f h
  try dsimp only at h
  refine cd h (fun p h=>?_) (fun p h=>?_)
  refine bk ?_
  refine cutR h fun ac h=>?_
  cases h
  exact bl [0,1]
  cases h
  exact bj _ [0,1] (hx:=m _ rfl)
  intro b h
  try dsimp only at h
  refine cd h (fun q h=>?_) (fun q h=>?_)
  refine cl (some false) [0] 5 h (ocopy_c N _) fun y h=>?_
  refine po (ca 2 1) ?_
  refine po (ca 2 2) ?_
  refine po (ca 2 7) ?_
  refine cl (some false) [2,7,8,3,4,5,6,9] 7 h (odrop_c N _ _ _) fun a h=>?_
  refine dr mixed ?_
  refine ixQ h fun ad ae h=>?_
  refine stP h (fun a0 h=>?_) (by assumption)
  refine dk ?_
  refine sn (mkS 10 [.box [(lI .i64 s.n),(.ro rIneq false s.known),(.ro rStep false s.steps),(.ro (rSl rBig) false s.u),(.ro (rInt .i64) false s.status),(.ro rBig false s.value),(.ro rOItem false s.items),(.ro rOElim false s.stack)],.box [(lI .i64 0),lN,lN,lN,(lB false),lN,lN,(lI .i64 0)],.box [(lI .i64 y.n),(.ap 3 rIneq false a.2.known),(.ap 4 rStep false a.2.steps),(.own 5),(.own 6),(.own 7),(.own 8),(.own 9)],.arow rIneq false a.2.known,.arow rStep false a.2.steps,.row (rSl rBig) false a.2.u,.row (rInt .i64) true a.2.status,.row rBig false a.2.value,.row rOItem false a.2.items,.row rOElim false a0] [vp 0 0,vp 8 1,vp 11 2,vb 65 (!a.1)]) [0,1,2,10,11,12,13,14,15,16] ?_
  refine cd h (fun a1 h=>?_) (fun a1 h=>?_)
  refine po (oa 2 7) ?_
  refine cl (some false) [2,3,4,5,6,7,8,9] 0 h (orefuted_c N _) fun af h=>?_
  cases h
  exact rt [0]
  refine po (oa 2 7) ?_
  refine cl (some false) [2,3,4,5,6,7,8,9] 0 h (hrun _) fun ag h=>?_
  cases h
  exact rt [0]
  refine dr mixed ?_
  refine ixR h fun g h=>?_
  refine ixR h fun ah h=>?_
  refine cl none [] 0 h (oslack_c N _ _ _) fun i h=>?_
  refine dk ?_
  refine dr mixed ?_
  refine ixR h fun j h=>?_
  refine dk ?_
  refine cl none [] 1 h (onegative_c N _) fun d h=>?_
  refine sn (mkS 6 [.box [(lI .i64 s.n),(.ro rIneq false s.known),(.ro rStep false s.steps),(.ro (rSl rBig) false s.u),(.ro (rInt .i64) false s.status),(.ro rBig false s.value),(.ro rOItem false s.items),(.ro rOElim false s.stack)],.box [(lI .i64 0),lN,lN,lN,(lB false),lN,lN,(lI .i64 0)],.box (Opn.cl rOItem false g),.box (Opn.cl rBig true i),.box (Opn.cl rIneq false j),.row rBig true d] [vp 0 0,vi 1 v,vr 2 rOItem false b,vr 3 (rInt .i64) false vat3,vp 8 1,vp 13 2,vp 14 3,vp 15 4,vo 16 5]) [0,1,2,3,4,5] ?_
  refine dr mixed ?_
  refine cl none [] 0 h (bSub_c N _ _) fun ai h=>?_
  refine cl none [] 0 h (bOf_c N _) fun aj h=>?_
  refine cl none [] 0 h (bSub_c N _ _) fun ak h=>?_
  refine cl (some false) [0] 7 h (oassume_c N _ _) fun al h=>?_
  refine dk ?_
  refine ps (fzq 12 [] [6]) ?_
  refine dr mixed ?_
  refine cl (some false) [] 1 h (oreplaced_c N _ _ _) fun am h=>?_
  refine dk ?_
  refine cutR h fun an h=>?_
  refine po (fzq 7 [111] [6]) ?_
  refine po (fzq 8 [] [6]) ?_
  refine po (fzq 9 [] [6]) ?_
  refine po (fzq 10 [] [6]) ?_
  refine po (fzq 11 [] [6]) ?_
  refine po (fzq 13 [114] [6]) ?_
  refine cl (some false) [6] 0 h (ih _ _ _ _) fun e h=>?_
  refine sn (mkS 7 [.box [(lI .i64 s.n),(.ro rIneq false s.known),(.ro rStep false s.steps),(.ro (rSl rBig) false s.u),(.ro (rInt .i64) false s.status),(.ro rBig false s.value),(.ro rOItem false s.items),(.ro rOElim false s.stack)],.box [(lI .i64 0),lN,lN,lN,(lB false),lN,lN,(lI .i64 0)],.box (Opn.cl rOItem false g),.box (Opn.cl rBig true i),.box (Opn.cl rIneq false j),.row rBig true d,.box (Opn.cl rOOut false e)] [vp 0 0,vp 8 1,vp 13 2,vp 14 3,vp 15 4,vo 16 5,vp 18 6,vb 125 (decide ((e.kind:Int)≠1))]) [0,1,2,3,4,5,14] ?_
  refine cd h (fun a2 h=>?_) (fun a2 h=>?_)
  cases h
  exact rt [0]
  refine cl none [] 0 h (bSub_c N _ _) fun a3 h=>?_
  refine po (fzq 5 [16,132,134] []) ?_
  refine cl (some false) [0] 7 h (oassume_c N _ _) fun ao h=>?_
  refine ps (oa 8 1) ?_
  refine ps (oa 8 2) ?_
  refine ps (ca 8 7) ?_
  refine dr mixed ?_
  refine cl none [] 1 h (onegative_c N _) fun aq h=>?_
  refine po (fzk 16 [145,146] []) ?_
  refine cl (some false) [8,9,10,11,12,13,14,15] 7 h (oadd_c N _ _) fun ar h=>?_
  refine dk ?_
  refine po (fa 8 1) ?_
  refine po (fa 8 2) ?_
  refine po (fzq 19 [] [8]) ?_
  refine po (fzq 20 [] [8]) ?_
  refine po (fzq 21 [] [8]) ?_
  refine po (fzq 22 [] [8]) ?_
  refine po (fa 8 7) ?_
  refine cl (some false) [8] 0 h (ochain_c N run hrun _ _ _ _) fun k h=>?_
  refine sn (mkS 5 [.box [(lI .i64 s.n),(.ro rIneq false s.known),(.ro rStep false s.steps),(.ro (rSl rBig) false s.u),(.ro (rInt .i64) false s.status),(.ro rBig false s.value),(.ro rOItem false s.items),(.ro rOElim false s.stack)],.box [(lI .i64 0),lN,lN,lN,(lB false),lN,lN,(lI .i64 0)],.box (Opn.cl rOOut false e),.box (Opn.cl rBig true a3),.box (Opn.cl rOOut false k)] [vp 0 0,vp 8 1,vr 16 rBig true d,vp 18 2,vp 19 3,vp 21 4,vb 155 (decide ((k.kind:Int)≠1))]) [0,1,6,7,24] ?_
  refine cd h (fun a4 h=>?_) (fun a4 h=>?_)
  cases h
  exact rt [0]
  refine clS (some false) [0] h (ojoined_c N _ _ _ _ _) fun av h=>?_
  cases h
  exact rt [0]
theorem ohalve_c(N:Nat)(run:OState→Option OOut)(hrun:∀(s:OState) (r:OOut) (h:run s=some r),Cx Tryz.prog 75 [.lf (.ptr 0 0)] [.box [(lI .i64 s.n),.ap 1 rIneq false s.known,.ap 2 rStep false s.steps,.own 3,.own 4,.own 5,.own 6,.ap 7 rOElim false s.stack],.arow rIneq false s.known,.arow rStep false s.steps,.row (rSl rBig) false s.u,.row (rInt .i64) true s.status,.row rBig false s.value,.row rOItem false s.items,.arow rOElim false s.stack] [] [sA rOOut false r])(s:OState)(c:OSpan)(r:OOut)(h:ohalve N run s c=some r):Cx Tryz.prog 139 [.lf (.ptr 0 0),sA rOSpan false c] [.box [(lI .i64 s.n),(.ro rIneq false s.known),(.ro rStep false s.steps),(.ro (rSl rBig) false s.u),(.ro (rInt .i64) false s.status),(.ro rBig false s.value),(.ro rOItem false s.items),(.ro rOElim false s.stack)]] [(0,some (.box [(lI .i64 s.n),(.ro rIneq false s.known),(.ro rStep false s.steps),(.ro (rSl rBig) false s.u),(.ro (rInt .i64) false s.status),(.ro rBig false s.value),(.ro rOItem false s.items),(.ro rOElim false s.stack)]))] [sA rOOut false r]:=by
 unfold ohalve at h
 refine fn tb en139 Tryz.func139 fun X w H ν=>?_
 refine cl none [] 0 h (bAdd_c N _ _) fun r1 h=>?_
 refine cl none [] 0 h (bOf_c N _) fun r2 h=>?_
 refine cl none [] 0 h (bDivFloor_c N _ _) fun r3 h=>?_
 refine dr mixed ?_
 refine ixR h fun x4 h=>?_
 refine dk ?_
 refine cl (some false) [0] 7 h (oassume_c N _ _) fun r5 h=>?_
 refine sn (mkS 11 [.box [(lI .i64 s.n),(.ro rIneq false s.known),(.ro rStep false s.steps),(.ro (rSl rBig) false s.u),(.ro (rInt .i64) false s.status),(.ro rBig false s.value),(.ro rOItem false s.items),(.ro rOElim false s.stack)],.box (Opn.cl rOSpan false c),.box [(lI .i64 0),lN,lN,lN,(lB false),lN,lN,(lI .i64 0)],.box (Opn.cl rBig true r3.1),.box [(lI .i64 r5.n),(.own 5),(.own 6),(.own 7),(.own 8),(.own 9),(.own 10),(.cp rOElim false r5.stack)],.row rIneq false r5.known,.row rStep false r5.steps,.row (rSl rBig) false r5.u,.row (rInt .i64) true r5.status,.row rBig false r5.value,.row rOItem false r5.items] [vp 0 0,vp 3 1,vp 4 2,vp 5 3,vr 8 rBig false x4.Coefs,vp 9 4]) [0,1,2,3,5,6,7,8,9,10,11] ?_
 refine ps (oa 4 1) ?_
 refine ps (oa 4 2) ?_
 refine ps (ca 4 7) ?_
 refine dr mixed ?_
 refine cl (some false) [4,5,6,7,8,9,10,11] 7 h (oadd_c N _ _) fun r6 h=>?_
 refine dk ?_
 refine cl (some false) [4,12,13,14,15,16,17,18] 0 h (hrun _) fun r7 h=>?_
 refine sn (mkS 5 [.box [(lI .i64 s.n),(.ro rIneq false s.known),(.ro rStep false s.steps),(.ro (rSl rBig) false s.u),(.ro (rInt .i64) false s.status),(.ro rBig false s.value),(.ro rOItem false s.items),(.ro rOElim false s.stack)],.box (Opn.cl rOSpan false c),.box [(lI .i64 0),lN,lN,lN,(lB false),lN,lN,(lI .i64 0)],.box (Opn.cl rBig true r3.1),.box (Opn.cl rOOut false r7)] [vp 0 0,vp 3 1,vp 4 2,vp 5 3,vr 8 rBig false x4.Coefs,vp 10 4,vb 55 (decide ((r7.kind:Int)≠1))]) [0,1,2,3,19] ?_
 refine cd h (fun b h=>?_) (fun b h=>?_)
 cases h
 exact rt [0]
 refine dr mixed ?_
 refine cl none [] 1 h (onegative_c N _) fun e h=>?_
 refine cl none [] 0 h (bNeg_c N _) fun f h=>?_
 refine cl none [] 0 h (bOf_c N _) fun g h=>?_
 refine cl none [] 0 h (bSub_c N _ _) fun i h=>?_
 refine po (fzk 5 [59,64] []) ?_
 refine cl (some false) [0] 7 h (oassume_c N _ _) fun j h=>?_
 refine dk ?_
 refine ps (oa 6 1) ?_
 refine ps (oa 6 2) ?_
 refine ps (ca 6 7) ?_
 refine dr mixed ?_
 refine cl none [] 1 h (onegative_c N _) fun k h=>?_
 refine po (fzk 14 [76,77] []) ?_
 refine cl (some false) [6,7,8,9,10,11,12,13] 7 h (oadd_c N _ _) fun l h=>?_
 refine dk ?_
 refine cl (some false) [6,15,16,17,18,19,20,21] 0 h (hrun _) fun a h=>?_
 refine sn (mkS 5 [.box [(lI .i64 s.n),(.ro rIneq false s.known),(.ro rStep false s.steps),(.ro (rSl rBig) false s.u),(.ro (rInt .i64) false s.status),(.ro rBig false s.value),(.ro rOItem false s.items),(.ro rOElim false s.stack)],.box [(lI .i64 0),lN,lN,lN,(lB false),lN,lN,(lI .i64 0)],.box (Opn.cl rBig true r3.1),.box (Opn.cl rOOut false r7),.box (Opn.cl rOOut false a)] [vp 0 0,vp 4 1,vp 5 2,vr 8 rBig false x4.Coefs,vp 10 3,vp 12 4,vb 83 (decide ((a.kind:Int)≠1))]) [0,2,3,4,22] ?_
 refine cd h (fun d h=>?_) (fun d h=>?_)
 cases h
 exact rt [0]
 refine clS (some false) [0] h (ojoined_c N _ _ _ _ _) fun m h=>?_
 cases h
 exact rt [0]
theorem obranch_c(N:Nat)(run:OState→Option OOut)(hrun:∀(s:OState) (r:OOut) (h:run s=some r),Cx Tryz.prog 75 [.lf (.ptr 0 0)] [.box [(lI .i64 s.n),.ap 1 rIneq false s.known,.ap 2 rStep false s.steps,.own 3,.own 4,.own 5,.own 6,.ap 7 rOElim false s.stack],.arow rIneq false s.known,.arow rStep false s.steps,.row (rSl rBig) false s.u,.row (rInt .i64) true s.status,.row rBig false s.value,.row rOItem false s.items,.arow rOElim false s.stack] [] [sA rOOut false r])(s:OState)(v:Int)(r:OOut)(h:obranch N run s v=some r):Cx Tryz.prog 108 [.lf (.ptr 0 0),sI .i64 v] [.box [(lI .i64 s.n),(.ro rIneq false s.known),(.ro rStep false s.steps),(.ro (rSl rBig) false s.u),(.ro (rInt .i64) false s.status),(.ro rBig false s.value),(.ro rOItem false s.items),(.ro rOElim false s.stack)]] [(0,some (.box [(lI .i64 s.n),(.ro rIneq false s.known),(.ro rStep false s.steps),(.ro (rSl rBig) false s.u),(.ro (rInt .i64) false s.status),(.ro rBig false s.value),(.ro rOItem false s.items),(.ro rOElim false s.stack)]))] [sA rOOut false r]:=by
 unfold obranch at h
 refine fn tb en108 Tryz.func108 fun X w H ν=>?_
 refine clS (some false) [0] h (onarrow_c N _) fun r1 h=>?_
 refine jn (fun x=>(Sum.inl x)) (fun(_:Unit)=>mkS 2 [.box [(lI .i64 s.n),(.ro rIneq false s.known),(.ro rStep false s.steps),(.ro (rSl rBig) false s.u),(.ro (rInt .i64) false s.status),(.ro rBig false s.value),(.ro rOItem false s.items),(.ro rOElim false s.stack)],.box [(lI .i64 0),lN,lN,lN,(lB false),lN,lN,(lI .i64 0)]] [vp 0 0,vi 1 v,vp 4 1]) h (fun a3 h i=>?_) ?_
 refine cd h (fun j h=>?_) (fun j h=>?_)
 refine cl none [] 0 h (bSub_c N _ _) fun a4 h=>?_
 refine jn (fun x=>x) (fun b=>mkS 3 [.box [(lI .i64 s.n),(.ro rIneq false s.known),(.ro rStep false s.steps),(.ro (rSl rBig) false s.u),(.ro (rInt .i64) false s.status),(.ro rBig false s.value),(.ro rOItem false s.items),(.ro rOElim false s.stack)],.box [(lI .i64 0),lN,lN,lN,(lB false),lN,lN,(lI .i64 0)],.box (Opn.cl rOSpan false r1.1)] [vp 0 0,vi 1 v,vp 4 1,vp 5 2,vb 37 b]) h (fun a5 h a6=>?_) ?_
 refine dr mixed ?_
 refine cl none [] 0 h (bOf_c N _) fun a7 h=>?_
 refine cl none [] 0 h (bCompare_c N _ _) fun a8 h=>?_
 refine gd h (fun k h=>?_) (fun k h=>?_)
 refine clS (some false) [0] h (ototal_c N _ _) fun a9 h=>?_
 refine cl none [] 0 h (bCompare_c N _ _) fun aa h=>?_
 refine dk ?_
 cases h
 exact bj _ [0,1,2]
 refine dk ?_
 cases h
 exact bj _ [0,1,2]
 intro b h
 try dsimp only at h
 refine cd h (fun l h=>?_) (fun l h=>?_)
 refine clS (some false) [0] h (ohalve_c N run hrun _ _) fun ab h=>?_
 cases h
 replace h:=i
 try dsimp only at h
 cases h
 exact rt [0]
 cases h
 exact bj _ [0,1]
 cases h
 exact bj _ [0,1]
 intro _ h
 try dsimp only at h
 refine cl (some false) [0] 5 h (ocopy_c N _) fun ac h=>?_
 refine po (ca 2 1) ?_
 refine po (ca 2 2) ?_
 refine po (ca 2 7) ?_
 refine cl (some false) [2,7,8,3,4,5,6,9] 7 h (odrop_c N _ _ _) fun ad h=>?_
 refine cd h (fun m h=>?_) (fun m h=>?_)
 refine po (oa 2 7) ?_
 refine cl (some false) [2,10,11,12,13,14,15,16] 0 h (orefuted_c N _) fun ae h=>?_
 cases h
 exact rt [0]
 refine po (oa 2 7) ?_
 refine cl (some false) [2,10,11,12,13,14,15,16] 0 h (hrun _) fun o h=>?_
 refine jn (fun x=>x) (fun c=>mkS 3 [.box [(lI .i64 s.n),(.ro rIneq false s.known),(.ro rStep false s.steps),(.ro (rSl rBig) false s.u),(.ro (rInt .i64) false s.status),(.ro rBig false s.value),(.ro rOItem false s.items),(.ro rOElim false s.stack)],.box [(lI .i64 0),lN,lN,lN,(lB false),lN,lN,(lI .i64 0)],.box (Opn.cl rOOut false o)] [vp 0 0,vi 1 v,vp 4 1,vp 9 2,vb 59 c]) h (fun af h ag=>?_) ?_
 refine rg ?_
 refine gd h (fun p h=>?_) (fun p h=>?_)
 cases h
 exact bj _ [0,1,17]
 cases h
 exact bj _ [0,1,17]
 intro c h
 try dsimp only at h
 refine cd h (fun q h=>?_) (fun q h=>?_)
 cases h
 exact rt [0]
 refine clS (some false) [0] h (osidesR_c N _ _) fun a h=>?_
 refine litO (rSl rOItem) false [a.1,a.2] ?_
 refine po (fzq 3 [69] []) ?_
 refine cl (some false) [] 0 h (concatItem_c N _) fun d h=>?_
 refine jn (fun x=>x) (fun e=>mkS 3 [.box [(lI .i64 s.n),(.ro rIneq false s.known),(.ro rStep false s.steps),(.ro (rSl rBig) false s.u),(.ro (rInt .i64) false s.status),(.ro rBig false s.value),(.ro rOItem false s.items),(.ro rOElim false s.stack)],.box [(lI .i64 0),lN,lN,lN,(lB false),lN,lN,(lI .i64 0)],.row (rInt .i64) true e] [vp 0 0,vi 1 v,vp 4 1,vr 11 rOItem false a.2,vo 12 2]) h (fun ah y ai=>?_) ?_
 refine bk ?_
 refine ps (nl 12 (rInt .i64)) ?_
 refine lp (fun⟨f,g⟩=>mkS 3 [.box [(lI .i64 s.n),(.ro rIneq false s.known),(.ro rStep false s.steps),(.ro (rSl rBig) false s.u),(.ro (rInt .i64) false s.status),(.ro rBig false s.value),(.ro rOItem false s.items),(.ro rOElim false s.stack)],.box [(lI .i64 0),lN,lN,lN,(lB false),lN,lN,(lI .i64 0)],.row (rInt .i64) true f] [vp 0 0,vi 1 v,vp 4 1,vr 11 rOItem false a.2,vo 12 2,vr 70 rOItem false d,vi 71 (List.length d:Int),vi 72 g]) y [0,1,4] ?_
 rintro⟨f,g⟩ oo h a0
 rw[obranch_b1]at h
 refine cd h (fun a1 h=>?_) (fun a1 h=>?_)
 refine bk ?_
 refine ixR h fun a2 h=>?_
 refine litO (rInt .i64) true [a2.pos] ?_
 refine apO true h fun aj h=>?_
 cases h
 exact bl [0,1,5]
 cases h
 exact bj _ [0,1,2] (hx:=a0 _ rfl)
 intro e h
 try dsimp only at h
 refine po (fzq 2 [12,85] []) ?_
 refine clS (some false) [0] h (osplit_c N run hrun _ _ _ _) fun ak h=>?_
 cases h
 exact rt [0]
theorem orun_c(N:Nat):∀(s:OState) (r:OOut) (h:orun N s=some r),Cx Tryz.prog 75 [.lf (.ptr 0 0)] [.box [(lI .i64 s.n),.ap 1 rIneq false s.known,.ap 2 rStep false s.steps,.own 3,.own 4,.own 5,.own 6,.ap 7 rOElim false s.stack],.arow rIneq false s.known,.arow rStep false s.steps,.row (rSl rBig) false s.u,.row (rInt .i64) true s.status,.row rBig false s.value,.row rOItem false s.items,.arow rOElim false s.stack] [] [sA rOOut false r]:=by
 induction N with
 |zero=>intro s r h;cases h
 |succ N ih=>
  intro s r h
  replace h:orun_step N (orun N) s=some r:=h
  unfold orun_step at h
  refine fnv (m:=8) tb (.comp (mva 0 1 1) (.comp (mva 0 2 2) (.comp (mvb 0 3 3) (.comp (mvb 0 4 4) (.comp (mvb 0 5 5) (.comp (mvb 0 6 6) (mva 0 7 7))))))) en75 Tryz.func75 fun X w H ν=>?_
  obtain⟨a3,p,d⟩:=bind_some h
  refine bk ?_
  refine lp (fun⟨f,g,j,k,l,o,i⟩=>mkG 16 [some (.box [(lI .i64 s.n),(.ap 8 rIneq false f),(.ap 9 rStep false g),(.own 10),(.own 11),(.own 12),(.own 13),(.ap 14 rOElim false i)]),none,none,none,none,none,none,none,some (.arow rIneq false f),some (.arow rStep false g),some (.row (rSl rBig) false j),some (.row (rInt .i64) true k),some (.row rBig false l),some (.row rOItem false o),some (.arow rOElim false i),some (.box [(lI .i64 0),lN,lN,lN,(lB false),lN,lN,(lI .i64 0)])] [vp 0 0,vp 2 15]) p [0,1,2,3,4,5,6,7,8,9,10,11,12,13,14,15] ?_
  rintro⟨f,g,j,k,l,o,i⟩ oo h e
  rw[orun_b1]at h
  refine bk ?_
  refine cl (some false) [0,8,9,10,11,12,13,14] 7 h (opair_c N _) fun a h=>?_
  refine sn (mkG 16 [some (.box [(lI .i64 s.n),(.ap 8 rIneq false a.2.2.2.2.known),(.ap 9 rStep false a.2.2.2.2.steps),(.own 10),(.own 11),(.own 12),(.own 13),(.ap 14 rOElim false a.2.2.2.2.stack)]),none,none,none,none,none,none,none,some (.arow rIneq false a.2.2.2.2.known),some (.arow rStep false a.2.2.2.2.steps),some (.row (rSl rBig) false a.2.2.2.2.u),some (.row (rInt .i64) true a.2.2.2.2.status),some (.row rBig false a.2.2.2.2.value),some (.row rOItem false a.2.2.2.2.items),some (.arow rOElim false a.2.2.2.2.stack),some (.box [(lI .i64 0),lN,lN,lN,(lB false),lN,lN,(lI .i64 0)])] [vp 0 0,vp 2 15,vi 3 a.1,vi 4 a.2.1,vb 5 a.2.2.1,vb 17 (!a.2.2.2.1)]) [0,1,2,3,4,5,6,7,16,17,18,19,20,21,22,15] ?_
  refine cd h (fun q h=>?_) (fun q h=>?_)
  refine cl (some false) [0,8,9,10,11,12,13,14] 0 h (orefuted_c N _) fun a4 h=>?_
  cases h
  have h:=d
  rw[←e _ rfl]at h
  try dsimp only at h
  cases h
  exact rt [0,1,2,3,4,5,6,7]
  refine cd h (fun v h=>?_) (fun v h=>?_)
  refine cl (some false) [0,8,9,10,11,12,13,14] 7 h (oequal_c N _ _ _) fun b h=>?_
  refine sn (mkG 16 [some (.box [(lI .i64 s.n),(.ap 8 rIneq false b.2.known),(.ap 9 rStep false b.2.steps),(.own 10),(.own 11),(.own 12),(.own 13),(.ap 14 rOElim false b.2.stack)]),none,none,none,none,none,none,none,some (.arow rIneq false b.2.known),some (.arow rStep false b.2.steps),some (.row (rSl rBig) false b.2.u),some (.row (rInt .i64) true b.2.status),some (.row rBig false b.2.value),some (.row rOItem false b.2.items),some (.arow rOElim false b.2.stack),some (.box [(lI .i64 0),lN,lN,lN,(lB false),lN,lN,(lI .i64 0)])] [vp 0 0,vp 2 15,vb 25 (!b.1)]) [0,1,2,3,4,5,6,7,16,17,18,19,20,21,22,15] ?_
  refine cd h (fun y h=>?_) (fun y h=>?_)
  refine cl (some false) [0,8,9,10,11,12,13,14] 0 h (orefuted_c N _) fun a5 h=>?_
  cases h
  have h:=d
  rw[←e _ rfl]at h
  try dsimp only at h
  cases h
  exact rt [0,1,2,3,4,5,6,7]
  cases h
  exact bl [0,1,2,3,4,5,6,7,8,9,10,11,12,13,14,15]
  refine clS (some false) [0,8,9,10,11,12,13,14] h (ochoose_c N _) fun a6 h=>?_
  refine cd h (fun a0 h=>?_) (fun a0 h=>?_)
  refine cl (some false) [0,8,9,10,11,12,13,14] 0 h (oback_c N _) fun a7 h=>?_
  cases h
  have h:=d
  rw[←e _ rfl]at h
  try dsimp only at h
  cases h
  exact rt [0,1,2,3,4,5,6,7]
  refine clS (some false) [0,8,9,10,11,12,13,14] h (oexact_c N _ _) fun a8 h=>?_
  refine cd h (fun a1 h=>?_) (fun a1 h=>?_)
  refine po (fa 0 1) ?_
  refine po (fa 0 2) ?_
  refine po (fzq 10 [] [0]) ?_
  refine po (fzq 11 [] [0]) ?_
  refine po (fzq 12 [] [0]) ?_
  refine po (fzq 13 [] [0]) ?_
  refine po (fa 0 7) ?_
  refine cl (some false) [0] 0 h (obranch_c N (orun N) ih _ _) fun a9 h=>?_
  cases h
  have h:=d
  rw[←e _ rfl]at h
  try dsimp only at h
  cases h
  exact rt [0,1,2,3,4,5,6,7]
  refine cl (some false) [0,8,9,10,11,12,13,14] 7 h (odrop_c N _ _ _) fun c h=>?_
  refine sn (mkG 16 [some (.box [(lI .i64 s.n),(.ap 8 rIneq false c.2.known),(.ap 9 rStep false c.2.steps),(.own 10),(.own 11),(.own 12),(.own 13),(.own 14)]),none,none,none,none,none,none,none,some (.arow rIneq false c.2.known),some (.arow rStep false c.2.steps),some (.row (rSl rBig) false c.2.u),some (.row (rInt .i64) true c.2.status),some (.row rBig false c.2.value),some (.row rOItem false c.2.items),some (.row rOElim false c.2.stack),some (.box [(lI .i64 0),lN,lN,lN,(lB false),lN,lN,(lI .i64 0)])] [vp 0 0,vp 2 15,vb 47 (!c.1)]) [0,1,2,3,4,5,6,7,16,17,18,19,20,21,22,15] ?_
  refine cd h (fun a2 h=>?_) (fun a2 h=>?_)
  refine po (oa 0 7) ?_
  refine cl (some false) [0,8,9,10,11,12,13,14] 0 h (orefuted_c N _) fun aa h=>?_
  cases h
  have h:=d
  rw[←e _ rfl]at h
  try dsimp only at h
  cases h
  exact rt [0,1,2,3,4,5,6,7]
  cases h
  exact bl [0,1,2,3,4,5,6,7,8,9,10,11,12,13,14,15]
theorem odecide_c(N:Nat)(n:Int)(system:(List Ineq))(r:OOut)(h:odecide N n system=some r):Cx Tryz.prog 40 [sI .i64 n,sR rIneq false system] [] [] [sA rOOut false r]:=by
 unfold odecide at h
 refine fn tb en40 Tryz.func40 fun X w H ν=>?_
 refine cl (some false) [] 8 h (onew_c N _ _) fun r1 h=>?_
 refine po (oa 1 1) ?_
 refine po (oa 1 2) ?_
 refine po (oa 1 7) ?_
 refine cl (some false) [1,2,3,4,5,6,7,8] 7 h (obegin_c N _) fun r2 h=>?_
 refine cd h (fun hc6 h=>?_) (fun hc6 h=>?_)
 refine cl (some false) [1,9,10,11,12,13,14,15] 0 h (orefuted_c N _) fun r7 h=>?_
 cases h
 exact rt []
 refine cl (some false) [1,9,10,11,12,13,14,15] 0 h (orun_c N _) fun r8 h=>?_
 cases h
 exact rt []
theorem omSolve_c(N:Nat)(n:Int)(l:(List Constraint))(r:((List Big)×Proof×Bool))(h:omSolve N n l=some r):Cx Tryz.prog 36 [sI .i64 n,sR rConstraint false l] [] [] [sR rBig false r.1,sA rProof false r.2.1,sB r.2.2]:=by
 unfold omSolve at h
 refine fn tb en36 Tryz.func36 fun X w H ν=>?_
 refine cl none [] 1 h (cSystem_c N _ _) fun r1 h=>?_
 refine po (fzq 1 [11] []) ?_
 refine cl (some true) [] 0 h (odecide_c N _ _) fun r2 h=>?_
 refine cd h (fun hc5 h=>?_) (fun hc5 h=>?_)
 cases h
 exact rt []
 refine dr mixed ?_
 refine dk ?_
 cases h
 exact rt []
theorem ofalls_c(N:Nat)(n:Int)(system:(List Ineq))(v:Int)(r:Bool)(h:ofalls N n system v=some r):Cx Tryz.prog 41 [sI .i64 n,sR rIneq false system,sI .i64 v] [] [] [sB r]:=by
 unfold ofalls at h
 refine fn tb en41 Tryz.func41 fun X w H ν=>?_
 refine jn (fun x=>x) (fun a=>mkS 1 [.row rIneq false a] [vi 0 n,vi 2 v,vo 7 0]) h (fun j d k=>?_) ?_
 refine bk ?_
 refine ps (nl 7 rIneq) ?_
 refine lp (fun⟨b,c⟩=>mkS 1 [.row rIneq false b] [vi 0 n,vi 2 v,vo 7 0,vr 10 rIneq false system,vi 11 (List.length system:Int),vi 12 c]) d [0] ?_
 rintro⟨b,c⟩ oo h e
 rw[ofalls_b1]at h
 refine cd h (fun f h=>?_) (fun f h=>?_)
 refine bk ?_
 refine ixR h fun g h=>?_
 refine litO rIneq false [(Ineq.mk g.Coefs (Big.mk false ([]:(List Int))))] ?_
 refine apO false h fun l h=>?_
 cases h
 exact bl [3]
 cases h
 exact bj _ [0] (hx:=e _ rfl)
 intro a h
 try dsimp only at h
 refine cl none [] 0 h (bOf_c N _) fun m h=>?_
 refine cl (some true) [] 0 h (ounit_c N _ _ _ _) fun i h=>?_
 refine litO rIneq true [i] ?_
 refine apO false h fun o h=>?_
 refine po (fzq 2 [30] []) ?_
 refine cl (some false) [] 0 h (odecide_c N _ _) fun p h=>?_
 cases h
 exact rt []
theorem omLeast_c(N:Nat)(n:Int)(l:(List Constraint))(v:Int)(r:(Big×Bool))(h:omLeast N n l v=some r):Cx Tryz.prog 15 [sI .i64 n,sR rConstraint false l,sI .i64 v] [] [] [sA rBig false r.1,sB r.2]:=by
 unfold omLeast at h
 refine fn tb en15 Tryz.func15 fun X w H ν=>?_
 refine cl none [] 1 h (cSystem_c N _ _) fun r1 h=>?_
 refine po (fzq 1 [8,22,24] []) ?_
 refine cl (some true) [] 0 h (odecide_c N _ _) fun r2 h=>?_
 refine jn (fun x=>x) (fun x6=>mkS 2 [.box [(lB false),lN],.box (Opn.cl rOOut true r2)] [vi 0 n,vi 2 v,vp 6 0,vr 8 rIneq true r1,vp 9 1,vb 34 x6]) h (fun s7 h g8=>?_) ?_
 refine rg ?_
 refine gd h (fun hc9 h=>?_) (fun hc9 h=>?_)
 cases h
 exact bj _ [0,2]
 refine cl none [] 0 h (ofalls_c N _ _ _) fun a5 h=>?_
 cases h
 exact bj _ [0,2]
 intro x6 h
 try dsimp only at h
 refine cd h (fun m h=>?_) (fun m h=>?_)
 cases h
 exact rt []
 refine cl none [] 0 h (bOf_c N _) fun a h=>?_
 refine ixR h fun a6 h=>?_
 obtain⟨a7,o,p⟩:=bind_some h
 refine bk ?_
 refine lp (fun⟨b,c,d,e⟩=>mkS 5 [.box [(lB false),lN],.box (Opn.cl rBig true a),.box (Opn.cl rBig true b),.box (Opn.cl rBig true c),.box (Opn.cl rBig true e)] [vi 0 n,vi 2 v,vp 6 0,vr 8 rIneq true r1,vp 10 1,vp 11 2,vp 12 3,vb 13 d,vp 14 4]) o [0,2,3,4,5] ?_
 rintro⟨b,c,d,e⟩ oo h q
 rw[omLeast_b1]at h
 refine jn (fun x=>(Sum.inl x)) (fun⟨f,g,i,j⟩=>mkS 5 [.box [(lB false),lN],.box (Opn.cl rBig true a),.box (Opn.cl rBig true f),.box (Opn.cl rBig true g),.box (Opn.cl rBig true j)] [vi 0 n,vi 2 v,vp 6 0,vr 8 rIneq true r1,vp 10 1,vp 11 2,vp 12 3,vb 13 i,vp 14 4]) h (fun a8 h s=>?_) ?_
 refine bk ?_
 refine cl none [] 0 h (bSub_c N _ _) fun a9 h=>?_
 refine jn (fun x=>(Sum.inl x)) (fun k=>mkS 6 [.box [(lB false),lN],.box (Opn.cl rBig true a),.box (Opn.cl rBig true b),.box (Opn.cl rBig true c),.box (Opn.cl rBig true e),.box (Opn.cl rBig true k)] [vi 0 n,vi 2 v,vp 6 0,vr 8 rIneq true r1,vp 10 1,vp 11 2,vp 12 3,vb 13 d,vp 14 4,vp 15 5]) h (fun aa h u=>?_) ?_
 refine cd h (fun y h=>?_) (fun y h=>?_)
 refine cl none [] 0 h (bAdd_c N _ _) fun ab h=>?_
 refine cl none [] 0 h (bOf_c N _) fun ac h=>?_
 refine cl none [] 0 h (bDivFloor_c N _ _) fun a0 h=>?_
 refine dr mixed ?_
 refine cl none [] 0 h (bSub_c N _ _) fun ad h=>?_
 refine cl none [] 0 h (bCompare_c N _ _) fun a1 h=>?_
 refine dk ?_
 refine sn (mkS 6 [.box [(lB false),lN],.box (Opn.cl rBig true a),.box (Opn.cl rBig true b),.box (Opn.cl rBig true c),.box (Opn.cl rBig true e),.box (Opn.cl rBig true a0.1)] [vi 0 n,vi 2 v,vp 6 0,vr 8 rIneq true r1,vp 10 1,vp 11 2,vp 12 3,vb 13 d,vp 14 4,vp 15 5,vb 63 (decide ((a1:Int)≤0))]) [0,1,2,3,4,5] ?_
 refine cd h (fun a2 h=>?_) (fun a2 h=>?_)
 cases h
 replace h:=u
 try dsimp only at h
 cases h
 replace h:=s
 try dsimp only at h
 cases h
 have h:=p
 rw[←q _ rfl]at h
 try dsimp only at h
 cases h
 exact rt []
 cases h
 exact bj _ [0,1,2,3,4,5]
 cases h
 exact bj _ [0,1,2,3,4,5]
 intro k h
 try dsimp only at h
 refine dr mixed ?_
 refine cl (some true) [] 0 h (clipIneq_c N _) fun ae h=>?_
 refine cl (some true) [] 0 h (ounit_c N _ _ _ _) fun a3 h=>?_
 refine litO rIneq true [a3] ?_
 refine apC true h fun af h=>?_
 refine po (fzk 7 [73] []) ?_
 refine cl (some true) [] 0 h (odecide_c N _ _) fun ag h=>?_
 refine dk ?_
 refine cd h (fun a4 h=>?_) (fun a4 h=>?_)
 refine dr mixed ?_
 refine ixR h fun ah h=>?_
 refine cl none [] 0 h (bAdd_c N _ _) fun ai h=>?_
 refine dk ?_
 cases h
 exact bj _ [0,1,2,3,4]
 cases h
 exact bj _ [0,1,2,3,4]
 rintro⟨f,g,i,j⟩ h
 try dsimp only at h
 cases h
 exact bl [0,1,2,3,5]
end Go.Proofs.YtipdkfmhfakbnaaGreatDoor.SY

/- Walks of the symbolic machine, written by a program of mine (wip/tool). -/
import Derived.Test.YtipdkfmhfakbnaaGreatDoorTB
import Derived.Test.YtipdkfmhfakbnaaGreatDoorAg
import Derived.Test.YtipdkfmhfakbnaaGreatDoorAe
import Derived.Test.YtipdkfmhfakbnaaGreatDoorSB
import Derived.Test.YtipdkfmhfakbnaaGreatDoorSC
import Derived.Test.YtipdkfmhfakbnaaGreatDoorSP
import Derived.Test.YtipdkfmhfakbnaaGreatDoorSQ
import Derived.Test.YtipdkfmhfakbnaaGreatDoorSV
set_option linter.unusedVariables false
set_option linter.unusedSimpArgs false
set_option linter.unusedSectionVars false
set_option maxRecDepth 100000
set_option maxHeartbeats 4000000
namespace Go.Proofs.YtipdkfmhfakbnaaGreatDoor.SW
open Go Go.RowKit Go.X Go.Q Go.D Go.Proofs.YtipdkfmhfakbnaaGreatDoor.TB Go.Proofs.YtipdkfmhfakbnaaGreatDoor.FS Go.Proofs.YtipdkfmhfakbnaaGreatDoor.SB Go.Proofs.YtipdkfmhfakbnaaGreatDoor.SC Go.Proofs.YtipdkfmhfakbnaaGreatDoor.SP Go.Proofs.YtipdkfmhfakbnaaGreatDoor.SQ Go.Proofs.YtipdkfmhfakbnaaGreatDoor.SV
theorem Fo(N:Nat)(s:aR)(v:Int)(r:((List aY)×(List aY)))(h:rS N s v=some r):Cx Tryz.prog 133 [.lf (.ptr 0 0),sI .i64 v] [.box [(lI .i64 s.n),.ap 1 aE false s.known,.ap 2 aJ false s.steps,.own 3,.own 4,.own 5,.own 6,.ap 7 aM false s.stack],.aG aE false s.known,.aG aJ false s.steps,.row (aV aA) false s.u,.row (aD .i64) true s.status,.row aA false s.value,.row aH false s.items,.aG aM false s.stack] [(0,some (.box [(lI .i64 s.n),.ap 1 aE false s.known,.ap 2 aJ false s.steps,.own 3,.own 4,.own 5,.own 6,.ap 7 aM false s.stack])),(1,some (.aG aE false s.known)),(2,some (.aG aJ false s.steps)),(3,some (.row (aV aA) false s.u)),(4,some (.row (aD .i64) true s.status)),(5,some (.row aA false s.value)),(6,some (.row aH false s.items)),(7,some (.aG aM false s.stack))] [sR aH false r.1,sR aH false r.2]:=by
 unfold rS at h
 refine fn tb KS Tryz.func133 fun X w H ν=>?_
 refine jn (fun x=>x) (fun⟨b,c⟩=>aW 10 [.box [(lI .i64 s.n),(.ap 1 aE false s.known),(.ap 2 aJ false s.steps),(.own 3),(.own 4),(.own 5),(.own 6),(.ap 7 aM false s.stack)],.aG aE false s.known,.aG aJ false s.steps,.row (aV aA) false s.u,.row (aD .i64) true s.status,.row aA false s.value,.row aH false s.items,.aG aM false s.stack,.row aH false b,.row aH false c] [vp 0 0,vo 4 8,vo 5 9]) h (fun p j y=>?_) ?_
 refine bk ?_
 refine ps (nl 4 aH) ?_
 refine ps (nl 5 aH) ?_
 refine lp (fun⟨d,e,a⟩=>aW 10 [.box [(lI .i64 s.n),(.ap 1 aE false s.known),(.ap 2 aJ false s.steps),(.own 3),(.own 4),(.own 5),(.own 6),(.ap 7 aM false s.stack)],.aG aE false s.known,.aG aJ false s.steps,.row (aV aA) false s.u,.row (aD .i64) true s.status,.row aA false s.value,.row aH false s.items,.aG aM false s.stack,.row aH false d,.row aH false e] [vp 0 0,vi 1 v,vo 4 8,vo 5 9,vo 11 6,vi 12 (List.length s.items:Int),vi 13 a]) j [0,1,2,3,4,5,6,7,8,9] ?_
 rintro⟨d,e,a⟩ oo h k
 rw[EE]at h
 refine cd h (fun l h=>?_) (fun l h=>?_)
 refine jn (fun x=>x) (fun⟨f,g⟩=>aW 10 [.box [(lI .i64 s.n),(.ap 1 aE false s.known),(.ap 2 aJ false s.steps),(.own 3),(.own 4),(.own 5),(.own 6),(.ap 7 aM false s.stack)],.aG aE false s.known,.aG aJ false s.steps,.row (aV aA) false s.u,.row (aD .i64) true s.status,.row aA false s.value,.row aH false s.items,.aG aM false s.stack,.row aH false f,.row aH false g] [vp 0 0,vi 1 v,vo 4 8,vo 5 9,vo 11 6,vi 12 (List.length s.items:Int),vi 13 a]) h (fun a0 h a1=>?_) ?_
 refine bk ?_
 refine cy h fun i h=>?_
 refine dL ?_
 refine bF h fun a2 h=>?_
 refine cl none [] 0 h (ic N _) fun a3 h=>?_
 refine bk ?_
 refine cd h (fun m h=>?_) (fun m h=>?_)
 refine de aH false [i] ?_
 refine dQ false h fun a4 h=>?_
 cases h
 exact bj _ [0,1,2,3,4,5,6,7,12,9]
 refine cd h (fun o h=>?_) (fun o h=>?_)
 refine de aH false [i] ?_
 refine dQ false h fun a5 h=>?_
 cases h
 exact bj _ [0,1,2,3,4,5,6,7,8,12]
 cases h
 exact bj _ [0,1,2,3,4,5,6,7,8,9]
 rintro⟨f,g⟩ h
 try dsimp only at h
 cases h
 exact bl [0,1,2,3,4,5,6,7,8,9]
 cases h
 exact bj _ [0,1,2,3,4,5,6,7,8,9] (hx:=k _ rfl)
 rintro⟨b,c⟩ h
 try dsimp only at h
 cases h
 exact rt [0,1,2,3,4,5,6,7]
theorem FD(N:Nat)(s:aR)(v:Int)(r:((List aY)×(List aY)))(h:sy N s v=some r):Cx Tryz.prog 133 [.lf (.ptr 0 0),sI .i64 v] [.box [(lI .i64 s.n),(.ro aE false s.known),(.ro aJ false s.steps),(.ro (aV aA) false s.u),(.ro (aD .i64) false s.status),(.ro aA false s.value),(.ro aH false s.items),(.ro aM false s.stack)]] [(0,some (.box [(lI .i64 s.n),(.ro aE false s.known),(.ro aJ false s.steps),(.ro (aV aA) false s.u),(.ro (aD .i64) false s.status),(.ro aA false s.value),(.ro aH false s.items),(.ro aM false s.stack)]))] [sR aH false r.1,sR aH false r.2]:=by
 unfold sy at h
 refine fn tb KS Tryz.func133 fun X w H ν=>?_
 refine jn (fun x=>x) (fun⟨b,c⟩=>aW 3 [.box [(lI .i64 s.n),(.ro aE false s.known),(.ro aJ false s.steps),(.ro (aV aA) false s.u),(.ro (aD .i64) false s.status),(.ro aA false s.value),(.ro aH false s.items),(.ro aM false s.stack)],.row aH false b,.row aH false c] [vp 0 0,vo 4 1,vo 5 2]) h (fun p j y=>?_) ?_
 refine bk ?_
 refine ps (nl 4 aH) ?_
 refine ps (nl 5 aH) ?_
 refine lp (fun⟨d,e,a⟩=>aW 3 [.box [(lI .i64 s.n),(.ro aE false s.known),(.ro aJ false s.steps),(.ro (aV aA) false s.u),(.ro (aD .i64) false s.status),(.ro aA false s.value),(.ro aH false s.items),(.ro aM false s.stack)],.row aH false d,.row aH false e] [vp 0 0,vi 1 v,vo 4 1,vo 5 2,vr 11 aH false s.items,vi 12 (List.length s.items:Int),vi 13 a]) j [0,1,2] ?_
 rintro⟨d,e,a⟩ oo h k
 rw[KX]at h
 refine cd h (fun l h=>?_) (fun l h=>?_)
 refine jn (fun x=>x) (fun⟨f,g⟩=>aW 3 [.box [(lI .i64 s.n),(.ro aE false s.known),(.ro aJ false s.steps),(.ro (aV aA) false s.u),(.ro (aD .i64) false s.status),(.ro aA false s.value),(.ro aH false s.items),(.ro aM false s.stack)],.row aH false f,.row aH false g] [vp 0 0,vi 1 v,vo 4 1,vo 5 2,vr 11 aH false s.items,vi 12 (List.length s.items:Int),vi 13 a]) h (fun a0 h a1=>?_) ?_
 refine bk ?_
 refine bF h fun i h=>?_
 refine bF h fun a2 h=>?_
 refine cl none [] 0 h (ic N _) fun a3 h=>?_
 refine bk ?_
 refine cd h (fun m h=>?_) (fun m h=>?_)
 refine de aH false [i] ?_
 refine dQ false h fun a4 h=>?_
 cases h
 exact bj _ [0,5,2]
 refine cd h (fun o h=>?_) (fun o h=>?_)
 refine de aH false [i] ?_
 refine dQ false h fun a5 h=>?_
 cases h
 exact bj _ [0,1,5]
 cases h
 exact bj _ [0,1,2]
 rintro⟨f,g⟩ h
 try dsimp only at h
 cases h
 exact bl [0,1,2]
 cases h
 exact bj _ [0,1,2] (hx:=k _ rfl)
 rintro⟨b,c⟩ h
 try dsimp only at h
 cases h
 exact rt [0]
theorem Pv(N:Nat)(s:aR)(v:Int)(r:(aB×Bool))(h:xK N s v=some r):Cx Tryz.prog 130 [.lf (.ptr 0 0),sI .i64 v] [.box [(lI .i64 s.n),.ap 1 aE false s.known,.ap 2 aJ false s.steps,.own 3,.own 4,.own 5,.own 6,.ap 7 aM false s.stack],.aG aE false s.known,.aG aJ false s.steps,.row (aV aA) false s.u,.row (aD .i64) true s.status,.row aA false s.value,.row aH false s.items,.aG aM false s.stack] [(0,some (.box [(lI .i64 s.n),.ap 1 aE false s.known,.ap 2 aJ false s.steps,.own 3,.own 4,.own 5,.own 6,.ap 7 aM false s.stack])),(1,some (.aG aE false s.known)),(2,some (.aG aJ false s.steps)),(3,some (.row (aV aA) false s.u)),(4,some (.row (aD .i64) true s.status)),(5,some (.row aA false s.value)),(6,some (.row aH false s.items)),(7,some (.aG aM false s.stack))] [sA aA true r.1,sB r.2]:=by
 unfold xK at h
 refine fn tb en130 Tryz.func130 fun X w H ν=>?_
 refine eV (some false) [0,1,2,3,4,5,6,7] h (Fo N _ _) fun r1 h=>?_
 refine cd h (fun hc4 h=>?_) (fun hc4 h=>?_)
 cases h
 exact rt [0,1,2,3,4,5,6,7]
 refine jn (fun x=>x) (fun x7=>aW 9 [.box [(lI .i64 s.n),(.ap 1 aE false s.known),(.ap 2 aJ false s.steps),(.own 3),(.own 4),(.own 5),(.own 6),(.ap 7 aM false s.stack)],.aG aE false s.known,.aG aJ false s.steps,.row (aV aA) false s.u,.row (aD .i64) true s.status,.row aA false s.value,.row aH false s.items,.aG aM false s.stack,.box [(lB false),lN]] [vp 0 0,vi 1 v,vp 4 8,vr 6 aH false r1.1,vr 7 aH false r1.2,vb 32 x7]) h (fun s8 h g9=>?_) ?_
 refine rg ?_
 refine gd h (fun e h=>?_) (fun e h=>?_)
 cases h
 exact bj _ [0,1,2,3,4,5,6,7,8]
 cases h
 exact bj _ [0,1,2,3,4,5,6,7,8]
 intro x7 h
 try dsimp only at h
 refine cd h (fun f h=>?_) (fun f h=>?_)
 cases h
 exact rt [0,1,2,3,4,5,6,7]
 refine cl none [] 0 h (gw N _) fun l h=>?_
 refine jn (fun x=>x) (fun b=>aW 10 [.box [(lI .i64 s.n),(.ap 1 aE false s.known),(.ap 2 aJ false s.steps),(.own 3),(.own 4),(.own 5),(.own 6),(.ap 7 aM false s.stack)],.aG aE false s.known,.aG aJ false s.steps,.row (aV aA) false s.u,.row (aD .i64) true s.status,.row aA false s.value,.row aH false s.items,.aG aM false s.stack,.box [(lB false),lN],.box (aO.cl aA true b)] [vp 0 0,vp 4 8,vp 8 9]) h (fun m g o=>?_) ?_
 refine bk ?_
 refine lp (fun⟨c,a⟩=>aW 10 [.box [(lI .i64 s.n),(.ap 1 aE false s.known),(.ap 2 aJ false s.steps),(.own 3),(.own 4),(.own 5),(.own 6),(.ap 7 aM false s.stack)],.aG aE false s.known,.aG aJ false s.steps,.row (aV aA) false s.u,.row (aD .i64) true s.status,.row aA false s.value,.row aH false s.items,.aG aM false s.stack,.box [(lB false),lN],.box (aO.cl aA true c)] [vp 0 0,vi 1 v,vp 4 8,vr 6 aH false r1.1,vp 8 9,vr 40 aH false r1.2,vi 41 (List.length r1.2:Int),vi 42 a]) g [0,1,2,3,4,5,6,7,8,9] ?_
 rintro⟨c,a⟩ oo h i
 rw[D2]at h
 refine cd h (fun j h=>?_) (fun j h=>?_)
 refine jn (fun x=>x) (fun d=>aW 10 [.box [(lI .i64 s.n),(.ap 1 aE false s.known),(.ap 2 aJ false s.steps),(.own 3),(.own 4),(.own 5),(.own 6),(.ap 7 aM false s.stack)],.aG aE false s.known,.aG aJ false s.steps,.row (aV aA) false s.u,.row (aD .i64) true s.status,.row aA false s.value,.row aH false s.items,.aG aM false s.stack,.box [(lB false),lN],.box (aO.cl aA true d)] [vp 0 0,vi 1 v,vp 4 8,vr 6 aH false r1.1,vp 8 9,vr 40 aH false r1.2,vi 41 (List.length r1.2:Int),vi 42 a]) h (fun p h y=>?_) ?_
 refine bk ?_
 refine bF h fun a0 h=>?_
 refine cl none [] 0 h (xb N _ _ _) fun a1 h=>?_
 refine cl none [] 0 h (ic N _) fun a2 h=>?_
 refine cd h (fun k h=>?_) (fun k h=>?_)
 refine dr mixed ?_
 refine cl none [] 0 h (gw N _) fun a3 h=>?_
 refine cl none [] 0 h (jP N _ _) fun a4 h=>?_
 refine cl none [] 0 h (l6 N _ _) fun a5 h=>?_
 refine dk ?_
 cases h
 exact bj _ [0,1,2,3,4,5,6,7,8,9]
 cases h
 exact bj _ [0,1,2,3,4,5,6,7,8,9]
 intro d h
 try dsimp only at h
 cases h
 exact bl [0,1,2,3,4,5,6,7,8,9]
 cases h
 exact bj _ [0,1,2,3,4,5,6,7,8,9] (hx:=i _ rfl)
 intro b h
 try dsimp only at h
 cases h
 exact rt [0,1,2,3,4,5,6,7]
theorem O4(N:Nat)(s:aR)(r:(Int×Bool))(h:uI N s=some r):Cx Tryz.prog 105 [.lf (.ptr 0 0)] [.box [(lI .i64 s.n),.ap 1 aE false s.known,.ap 2 aJ false s.steps,.own 3,.own 4,.own 5,.own 6,.ap 7 aM false s.stack],.aG aE false s.known,.aG aJ false s.steps,.row (aV aA) false s.u,.row (aD .i64) true s.status,.row aA false s.value,.row aH false s.items,.aG aM false s.stack] [(0,some (.box [(lI .i64 s.n),.ap 1 aE false s.known,.ap 2 aJ false s.steps,.own 3,.own 4,.own 5,.own 6,.ap 7 aM false s.stack])),(1,some (.aG aE false s.known)),(2,some (.aG aJ false s.steps)),(3,some (.row (aV aA) false s.u)),(4,some (.row (aD .i64) true s.status)),(5,some (.row aA false s.value)),(6,some (.row aH false s.items)),(7,some (.aG aM false s.stack))] [sI .i64 r.1,sB r.2]:=by
 unfold uI at h
 refine fn tb en105 Tryz.func105 fun X w H ν=>?_
 refine jn (fun x=>x) (fun⟨e,f⟩=>aW 8 [.box [(lI .i64 s.n),(.ap 1 aE false s.known),(.ap 2 aJ false s.steps),(.own 3),(.own 4),(.own 5),(.own 6),(.ap 7 aM false s.stack)],.aG aE false s.known,.aG aJ false s.steps,.row (aV aA) false s.u,.row (aD .i64) true s.status,.row aA false s.value,.row aH false s.items,.aG aM false s.stack] [vp 0 0,vi 4 e,vb 5 f]) h (fun a2 l a3=>?_) ?_
 refine bk ?_
 refine lp (fun⟨b,c,d,a⟩=>aW 9 [.box [(lI .i64 s.n),(.ap 1 aE false s.known),(.ap 2 aJ false s.steps),(.own 3),(.own 4),(.own 5),(.own 6),(.ap 7 aM false s.stack)],.aG aE false s.known,.aG aJ false s.steps,.row (aV aA) false s.u,.row (aD .i64) true s.status,.row aA false s.value,.row aH false s.items,.aG aM false s.stack,.box (aO.cl aA true d)] [vp 0 0,vi 4 b,vb 5 c,vp 6 8,vi 13 s.n,vi 14 a]) l [0,1,2,3,4,5,6,7,8] ?_
 rintro⟨b,c,d,a⟩ oo h m
 rw[Eb]at h
 refine cd h (fun o h=>?_) (fun o h=>?_)
 refine jn (fun x=>x) (fun⟨g,i,j⟩=>aW 9 [.box [(lI .i64 s.n),(.ap 1 aE false s.known),(.ap 2 aJ false s.steps),(.own 3),(.own 4),(.own 5),(.own 6),(.ap 7 aM false s.stack)],.aG aE false s.known,.aG aJ false s.steps,.row (aV aA) false s.u,.row (aD .i64) true s.status,.row aA false s.value,.row aH false s.items,.aG aM false s.stack,.box (aO.cl aA true j)] [vp 0 0,vi 4 g,vb 5 i,vp 6 8,vi 13 s.n,vi 14 a]) h (fun a4 h a5=>?_) ?_
 refine bk ?_
 refine cy h fun a6 h=>?_
 refine dL ?_
 refine cd h (fun p h=>?_) (fun p h=>?_)
 cases h
 exact bj _ [0,1,2,3,4,5,6,7,8]
 refine eV (some false) [0,1,2,3,4,5,6,7] h (Pv N _ _) fun v h=>?_
 refine jn (fun x=>x) (fun k=>aW 10 [.box [(lI .i64 s.n),(.ap 1 aE false s.known),(.ap 2 aJ false s.steps),(.own 3),(.own 4),(.own 5),(.own 6),(.ap 7 aM false s.stack)],.aG aE false s.known,.aG aJ false s.steps,.row (aV aA) false s.u,.row (aD .i64) true s.status,.row aA false s.value,.row aH false s.items,.aG aM false s.stack,.box (aO.cl aA true d),.box (aO.cl aA true v.1)] [vp 0 0,vi 4 b,vb 5 c,vp 6 8,vi 7 a,vp 8 9,vi 13 s.n,vi 14 a,vb 41 k]) h (fun a7 h a8=>?_) ?_
 refine rg ?_
 refine gd h (fun y h=>?_) (fun y h=>?_)
 refine gd h (fun a0 h=>?_) (fun a0 h=>?_)
 cases h
 exact bj _ [0,1,2,3,4,5,6,7,8,9]
 refine cl none [] 0 h (jm N _ _) fun a9 h=>?_
 cases h
 exact bj _ [0,1,2,3,4,5,6,7,8,9]
 cases h
 exact bj _ [0,1,2,3,4,5,6,7,8,9]
 intro k h
 try dsimp only at h
 refine cd h (fun a1 h=>?_) (fun a1 h=>?_)
 refine dr mixed ?_
 refine dk ?_
 cases h
 exact bj _ [0,1,2,3,4,5,6,7,8]
 cases h
 exact bj _ [0,1,2,3,4,5,6,7,8]
 rintro⟨g,i,j⟩ h
 try dsimp only at h
 cases h
 exact bl [0,1,2,3,4,5,6,7,8]
 cases h
 exact bj _ [0,1,2,3,4,5,6,7] (hx:=m _ rfl)
 rintro⟨e,f⟩ h
 try dsimp only at h
 cases h
 exact rt [0,1,2,3,4,5,6,7]
theorem Pr(N:Nat)(s:aR)(v:Int)(r:Bool)(h:uA N s v=some r):Cx Tryz.prog 107 [.lf (.ptr 0 0),sI .i64 v] [.box [(lI .i64 s.n),.ap 1 aE false s.known,.ap 2 aJ false s.steps,.own 3,.own 4,.own 5,.own 6,.ap 7 aM false s.stack],.aG aE false s.known,.aG aJ false s.steps,.row (aV aA) false s.u,.row (aD .i64) true s.status,.row aA false s.value,.row aH false s.items,.aG aM false s.stack] [(0,some (.box [(lI .i64 s.n),.ap 1 aE false s.known,.ap 2 aJ false s.steps,.own 3,.own 4,.own 5,.own 6,.ap 7 aM false s.stack])),(1,some (.aG aE false s.known)),(2,some (.aG aJ false s.steps)),(3,some (.row (aV aA) false s.u)),(4,some (.row (aD .i64) true s.status)),(5,some (.row aA false s.value)),(6,some (.row aH false s.items)),(7,some (.aG aM false s.stack))] [sB r]:=by
 unfold uA at h
 refine fn tb en107 Tryz.func107 fun X w H ν=>?_
 refine eV (some false) [0,1,2,3,4,5,6,7] h (Fo N _ _) fun r1 h=>?_
 refine cd h (fun hc4 h=>?_) (fun hc4 h=>?_)
 cases h
 exact rt [0,1,2,3,4,5,6,7]
 refine po (rC 8 3) ?_
 refine po (rC 9 5) ?_
 refine mkF (fun x:aY=>[sA aH false x]) (fun r:Bool=>[sB r]) (fun xx=>uO N xx v r1.1) (fun xx r h=>NH N xx v r1.1 r h) Mt ?_
 refine cl none [] 0 h (Qc N _ _) fun r5 h=>?_
 cases h
 exact rt [0,1,2,3,4,5,6,7]
theorem ED(N:Nat)(s:aR)(x:aY)(r:aB)(h:lU N s x=some r):Cx Tryz.prog 94 [.lf (.ptr 0 0),sA aH false x] [.box [(lI .i64 s.n),.ap 1 aE false s.known,.ap 2 aJ false s.steps,.own 3,.own 4,.own 5,.own 6,.own 7],.aG aE false s.known,.aG aJ false s.steps,.row (aV aA) false s.u,.row (aD .i64) true s.status,.row aA false s.value,.row aH false s.items,.row aM false s.stack] [(0,some (.box [(lI .i64 s.n),.ap 1 aE false s.known,.ap 2 aJ false s.steps,.own 3,.own 4,.own 5,.own 6,.own 7])),(1,some (.aG aE false s.known)),(2,some (.aG aJ false s.steps)),(3,some (.row (aV aA) false s.u)),(4,some (.row (aD .i64) true s.status)),(5,some (.row aA false s.value)),(6,some (.row aH false s.items)),(7,some (.row aM false s.stack))] [sA aA false r]:=by
 unfold lU at h
 refine fn tb D5 Tryz.func94 fun X w H ν=>?_
 refine dr mixed ?_
 refine ixA h fun x1 h=>?_
 refine ldA ?_
 refine dk ?_
 cases h
 exact rt [0,1,2,3,4,5,6,7]
theorem Su(N:Nat)(s:aR)(cG:(List dR))(d:aB)(r:bB)(h:pV N s cG d=some r):Cx Tryz.prog 149 [.lf (.ptr 0 0),sR ej false cG,sA aA false d] [.box [(lI .i64 s.n),.ap 1 aE false s.known,.ap 2 aJ false s.steps,.own 3,.own 4,.own 5,.own 6,.own 7],.aG aE false s.known,.aG aJ false s.steps,.row (aV aA) false s.u,.row (aD .i64) true s.status,.row aA false s.value,.row aH false s.items,.row aM false s.stack] [(0,some (.box [(lI .i64 s.n),.ap 1 aE false s.known,.ap 2 aJ false s.steps,.own 3,.own 4,.own 5,.own 6,.own 7])),(1,some (.aG aE false s.known)),(2,some (.aG aJ false s.steps)),(3,some (.row (aV aA) false s.u)),(4,some (.row (aD .i64) true s.status)),(5,some (.row aA false s.value)),(6,some (.row aH false s.items)),(7,some (.row aM false s.stack))] [sA aE true r]:=by
 unfold pV at h
 refine fn tb Hj Tryz.func149 fun X w H ν=>?_
 refine gP aA h fun x1 h=>?_
 refine jn (fun x=>x) (fun⟨Coefs280,Bound281⟩=>aW 12 [.box [(lI .i64 s.n),(.ap 1 aE false s.known),(.ap 2 aJ false s.steps),(.own 3),(.own 4),(.own 5),(.own 6),(.own 7)],.aG aE false s.known,.aG aJ false s.steps,.row (aV aA) false s.u,.row (aD .i64) true s.status,.row aA false s.value,.row aH false s.items,.row aM false s.stack,.box (aO.cl aA false d),.box [lN,(lB false),lN],.box [(.own 11),(lB Bound281.bG),(.ro (aD .u32) true Bound281.aP)],.row aA true Coefs280] [vp 0 0,vp 5 8,vp 6 9,vp 7 10]) h (fun y g a0=>?_) ?_
 refine bk ?_
 refine lp (fun⟨Coefs138,Bound139,a⟩=>aW 12 [.box [(lI .i64 s.n),(.ap 1 aE false s.known),(.ap 2 aJ false s.steps),(.own 3),(.own 4),(.own 5),(.own 6),(.own 7)],.aG aE false s.known,.aG aJ false s.steps,.row (aV aA) false s.u,.row (aD .i64) true s.status,.row aA false s.value,.row aH false s.items,.row aM false s.stack,.box (aO.cl aA false d),.box [lN,(lB false),lN],.box [(.own 11),(lB Bound139.bG),(.ro (aD .u32) true Bound139.aP)],.row aA true Coefs138] [vp 0 0,vp 5 8,vp 6 9,vp 7 10,vr 19 ej false cG,vi 20 (List.length cG:Int),vi 21 a]) g [0,1,2,3,4,5,6,7,8,9,11,10] ?_
 rintro⟨Coefs138,Bound139,a⟩ oo h i
 rw[Bm]at h
 refine cd h (fun j h=>?_) (fun j h=>?_)
 refine bk ?_
 refine bF h fun b h=>?_
 refine dr mixed ?_
 refine ixA h fun c h=>?_
 refine ldA ?_
 refine dk ?_
 refine jn (fun x=>x) (fun Coefs397=>aW 14 [.box [(lI .i64 s.n),(.ap 1 aE false s.known),(.ap 2 aJ false s.steps),(.own 3),(.own 4),(.own 5),(.own 6),(.own 7)],.aG aE false s.known,.aG aJ false s.steps,.row (aV aA) false s.u,.row (aD .i64) true s.status,.row aA false s.value,.row aH false s.items,.row aM false s.stack,.box (aO.cl aA false d),.box [lN,(lB false),lN],.box [(.own 11),(lB Bound139.bG),(.ro (aD .u32) true Bound139.aP)],.row aA true Coefs397,.box (aO.cl ej false b),.box (aO.cl aE false c)] [vp 0 0,vp 5 8,vp 6 9,vp 7 10,vp 9 12,vp 10 13,vr 19 ej false cG,vi 20 (List.length cG:Int),vi 21 a]) h (fun a1 k a2=>?_) ?_
 refine bk ?_
 refine lp (fun⟨Coefs375,e⟩=>aW 14 [.box [(lI .i64 s.n),(.ap 1 aE false s.known),(.ap 2 aJ false s.steps),(.own 3),(.own 4),(.own 5),(.own 6),(.own 7)],.aG aE false s.known,.aG aJ false s.steps,.row (aV aA) false s.u,.row (aD .i64) true s.status,.row aA false s.value,.row aH false s.items,.row aM false s.stack,.box (aO.cl aA false d),.box [lN,(lB false),lN],.box [(.own 11),(lB Bound139.bG),(.ro (aD .u32) true Bound139.aP)],.row aA true Coefs375,.box (aO.cl ej false b),.box (aO.cl aE false c)] [vp 0 0,vp 5 8,vp 6 9,vp 7 10,vp 9 12,vp 10 13,vr 19 ej false cG,vi 20 (List.length cG:Int),vi 21 a,vi 35 (List.length Coefs138:Int),vi 36 e]) k [0,1,2,3,4,5,6,7,8,9,10,11,12,13] ?_
 rintro⟨Coefs375,e⟩ oo h l
 rw[xT]at h
 refine cd h (fun m h=>?_) (fun m h=>?_)
 refine bk ?_
 refine dr mixed ?_
 refine cy h fun a3 h=>?_
 refine dL ?_
 refine bF h fun a4 h=>?_
 refine cl none [] 0 h (l6 N _ _) fun a5 h=>?_
 refine cl none [] 0 h (jP N _ _) fun a6 h=>?_
 refine cy h fun a7 h=>?_
 refine dW true h fun a8 h=>?_
 refine dk ?_
 cases h
 exact bl [0,1,2,3,4,5,6,7,8,9,10,11,12,13]
 cases h
 exact bj _ [0,1,2,3,4,5,6,7,8,9,10,11,12,13] (hx:=l _ rfl)
 intro Coefs397 h
 try dsimp only at h
 refine dr mixed ?_
 refine cl none [] 0 h (l6 N _ _) fun a9 h=>?_
 refine cl none [] 0 h (jP N _ _) fun aa h=>?_
 refine dk ?_
 cases h
 exact bl [0,1,2,3,4,5,6,7,8,9,10,11]
 cases h
 exact bj _ [0,1,2,3,4,5,6,7,8,9,10,11] (hx:=i _ rfl)
 rintro⟨Coefs280,Bound281⟩ h
 try dsimp only at h
 refine jn (fun x=>x) (fun Coefs452=>aW 12 [.box [(lI .i64 s.n),(.ap 1 aE false s.known),(.ap 2 aJ false s.steps),(.own 3),(.own 4),(.own 5),(.own 6),(.own 7)],.aG aE false s.known,.aG aJ false s.steps,.row (aV aA) false s.u,.row (aD .i64) true s.status,.row aA false s.value,.row aH false s.items,.row aM false s.stack,.box (aO.cl aA false d),.box [lN,(lB false),lN],.box [(.own 11),(lB Bound281.bG),(.ro (aD .u32) true Bound281.aP)],.row aA true Coefs452] [vp 0 0,vp 5 8,vp 6 9,vp 7 10]) h (fun ab o ac=>?_) ?_
 refine bk ?_
 refine lp (fun⟨Coefs434,f⟩=>aW 12 [.box [(lI .i64 s.n),(.ap 1 aE false s.known),(.ap 2 aJ false s.steps),(.own 3),(.own 4),(.own 5),(.own 6),(.own 7)],.aG aE false s.known,.aG aJ false s.steps,.row (aV aA) false s.u,.row (aD .i64) true s.status,.row aA false s.value,.row aH false s.items,.row aM false s.stack,.box (aO.cl aA false d),.box [lN,(lB false),lN],.box [(.own 11),(lB Bound281.bG),(.ro (aD .u32) true Bound281.aP)],.row aA true Coefs434] [vp 0 0,vp 5 8,vp 6 9,vp 7 10,vi 70 (List.length Coefs280:Int),vi 71 f]) o [0,1,2,3,4,5,6,7,8,9,10,11] ?_
 rintro⟨Coefs434,f⟩ oo h p
 rw[wK]at h
 refine cd h (fun v h=>?_) (fun v h=>?_)
 refine bk ?_
 refine dr mixed ?_
 refine cy h fun ad h=>?_
 refine dL ?_
 refine cl none [] 0 h (lS N _ _) fun ae h=>?_
 refine cy h fun af h=>?_
 refine dW true h fun ag h=>?_
 refine dk ?_
 cases h
 exact bl [0,1,2,3,4,5,6,7,8,9,10,11]
 cases h
 exact bj _ [0,1,2,3,4,5,6,7,8,9,10,11] (hx:=p _ rfl)
 intro Coefs452 h
 try dsimp only at h
 refine cl none [] 0 h (lS N _ _) fun ah h=>?_
 cases h
 exact rt [0,1,2,3,4,5,6,7]
theorem NV(N:Nat)(s:aR)(g:(List aB))(cG:(List dR))(r:(aY×Bool×Bool×aR))(h:sb N s g cG=some r):Cx Tryz.prog 120 [.lf (.ptr 0 0),sR aA false g,sR ej false cG] [.box [(lI .i64 s.n),.ap 1 aE false s.known,.ap 2 aJ false s.steps,.own 3,.own 4,.own 5,.own 6,.own 7],.aG aE false s.known,.aG aJ false s.steps,.row (aV aA) false s.u,.row (aD .i64) true s.status,.row aA false s.value,.row aH false s.items,.row aM false s.stack] [(0,some (.box [(lI .i64 s.n),.ap 8 aE false r.2.2.2.known,.ap 9 aJ false r.2.2.2.steps,.own 10,.own 11,.own 12,.own 13,.own 14])),(8,some (.aG aE false r.2.2.2.known)),(9,some (.aG aJ false r.2.2.2.steps)),(10,some (.row (aV aA) false r.2.2.2.u)),(11,some (.row (aD .i64) true r.2.2.2.status)),(12,some (.row aA false r.2.2.2.value)),(13,some (.row aH false r.2.2.2.items)),(14,some (.row aM false r.2.2.2.stack))] [sA aH false r.1,sB r.2.1,sB r.2.2.1]:=by
 unfold sb at h
 refine iA (m:=8) tb (.comp (eG 0 1 1) (.comp (eG 0 2 2) (.comp (df 0 3 3) (.comp (df 0 4 4) (.comp (df 0 5 5) (.comp (df 0 6 6) (df 0 7 7))))))) Mv Tryz.func120 fun X w H ν=>?_
 refine cl none [] 0 h (IC N _) fun r1 h=>?_
 refine cl none [] 0 h (ic N _) fun r2 h=>?_
 refine jn (fun x=>x) (fun d6=>cH 17 [some (.box [(lI .i64 s.n),(.ap 8 aE false s.known),(.ap 9 aJ false s.steps),(.own 10),(.own 11),(.own 12),(.own 13),(.own 14)]),none,none,none,none,none,none,none,some (.aG aE false s.known),some (.aG aJ false s.steps),some (.row (aV aA) false s.u),some (.row (aD .i64) true s.status),some (.row aA false s.value),some (.row aH false s.items),some (.row aM false s.stack),some (.box [(lI .i64 0),lN]),some (.box (aO.cl aA true d6))] [vp 0 0,vr 1 aA false g,vr 2 ej false cG,vp 6 15,vp 9 16,vb 10 (decide ((r2:Int)≠0))]) h (fun s7 h g8=>?_) ?_
 refine cd h (fun hc9 h=>?_) (fun hc9 h=>?_)
 refine cl none [] 0 h (gw N _) fun a5 h=>?_
 cases h
 exact bj _ [0,1,2,3,4,5,6,7,8,9,10,11,12,13,14,15,16]
 cases h
 exact bj _ [0,1,2,3,4,5,6,7,8,9,10,11,12,13,14,15,16]
 intro d6 h
 try dsimp only at h
 refine cl none [] 0 h (gw N _) fun c h=>?_
 refine jn (fun x=>x) (fun d=>cH 18 [some (.box [(lI .i64 s.n),(.ap 8 aE false s.known),(.ap 9 aJ false s.steps),(.own 10),(.own 11),(.own 12),(.own 13),(.own 14)]),none,none,none,none,none,none,none,some (.aG aE false s.known),some (.aG aJ false s.steps),some (.row (aV aA) false s.u),some (.row (aD .i64) true s.status),some (.row aA false s.value),some (.row aH false s.items),some (.row aM false s.stack),some (.box [(lI .i64 0),lN]),some (.box (aO.cl aA true d6)),some (.box (aO.cl aA true c))] [vp 0 0,vr 1 aA false g,vr 2 ej false cG,vp 6 15,vp 9 16,vb 10 (decide ((r2:Int)≠0)),vp 11 17,vb 40 d]) h (fun a6 h a7=>?_) ?_
 refine dr mixed ?_
 refine gd h (fun p h=>?_) (fun p h=>?_)
 refine dk ?_
 cases h
 exact bj _ [0,1,2,3,4,5,6,7,8,9,10,11,12,13,14,15,16,17]
 refine bF h fun a8 h=>?_
 refine cl none [] 0 h (jm N _ _) fun a9 h=>?_
 refine gd h (fun v h=>?_) (fun v h=>?_)
 refine dk ?_
 cases h
 exact bj _ [0,1,2,3,4,5,6,7,8,9,10,11,12,13,14,15,16,17]
 refine cl none [] 0 h (jm N _ _) fun aa h=>?_
 refine dk ?_
 cases h
 exact bj _ [0,1,2,3,4,5,6,7,8,9,10,11,12,13,14,15,16,17]
 intro d h
 try dsimp only at h
 refine jn (fun x=>x) (fun⟨a,b,e⟩=>cH 17 [some (.box [(lI .i64 s.n),(.ap 8 aE false a),(.ap 9 aJ false b),(.own 10),(.own 11),(.own 12),(.own 13),(.own 14)]),none,none,none,none,none,none,none,some (.aG aE false a),some (.aG aJ false b),some (.row (aV aA) false s.u),some (.row (aD .i64) true s.status),some (.row aA false s.value),some (.row aH false s.items),some (.row aM false s.stack),some (.box [(lI .i64 0),lN]),some (.box (aO.cl aA true d6))] [vp 0 0,vr 1 aA false g,vr 2 ej false e,vp 6 15,vp 9 16,vb 10 (decide ((r2:Int)≠0))]) h (fun ab h ac=>?_) ?_
 refine cd h (fun y h=>?_) (fun y h=>?_)
 refine dr mixed ?_
 refine de aJ false [(Step.mk cG d6)] ?_
 refine apA false h fun f h=>?_
 refine dk ?_
 refine ps (oa 0 2) ?_
 refine dr mixed ?_
 refine eV (some false) [0,8,19,10,11,12,13,14] h (Su N _ _ _) fun a0 h=>?_
 refine de aE true [a0] ?_
 refine apA false h fun i h=>?_
 refine dk ?_
 refine sn (cH 18 [some (.box [(lI .i64 s.n),(.own 8),(.ap 9 aJ false f),(.own 10),(.own 11),(.own 12),(.own 13),(.own 14)]),none,none,none,none,none,none,none,some (.row aE false i),some (.aG aJ false f),some (.row (aV aA) false s.u),some (.row (aD .i64) true s.status),some (.row aA false s.value),some (.row aH false s.items),some (.row aM false s.stack),some (.box [(lI .i64 0),lN]),some (.box (aO.cl aA true d6)),some (.box (aO.cl aA true c))] [vp 0 0,vr 1 aA false g,vp 6 15,vp 9 16,vb 10 (decide ((r2:Int)≠0)),vp 11 17]) [0,1,2,3,4,5,6,7,21,19,10,11,12,13,14,15,16,17] ?_
 refine dr mixed ?_
 refine de ej true [(dR.mk (iw ((List.length i:Int)-1)) c)] ?_
 refine dk ?_
 cases h
 exact bj _ [0,1,2,3,4,5,6,7,8,9,10,11,12,13,14,15,16]
 cases h
 exact bj _ [0,1,2,3,4,5,6,7,8,9,10,11,12,13,14,15,16]
 rintro⟨a,b,e⟩ h
 try dsimp only at h
 refine dr mixed ?_
 refine bF h fun j h=>?_
 refine gP aA h fun ad h=>?_
 refine dk ?_
 refine jn (fun x=>x) (fun k=>cH 18 [some (.box [(lI .i64 s.n),(.ap 8 aE false a),(.ap 9 aJ false b),(.own 10),(.own 11),(.own 12),(.own 13),(.own 14)]),none,none,none,none,none,none,none,some (.aG aE false a),some (.aG aJ false b),some (.row (aV aA) false s.u),some (.row (aD .i64) true s.status),some (.row aA false s.value),some (.row aH false s.items),some (.row aM false s.stack),some (.box [(lI .i64 0),lN]),some (.box [(lI .i64 j.Index),(.own 17)]),some (.row aA true k)] [vp 0 0,vp 6 15,vb 10 (decide ((r2:Int)≠0)),vp 12 16]) h (fun ae a1 af=>?_) ?_
 refine bk ?_
 refine lp (fun⟨l,o⟩=>cH 19 [some (.box [(lI .i64 s.n),(.ap 8 aE false a),(.ap 9 aJ false b),(.own 10),(.own 11),(.own 12),(.own 13),(.own 14)]),none,none,none,none,none,none,none,some (.aG aE false a),some (.aG aJ false b),some (.row (aV aA) false s.u),some (.row (aD .i64) true s.status),some (.row aA false s.value),some (.row aH false s.items),some (.row aM false s.stack),some (.box [(lI .i64 0),lN]),some (.box (aO.cl aA true d6)),some (.box [(lI .i64 j.Index),(.own 18)]),some (.row aA true l)] [vp 0 0,vr 1 aA false g,vp 6 15,vp 9 16,vb 10 (decide ((r2:Int)≠0)),vp 12 17,vi 86 (List.length g:Int),vi 87 o]) a1 [0,1,2,3,4,5,6,7,8,9,10,11,12,13,14,15,16,18,17] ?_
 rintro⟨l,o⟩ oo h a2
 rw[yu]at h
 refine cd h (fun a3 h=>?_) (fun a3 h=>?_)
 refine bk ?_
 refine dr mixed ?_
 refine bF h fun ag h=>?_
 refine cl none [] 0 h (lS N _ _) fun ah h=>?_
 refine cy h fun ai h=>?_
 refine dW true h fun aj h=>?_
 refine dk ?_
 cases h
 exact bl [0,1,2,3,4,5,6,7,8,9,10,11,12,13,14,15,16,17,18]
 cases h
 exact bj _ [0,1,2,3,4,5,6,7,8,9,10,11,12,13,14,15,17,18] (hx:=a2 _ rfl)
 intro k h
 try dsimp only at h
 refine ps (dE 17 [] [16]) ?_
 refine dr mixed ?_
 refine gd h (fun a4 h=>?_) (fun a4 h=>?_)
 refine dk ?_
 cases h
 exact rt [0,1,2,3,4,5,6,7,8,9,10,11,12,13,14]
 refine eV (some false) [0,8,9,10,11,12,13,14] h (ED N _ _) fun ak h=>?_
 refine cl none [] 0 h (ic N _) fun al h=>?_
 refine dk ?_
 cases h
 exact rt [0,1,2,3,4,5,6,7,8,9,10,11,12,13,14]
theorem NI(N:Nat)(s:aR)(x:aY)(r:aR)(h:kX N s x=some r):Cx Tryz.prog 96 [.lf (.ptr 0 0),sA aH false x] [.box [(lI .i64 s.n),.ap 1 aE false s.known,.ap 2 aJ false s.steps,.own 3,.own 4,.own 5,.own 6,.own 7],.aG aE false s.known,.aG aJ false s.steps,.row (aV aA) false s.u,.row (aD .i64) true s.status,.row aA false s.value,.row aH false s.items,.row aM false s.stack] [(0,some (.box [(lI .i64 s.n),.ap 8 aE false r.known,.ap 9 aJ false r.steps,.own 10,.own 11,.own 12,.own 13,.own 14])),(8,some (.aG aE false r.known)),(9,some (.aG aJ false r.steps)),(10,some (.row (aV aA) false r.u)),(11,some (.row (aD .i64) true r.status)),(12,some (.row aA false r.value)),(13,some (.row aH false r.items)),(14,some (.row aM false r.stack))] []:=by
 unfold kX at h
 refine iA (m:=8) tb (.comp (eG 0 1 1) (.comp (eG 0 2 2) (.comp (df 0 3 3) (.comp (df 0 4 4) (.comp (df 0 5 5) (.comp (df 0 6 6) (df 0 7 7))))))) en96 Tryz.func96 fun X w H ν=>?_
 refine jn (fun x=>(Sum.inl x)) (fun(_:Unit)=>cH 16 [some (.box [(lI .i64 s.n),(.ap 8 aE false s.known),(.ap 9 aJ false s.steps),(.own 10),(.own 11),(.own 12),(.own 13),(.own 14)]),none,none,none,none,none,none,none,some (.aG aE false s.known),some (.aG aJ false s.steps),some (.row (aV aA) false s.u),some (.row (aD .i64) true s.status),some (.row aA false s.value),some (.row aH false s.items),some (.row aM false s.stack),some (.box (aO.cl aH false x))] [vp 0 0,vp 3 15]) h (fun j d b=>?_) ?_
 refine bk ?_
 refine lp (fun c=>cH 16 [some (.box [(lI .i64 s.n),(.ap 8 aE false s.known),(.ap 9 aJ false s.steps),(.own 10),(.own 11),(.own 12),(.own 13),(.own 14)]),none,none,none,none,none,none,none,some (.aG aE false s.known),some (.aG aJ false s.steps),some (.row (aV aA) false s.u),some (.row (aD .i64) true s.status),some (.row aA false s.value),some (.row aH false s.items),some (.row aM false s.stack),some (.box (aO.cl aH false x))] [vp 0 0,vp 3 15,vo 9 13,vi 10 (List.length s.items:Int),vi 11 c]) d [0,1,2,3,4,5,6,7,8,9,10,11,12,13,14,15] ?_
 rintro c oo h a
 rw[yY]at h
 refine cd h (fun e h=>?_) (fun e h=>?_)
 refine bk ?_
 refine cy h fun k h=>?_
 refine dL ?_
 refine clF none [] 0 h (I7 N _ _ _) (.s (.s (.f (fun x:aB×aB=>[sA aA false x.1,sA aA false x.2]) (fun r:Bool=>[sB r]) (fun x=>qn N x.1 x.2) (fun x r h=>HY N x.1 x.2 r h) Fg .n))) fun l h=>?_
 refine cd h (fun g h=>?_) (fun g h=>?_)
 refine dr mixed ?_
 refine eV (some false) [0,8,9,10,11,12,13,14] h (ED N _ _) fun o h=>?_
 refine eV (some false) [0,8,9,10,11,12,13,14] h (ED N _ _) fun p h=>?_
 refine cl none [] 0 h (jm N _ _) fun v h=>?_
 refine dk ?_
 refine cd h (fun i h=>?_) (fun i h=>?_)
 refine dr mixed ?_
 refine cy h fun y h=>?_
 refine dW false h fun a0 h=>?_
 refine dk ?_
 cases h
 have h:=b
 rw[<-a _ rfl]at h
 try dsimp only at h
 cases h
 exact rt [0,1,2,3,4,5,6,7,8,9,10,11,12,13,14]
 cases h
 have h:=b
 rw[<-a _ rfl]at h
 try dsimp only at h
 cases h
 exact rt [0,1,2,3,4,5,6,7,8,9,10,11,12,13,14]
 cases h
 exact bl [0,1,2,3,4,5,6,7,8,9,10,11,12,13,14,15]
 cases h
 exact bj _ [0,1,2,3,4,5,6,7,8,9,10,11,12,13,14,15] (hx:=a _ rfl)
 intro _ h
 try dsimp only at h
 refine dr mixed ?_
 refine de aH false [x] ?_
 refine dQ false h fun a1 h=>?_
 refine dk ?_
 cases h
 exact rt [0,1,2,3,4,5,6,7,8,9,10,11,12,17,14]
theorem Tf(N:Nat)(s:aR)(g:(List aB))(cG:(List dR))(r:(Bool×aR))(h:mY N s g cG=some r):Cx Tryz.prog 91 [.lf (.ptr 0 0),sR aA false g,sR ej false cG] [.box [(lI .i64 s.n),.ap 1 aE false s.known,.ap 2 aJ false s.steps,.own 3,.own 4,.own 5,.own 6,.own 7],.aG aE false s.known,.aG aJ false s.steps,.row (aV aA) false s.u,.row (aD .i64) true s.status,.row aA false s.value,.row aH false s.items,.row aM false s.stack] [(0,some (.box [(lI .i64 s.n),.ap 8 aE false r.2.known,.ap 9 aJ false r.2.steps,.own 10,.own 11,.own 12,.own 13,.own 14])),(8,some (.aG aE false r.2.known)),(9,some (.aG aJ false r.2.steps)),(10,some (.row (aV aA) false r.2.u)),(11,some (.row (aD .i64) true r.2.status)),(12,some (.row aA false r.2.value)),(13,some (.row aH false r.2.items)),(14,some (.row aM false r.2.stack))] [sB r.1]:=by
 unfold mY at h
 refine iA (m:=8) tb (.comp (eG 0 1 1) (.comp (eG 0 2 2) (.comp (df 0 3 3) (.comp (df 0 4 4) (.comp (df 0 5 5) (.comp (df 0 6 6) (df 0 7 7))))))) en91 Tryz.func91 fun X w H ν=>?_
 refine cl (some false) [0,8,9,10,11,12,13,14] 7 h (NV N _ _ _) fun r1 h=>?_
 refine jn (fun x=>x) (fun⟨known5,steps6,u7,status8,value9,a,b⟩=>cH 15 [some (.box [(lI .i64 s.n),(.ap 8 aE false known5),(.ap 9 aJ false steps6),(.own 10),(.own 11),(.own 12),(.own 13),(.own 14)]),none,none,none,none,none,none,none,some (.aG aE false known5),some (.aG aJ false steps6),some (.row (aV aA) false u7),some (.row (aD .i64) true status8),some (.row aA false value9),some (.row aH false a),some (.row aM false b)] [vp 0 0,vb 9 r1.2.2.1]) h (fun d h e=>?_) ?_
 refine cd h (fun c h=>?_) (fun c h=>?_)
 refine cl (some false) [0,15,16,17,18,19,20,21] 7 h (NI N _ _) fun f h=>?_
 cases h
 exact bj _ [0,1,2,3,4,5,6,7,23,24,25,26,27,28,29]
 cases h
 exact bj _ [0,1,2,3,4,5,6,7,15,16,17,18,19,20,21]
 rintro⟨known5,steps6,u7,status8,value9,a,b⟩ h
 try dsimp only at h
 cases h
 exact rt [0,1,2,3,4,5,6,7,8,9,10,11,12,13,14]
theorem Dc(N:Nat)(s:aR)(v:Int)(dD:Bool)(r:(Bool×aR))(h:n5 N s v dD=some r):Cx Tryz.prog 109 [.lf (.ptr 0 0),sI .i64 v,sB dD] [.box [(lI .i64 s.n),.ap 1 aE false s.known,.ap 2 aJ false s.steps,.own 3,.own 4,.own 5,.own 6,.ap 7 aM false s.stack],.aG aE false s.known,.aG aJ false s.steps,.row (aV aA) false s.u,.row (aD .i64) true s.status,.row aA false s.value,.row aH false s.items,.aG aM false s.stack] [(0,some (.box [(lI .i64 s.n),.ap 8 aE false r.2.known,.ap 9 aJ false r.2.steps,.own 10,.own 11,.own 12,.own 13,.own 14])),(8,some (.aG aE false r.2.known)),(9,some (.aG aJ false r.2.steps)),(10,some (.row (aV aA) false r.2.u)),(11,some (.row (aD .i64) true r.2.status)),(12,some (.row aA false r.2.value)),(13,some (.row aH false r.2.items)),(14,some (.row aM false r.2.stack))] [sB r.1]:=by
 unfold n5 at h
 refine iA (m:=8) tb (.comp (eG 0 1 1) (.comp (eG 0 2 2) (.comp (df 0 3 3) (.comp (df 0 4 4) (.comp (df 0 5 5) (.comp (df 0 6 6) (eG 0 7 7))))))) en109 Tryz.func109 fun X w H ν=>?_
 refine eV (some false) [0,8,9,10,11,12,13,14] h (Fo N _ _) fun r1 h=>?_
 refine de (aV aH) false [r1.1,r1.2] ?_
 refine po (dE 17 [31] []) ?_
 refine cl (some false) [] 0 h (Hq N _) fun r2 h=>?_
 refine jn (fun x=>x) (fun l=>cH 18 [some (.box [(lI .i64 s.n),(.ap 8 aE false s.known),(.ap 9 aJ false s.steps),(.own 10),(.own 11),(.own 12),(.own 13),(.ap 14 aM false s.stack)]),none,none,none,none,none,none,none,some (.aG aE false s.known),some (.aG aJ false s.steps),some (.row (aV aA) false s.u),some (.row (aD .i64) true s.status),some (.row aA false s.value),some (.row aH false s.items),some (.aG aM false s.stack),some (.box [(lI .i64 v)]),some (.box [(lI .i64 v),(.own 17),(lB dD)]),some (.row (aD .i64) true l)] [vp 0 0,vp 4 15,vr 7 aH false r1.1,vr 8 aH false r1.2,vp 9 16]) h (fun bb aw bc=>?_) ?_
 refine bk ?_
 refine ps (nb 16 1 (aD .i64)) ?_
 refine lp (fun⟨a6,a7⟩=>cH 18 [some (.box [(lI .i64 s.n),(.ap 8 aE false s.known),(.ap 9 aJ false s.steps),(.own 10),(.own 11),(.own 12),(.own 13),(.ap 14 aM false s.stack)]),none,none,none,none,none,none,none,some (.aG aE false s.known),some (.aG aJ false s.steps),some (.row (aV aA) false s.u),some (.row (aD .i64) true s.status),some (.row aA false s.value),some (.row aH false s.items),some (.aG aM false s.stack),some (.box [(lI .i64 v)]),some (.box [(lI .i64 v),(.own 17),(lB dD)]),some (.row (aD .i64) true a6)] [vp 0 0,vp 4 15,vr 7 aH false r1.1,vr 8 aH false r1.2,vp 9 16,vr 32 aH false r2,vi 33 (List.length r2:Int),vi 34 a7]) aw [0,1,2,3,4,5,6,7,8,9,10,11,12,13,14,15,16,18] ?_
 rintro⟨a6,a7⟩ oo h ax
 rw[Dw]at h
 refine cd h (fun ay h=>?_) (fun ay h=>?_)
 refine bk ?_
 refine bF h fun az h=>?_
 refine de (aD .i64) true [az.pos] ?_
 refine dQ true h fun bd h=>?_
 cases h
 exact bl [0,1,2,3,4,5,6,7,8,9,10,11,12,13,14,15,16,20]
 cases h
 exact bj _ [0,1,2,3,4,5,6,7,8,9,10,11,12,13,14,15,16,17] (hx:=ax _ rfl)
 intro l h
 try dsimp only at h
 refine ps (dE 17 [] [16]) ?_
 refine dr mixed ?_
 refine de aM true [(dK.mk v l dD)] ?_
 refine apA false h fun be h=>?_
 refine dk ?_
 refine dr mixed ?_
 refine cy h fun bf h=>?_
 refine dW true h fun bg h=>?_
 refine dk ?_
 refine po (dE 13 [66] [0]) ?_
 refine cl (some false) [] 1 h (EJ N _) fun bh h=>?_
 refine po (rC 15 4) ?_
 refine mkF (fun x:aY=>[sA aH false x]) (fun r:Bool=>[sB r]) (fun xx=>vu N xx v) (fun xx r h=>Qq N xx v r h) KP ?_
 refine cl (some false) [20] 1 h (Rf N _ _) fun bi h=>?_
 refine jn (fun x=>(Sum.inl x)) (fun⟨o,p,a8,a9,aa,ab,ac⟩=>cH 15 [some (.box [(lI .i64 s.n),(.ap 8 aE false o),(.ap 9 aJ false p),(.own 10),(.own 11),(.own 12),(.own 13),(.own 14)]),none,none,none,none,none,none,none,some (.aG aE false o),some (.aG aJ false p),some (.row (aV aA) false a8),some (.row (aD .i64) true a9),some (.row aA false aa),some (.row aH false ab),some (.row aM false ac)] [vp 0 0]) h (fun bm b0 b1=>?_) ?_
 refine bk ?_
 refine lp (fun⟨y,a0,ad,ae,af,ag,ah,c⟩=>cH 15 [some (.box [(lI .i64 s.n),(.ap 8 aE false y),(.ap 9 aJ false a0),(.own 10),(.own 11),(.own 12),(.own 13),(.own 14)]),none,none,none,none,none,none,none,some (.aG aE false y),some (.aG aJ false a0),some (.row (aV aA) false ad),some (.row (aD .i64) true ae),some (.row aA false af),some (.row aH false ag),some (.row aM false ah)] [vp 0 0,(4,some (.pr true [(lI .i64 v)] 0)),vr 8 aH false r1.2,vr 72 aH false r1.1,vi 73 (List.length r1.1:Int),vi 74 c]) b0 [0,1,2,3,4,5,6,7,8,9,10,11,12,21,19] ?_
 rintro⟨y,a0,ad,ae,af,ag,ah,c⟩ oo h ai
 rw[FG]at h
 refine cd h (fun b2 h=>?_) (fun b2 h=>?_)
 refine bk ?_
 refine bF h fun d h=>?_
 refine jn (fun x=>(Sum.inl x)) (fun⟨a1,a2,aj,ak,al,am,an⟩=>cH 15 [some (.box [(lI .i64 s.n),(.ap 8 aE false a1),(.ap 9 aJ false a2),(.own 10),(.own 11),(.own 12),(.own 13),(.own 14)]),none,none,none,none,none,none,none,some (.aG aE false a1),some (.aG aJ false a2),some (.row (aV aA) false aj),some (.row (aD .i64) true ak),some (.row aA false al),some (.row aH false am),some (.row aM false an)] [vp 0 0,(4,some (.pr true [(lI .i64 v)] 0)),vr 8 aH false r1.2,vr 72 aH false r1.1,vi 73 (List.length r1.1:Int),vi 74 c]) h (fun bn b3 b4=>?_) ?_
 refine bk ?_
 refine lp (fun⟨a,b,e,f,g,i,j,k⟩=>cH 16 [some (.box [(lI .i64 s.n),(.ap 8 aE false a),(.ap 9 aJ false b),(.own 10),(.own 11),(.own 12),(.own 13),(.own 14)]),none,none,none,none,none,none,none,some (.aG aE false a),some (.aG aJ false b),some (.row (aV aA) false e),some (.row (aD .i64) true f),some (.row aA false g),some (.row aH false i),some (.row aM false j),some (.box (aO.cl aH false d))] [vp 0 0,(4,some (.pr true [(lI .i64 v)] 0)),vr 8 aH false r1.2,vp 13 15,vr 72 aH false r1.1,vi 73 (List.length r1.1:Int),vi 74 c,vr 78 aH false r1.2,vi 79 (List.length r1.2:Int),vi 80 k]) b3 [0,1,2,3,4,5,6,7,8,9,10,11,12,13,14,15] ?_
 rintro⟨a,b,e,f,g,i,j,k⟩ oo h ao
 rw[DW]at h
 refine cd h (fun b5 h=>?_) (fun b5 h=>?_)
 refine bk ?_
 refine bF h fun a3 h=>?_
 refine dr mixed ?_
 refine bF h fun a4 h=>?_
 refine bF h fun bo h=>?_
 refine cl none [] 0 h (ld N _) fun a5 h=>?_
 refine dk ?_
 refine gP aA h fun b6 h=>?_
 refine jn (fun x=>x) (fun aq=>cH 20 [some (.box [(lI .i64 s.n),(.ap 8 aE false a),(.ap 9 aJ false b),(.own 10),(.own 11),(.own 12),(.own 13),(.own 14)]),none,none,none,none,none,none,none,some (.aG aE false a),some (.aG aJ false b),some (.row (aV aA) false e),some (.row (aD .i64) true f),some (.row aA false g),some (.row aH false i),some (.row aM false j),some (.box (aO.cl aH false d)),some (.box (aO.cl aH false a3)),some (.box (aO.cl aA false a4)),some (.box (aO.cl aA true a5)),some (.row aA true aq)] [vp 0 0,(4,some (.pr true [(lI .i64 v)] 0)),vr 8 aH false r1.2,vp 13 15,vp 15 16,vp 16 17,vp 17 18,vo 18 19,vr 72 aH false r1.1,vi 73 (List.length r1.1:Int),vi 74 c,vr 78 aH false r1.2,vi 79 (List.length r1.2:Int),vi 80 k]) h (fun bp b7 br=>?_) ?_
 refine bk ?_
 refine lp (fun⟨ar,av⟩=>cH 20 [some (.box [(lI .i64 s.n),(.ap 8 aE false a),(.ap 9 aJ false b),(.own 10),(.own 11),(.own 12),(.own 13),(.own 14)]),none,none,none,none,none,none,none,some (.aG aE false a),some (.aG aJ false b),some (.row (aV aA) false e),some (.row (aD .i64) true f),some (.row aA false g),some (.row aH false i),some (.row aM false j),some (.box (aO.cl aH false d)),some (.box (aO.cl aH false a3)),some (.box (aO.cl aA false a4)),some (.box (aO.cl aA true a5)),some (.row aA true ar)] [vp 0 0,(4,some (.pr true [(lI .i64 v)] 0)),vr 8 aH false r1.2,vp 13 15,vp 15 16,vp 16 17,vp 17 18,vo 18 19,vr 72 aH false r1.1,vi 73 (List.length r1.1:Int),vi 74 c,vr 78 aH false r1.2,vi 79 (List.length r1.2:Int),vi 80 k,vi 101 (List.length b6:Int),vi 102 av]) b7 [0,1,2,3,4,5,6,7,8,9,10,11,12,13,14,15,16,17,18,19] ?_
 rintro⟨ar,av⟩ oo h b8
 rw[A8]at h
 refine cd h (fun b9 h=>?_) (fun b9 h=>?_)
 refine bk ?_
 refine dr mixed ?_
 refine bF h fun bs h=>?_
 refine cl none [] 0 h (l6 N _ _) fun bt h=>?_
 refine bF h fun bu h=>?_
 refine cl none [] 0 h (l6 N _ _) fun bw h=>?_
 refine cl none [] 0 h (jP N _ _) fun bx h=>?_
 refine cy h fun bz h=>?_
 refine dW true h fun c0 h=>?_
 refine dk ?_
 cases h
 exact bl [0,1,2,3,4,5,6,7,8,9,10,11,12,13,14,15,16,17,18,19]
 cases h
 exact bj _ [0,1,2,3,4,5,6,7,8,9,10,11,12,13,14,15,16,17,18,19] (hx:=b8 _ rfl)
 intro aq h
 try dsimp only at h
 refine de ej false [(dR.mk d.pos a5),(dR.mk a3.pos a4)] ?_
 refine po (dE 19 [18,125] []) ?_
 refine po (dE 20 [134] []) ?_
 refine cl (some false) [0,8,9,10,11,12,13,14] 7 h (Tf N _ _ _) fun c1 h=>?_
 refine cd h (fun ba h=>?_) (fun ba h=>?_)
 cases h
 have h:=b4
 rw[<-ao _ rfl]at h
 try dsimp only at h
 cases h
 have h:=b1
 rw[<-ai _ rfl]at h
 try dsimp only at h
 cases h
 exact rt [0,1,2,3,4,5,6,7,21,22,23,24,25,26,27]
 cases h
 exact bl [0,1,2,3,4,5,6,7,21,22,23,24,25,26,27,15]
 cases h
 exact bj _ [0,1,2,3,4,5,6,7,8,9,10,11,12,13,14] (hx:=ao _ rfl)
 rintro⟨a1,a2,aj,ak,al,am,an⟩ h
 try dsimp only at h
 cases h
 exact bl [0,1,2,3,4,5,6,7,8,9,10,11,12,13,14]
 cases h
 exact bj _ [0,1,2,3,4,5,6,7,8,9,10,11,12,13,14] (hx:=ai _ rfl)
 rintro⟨o,p,a8,a9,aa,ab,ac⟩ h
 try dsimp only at h
 cases h
 exact rt [0,1,2,3,4,5,6,7,8,9,10,11,12,13,14]
theorem tI(N:Nat)(s:aR)(r:bX)(h:jG N s=some r):Cx Tryz.prog 74 [.lf (.ptr 0 0)] [.box [(lI .i64 s.n),.ap 1 aE false s.known,.ap 2 aJ false s.steps,.own 3,.own 4,.own 5,.own 6,.ap 7 aM false s.stack],.aG aE false s.known,.aG aJ false s.steps,.row (aV aA) false s.u,.row (aD .i64) true s.status,.row aA false s.value,.row aH false s.items,.aG aM false s.stack] [] [sA fw false r]:=by
 unfold jG at h
 refine iA (m:=8) tb (.comp (fa 0 1) (.comp (fa 0 2) (.comp (dE 3 [] [0]) (.comp (dE 4 [] [0]) (.comp (dE 5 [] [0]) (.comp (dE 6 [] [0]) (fa 0 7))))))) en74 Tryz.func74 fun X w H ν=>?_
 cases h
 exact rt [0,1,2,3,4,5,6,7]
theorem PK(N:Nat)(n:Int)(system:(List bB))(r:aR)(h:yb N n system=some r):Cx Tryz.prog 62 [sI .i64 n,sR aE false system] [] [(0,some (.box [(lI .i64 r.n),.own 1,.own 2,.own 3,.own 4,.own 5,.own 6,.own 7])),(1,some (.row aE false r.known)),(2,some (.row aJ false r.steps)),(3,some (.row (aV aA) false r.u)),(4,some (.row (aD .i64) true r.status)),(5,some (.row aA false r.value)),(6,some (.row aH false r.items)),(7,some (.row aM false r.stack))] [.lf (.ptr 0 0)]:=by
 unfold yb at h
 refine fn tb en62 Tryz.func62 fun X w H ν=>?_
 refine dr mixed ?_
 refine cl (some false) [] 1 h (PU N _) fun r1 h=>?_
 refine gP (aD .i64) h fun x2 h=>?_
 refine gP aA h fun x3 h=>?_
 refine dk ?_
 refine jn (fun x=>x) (fun a=>aW 5 [.box [(lI .i64 n),(.own 1),lN,(.own 2),(.own 3),(.own 4),lN,lN],.row aE false r1,.row (aV aA) true a,.row (aD .i64) true x2,.row aA true x3] [vp 5 0]) h (fun i d j=>?_) ?_
 refine bk ?_
 refine ps (nb 3 3 (aV aA)) ?_
 refine lp (fun⟨b,c⟩=>aW 5 [.box [(lI .i64 n),(.own 1),lN,(.own 2),(.own 3),(.own 4),lN,lN],.row aE false r1,.row (aV aA) true b,.row (aD .i64) true x2,.row aA true x3] [vi 0 n,vp 5 0,vi 17 n,vi 18 c]) d [3,0,4,1,2] ?_
 rintro⟨b,c⟩ oo h e
 rw[CH]at h
 refine cd h (fun f h=>?_) (fun f h=>?_)
 refine bk ?_
 refine gP aA h fun k h=>?_
 refine cl none [] 0 h (gw N _) fun l h=>?_
 refine cy h fun m h=>?_
 refine dW true h fun g h=>?_
 refine po (dE 5 [7,22,23,32] []) ?_
 refine de (aV aA) true [g] ?_
 refine dQ true h fun o h=>?_
 cases h
 exact bl [0,1,7,3,4]
 cases h
 exact bj _ [0,1,2,3,4] (hx:=e _ rfl)
 intro a h
 try dsimp only at h
 refine pr (nb 0 2 aJ) ?_
 refine pr (nb 0 6 aH) ?_
 refine pr (nb 0 7 aM) ?_
 cases h
 exact rt [0,1,5,2,3,4,6,7]
theorem Bf(N:Nat)(s:aR)(r:aR)(h:qQ N s=some r):Cx Tryz.prog 140 [.lf (.ptr 0 0)] [.box [(lI .i64 s.n),(.ro aE false s.known),(.ro aJ false s.steps),(.ro (aV aA) false s.u),(.ro (aD .i64) false s.status),(.ro aA false s.value),(.ro aH false s.items),(.ro aM false s.stack)]] [(0,some (.box [(lI .i64 s.n),(.ro aE false s.known),(.ro aJ false s.steps),(.ro (aV aA) false s.u),(.ro (aD .i64) false s.status),(.ro aA false s.value),(.ro aH false s.items),(.ro aM false s.stack)])),(1,some (.box [(lI .i64 r.n),.cp aE false r.known,.cp aJ false r.steps,.own 2,.own 3,.own 4,.own 5,.cp aM false r.stack])),(2,some (.row (aV aA) false r.u)),(3,some (.row (aD .i64) true r.status)),(4,some (.row aA false r.value)),(5,some (.row aH false r.items))] [.lf (.ptr 1 0)]:=by
 unfold qQ at h
 refine fn tb en140 Tryz.func140 fun X w H ν=>?_
 refine dr mixed ?_
 refine cl (some false) [] 0 h (Kv N _) fun r1 h=>?_
 refine cl (some false) [] 0 h (QZ N _) fun r2 h=>?_
 refine dk ?_
 refine dr mixed ?_
 refine cl (some false) [] 1 h (O0 N _) fun r3 h=>?_
 refine cl none [] 1 h (P1 N _) fun r4 h=>?_
 refine cl (some false) [] 1 h (xn N _) fun r5 h=>?_
 refine dk ?_
 refine sn (aW 5 [.box [(lI .i64 s.n),(.ro aE false s.known),(.ro aJ false s.steps),(.ro (aV aA) false s.u),(.ro (aD .i64) false s.status),(.ro aA false s.value),(.ro aH false s.items),(.ro aM false s.stack)],.box [(lI .i64 s.n),(.cp aE false r1),(.cp aJ false r2),(.own 2),(.own 3),(.own 4),(.ro aH false s.items),(.ro aM false s.stack)],.row (aV aA) false r3,.row (aD .i64) true r4,.row aA false r5] [vp 0 0,vp 3 1]) [0,1,2,3,4] ?_
 refine dr mixed ?_
 refine cl (some false) [] 1 h (EJ N _) fun r6 h=>?_
 refine cl (some false) [] 0 h (Rb N _) fun r7 h=>?_
 refine dk ?_
 cases h
 exact rt [0,1,2,3,4,5]
theorem uV(N:Nat)(s:aR)(q:bB)(r:aR)(h:ng N s q=some r):Cx Tryz.prog 162 [.lf (.ptr 0 0),sA aE false q] [.box [(lI .i64 s.n),(.ro aE false s.known),(.ro aJ false s.steps),(.ro (aV aA) false s.u),(.ro (aD .i64) false s.status),(.ro aA false s.value),(.ro aH false s.items),(.ro aM false s.stack)]] [(0,some (.box [(lI .i64 s.n),(.ro aE false s.known),(.ro aJ false s.steps),(.ro (aV aA) false s.u),(.ro (aD .i64) false s.status),(.ro aA false s.value),(.ro aH false s.items),(.ro aM false s.stack)])),(1,some (.box [(lI .i64 r.n),.own 2,.own 3,.own 4,.own 5,.own 6,.own 7,.cp aM false r.stack])),(2,some (.row aE false r.known)),(3,some (.row aJ false r.steps)),(4,some (.row (aV aA) false r.u)),(5,some (.row (aD .i64) true r.status)),(6,some (.row aA false r.value)),(7,some (.row aH false r.items))] [.lf (.ptr 1 0)]:=by
 unfold ng at h
 refine fn tb en162 Tryz.func162 fun X w H ν=>?_
 refine cl (some false) [0] 5 h (Bf N _) fun r1 h=>?_
 refine dr mixed ?_
 refine de aE false [q] ?_
 refine apC false h fun x2 h=>?_
 refine dk ?_
 refine pr (nb 2 2 aJ) ?_
 cases h
 exact rt [0,2,8,9,3,4,5,6]
theorem D8(N:Nat)(s:aR)(form:(List aB))(bound:aB)(left:bX)(right:bX)(r:bX)(h:qO N s form bound left right=some r):Cx Tryz.prog 163 [.lf (.ptr 0 0),sR aA false form,sA aA false bound,sA fw false left,sA fw false right] [.box [(lI .i64 s.n),(.ro aE false s.known),(.ro aJ false s.steps),(.ro (aV aA) false s.u),(.ro (aD .i64) false s.status),(.ro aA false s.value),(.ro aH false s.items),(.ro aM false s.stack)]] [(0,some (.box [(lI .i64 s.n),(.ro aE false s.known),(.ro aJ false s.steps),(.ro (aV aA) false s.u),(.ro (aD .i64) false s.status),(.ro aA false s.value),(.ro aH false s.items),(.ro aM false s.stack)]))] [sA fw false r]:=by
 unfold qO at h
 refine fn tb en163 Tryz.func163 fun X w H ν=>?_
 refine dr mixed ?_
 refine de jb false [left.proof,right.proof] ?_
 refine dk ?_
 cases h
 exact rt [0]
theorem Rp(N:Nat)(s:aR)(v:Int)(r:aB)(h:wy N s v=some r):Cx Tryz.prog 138 [.lf (.ptr 0 0),sI .i64 v] [.box [(lI .i64 s.n),(.ro aE false s.known),(.ro aJ false s.steps),(.ro (aV aA) false s.u),(.ro (aD .i64) false s.status),(.ro aA false s.value),(.ro aH false s.items),(.ro aM false s.stack)]] [(0,some (.box [(lI .i64 s.n),(.ro aE false s.known),(.ro aJ false s.steps),(.ro (aV aA) false s.u),(.ro (aD .i64) false s.status),(.ro aA false s.value),(.ro aH false s.items),(.ro aM false s.stack)]))] [sA aA true r]:=by
 unfold wy at h
 refine fn tb en138 Tryz.func138 fun X w H ν=>?_
 refine eV (some false) [0] h (FD N _ _) fun r1 h=>?_
 refine jn (fun x=>x) (fun b=>aW 3 [.box [(lI .i64 s.n),(.ro aE false s.known),(.ro aJ false s.steps),(.ro (aV aA) false s.u),(.ro (aD .i64) false s.status),(.ro aA false s.value),(.ro aH false s.items),(.ro aM false s.stack)],.box [(lB false),lN],.box (aO.cl aA true b)] [vp 0 0,vp 4 1,vp 7 2]) h (fun j e k=>?_) ?_
 refine bk ?_
 refine lp (fun⟨c,a⟩=>aW 3 [.box [(lI .i64 s.n),(.ro aE false s.known),(.ro aJ false s.steps),(.ro (aV aA) false s.u),(.ro (aD .i64) false s.status),(.ro aA false s.value),(.ro aH false s.items),(.ro aM false s.stack)],.box [(lB false),lN],.box (aO.cl aA true c)] [vp 0 0,vi 1 v,vp 4 1,vr 5 aH false r1.1,vp 7 2,vr 17 aH false r1.2,vi 18 (List.length r1.2:Int),vi 19 a]) e [0,1,2] ?_
 rintro⟨c,a⟩ oo h f
 rw[Ei]at h
 refine cd h (fun g h=>?_) (fun g h=>?_)
 refine jn (fun x=>x) (fun d=>aW 3 [.box [(lI .i64 s.n),(.ro aE false s.known),(.ro aJ false s.steps),(.ro (aV aA) false s.u),(.ro (aD .i64) false s.status),(.ro aA false s.value),(.ro aH false s.items),(.ro aM false s.stack)],.box [(lB false),lN],.box (aO.cl aA true d)] [vp 0 0,vi 1 v,vp 4 1,vr 5 aH false r1.1,vp 7 2,vr 17 aH false r1.2,vi 18 (List.length r1.2:Int),vi 19 a]) h (fun l h m=>?_) ?_
 refine bk ?_
 refine bF h fun o h=>?_
 refine cl none [] 0 h (xb N _ _ _) fun p h=>?_
 refine cl none [] 0 h (ic N _) fun y h=>?_
 refine cd h (fun i h=>?_) (fun i h=>?_)
 refine dr mixed ?_
 refine cl none [] 0 h (gw N _) fun a0 h=>?_
 refine cl none [] 0 h (jP N _ _) fun a1 h=>?_
 refine cl none [] 0 h (jP N _ _) fun a2 h=>?_
 refine dk ?_
 cases h
 exact bj _ [0,1,2]
 cases h
 exact bj _ [0,1,2]
 intro d h
 try dsimp only at h
 cases h
 exact bl [0,1,2]
 cases h
 exact bj _ [0,1,2] (hx:=f _ rfl)
 intro b h
 try dsimp only at h
 cases h
 exact rt [0]
theorem T1(N:Nat)(s:aR)(r:(gQ×Bool))(h:wg N s=some r):Cx Tryz.prog 137 [.lf (.ptr 0 0)] [.box [(lI .i64 s.n),(.ro aE false s.known),(.ro aJ false s.steps),(.ro (aV aA) false s.u),(.ro (aD .i64) false s.status),(.ro aA false s.value),(.ro aH false s.items),(.ro aM false s.stack)]] [(0,some (.box [(lI .i64 s.n),(.ro aE false s.known),(.ro aJ false s.steps),(.ro (aV aA) false s.u),(.ro (aD .i64) false s.status),(.ro aA false s.value),(.ro aH false s.items),(.ro aM false s.stack)]))] [sA jB false r.1,sB r.2]:=by
 unfold wg at h
 refine fn tb en137 Tryz.func137 fun X w H ν=>?_
 refine jn (fun x=>x) (fun⟨k,l⟩=>aW 3 [.box [(lI .i64 s.n),(.ro aE false s.known),(.ro aJ false s.steps),(.ro (aV aA) false s.u),(.ro (aD .i64) false s.status),(.ro aA false s.value),(.ro aH false s.items),(.ro aM false s.stack)],.box [(lI .i64 0),lN,(lB false),lN,(lB false),lN],.box (aO.cl jB false k)] [vp 0 0,vp 2 1,vp 4 2,vb 5 l]) h (fun ak a6 al=>?_) ?_
 refine bk ?_
 refine lp (fun⟨i,j,a⟩=>aW 3 [.box [(lI .i64 s.n),(.ro aE false s.known),(.ro aJ false s.steps),(.ro (aV aA) false s.u),(.ro (aD .i64) false s.status),(.ro aA false s.value),(.ro aH false s.items),(.ro aM false s.stack)],.box [(lI .i64 0),lN,(lB false),lN,(lB false),lN],.box (aO.cl jB false i)] [vp 0 0,vp 2 1,vp 4 2,vb 5 j,vr 18 aH false s.items,vi 19 (List.length s.items:Int),vi 20 a]) a6 [0,1,2] ?_
 rintro⟨i,j,a⟩ oo h a7
 rw[DN]at h
 refine cd h (fun a8 h=>?_) (fun a8 h=>?_)
 refine jn (fun x=>x) (fun⟨m,o⟩=>aW 3 [.box [(lI .i64 s.n),(.ro aE false s.known),(.ro aJ false s.steps),(.ro (aV aA) false s.u),(.ro (aD .i64) false s.status),(.ro aA false s.value),(.ro aH false s.items),(.ro aM false s.stack)],.box [(lI .i64 0),lN,(lB false),lN,(lB false),lN],.box (aO.cl jB false m)] [vp 0 0,vp 2 1,vp 4 2,vb 5 o,vr 18 aH false s.items,vi 19 (List.length s.items:Int),vi 20 a]) h (fun am h an=>?_) ?_
 refine bk ?_
 refine bF h fun b h=>?_
 refine cl none [] 0 h (HL N _) fun c h=>?_
 refine jn (fun x=>x) (fun p=>aW 4 [.box [(lI .i64 s.n),(.ro aE false s.known),(.ro aJ false s.steps),(.ro (aV aA) false s.u),(.ro (aD .i64) false s.status),(.ro aA false s.value),(.ro aH false s.items),(.ro aM false s.stack)],.box [(lI .i64 0),lN,(lB false),lN,(lB false),lN],.box (aO.cl jB false i),.box (aO.cl aH false b)] [vp 0 0,vp 2 1,vp 4 2,vb 5 j,vp 7 3,vi 8 c.1,vr 18 aH false s.items,vi 19 (List.length s.items:Int),vi 20 a,vb 39 p]) h (fun ao h aq=>?_) ?_
 refine rg ?_
 refine gd h (fun a9 h=>?_) (fun a9 h=>?_)
 cases h
 exact bj _ [0,1,2,3]
 refine bF h fun ar h=>?_
 refine cl none [] 0 h (ic N _) fun av h=>?_
 cases h
 exact bj _ [0,1,2,3]
 intro p h
 try dsimp only at h
 refine cd h (fun aa h=>?_) (fun aa h=>?_)
 cases h
 exact bj _ [0,1,2]
 refine jn (fun x=>x) (fun⟨v,y⟩=>aW 3 [.box [(lI .i64 s.n),(.ro aE false s.known),(.ro aJ false s.steps),(.ro (aV aA) false s.u),(.ro (aD .i64) false s.status),(.ro aA false s.value),(.ro aH false s.items),(.ro aM false s.stack)],.box [(lI .i64 0),lN,(lB false),lN,(lB false),lN],.box (aO.cl jB false v)] [vp 0 0,vp 2 1,vp 4 2,vb 5 y,vr 18 aH false s.items,vi 19 (List.length s.items:Int),vi 20 a]) h (fun aw ab ax=>?_) ?_
 refine bk ?_
 refine lp (fun⟨e,f,d⟩=>aW 4 [.box [(lI .i64 s.n),(.ro aE false s.known),(.ro aJ false s.steps),(.ro (aV aA) false s.u),(.ro (aD .i64) false s.status),(.ro aA false s.value),(.ro aH false s.items),(.ro aM false s.stack)],.box [(lI .i64 0),lN,(lB false),lN,(lB false),lN],.box (aO.cl jB false e),.box (aO.cl aH false b)] [vp 0 0,vp 2 1,vp 4 2,vb 5 f,vp 7 3,vi 8 c.1,vr 18 aH false s.items,vi 19 (List.length s.items:Int),vi 20 a,vr 43 aH false s.items,vi 44 (List.length s.items:Int),vi 45 d]) ab [0,1,2,3] ?_
 rintro⟨e,f,d⟩ oo h ac
 rw[El]at h
 refine cd h (fun ad h=>?_) (fun ad h=>?_)
 refine jn (fun x=>x) (fun⟨a0,a1⟩=>aW 4 [.box [(lI .i64 s.n),(.ro aE false s.known),(.ro aJ false s.steps),(.ro (aV aA) false s.u),(.ro (aD .i64) false s.status),(.ro aA false s.value),(.ro aH false s.items),(.ro aM false s.stack)],.box [(lI .i64 0),lN,(lB false),lN,(lB false),lN],.box (aO.cl jB false a0),.box (aO.cl aH false b)] [vp 0 0,vp 2 1,vp 4 2,vb 5 a1,vp 7 3,vi 8 c.1,vr 18 aH false s.items,vi 19 (List.length s.items:Int),vi 20 a,vr 43 aH false s.items,vi 44 (List.length s.items:Int),vi 45 d]) h (fun ay h az=>?_) ?_
 refine bk ?_
 refine bF h fun ae h=>?_
 refine cl none [] 0 h (HL N _) fun b0 h=>?_
 refine jn (fun x=>x) (fun a2=>aW 5 [.box [(lI .i64 s.n),(.ro aE false s.known),(.ro aJ false s.steps),(.ro (aV aA) false s.u),(.ro (aD .i64) false s.status),(.ro aA false s.value),(.ro aH false s.items),(.ro aM false s.stack)],.box [(lI .i64 0),lN,(lB false),lN,(lB false),lN],.box (aO.cl jB false e),.box (aO.cl aH false b),.box (aO.cl aH false ae)] [vp 0 0,vp 2 1,vp 4 2,vb 5 f,vp 7 3,vi 8 c.1,vp 11 4,vr 18 aH false s.items,vi 19 (List.length s.items:Int),vi 20 a,vr 43 aH false s.items,vi 44 (List.length s.items:Int),vi 45 d,vb 69 a2]) h (fun b1 h b2=>?_) ?_
 refine rg ?_
 refine gd h (fun af h=>?_) (fun af h=>?_)
 cases h
 exact bj _ [0,1,2,3,4]
 refine gd h (fun ag h=>?_) (fun ag h=>?_)
 cases h
 exact bj _ [0,1,2,3,4]
 refine bF h fun b3 h=>?_
 refine cl none [] 0 h (ic N _) fun b4 h=>?_
 cases h
 exact bj _ [0,1,2,3,4]
 intro a2 h
 try dsimp only at h
 refine cd h (fun ah h=>?_) (fun ah h=>?_)
 cases h
 exact bj _ [0,1,2,3]
 refine dr mixed ?_
 refine eV (some false) [0] h (Ho N _ _) fun b5 h=>?_
 refine cl none [] 0 h (ld N _) fun a3 h=>?_
 refine eV (some false) [0] h (Ho N _ _) fun a4 h=>?_
 refine dk ?_
 refine jn (fun x=>x) (fun a5=>aW 5 [.box [(lI .i64 s.n),(.ro aE false s.known),(.ro aJ false s.steps),(.ro (aV aA) false s.u),(.ro (aD .i64) false s.status),(.ro aA false s.value),(.ro aH false s.items),(.ro aM false s.stack)],.box [(lI .i64 0),lN,(lB false),lN,(lB false),lN],.box (aO.cl jB false e),.box (aO.cl aH false b),.box [(lI .i64 b.pos),(.ro aA false b.g),(lB a3.bG),(.ro (aD .u32) true a3.aP),(lB a4.bG),(.ro (aD .u32) false a4.aP)]] [vp 0 0,vp 2 1,vp 4 2,vb 5 f,vp 7 3,vi 8 c.1,vp 14 4,vr 18 aH false s.items,vi 19 (List.length s.items:Int),vi 20 a,vr 43 aH false s.items,vi 44 (List.length s.items:Int),vi 45 d,vb 94 a5]) h (fun b6 h b7=>?_) ?_
 refine dr mixed ?_
 refine gd h (fun ai h=>?_) (fun ai h=>?_)
 refine dk ?_
 cases h
 exact bj _ [0,1,2,3,5]
 refine cl none [] 0 h (kN N _ _) fun b8 h=>?_
 refine cl none [] 0 h (kN N _ _) fun b9 h=>?_
 refine cl none [] 0 h (jm N _ _) fun ba h=>?_
 refine dk ?_
 cases h
 exact bj _ [0,1,2,3,5]
 intro a5 h
 try dsimp only at h
 refine cd h (fun aj h=>?_) (fun aj h=>?_)
 cases h
 exact bj _ [0,1,2,3]
 cases h
 exact bj _ [0,1,2,3]
 rintro⟨a0,a1⟩ h
 try dsimp only at h
 cases h
 exact bl [0,1,2,3]
 cases h
 exact bj _ [0,1,2] (hx:=ac _ rfl)
 rintro⟨v,y⟩ h
 try dsimp only at h
 cases h
 exact bj _ [0,1,2]
 rintro⟨m,o⟩ h
 try dsimp only at h
 cases h
 exact bl [0,1,2]
 cases h
 exact bj _ [0,1,2] (hx:=a7 _ rfl)
 rintro⟨k,l⟩ h
 try dsimp only at h
 cases h
 exact rt [0]
theorem JJ(N:Nat)(s:aR)(vat1:Int)(j:Int)(r:aB)(h:vJ N s vat1 j=some r):Cx Tryz.prog 159 [.lf (.ptr 0 0),sI .i64 vat1,sI .i64 j] [.box [(lI .i64 s.n),(.ro aE false s.known),(.ro aJ false s.steps),(.ro (aV aA) false s.u),(.ro (aD .i64) false s.status),(.ro aA false s.value),(.ro aH false s.items),(.ro aM false s.stack)]] [(0,some (.box [(lI .i64 s.n),(.ro aE false s.known),(.ro aJ false s.steps),(.ro (aV aA) false s.u),(.ro (aD .i64) false s.status),(.ro aA false s.value),(.ro aH false s.items),(.ro aM false s.stack)]))] [sA aA true r]:=by
 unfold vJ at h
 refine fn tb en159 Tryz.func159 fun X w H ν=>?_
 refine bF h fun x1 h=>?_
 refine jn (fun x=>x) (fun a=>aW 3 [.box [(lI .i64 s.n),(.ro aE false s.known),(.ro aJ false s.steps),(.ro (aV aA) false s.u),(.ro (aD .i64) false s.status),(.ro aA false s.value),(.ro aH false s.items),(.ro aM false s.stack)],.box [(lB false),lN],.box (aO.cl aA true a)] [vp 0 0,vp 6 1,vp 7 2]) h (fun g d i=>?_) ?_
 refine bk ?_
 refine lp (fun⟨b,c⟩=>aW 3 [.box [(lI .i64 s.n),(.ro aE false s.known),(.ro aJ false s.steps),(.ro (aV aA) false s.u),(.ro (aD .i64) false s.status),(.ro aA false s.value),(.ro aH false s.items),(.ro aM false s.stack)],.box [(lB false),lN],.box (aO.cl aA true b)] [vp 0 0,vi 2 j,vp 6 1,vp 7 2,vr 17 aA false x1.aT,vi 18 (List.length x1.aT:Int),vi 19 c]) d [0,1,2] ?_
 rintro⟨b,c⟩ oo h e
 rw[D4]at h
 refine cd h (fun f h=>?_) (fun f h=>?_)
 refine bk ?_
 refine bF h fun k h=>?_
 refine dr mixed ?_
 refine bF h fun l h=>?_
 refine bF h fun m h=>?_
 refine cl none [] 0 h (l6 N _ _) fun o h=>?_
 refine cl none [] 0 h (jP N _ _) fun p h=>?_
 refine dk ?_
 cases h
 exact bl [0,1,2]
 cases h
 exact bj _ [0,1,2] (hx:=e _ rfl)
 intro a h
 try dsimp only at h
 cases h
 exact rt [0]
theorem R5(N:Nat)(s:aR)(y:(List aB))(r:(List aB))(h:qz N s y=some r):Cx Tryz.prog 66 [.lf (.ptr 0 0),sO 1] [.box [(lI .i64 s.n),(.ro aE false s.known),(.ro aJ false s.steps),(.ro (aV aA) false s.u),(.ro (aD .i64) false s.status),(.ro aA false s.value),(.ro aH false s.items),(.ro aM false s.stack)],.row aA false y] [(0,some (.box [(lI .i64 s.n),(.ro aE false s.known),(.ro aJ false s.steps),(.ro (aV aA) false s.u),(.ro (aD .i64) false s.status),(.ro aA false s.value),(.ro aH false s.items),(.ro aM false s.stack)])),(1,some (.row aA false y))] [sR aA true r]:=by
 unfold qz at h
 refine fn tb en66 Tryz.func66 fun X w H ν=>?_
 refine gP aA h fun x1 h=>?_
 refine jn (fun x=>x) (fun b=>aW 3 [.box [(lI .i64 s.n),(.ro aE false s.known),(.ro aJ false s.steps),(.ro (aV aA) false s.u),(.ro (aD .i64) false s.status),(.ro aA false s.value),(.ro aH false s.items),(.ro aM false s.stack)],.row aA false y,.row aA true b] [vp 0 0,vo 1 1,vo 5 2]) h (fun o g p=>?_) ?_
 refine bk ?_
 refine lp (fun⟨c,a⟩=>aW 3 [.box [(lI .i64 s.n),(.ro aE false s.known),(.ro aJ false s.steps),(.ro (aV aA) false s.u),(.ro (aD .i64) false s.status),(.ro aA false s.value),(.ro aH false s.items),(.ro aM false s.stack)],.row aA false y,.row aA true c] [vp 0 0,vo 1 1,vo 5 2,vi 14 (List.length x1:Int),vi 15 a]) g [0,1,2] ?_
 rintro⟨c,a⟩ oo h i
 rw[BD]at h
 refine cd h (fun j h=>?_) (fun j h=>?_)
 refine bk ?_
 refine jn (fun x=>x) (fun d=>aW 3 [.box [(lI .i64 s.n),(.ro aE false s.known),(.ro aJ false s.steps),(.ro (aV aA) false s.u),(.ro (aD .i64) false s.status),(.ro aA false s.value),(.ro aH false s.items),(.ro aM false s.stack)],.row aA false y,.row aA true d] [vp 0 0,vo 1 1,vo 5 2,vi 14 (List.length x1:Int),vi 15 a]) h (fun v k a0=>?_) ?_
 refine bk ?_
 refine lp (fun⟨e,f⟩=>aW 3 [.box [(lI .i64 s.n),(.ro aE false s.known),(.ro aJ false s.steps),(.ro (aV aA) false s.u),(.ro (aD .i64) false s.status),(.ro aA false s.value),(.ro aH false s.items),(.ro aM false s.stack)],.row aA false y,.row aA true e] [vp 0 0,vo 1 1,vo 5 2,vi 6 a,vi 14 (List.length x1:Int),vi 15 a,vi 19 (List.length y:Int),vi 20 f]) k [0,1,2] ?_
 rintro⟨e,f⟩ oo h l
 rw[E0]at h
 refine cd h (fun m h=>?_) (fun m h=>?_)
 refine bk ?_
 refine dr mixed ?_
 refine cy h fun a1 h=>?_
 refine dL ?_
 refine bF h fun a2 h=>?_
 refine bF h fun a3 h=>?_
 refine cy h fun a4 h=>?_
 refine dL ?_
 refine cl none [] 0 h (l6 N _ _) fun a5 h=>?_
 refine cl none [] 0 h (jP N _ _) fun a6 h=>?_
 refine cy h fun a7 h=>?_
 refine dW true h fun a8 h=>?_
 refine dk ?_
 cases h
 exact bl [0,1,2]
 cases h
 exact bj _ [0,1,2] (hx:=l _ rfl)
 intro d h
 try dsimp only at h
 cases h
 exact bl [0,1,2]
 cases h
 exact bj _ [0,1,2] (hx:=i _ rfl)
 intro b h
 try dsimp only at h
 cases h
 exact rt [0,1]
theorem S5(N:Nat)(s:aR)(e:dK)(y:(List aB))(r:(aB×Bool))(h:nA N s e y=some r):Cx Tryz.prog 132 [.lf (.ptr 0 0),sA aM false e,sO 1] [.box [(lI .i64 s.n),(.ro aE false s.known),(.ro aJ false s.steps),(.ro (aV aA) false s.u),(.ro (aD .i64) false s.status),(.ro aA false s.value),(.ro aH false s.items),(.ro aM false s.stack)],.row aA false y] [(0,some (.box [(lI .i64 s.n),(.ro aE false s.known),(.ro aJ false s.steps),(.ro (aV aA) false s.u),(.ro (aD .i64) false s.status),(.ro aA false s.value),(.ro aH false s.items),(.ro aM false s.stack)])),(1,some (.row aA false y))] [sA aA true r.1,sB r.2]:=by
 unfold nA at h
 refine fn tb en132 Tryz.func132 fun X w H ν=>?_
 refine jn (fun x=>x) (fun⟨j,k,l,m⟩=>aW 5 [.box [(lI .i64 s.n),(.ro aE false s.known),(.ro aJ false s.steps),(.ro (aV aA) false s.u),(.ro (aD .i64) false s.status),(.ro aA false s.value),(.ro aH false s.items),(.ro aM false s.stack)],.row aA false y,.box [(lB false),lN],.box (aO.cl aA true j),.box (aO.cl aA true k)] [vp 0 0,vo 2 1,vp 6 2,vp 8 3,vp 9 4,vb 10 l,vb 11 m]) h (fun am a6 an=>?_) ?_
 refine bk ?_
 refine lp (fun⟨b,c,d,f,a⟩=>aW 6 [.box [(lI .i64 s.n),(.ro aE false s.known),(.ro aJ false s.steps),(.ro (aV aA) false s.u),(.ro (aD .i64) false s.status),(.ro aA false s.value),(.ro aH false s.items),(.ro aM false s.stack)],.row aA false y,.box (aO.cl aM false e),.box [(lB false),lN],.box (aO.cl aA true b),.box (aO.cl aA true c)] [vp 0 0,vo 2 1,vp 4 2,vp 6 3,vp 8 4,vp 9 5,vb 10 d,vb 11 f,vr 24 (aD .i64) false e.items,vi 25 (List.length e.items:Int),vi 26 a]) a6 [0,1,2,3,4,5] ?_
 rintro⟨b,c,d,f,a⟩ oo h a7
 rw[CO]at h
 refine cd h (fun a8 h=>?_) (fun a8 h=>?_)
 refine jn (fun x=>x) (fun⟨o,p,v,a0⟩=>aW 6 [.box [(lI .i64 s.n),(.ro aE false s.known),(.ro aJ false s.steps),(.ro (aV aA) false s.u),(.ro (aD .i64) false s.status),(.ro aA false s.value),(.ro aH false s.items),(.ro aM false s.stack)],.row aA false y,.box (aO.cl aM false e),.box [(lB false),lN],.box (aO.cl aA true o),.box (aO.cl aA true p)] [vp 0 0,vo 2 1,vp 4 2,vp 6 3,vp 8 4,vp 9 5,vb 10 v,vb 11 a0,vr 24 (aD .i64) false e.items,vi 25 (List.length e.items:Int),vi 26 a]) h (fun ao h aq=>?_) ?_
 refine bk ?_
 refine bF h fun g h=>?_
 refine bF h fun ar h=>?_
 refine jn (fun x=>x) (fun a1=>aW 7 [.box [(lI .i64 s.n),(.ro aE false s.known),(.ro aJ false s.steps),(.ro (aV aA) false s.u),(.ro (aD .i64) false s.status),(.ro aA false s.value),(.ro aH false s.items),(.ro aM false s.stack)],.row aA false y,.box (aO.cl aM false e),.box [(lB false),lN],.box (aO.cl aA true b),.box (aO.cl aA true c),.box (aO.cl aA false a1)] [vp 0 0,vo 2 1,vp 4 2,vp 6 3,vp 8 4,vp 9 5,vb 10 d,vb 11 f,vi 13 g,vp 14 6,vr 24 (aD .i64) false e.items,vi 25 (List.length e.items:Int),vi 26 a]) h (fun av a9 aw=>?_) ?_
 refine bk ?_
 refine lp (fun⟨a2,i⟩=>aW 7 [.box [(lI .i64 s.n),(.ro aE false s.known),(.ro aJ false s.steps),(.ro (aV aA) false s.u),(.ro (aD .i64) false s.status),(.ro aA false s.value),(.ro aH false s.items),(.ro aM false s.stack)],.row aA false y,.box (aO.cl aM false e),.box [(lB false),lN],.box (aO.cl aA true b),.box (aO.cl aA true c),.box (aO.cl aA false a2)] [vp 0 0,vo 2 1,vp 4 2,vp 6 3,vp 8 4,vp 9 5,vb 10 d,vb 11 f,vi 13 g,vp 14 6,vr 24 (aD .i64) false e.items,vi 25 (List.length e.items:Int),vi 26 a,vi 39 (List.length y:Int),vi 40 i]) a9 [0,1,2,3,4,5,6] ?_
 rintro⟨a2,i⟩ oo h aa
 rw[zx]at h
 refine cd h (fun ab h=>?_) (fun ab h=>?_)
 refine jn (fun x=>x) (fun a3=>aW 7 [.box [(lI .i64 s.n),(.ro aE false s.known),(.ro aJ false s.steps),(.ro (aV aA) false s.u),(.ro (aD .i64) false s.status),(.ro aA false s.value),(.ro aH false s.items),(.ro aM false s.stack)],.row aA false y,.box (aO.cl aM false e),.box [(lB false),lN],.box (aO.cl aA true b),.box (aO.cl aA true c),.box (aO.cl aA false a3)] [vp 0 0,vo 2 1,vp 4 2,vp 6 3,vp 8 4,vp 9 5,vb 10 d,vb 11 f,vi 13 g,vp 14 6,vr 24 (aD .i64) false e.items,vi 25 (List.length e.items:Int),vi 26 a,vi 39 (List.length y:Int),vi 40 i]) h (fun ax h ay=>?_) ?_
 refine bk ?_
 refine cd h (fun ac h=>?_) (fun ac h=>?_)
 refine dr mixed ?_
 refine eV (some false) [0] h (JJ N _ _ _) fun az h=>?_
 refine cy h fun b0 h=>?_
 refine dL ?_
 refine cl none [] 0 h (l6 N _ _) fun b1 h=>?_
 refine cl none [] 0 h (kN N _ _) fun b2 h=>?_
 refine dk ?_
 cases h
 exact bj _ [0,1,2,3,4,5,6]
 cases h
 exact bj _ [0,1,2,3,4,5,6]
 intro a3 h
 try dsimp only at h
 cases h
 exact bl [0,1,2,3,4,5,6]
 cases h
 exact bj _ [0,1,2,3,4,5,6] (hx:=aa _ rfl)
 intro a1 h
 try dsimp only at h
 refine eV (some false) [0] h (JJ N _ _ _) fun b3 h=>?_
 refine cl none [] 0 h (ic N _) fun b4 h=>?_
 refine cd h (fun ad h=>?_) (fun ad h=>?_)
 refine cl none [] 0 h (lS N _ _) fun ae h=>?_
 refine jn (fun x=>x) (fun a4=>aW 7 [.box [(lI .i64 s.n),(.ro aE false s.known),(.ro aJ false s.steps),(.ro (aV aA) false s.u),(.ro (aD .i64) false s.status),(.ro aA false s.value),(.ro aH false s.items),(.ro aM false s.stack)],.row aA false y,.box (aO.cl aM false e),.box [(lB false),lN],.box (aO.cl aA true b),.box (aO.cl aA true c),.box (aO.cl aA true ae.1)] [vp 0 0,vo 2 1,vp 4 2,vp 6 3,vp 8 4,vp 9 5,vb 10 d,vb 11 f,vp 17 6,vr 24 (aD .i64) false e.items,vi 25 (List.length e.items:Int),vi 26 a,vb 81 a4]) h (fun b5 h b6=>?_) ?_
 refine rg ?_
 refine gd h (fun af h=>?_) (fun af h=>?_)
 cases h
 exact bj _ [0,1,2,3,4,5,8]
 refine cl none [] 0 h (jm N _ _) fun b7 h=>?_
 cases h
 exact bj _ [0,1,2,3,4,5,8]
 intro a4 h
 try dsimp only at h
 refine cd h (fun ag h=>?_) (fun ag h=>?_)
 cases h
 exact bj _ [0,1,2,3,4,5]
 cases h
 exact bj _ [0,1,2,3,4,5]
 refine dr mixed ?_
 refine cl none [] 0 h (ld N _) fun b8 h=>?_
 refine cl none [] 0 h (lS N _ _) fun b9 h=>?_
 refine dk ?_
 refine cl none [] 0 h (ld N _) fun ah h=>?_
 refine jn (fun x=>x) (fun a5=>aW 7 [.box [(lI .i64 s.n),(.ro aE false s.known),(.ro aJ false s.steps),(.ro (aV aA) false s.u),(.ro (aD .i64) false s.status),(.ro aA false s.value),(.ro aH false s.items),(.ro aM false s.stack)],.row aA false y,.box (aO.cl aM false e),.box [(lB false),lN],.box (aO.cl aA true b),.box (aO.cl aA true c),.box (aO.cl aA true ah)] [vp 0 0,vo 2 1,vp 4 2,vp 6 3,vp 8 4,vp 9 5,vb 10 d,vb 11 f,vp 20 6,vr 24 (aD .i64) false e.items,vi 25 (List.length e.items:Int),vi 26 a,vb 100 a5]) h (fun ba h bb=>?_) ?_
 refine rg ?_
 refine gd h (fun ai h=>?_) (fun ai h=>?_)
 cases h
 exact bj _ [0,1,2,3,4,5,8]
 refine cl none [] 0 h (jm N _ _) fun bc h=>?_
 cases h
 exact bj _ [0,1,2,3,4,5,8]
 intro a5 h
 try dsimp only at h
 refine cd h (fun aj h=>?_) (fun aj h=>?_)
 cases h
 exact bj _ [0,1,2,3,4,5]
 cases h
 exact bj _ [0,1,2,3,4,5]
 rintro⟨o,p,v,a0⟩ h
 try dsimp only at h
 cases h
 exact bl [0,1,2,3,4,5]
 cases h
 exact bj _ [0,1,3,4,5] (hx:=a7 _ rfl)
 rintro⟨j,k,l,m⟩ h
 try dsimp only at h
 refine cd h (fun ak h=>?_) (fun ak h=>?_)
 cases h
 exact rt [0,1]
 refine dr mixed ?_
 refine gd h (fun al h=>?_) (fun al h=>?_)
 refine dk ?_
 cases h
 exact rt [0,1]
 refine cl none [] 0 h (jm N _ _) fun bd h=>?_
 refine dk ?_
 cases h
 exact rt [0,1]
end Go.Proofs.YtipdkfmhfakbnaaGreatDoor.SW

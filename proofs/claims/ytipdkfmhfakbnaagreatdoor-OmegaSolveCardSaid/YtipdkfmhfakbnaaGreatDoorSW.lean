/- Walks of the symbolic machine, written by a program of mine (wip/tool). -/
import Derived.Test.YtipdkfmhfakbnaaGreatDoorTB
import Derived.Test.YtipdkfmhfakbnaaGreatDoorAf
import Derived.Test.YtipdkfmhfakbnaaGreatDoorAe
import Derived.Test.YtipdkfmhfakbnaaGreatDoorSB
import Derived.Test.YtipdkfmhfakbnaaGreatDoorSC
import Derived.Test.YtipdkfmhfakbnaaGreatDoorSP
import Derived.Test.YtipdkfmhfakbnaaGreatDoorSQ
import Derived.Test.YtipdkfmhfakbnaaGreatDoorSV
set_option linter.unusedVariables false
set_option linter.unusedSimpArgs false
set_option linter.unusedSectionVars false
set_option maxRecDepth 100000
set_option maxHeartbeats 4000000
namespace Go.Proofs.YtipdkfmhfakbnaaGreatDoor.SW
open Go Go.RowKit Go.X Go.Q Go.D Go.Proofs.YtipdkfmhfakbnaaGreatDoor.TB Go.Proofs.YtipdkfmhfakbnaaGreatDoor.FS Go.Proofs.YtipdkfmhfakbnaaGreatDoor.SB Go.Proofs.YtipdkfmhfakbnaaGreatDoor.SC Go.Proofs.YtipdkfmhfakbnaaGreatDoor.SP Go.Proofs.YtipdkfmhfakbnaaGreatDoor.SQ Go.Proofs.YtipdkfmhfakbnaaGreatDoor.SV
theorem Cb(N:Nat)(s:aR)(v:Int)(r:((List aX)×(List aX)))(h:rv N s v=some r):Cx Tryz.prog 133 [.lf (.ptr 0 0),sI .i64 v] [.box [(lI .i64 s.n),.ap 1 aE false s.known,.ap 2 aJ false s.steps,.own 3,.own 4,.own 5,.own 6,.ap 7 aL false s.stack],.aG aE false s.known,.aG aJ false s.steps,.row (aT aA) false s.u,.row (aD .i64) true s.status,.row aA false s.value,.row aH false s.items,.aG aL false s.stack] [(0,some (.box [(lI .i64 s.n),.ap 1 aE false s.known,.ap 2 aJ false s.steps,.own 3,.own 4,.own 5,.own 6,.ap 7 aL false s.stack])),(1,some (.aG aE false s.known)),(2,some (.aG aJ false s.steps)),(3,some (.row (aT aA) false s.u)),(4,some (.row (aD .i64) true s.status)),(5,some (.row aA false s.value)),(6,some (.row aH false s.items)),(7,some (.aG aL false s.stack))] [sR aH false r.1,sR aH false r.2]:=by
 unfold rv at h
 refine fn tb Jj Tryz.func133 fun X w H ν=>?_
 refine jn (fun x=>x) (fun⟨b,c⟩=>aV 10 [.box [(lI .i64 s.n),(.ap 1 aE false s.known),(.ap 2 aJ false s.steps),(.own 3),(.own 4),(.own 5),(.own 6),(.ap 7 aL false s.stack)],.aG aE false s.known,.aG aJ false s.steps,.row (aT aA) false s.u,.row (aD .i64) true s.status,.row aA false s.value,.row aH false s.items,.aG aL false s.stack,.row aH false b,.row aH false c] [vp 0 0,vo 4 8,vo 5 9]) h (fun p j y=>?_) ?_
 refine bk ?_
 refine ps (nl 4 aH) ?_
 refine ps (nl 5 aH) ?_
 refine lp (fun⟨d,e,a⟩=>aV 10 [.box [(lI .i64 s.n),(.ap 1 aE false s.known),(.ap 2 aJ false s.steps),(.own 3),(.own 4),(.own 5),(.own 6),(.ap 7 aL false s.stack)],.aG aE false s.known,.aG aJ false s.steps,.row (aT aA) false s.u,.row (aD .i64) true s.status,.row aA false s.value,.row aH false s.items,.aG aL false s.stack,.row aH false d,.row aH false e] [vp 0 0,vi 1 v,vo 4 8,vo 5 9,vo 11 6,vi 12 (List.length s.items:Int),vi 13 a]) j [0,1,2,3,4,5,6,7,8,9] ?_
 rintro⟨d,e,a⟩ oo h k
 rw[D3]at h
 refine cd h (fun l h=>?_) (fun l h=>?_)
 refine jn (fun x=>x) (fun⟨f,g⟩=>aV 10 [.box [(lI .i64 s.n),(.ap 1 aE false s.known),(.ap 2 aJ false s.steps),(.own 3),(.own 4),(.own 5),(.own 6),(.ap 7 aL false s.stack)],.aG aE false s.known,.aG aJ false s.steps,.row (aT aA) false s.u,.row (aD .i64) true s.status,.row aA false s.value,.row aH false s.items,.aG aL false s.stack,.row aH false f,.row aH false g] [vp 0 0,vi 1 v,vo 4 8,vo 5 9,vo 11 6,vi 12 (List.length s.items:Int),vi 13 a]) h (fun a0 h a1=>?_) ?_
 refine bk ?_
 refine cw h fun i h=>?_
 refine dK ?_
 refine bH h fun a2 h=>?_
 refine cl none [] 0 h (ic N _) fun a3 h=>?_
 refine bk ?_
 refine cd h (fun m h=>?_) (fun m h=>?_)
 refine dt aH false [i] ?_
 refine eb false h fun a4 h=>?_
 cases h
 exact bj _ [0,1,2,3,4,5,6,7,12,9]
 refine cd h (fun o h=>?_) (fun o h=>?_)
 refine dt aH false [i] ?_
 refine eb false h fun a5 h=>?_
 cases h
 exact bj _ [0,1,2,3,4,5,6,7,8,12]
 cases h
 exact bj _ [0,1,2,3,4,5,6,7,8,9]
 rintro⟨f,g⟩ h
 try dsimp only at h
 cases h
 exact bl [0,1,2,3,4,5,6,7,8,9]
 cases h
 exact bj _ [0,1,2,3,4,5,6,7,8,9] (hx:=k _ rfl)
 rintro⟨b,c⟩ h
 try dsimp only at h
 cases h
 exact rt [0,1,2,3,4,5,6,7]
theorem Et(N:Nat)(s:aR)(v:Int)(r:((List aX)×(List aX)))(h:sM N s v=some r):Cx Tryz.prog 133 [.lf (.ptr 0 0),sI .i64 v] [.box [(lI .i64 s.n),(.ro aE false s.known),(.ro aJ false s.steps),(.ro (aT aA) false s.u),(.ro (aD .i64) false s.status),(.ro aA false s.value),(.ro aH false s.items),(.ro aL false s.stack)]] [(0,some (.box [(lI .i64 s.n),(.ro aE false s.known),(.ro aJ false s.steps),(.ro (aT aA) false s.u),(.ro (aD .i64) false s.status),(.ro aA false s.value),(.ro aH false s.items),(.ro aL false s.stack)]))] [sR aH false r.1,sR aH false r.2]:=by
 unfold sM at h
 refine fn tb Jj Tryz.func133 fun X w H ν=>?_
 refine jn (fun x=>x) (fun⟨b,c⟩=>aV 3 [.box [(lI .i64 s.n),(.ro aE false s.known),(.ro aJ false s.steps),(.ro (aT aA) false s.u),(.ro (aD .i64) false s.status),(.ro aA false s.value),(.ro aH false s.items),(.ro aL false s.stack)],.row aH false b,.row aH false c] [vp 0 0,vo 4 1,vo 5 2]) h (fun p j y=>?_) ?_
 refine bk ?_
 refine ps (nl 4 aH) ?_
 refine ps (nl 5 aH) ?_
 refine lp (fun⟨d,e,a⟩=>aV 3 [.box [(lI .i64 s.n),(.ro aE false s.known),(.ro aJ false s.steps),(.ro (aT aA) false s.u),(.ro (aD .i64) false s.status),(.ro aA false s.value),(.ro aH false s.items),(.ro aL false s.stack)],.row aH false d,.row aH false e] [vp 0 0,vi 1 v,vo 4 1,vo 5 2,vr 11 aH false s.items,vi 12 (List.length s.items:Int),vi 13 a]) j [0,1,2] ?_
 rintro⟨d,e,a⟩ oo h k
 rw[JA]at h
 refine cd h (fun l h=>?_) (fun l h=>?_)
 refine jn (fun x=>x) (fun⟨f,g⟩=>aV 3 [.box [(lI .i64 s.n),(.ro aE false s.known),(.ro aJ false s.steps),(.ro (aT aA) false s.u),(.ro (aD .i64) false s.status),(.ro aA false s.value),(.ro aH false s.items),(.ro aL false s.stack)],.row aH false f,.row aH false g] [vp 0 0,vi 1 v,vo 4 1,vo 5 2,vr 11 aH false s.items,vi 12 (List.length s.items:Int),vi 13 a]) h (fun a0 h a1=>?_) ?_
 refine bk ?_
 refine bH h fun i h=>?_
 refine bH h fun a2 h=>?_
 refine cl none [] 0 h (ic N _) fun a3 h=>?_
 refine bk ?_
 refine cd h (fun m h=>?_) (fun m h=>?_)
 refine dt aH false [i] ?_
 refine eb false h fun a4 h=>?_
 cases h
 exact bj _ [0,5,2]
 refine cd h (fun o h=>?_) (fun o h=>?_)
 refine dt aH false [i] ?_
 refine eb false h fun a5 h=>?_
 cases h
 exact bj _ [0,1,5]
 cases h
 exact bj _ [0,1,2]
 rintro⟨f,g⟩ h
 try dsimp only at h
 cases h
 exact bl [0,1,2]
 cases h
 exact bj _ [0,1,2] (hx:=k _ rfl)
 rintro⟨b,c⟩ h
 try dsimp only at h
 cases h
 exact rt [0]
theorem O2(N:Nat)(s:aR)(v:Int)(r:(aB×Bool))(h:wg N s v=some r):Cx Tryz.prog 130 [.lf (.ptr 0 0),sI .i64 v] [.box [(lI .i64 s.n),.ap 1 aE false s.known,.ap 2 aJ false s.steps,.own 3,.own 4,.own 5,.own 6,.ap 7 aL false s.stack],.aG aE false s.known,.aG aJ false s.steps,.row (aT aA) false s.u,.row (aD .i64) true s.status,.row aA false s.value,.row aH false s.items,.aG aL false s.stack] [(0,some (.box [(lI .i64 s.n),.ap 1 aE false s.known,.ap 2 aJ false s.steps,.own 3,.own 4,.own 5,.own 6,.ap 7 aL false s.stack])),(1,some (.aG aE false s.known)),(2,some (.aG aJ false s.steps)),(3,some (.row (aT aA) false s.u)),(4,some (.row (aD .i64) true s.status)),(5,some (.row aA false s.value)),(6,some (.row aH false s.items)),(7,some (.aG aL false s.stack))] [sA aA true r.1,sB r.2]:=by
 unfold wg at h
 refine fn tb en130 Tryz.func130 fun X w H ν=>?_
 refine eR (some false) [0,1,2,3,4,5,6,7] h (Cb N _ _) fun r1 h=>?_
 refine cd h (fun hc4 h=>?_) (fun hc4 h=>?_)
 cases h
 exact rt [0,1,2,3,4,5,6,7]
 refine jn (fun x=>x) (fun x7=>aV 9 [.box [(lI .i64 s.n),(.ap 1 aE false s.known),(.ap 2 aJ false s.steps),(.own 3),(.own 4),(.own 5),(.own 6),(.ap 7 aL false s.stack)],.aG aE false s.known,.aG aJ false s.steps,.row (aT aA) false s.u,.row (aD .i64) true s.status,.row aA false s.value,.row aH false s.items,.aG aL false s.stack,.box [(lB false),lN]] [vp 0 0,vi 1 v,vp 4 8,vr 6 aH false r1.1,vr 7 aH false r1.2,vb 32 x7]) h (fun s8 h g9=>?_) ?_
 refine rg ?_
 refine gd h (fun e h=>?_) (fun e h=>?_)
 cases h
 exact bj _ [0,1,2,3,4,5,6,7,8]
 cases h
 exact bj _ [0,1,2,3,4,5,6,7,8]
 intro x7 h
 try dsimp only at h
 refine cd h (fun f h=>?_) (fun f h=>?_)
 cases h
 exact rt [0,1,2,3,4,5,6,7]
 refine cl none [] 0 h (gi N _) fun l h=>?_
 refine jn (fun x=>x) (fun b=>aV 10 [.box [(lI .i64 s.n),(.ap 1 aE false s.known),(.ap 2 aJ false s.steps),(.own 3),(.own 4),(.own 5),(.own 6),(.ap 7 aL false s.stack)],.aG aE false s.known,.aG aJ false s.steps,.row (aT aA) false s.u,.row (aD .i64) true s.status,.row aA false s.value,.row aH false s.items,.aG aL false s.stack,.box [(lB false),lN],.box (aO.cl aA true b)] [vp 0 0,vp 4 8,vp 8 9]) h (fun m g o=>?_) ?_
 refine bk ?_
 refine lp (fun⟨c,a⟩=>aV 10 [.box [(lI .i64 s.n),(.ap 1 aE false s.known),(.ap 2 aJ false s.steps),(.own 3),(.own 4),(.own 5),(.own 6),(.ap 7 aL false s.stack)],.aG aE false s.known,.aG aJ false s.steps,.row (aT aA) false s.u,.row (aD .i64) true s.status,.row aA false s.value,.row aH false s.items,.aG aL false s.stack,.box [(lB false),lN],.box (aO.cl aA true c)] [vp 0 0,vi 1 v,vp 4 8,vr 6 aH false r1.1,vp 8 9,vr 40 aH false r1.2,vi 41 (List.length r1.2:Int),vi 42 a]) g [0,1,2,3,4,5,6,7,8,9] ?_
 rintro⟨c,a⟩ oo h i
 rw[E7]at h
 refine cd h (fun j h=>?_) (fun j h=>?_)
 refine jn (fun x=>x) (fun d=>aV 10 [.box [(lI .i64 s.n),(.ap 1 aE false s.known),(.ap 2 aJ false s.steps),(.own 3),(.own 4),(.own 5),(.own 6),(.ap 7 aL false s.stack)],.aG aE false s.known,.aG aJ false s.steps,.row (aT aA) false s.u,.row (aD .i64) true s.status,.row aA false s.value,.row aH false s.items,.aG aL false s.stack,.box [(lB false),lN],.box (aO.cl aA true d)] [vp 0 0,vi 1 v,vp 4 8,vr 6 aH false r1.1,vp 8 9,vr 40 aH false r1.2,vi 41 (List.length r1.2:Int),vi 42 a]) h (fun p h y=>?_) ?_
 refine bk ?_
 refine bH h fun a0 h=>?_
 refine cl none [] 0 h (xI N _ _ _) fun a1 h=>?_
 refine cl none [] 0 h (ic N _) fun a2 h=>?_
 refine cd h (fun k h=>?_) (fun k h=>?_)
 refine dr mixed ?_
 refine cl none [] 0 h (gi N _) fun a3 h=>?_
 refine cl none [] 0 h (jJ N _ _) fun a4 h=>?_
 refine cl none [] 0 h (lR N _ _) fun a5 h=>?_
 refine dk ?_
 cases h
 exact bj _ [0,1,2,3,4,5,6,7,8,9]
 cases h
 exact bj _ [0,1,2,3,4,5,6,7,8,9]
 intro d h
 try dsimp only at h
 cases h
 exact bl [0,1,2,3,4,5,6,7,8,9]
 cases h
 exact bj _ [0,1,2,3,4,5,6,7,8,9] (hx:=i _ rfl)
 intro b h
 try dsimp only at h
 cases h
 exact rt [0,1,2,3,4,5,6,7]
theorem Ua(N:Nat)(s:aR)(r:(Int×Bool))(h:tN N s=some r):Cx Tryz.prog 105 [.lf (.ptr 0 0)] [.box [(lI .i64 s.n),.ap 1 aE false s.known,.ap 2 aJ false s.steps,.own 3,.own 4,.own 5,.own 6,.ap 7 aL false s.stack],.aG aE false s.known,.aG aJ false s.steps,.row (aT aA) false s.u,.row (aD .i64) true s.status,.row aA false s.value,.row aH false s.items,.aG aL false s.stack] [(0,some (.box [(lI .i64 s.n),.ap 1 aE false s.known,.ap 2 aJ false s.steps,.own 3,.own 4,.own 5,.own 6,.ap 7 aL false s.stack])),(1,some (.aG aE false s.known)),(2,some (.aG aJ false s.steps)),(3,some (.row (aT aA) false s.u)),(4,some (.row (aD .i64) true s.status)),(5,some (.row aA false s.value)),(6,some (.row aH false s.items)),(7,some (.aG aL false s.stack))] [sI .i64 r.1,sB r.2]:=by
 unfold tN at h
 refine fn tb en105 Tryz.func105 fun X w H ν=>?_
 refine jn (fun x=>x) (fun⟨e,f⟩=>aV 8 [.box [(lI .i64 s.n),(.ap 1 aE false s.known),(.ap 2 aJ false s.steps),(.own 3),(.own 4),(.own 5),(.own 6),(.ap 7 aL false s.stack)],.aG aE false s.known,.aG aJ false s.steps,.row (aT aA) false s.u,.row (aD .i64) true s.status,.row aA false s.value,.row aH false s.items,.aG aL false s.stack] [vp 0 0,vi 4 e,vb 5 f]) h (fun a2 l a3=>?_) ?_
 refine bk ?_
 refine lp (fun⟨b,c,d,a⟩=>aV 9 [.box [(lI .i64 s.n),(.ap 1 aE false s.known),(.ap 2 aJ false s.steps),(.own 3),(.own 4),(.own 5),(.own 6),(.ap 7 aL false s.stack)],.aG aE false s.known,.aG aJ false s.steps,.row (aT aA) false s.u,.row (aD .i64) true s.status,.row aA false s.value,.row aH false s.items,.aG aL false s.stack,.box (aO.cl aA true d)] [vp 0 0,vi 4 b,vb 5 c,vp 6 8,vi 13 s.n,vi 14 a]) l [0,1,2,3,4,5,6,7,8] ?_
 rintro⟨b,c,d,a⟩ oo h m
 rw[Cq]at h
 refine cd h (fun o h=>?_) (fun o h=>?_)
 refine jn (fun x=>x) (fun⟨g,i,j⟩=>aV 9 [.box [(lI .i64 s.n),(.ap 1 aE false s.known),(.ap 2 aJ false s.steps),(.own 3),(.own 4),(.own 5),(.own 6),(.ap 7 aL false s.stack)],.aG aE false s.known,.aG aJ false s.steps,.row (aT aA) false s.u,.row (aD .i64) true s.status,.row aA false s.value,.row aH false s.items,.aG aL false s.stack,.box (aO.cl aA true j)] [vp 0 0,vi 4 g,vb 5 i,vp 6 8,vi 13 s.n,vi 14 a]) h (fun a4 h a5=>?_) ?_
 refine bk ?_
 refine cw h fun a6 h=>?_
 refine dK ?_
 refine cd h (fun p h=>?_) (fun p h=>?_)
 cases h
 exact bj _ [0,1,2,3,4,5,6,7,8]
 refine eR (some false) [0,1,2,3,4,5,6,7] h (O2 N _ _) fun v h=>?_
 refine jn (fun x=>x) (fun k=>aV 10 [.box [(lI .i64 s.n),(.ap 1 aE false s.known),(.ap 2 aJ false s.steps),(.own 3),(.own 4),(.own 5),(.own 6),(.ap 7 aL false s.stack)],.aG aE false s.known,.aG aJ false s.steps,.row (aT aA) false s.u,.row (aD .i64) true s.status,.row aA false s.value,.row aH false s.items,.aG aL false s.stack,.box (aO.cl aA true d),.box (aO.cl aA true v.1)] [vp 0 0,vi 4 b,vb 5 c,vp 6 8,vi 7 a,vp 8 9,vi 13 s.n,vi 14 a,vb 41 k]) h (fun a7 h a8=>?_) ?_
 refine rg ?_
 refine gd h (fun y h=>?_) (fun y h=>?_)
 refine gd h (fun a0 h=>?_) (fun a0 h=>?_)
 cases h
 exact bj _ [0,1,2,3,4,5,6,7,8,9]
 refine cl none [] 0 h (jb N _ _) fun a9 h=>?_
 cases h
 exact bj _ [0,1,2,3,4,5,6,7,8,9]
 cases h
 exact bj _ [0,1,2,3,4,5,6,7,8,9]
 intro k h
 try dsimp only at h
 refine cd h (fun a1 h=>?_) (fun a1 h=>?_)
 refine dr mixed ?_
 refine dk ?_
 cases h
 exact bj _ [0,1,2,3,4,5,6,7,8]
 cases h
 exact bj _ [0,1,2,3,4,5,6,7,8]
 rintro⟨g,i,j⟩ h
 try dsimp only at h
 cases h
 exact bl [0,1,2,3,4,5,6,7,8]
 cases h
 exact bj _ [0,1,2,3,4,5,6,7] (hx:=m _ rfl)
 rintro⟨e,f⟩ h
 try dsimp only at h
 cases h
 exact rt [0,1,2,3,4,5,6,7]
theorem NY(N:Nat)(s:aR)(v:Int)(r:Bool)(h:uH N s v=some r):Cx Tryz.prog 107 [.lf (.ptr 0 0),sI .i64 v] [.box [(lI .i64 s.n),.ap 1 aE false s.known,.ap 2 aJ false s.steps,.own 3,.own 4,.own 5,.own 6,.ap 7 aL false s.stack],.aG aE false s.known,.aG aJ false s.steps,.row (aT aA) false s.u,.row (aD .i64) true s.status,.row aA false s.value,.row aH false s.items,.aG aL false s.stack] [(0,some (.box [(lI .i64 s.n),.ap 1 aE false s.known,.ap 2 aJ false s.steps,.own 3,.own 4,.own 5,.own 6,.ap 7 aL false s.stack])),(1,some (.aG aE false s.known)),(2,some (.aG aJ false s.steps)),(3,some (.row (aT aA) false s.u)),(4,some (.row (aD .i64) true s.status)),(5,some (.row aA false s.value)),(6,some (.row aH false s.items)),(7,some (.aG aL false s.stack))] [sB r]:=by
 unfold uH at h
 refine fn tb en107 Tryz.func107 fun X w H ν=>?_
 refine eR (some false) [0,1,2,3,4,5,6,7] h (Cb N _ _) fun r1 h=>?_
 refine cd h (fun hc4 h=>?_) (fun hc4 h=>?_)
 cases h
 exact rt [0,1,2,3,4,5,6,7]
 refine po (rL 8 3) ?_
 refine po (rL 9 5) ?_
 refine mkF (fun x:aX=>[sA aH false x]) (fun r:Bool=>[sB r]) (fun xx=>tI N xx v r1.1) (fun xx r h=>PX N xx v r1.1 r h) GN ?_
 refine cl none [] 0 h (RU N _ _) fun r5 h=>?_
 cases h
 exact rt [0,1,2,3,4,5,6,7]
theorem CE(N:Nat)(s:aR)(x:aX)(r:aB)(h:lF N s x=some r):Cx Tryz.prog 94 [.lf (.ptr 0 0),sA aH false x] [.box [(lI .i64 s.n),.ap 1 aE false s.known,.ap 2 aJ false s.steps,.own 3,.own 4,.own 5,.own 6,.own 7],.aG aE false s.known,.aG aJ false s.steps,.row (aT aA) false s.u,.row (aD .i64) true s.status,.row aA false s.value,.row aH false s.items,.row aL false s.stack] [(0,some (.box [(lI .i64 s.n),.ap 1 aE false s.known,.ap 2 aJ false s.steps,.own 3,.own 4,.own 5,.own 6,.own 7])),(1,some (.aG aE false s.known)),(2,some (.aG aJ false s.steps)),(3,some (.row (aT aA) false s.u)),(4,some (.row (aD .i64) true s.status)),(5,some (.row aA false s.value)),(6,some (.row aH false s.items)),(7,some (.row aL false s.stack))] [sA aA false r]:=by
 unfold lF at h
 refine fn tb DB Tryz.func94 fun X w H ν=>?_
 refine dr mixed ?_
 refine ixA h fun x1 h=>?_
 refine ldA ?_
 refine dk ?_
 cases h
 exact rt [0,1,2,3,4,5,6,7]
theorem Tq(N:Nat)(s:aR)(cD:(List dO))(d:aB)(r:bB)(h:pP N s cD d=some r):Cx Tryz.prog 149 [.lf (.ptr 0 0),sR eD false cD,sA aA false d] [.box [(lI .i64 s.n),.ap 1 aE false s.known,.ap 2 aJ false s.steps,.own 3,.own 4,.own 5,.own 6,.own 7],.aG aE false s.known,.aG aJ false s.steps,.row (aT aA) false s.u,.row (aD .i64) true s.status,.row aA false s.value,.row aH false s.items,.row aL false s.stack] [(0,some (.box [(lI .i64 s.n),.ap 1 aE false s.known,.ap 2 aJ false s.steps,.own 3,.own 4,.own 5,.own 6,.own 7])),(1,some (.aG aE false s.known)),(2,some (.aG aJ false s.steps)),(3,some (.row (aT aA) false s.u)),(4,some (.row (aD .i64) true s.status)),(5,some (.row aA false s.value)),(6,some (.row aH false s.items)),(7,some (.row aL false s.stack))] [sA aE true r]:=by
 unfold pP at h
 refine fn tb GV Tryz.func149 fun X w H ν=>?_
 refine gI aA h fun x1 h=>?_
 refine jn (fun x=>x) (fun⟨Coefs280,Bound281⟩=>aV 12 [.box [(lI .i64 s.n),(.ap 1 aE false s.known),(.ap 2 aJ false s.steps),(.own 3),(.own 4),(.own 5),(.own 6),(.own 7)],.aG aE false s.known,.aG aJ false s.steps,.row (aT aA) false s.u,.row (aD .i64) true s.status,.row aA false s.value,.row aH false s.items,.row aL false s.stack,.box (aO.cl aA false d),.box [lN,(lB false),lN],.box [(.own 11),(lB Bound281.bF),(.ro (aD .u32) true Bound281.aP)],.row aA true Coefs280] [vp 0 0,vp 5 8,vp 6 9,vp 7 10]) h (fun y g a0=>?_) ?_
 refine bk ?_
 refine lp (fun⟨Coefs138,Bound139,a⟩=>aV 12 [.box [(lI .i64 s.n),(.ap 1 aE false s.known),(.ap 2 aJ false s.steps),(.own 3),(.own 4),(.own 5),(.own 6),(.own 7)],.aG aE false s.known,.aG aJ false s.steps,.row (aT aA) false s.u,.row (aD .i64) true s.status,.row aA false s.value,.row aH false s.items,.row aL false s.stack,.box (aO.cl aA false d),.box [lN,(lB false),lN],.box [(.own 11),(lB Bound139.bF),(.ro (aD .u32) true Bound139.aP)],.row aA true Coefs138] [vp 0 0,vp 5 8,vp 6 9,vp 7 10,vr 19 eD false cD,vi 20 (List.length cD:Int),vi 21 a]) g [0,1,2,3,4,5,6,7,8,9,11,10] ?_
 rintro⟨Coefs138,Bound139,a⟩ oo h i
 rw[Bb]at h
 refine cd h (fun j h=>?_) (fun j h=>?_)
 refine bk ?_
 refine bH h fun b h=>?_
 refine dr mixed ?_
 refine ixA h fun c h=>?_
 refine ldA ?_
 refine dk ?_
 refine jn (fun x=>x) (fun Coefs397=>aV 14 [.box [(lI .i64 s.n),(.ap 1 aE false s.known),(.ap 2 aJ false s.steps),(.own 3),(.own 4),(.own 5),(.own 6),(.own 7)],.aG aE false s.known,.aG aJ false s.steps,.row (aT aA) false s.u,.row (aD .i64) true s.status,.row aA false s.value,.row aH false s.items,.row aL false s.stack,.box (aO.cl aA false d),.box [lN,(lB false),lN],.box [(.own 11),(lB Bound139.bF),(.ro (aD .u32) true Bound139.aP)],.row aA true Coefs397,.box (aO.cl eD false b),.box (aO.cl aE false c)] [vp 0 0,vp 5 8,vp 6 9,vp 7 10,vp 9 12,vp 10 13,vr 19 eD false cD,vi 20 (List.length cD:Int),vi 21 a]) h (fun a1 k a2=>?_) ?_
 refine bk ?_
 refine lp (fun⟨Coefs375,e⟩=>aV 14 [.box [(lI .i64 s.n),(.ap 1 aE false s.known),(.ap 2 aJ false s.steps),(.own 3),(.own 4),(.own 5),(.own 6),(.own 7)],.aG aE false s.known,.aG aJ false s.steps,.row (aT aA) false s.u,.row (aD .i64) true s.status,.row aA false s.value,.row aH false s.items,.row aL false s.stack,.box (aO.cl aA false d),.box [lN,(lB false),lN],.box [(.own 11),(lB Bound139.bF),(.ro (aD .u32) true Bound139.aP)],.row aA true Coefs375,.box (aO.cl eD false b),.box (aO.cl aE false c)] [vp 0 0,vp 5 8,vp 6 9,vp 7 10,vp 9 12,vp 10 13,vr 19 eD false cD,vi 20 (List.length cD:Int),vi 21 a,vi 35 (List.length Coefs138:Int),vi 36 e]) k [0,1,2,3,4,5,6,7,8,9,10,11,12,13] ?_
 rintro⟨Coefs375,e⟩ oo h l
 rw[xW]at h
 refine cd h (fun m h=>?_) (fun m h=>?_)
 refine bk ?_
 refine dr mixed ?_
 refine cw h fun a3 h=>?_
 refine dK ?_
 refine bH h fun a4 h=>?_
 refine cl none [] 0 h (lR N _ _) fun a5 h=>?_
 refine cl none [] 0 h (jJ N _ _) fun a6 h=>?_
 refine cw h fun a7 h=>?_
 refine dX true h fun a8 h=>?_
 refine dk ?_
 cases h
 exact bl [0,1,2,3,4,5,6,7,8,9,10,11,12,13]
 cases h
 exact bj _ [0,1,2,3,4,5,6,7,8,9,10,11,12,13] (hx:=l _ rfl)
 intro Coefs397 h
 try dsimp only at h
 refine dr mixed ?_
 refine cl none [] 0 h (lR N _ _) fun a9 h=>?_
 refine cl none [] 0 h (jJ N _ _) fun aa h=>?_
 refine dk ?_
 cases h
 exact bl [0,1,2,3,4,5,6,7,8,9,10,11]
 cases h
 exact bj _ [0,1,2,3,4,5,6,7,8,9,10,11] (hx:=i _ rfl)
 rintro⟨Coefs280,Bound281⟩ h
 try dsimp only at h
 refine jn (fun x=>x) (fun Coefs452=>aV 12 [.box [(lI .i64 s.n),(.ap 1 aE false s.known),(.ap 2 aJ false s.steps),(.own 3),(.own 4),(.own 5),(.own 6),(.own 7)],.aG aE false s.known,.aG aJ false s.steps,.row (aT aA) false s.u,.row (aD .i64) true s.status,.row aA false s.value,.row aH false s.items,.row aL false s.stack,.box (aO.cl aA false d),.box [lN,(lB false),lN],.box [(.own 11),(lB Bound281.bF),(.ro (aD .u32) true Bound281.aP)],.row aA true Coefs452] [vp 0 0,vp 5 8,vp 6 9,vp 7 10]) h (fun ab o ac=>?_) ?_
 refine bk ?_
 refine lp (fun⟨Coefs434,f⟩=>aV 12 [.box [(lI .i64 s.n),(.ap 1 aE false s.known),(.ap 2 aJ false s.steps),(.own 3),(.own 4),(.own 5),(.own 6),(.own 7)],.aG aE false s.known,.aG aJ false s.steps,.row (aT aA) false s.u,.row (aD .i64) true s.status,.row aA false s.value,.row aH false s.items,.row aL false s.stack,.box (aO.cl aA false d),.box [lN,(lB false),lN],.box [(.own 11),(lB Bound281.bF),(.ro (aD .u32) true Bound281.aP)],.row aA true Coefs434] [vp 0 0,vp 5 8,vp 6 9,vp 7 10,vi 70 (List.length Coefs280:Int),vi 71 f]) o [0,1,2,3,4,5,6,7,8,9,10,11] ?_
 rintro⟨Coefs434,f⟩ oo h p
 rw[xo]at h
 refine cd h (fun v h=>?_) (fun v h=>?_)
 refine bk ?_
 refine dr mixed ?_
 refine cw h fun ad h=>?_
 refine dK ?_
 refine cl none [] 0 h (l5 N _ _) fun ae h=>?_
 refine cw h fun af h=>?_
 refine dX true h fun ag h=>?_
 refine dk ?_
 cases h
 exact bl [0,1,2,3,4,5,6,7,8,9,10,11]
 cases h
 exact bj _ [0,1,2,3,4,5,6,7,8,9,10,11] (hx:=p _ rfl)
 intro Coefs452 h
 try dsimp only at h
 refine cl none [] 0 h (l5 N _ _) fun ah h=>?_
 cases h
 exact rt [0,1,2,3,4,5,6,7]
theorem Nx(N:Nat)(s:aR)(g:(List aB))(cD:(List dO))(r:(aX×Bool×Bool×aR))(h:rS N s g cD=some r):Cx Tryz.prog 120 [.lf (.ptr 0 0),sR aA false g,sR eD false cD] [.box [(lI .i64 s.n),.ap 1 aE false s.known,.ap 2 aJ false s.steps,.own 3,.own 4,.own 5,.own 6,.own 7],.aG aE false s.known,.aG aJ false s.steps,.row (aT aA) false s.u,.row (aD .i64) true s.status,.row aA false s.value,.row aH false s.items,.row aL false s.stack] [(0,some (.box [(lI .i64 s.n),.ap 8 aE false r.2.2.2.known,.ap 9 aJ false r.2.2.2.steps,.own 10,.own 11,.own 12,.own 13,.own 14])),(8,some (.aG aE false r.2.2.2.known)),(9,some (.aG aJ false r.2.2.2.steps)),(10,some (.row (aT aA) false r.2.2.2.u)),(11,some (.row (aD .i64) true r.2.2.2.status)),(12,some (.row aA false r.2.2.2.value)),(13,some (.row aH false r.2.2.2.items)),(14,some (.row aL false r.2.2.2.stack))] [sA aH false r.1,sB r.2.1,sB r.2.2.1]:=by
 unfold rS at h
 refine iq (m:=8) tb (.comp (ej 0 1 1) (.comp (ej 0 2 2) (.comp (cZ 0 3 3) (.comp (cZ 0 4 4) (.comp (cZ 0 5 5) (.comp (cZ 0 6 6) (cZ 0 7 7))))))) Jh Tryz.func120 fun X w H ν=>?_
 refine cl none [] 0 h (IF N _) fun r1 h=>?_
 refine cl none [] 0 h (ic N _) fun r2 h=>?_
 refine jn (fun x=>x) (fun d6=>cE 17 [some (.box [(lI .i64 s.n),(.ap 8 aE false s.known),(.ap 9 aJ false s.steps),(.own 10),(.own 11),(.own 12),(.own 13),(.own 14)]),none,none,none,none,none,none,none,some (.aG aE false s.known),some (.aG aJ false s.steps),some (.row (aT aA) false s.u),some (.row (aD .i64) true s.status),some (.row aA false s.value),some (.row aH false s.items),some (.row aL false s.stack),some (.box [(lI .i64 0),lN]),some (.box (aO.cl aA true d6))] [vp 0 0,vr 1 aA false g,vr 2 eD false cD,vp 6 15,vp 9 16,vb 10 (decide ((r2:Int)≠0))]) h (fun s7 h g8=>?_) ?_
 refine cd h (fun hc9 h=>?_) (fun hc9 h=>?_)
 refine cl none [] 0 h (gi N _) fun a5 h=>?_
 cases h
 exact bj _ [0,1,2,3,4,5,6,7,8,9,10,11,12,13,14,15,16]
 cases h
 exact bj _ [0,1,2,3,4,5,6,7,8,9,10,11,12,13,14,15,16]
 intro d6 h
 try dsimp only at h
 refine cl none [] 0 h (gi N _) fun c h=>?_
 refine jn (fun x=>x) (fun d=>cE 18 [some (.box [(lI .i64 s.n),(.ap 8 aE false s.known),(.ap 9 aJ false s.steps),(.own 10),(.own 11),(.own 12),(.own 13),(.own 14)]),none,none,none,none,none,none,none,some (.aG aE false s.known),some (.aG aJ false s.steps),some (.row (aT aA) false s.u),some (.row (aD .i64) true s.status),some (.row aA false s.value),some (.row aH false s.items),some (.row aL false s.stack),some (.box [(lI .i64 0),lN]),some (.box (aO.cl aA true d6)),some (.box (aO.cl aA true c))] [vp 0 0,vr 1 aA false g,vr 2 eD false cD,vp 6 15,vp 9 16,vb 10 (decide ((r2:Int)≠0)),vp 11 17,vb 40 d]) h (fun a6 h a7=>?_) ?_
 refine dr mixed ?_
 refine gd h (fun p h=>?_) (fun p h=>?_)
 refine dk ?_
 cases h
 exact bj _ [0,1,2,3,4,5,6,7,8,9,10,11,12,13,14,15,16,17]
 refine bH h fun a8 h=>?_
 refine cl none [] 0 h (jb N _ _) fun a9 h=>?_
 refine gd h (fun v h=>?_) (fun v h=>?_)
 refine dk ?_
 cases h
 exact bj _ [0,1,2,3,4,5,6,7,8,9,10,11,12,13,14,15,16,17]
 refine cl none [] 0 h (jb N _ _) fun aa h=>?_
 refine dk ?_
 cases h
 exact bj _ [0,1,2,3,4,5,6,7,8,9,10,11,12,13,14,15,16,17]
 intro d h
 try dsimp only at h
 refine jn (fun x=>x) (fun⟨a,b,e⟩=>cE 17 [some (.box [(lI .i64 s.n),(.ap 8 aE false a),(.ap 9 aJ false b),(.own 10),(.own 11),(.own 12),(.own 13),(.own 14)]),none,none,none,none,none,none,none,some (.aG aE false a),some (.aG aJ false b),some (.row (aT aA) false s.u),some (.row (aD .i64) true s.status),some (.row aA false s.value),some (.row aH false s.items),some (.row aL false s.stack),some (.box [(lI .i64 0),lN]),some (.box (aO.cl aA true d6))] [vp 0 0,vr 1 aA false g,vr 2 eD false e,vp 6 15,vp 9 16,vb 10 (decide ((r2:Int)≠0))]) h (fun ab h ac=>?_) ?_
 refine cd h (fun y h=>?_) (fun y h=>?_)
 refine dr mixed ?_
 refine dt aJ false [(Step.mk cD d6)] ?_
 refine apA false h fun f h=>?_
 refine dk ?_
 refine ps (oa 0 2) ?_
 refine dr mixed ?_
 refine eR (some false) [0,8,19,10,11,12,13,14] h (Tq N _ _ _) fun a0 h=>?_
 refine dt aE true [a0] ?_
 refine apA false h fun i h=>?_
 refine dk ?_
 refine sn (cE 18 [some (.box [(lI .i64 s.n),(.own 8),(.ap 9 aJ false f),(.own 10),(.own 11),(.own 12),(.own 13),(.own 14)]),none,none,none,none,none,none,none,some (.row aE false i),some (.aG aJ false f),some (.row (aT aA) false s.u),some (.row (aD .i64) true s.status),some (.row aA false s.value),some (.row aH false s.items),some (.row aL false s.stack),some (.box [(lI .i64 0),lN]),some (.box (aO.cl aA true d6)),some (.box (aO.cl aA true c))] [vp 0 0,vr 1 aA false g,vp 6 15,vp 9 16,vb 10 (decide ((r2:Int)≠0)),vp 11 17]) [0,1,2,3,4,5,6,7,21,19,10,11,12,13,14,15,16,17] ?_
 refine dr mixed ?_
 refine dt eD true [(dO.mk (iw ((List.length i:Int)-1)) c)] ?_
 refine dk ?_
 cases h
 exact bj _ [0,1,2,3,4,5,6,7,8,9,10,11,12,13,14,15,16]
 cases h
 exact bj _ [0,1,2,3,4,5,6,7,8,9,10,11,12,13,14,15,16]
 rintro⟨a,b,e⟩ h
 try dsimp only at h
 refine dr mixed ?_
 refine bH h fun j h=>?_
 refine gI aA h fun ad h=>?_
 refine dk ?_
 refine jn (fun x=>x) (fun k=>cE 18 [some (.box [(lI .i64 s.n),(.ap 8 aE false a),(.ap 9 aJ false b),(.own 10),(.own 11),(.own 12),(.own 13),(.own 14)]),none,none,none,none,none,none,none,some (.aG aE false a),some (.aG aJ false b),some (.row (aT aA) false s.u),some (.row (aD .i64) true s.status),some (.row aA false s.value),some (.row aH false s.items),some (.row aL false s.stack),some (.box [(lI .i64 0),lN]),some (.box [(lI .i64 j.Index),(.own 17)]),some (.row aA true k)] [vp 0 0,vp 6 15,vb 10 (decide ((r2:Int)≠0)),vp 12 16]) h (fun ae a1 af=>?_) ?_
 refine bk ?_
 refine lp (fun⟨l,o⟩=>cE 19 [some (.box [(lI .i64 s.n),(.ap 8 aE false a),(.ap 9 aJ false b),(.own 10),(.own 11),(.own 12),(.own 13),(.own 14)]),none,none,none,none,none,none,none,some (.aG aE false a),some (.aG aJ false b),some (.row (aT aA) false s.u),some (.row (aD .i64) true s.status),some (.row aA false s.value),some (.row aH false s.items),some (.row aL false s.stack),some (.box [(lI .i64 0),lN]),some (.box (aO.cl aA true d6)),some (.box [(lI .i64 j.Index),(.own 18)]),some (.row aA true l)] [vp 0 0,vr 1 aA false g,vp 6 15,vp 9 16,vb 10 (decide ((r2:Int)≠0)),vp 12 17,vi 86 (List.length g:Int),vi 87 o]) a1 [0,1,2,3,4,5,6,7,8,9,10,11,12,13,14,15,16,18,17] ?_
 rintro⟨l,o⟩ oo h a2
 rw[xu]at h
 refine cd h (fun a3 h=>?_) (fun a3 h=>?_)
 refine bk ?_
 refine dr mixed ?_
 refine bH h fun ag h=>?_
 refine cl none [] 0 h (l5 N _ _) fun ah h=>?_
 refine cw h fun ai h=>?_
 refine dX true h fun aj h=>?_
 refine dk ?_
 cases h
 exact bl [0,1,2,3,4,5,6,7,8,9,10,11,12,13,14,15,16,17,18]
 cases h
 exact bj _ [0,1,2,3,4,5,6,7,8,9,10,11,12,13,14,15,17,18] (hx:=a2 _ rfl)
 intro k h
 try dsimp only at h
 refine ps (dC 17 [] [16]) ?_
 refine dr mixed ?_
 refine gd h (fun a4 h=>?_) (fun a4 h=>?_)
 refine dk ?_
 cases h
 exact rt [0,1,2,3,4,5,6,7,8,9,10,11,12,13,14]
 refine eR (some false) [0,8,9,10,11,12,13,14] h (CE N _ _) fun ak h=>?_
 refine cl none [] 0 h (ic N _) fun al h=>?_
 refine dk ?_
 cases h
 exact rt [0,1,2,3,4,5,6,7,8,9,10,11,12,13,14]
theorem Tj(N:Nat)(s:aR)(x:aX)(r:aR)(h:kW N s x=some r):Cx Tryz.prog 96 [.lf (.ptr 0 0),sA aH false x] [.box [(lI .i64 s.n),.ap 1 aE false s.known,.ap 2 aJ false s.steps,.own 3,.own 4,.own 5,.own 6,.own 7],.aG aE false s.known,.aG aJ false s.steps,.row (aT aA) false s.u,.row (aD .i64) true s.status,.row aA false s.value,.row aH false s.items,.row aL false s.stack] [(0,some (.box [(lI .i64 s.n),.ap 8 aE false r.known,.ap 9 aJ false r.steps,.own 10,.own 11,.own 12,.own 13,.own 14])),(8,some (.aG aE false r.known)),(9,some (.aG aJ false r.steps)),(10,some (.row (aT aA) false r.u)),(11,some (.row (aD .i64) true r.status)),(12,some (.row aA false r.value)),(13,some (.row aH false r.items)),(14,some (.row aL false r.stack))] []:=by
 unfold kW at h
 refine iq (m:=8) tb (.comp (ej 0 1 1) (.comp (ej 0 2 2) (.comp (cZ 0 3 3) (.comp (cZ 0 4 4) (.comp (cZ 0 5 5) (.comp (cZ 0 6 6) (cZ 0 7 7))))))) en96 Tryz.func96 fun X w H ν=>?_
 refine jn (fun x=>(Sum.inl x)) (fun(_:Unit)=>cE 16 [some (.box [(lI .i64 s.n),(.ap 8 aE false s.known),(.ap 9 aJ false s.steps),(.own 10),(.own 11),(.own 12),(.own 13),(.own 14)]),none,none,none,none,none,none,none,some (.aG aE false s.known),some (.aG aJ false s.steps),some (.row (aT aA) false s.u),some (.row (aD .i64) true s.status),some (.row aA false s.value),some (.row aH false s.items),some (.row aL false s.stack),some (.box (aO.cl aH false x))] [vp 0 0,vp 3 15]) h (fun j d b=>?_) ?_
 refine bk ?_
 refine lp (fun c=>cE 16 [some (.box [(lI .i64 s.n),(.ap 8 aE false s.known),(.ap 9 aJ false s.steps),(.own 10),(.own 11),(.own 12),(.own 13),(.own 14)]),none,none,none,none,none,none,none,some (.aG aE false s.known),some (.aG aJ false s.steps),some (.row (aT aA) false s.u),some (.row (aD .i64) true s.status),some (.row aA false s.value),some (.row aH false s.items),some (.row aL false s.stack),some (.box (aO.cl aH false x))] [vp 0 0,vp 3 15,vo 9 13,vi 10 (List.length s.items:Int),vi 11 c]) d [0,1,2,3,4,5,6,7,8,9,10,11,12,13,14,15] ?_
 rintro c oo h a
 rw[y8]at h
 refine cd h (fun e h=>?_) (fun e h=>?_)
 refine bk ?_
 refine cw h fun k h=>?_
 refine dK ?_
 refine clF none [] 0 h (Lp N _ _ _) (.s (.s (.f (fun x:aB×aB=>[sA aA false x.1,sA aA false x.2]) (fun r:Bool=>[sB r]) (fun x=>qv N x.1 x.2) (fun x r h=>I8 N x.1 x.2 r h) Fs .n))) fun l h=>?_
 refine cd h (fun g h=>?_) (fun g h=>?_)
 refine dr mixed ?_
 refine eR (some false) [0,8,9,10,11,12,13,14] h (CE N _ _) fun o h=>?_
 refine eR (some false) [0,8,9,10,11,12,13,14] h (CE N _ _) fun p h=>?_
 refine cl none [] 0 h (jb N _ _) fun v h=>?_
 refine dk ?_
 refine cd h (fun i h=>?_) (fun i h=>?_)
 refine dr mixed ?_
 refine cw h fun y h=>?_
 refine dX false h fun a0 h=>?_
 refine dk ?_
 cases h
 have h:=b
 rw[<-a _ rfl]at h
 try dsimp only at h
 cases h
 exact rt [0,1,2,3,4,5,6,7,8,9,10,11,12,13,14]
 cases h
 have h:=b
 rw[<-a _ rfl]at h
 try dsimp only at h
 cases h
 exact rt [0,1,2,3,4,5,6,7,8,9,10,11,12,13,14]
 cases h
 exact bl [0,1,2,3,4,5,6,7,8,9,10,11,12,13,14,15]
 cases h
 exact bj _ [0,1,2,3,4,5,6,7,8,9,10,11,12,13,14,15] (hx:=a _ rfl)
 intro _ h
 try dsimp only at h
 refine dr mixed ?_
 refine dt aH false [x] ?_
 refine eb false h fun a1 h=>?_
 refine dk ?_
 cases h
 exact rt [0,1,2,3,4,5,6,7,8,9,10,11,12,17,14]
theorem O8(N:Nat)(s:aR)(g:(List aB))(cD:(List dO))(r:(Bool×aR))(h:mU N s g cD=some r):Cx Tryz.prog 91 [.lf (.ptr 0 0),sR aA false g,sR eD false cD] [.box [(lI .i64 s.n),.ap 1 aE false s.known,.ap 2 aJ false s.steps,.own 3,.own 4,.own 5,.own 6,.own 7],.aG aE false s.known,.aG aJ false s.steps,.row (aT aA) false s.u,.row (aD .i64) true s.status,.row aA false s.value,.row aH false s.items,.row aL false s.stack] [(0,some (.box [(lI .i64 s.n),.ap 8 aE false r.2.known,.ap 9 aJ false r.2.steps,.own 10,.own 11,.own 12,.own 13,.own 14])),(8,some (.aG aE false r.2.known)),(9,some (.aG aJ false r.2.steps)),(10,some (.row (aT aA) false r.2.u)),(11,some (.row (aD .i64) true r.2.status)),(12,some (.row aA false r.2.value)),(13,some (.row aH false r.2.items)),(14,some (.row aL false r.2.stack))] [sB r.1]:=by
 unfold mU at h
 refine iq (m:=8) tb (.comp (ej 0 1 1) (.comp (ej 0 2 2) (.comp (cZ 0 3 3) (.comp (cZ 0 4 4) (.comp (cZ 0 5 5) (.comp (cZ 0 6 6) (cZ 0 7 7))))))) en91 Tryz.func91 fun X w H ν=>?_
 refine cl (some false) [0,8,9,10,11,12,13,14] 7 h (Nx N _ _ _) fun r1 h=>?_
 refine jn (fun x=>x) (fun⟨known5,steps6,u7,status8,value9,a,b⟩=>cE 15 [some (.box [(lI .i64 s.n),(.ap 8 aE false known5),(.ap 9 aJ false steps6),(.own 10),(.own 11),(.own 12),(.own 13),(.own 14)]),none,none,none,none,none,none,none,some (.aG aE false known5),some (.aG aJ false steps6),some (.row (aT aA) false u7),some (.row (aD .i64) true status8),some (.row aA false value9),some (.row aH false a),some (.row aL false b)] [vp 0 0,vb 9 r1.2.2.1]) h (fun d h e=>?_) ?_
 refine cd h (fun c h=>?_) (fun c h=>?_)
 refine cl (some false) [0,15,16,17,18,19,20,21] 7 h (Tj N _ _) fun f h=>?_
 cases h
 exact bj _ [0,1,2,3,4,5,6,7,23,24,25,26,27,28,29]
 cases h
 exact bj _ [0,1,2,3,4,5,6,7,15,16,17,18,19,20,21]
 rintro⟨known5,steps6,u7,status8,value9,a,b⟩ h
 try dsimp only at h
 cases h
 exact rt [0,1,2,3,4,5,6,7,8,9,10,11,12,13,14]
theorem Fj(N:Nat)(s:aR)(v:Int)(dz:Bool)(r:(Bool×aR))(h:nJ N s v dz=some r):Cx Tryz.prog 109 [.lf (.ptr 0 0),sI .i64 v,sB dz] [.box [(lI .i64 s.n),.ap 1 aE false s.known,.ap 2 aJ false s.steps,.own 3,.own 4,.own 5,.own 6,.ap 7 aL false s.stack],.aG aE false s.known,.aG aJ false s.steps,.row (aT aA) false s.u,.row (aD .i64) true s.status,.row aA false s.value,.row aH false s.items,.aG aL false s.stack] [(0,some (.box [(lI .i64 s.n),.ap 8 aE false r.2.known,.ap 9 aJ false r.2.steps,.own 10,.own 11,.own 12,.own 13,.own 14])),(8,some (.aG aE false r.2.known)),(9,some (.aG aJ false r.2.steps)),(10,some (.row (aT aA) false r.2.u)),(11,some (.row (aD .i64) true r.2.status)),(12,some (.row aA false r.2.value)),(13,some (.row aH false r.2.items)),(14,some (.row aL false r.2.stack))] [sB r.1]:=by
 unfold nJ at h
 refine iq (m:=8) tb (.comp (ej 0 1 1) (.comp (ej 0 2 2) (.comp (cZ 0 3 3) (.comp (cZ 0 4 4) (.comp (cZ 0 5 5) (.comp (cZ 0 6 6) (ej 0 7 7))))))) en109 Tryz.func109 fun X w H ν=>?_
 refine eR (some false) [0,8,9,10,11,12,13,14] h (Cb N _ _) fun r1 h=>?_
 refine dt (aT aH) false [r1.1,r1.2] ?_
 refine po (dC 17 [31] []) ?_
 refine cl (some false) [] 0 h (KX N _) fun r2 h=>?_
 refine jn (fun x=>x) (fun l=>cE 18 [some (.box [(lI .i64 s.n),(.ap 8 aE false s.known),(.ap 9 aJ false s.steps),(.own 10),(.own 11),(.own 12),(.own 13),(.ap 14 aL false s.stack)]),none,none,none,none,none,none,none,some (.aG aE false s.known),some (.aG aJ false s.steps),some (.row (aT aA) false s.u),some (.row (aD .i64) true s.status),some (.row aA false s.value),some (.row aH false s.items),some (.aG aL false s.stack),some (.box [(lI .i64 v)]),some (.box [(lI .i64 v),(.own 17),(lB dz)]),some (.row (aD .i64) true l)] [vp 0 0,vp 4 15,vr 7 aH false r1.1,vr 8 aH false r1.2,vp 9 16]) h (fun bb aw bc=>?_) ?_
 refine bk ?_
 refine ps (nb 16 1 (aD .i64)) ?_
 refine lp (fun⟨a6,a7⟩=>cE 18 [some (.box [(lI .i64 s.n),(.ap 8 aE false s.known),(.ap 9 aJ false s.steps),(.own 10),(.own 11),(.own 12),(.own 13),(.ap 14 aL false s.stack)]),none,none,none,none,none,none,none,some (.aG aE false s.known),some (.aG aJ false s.steps),some (.row (aT aA) false s.u),some (.row (aD .i64) true s.status),some (.row aA false s.value),some (.row aH false s.items),some (.aG aL false s.stack),some (.box [(lI .i64 v)]),some (.box [(lI .i64 v),(.own 17),(lB dz)]),some (.row (aD .i64) true a6)] [vp 0 0,vp 4 15,vr 7 aH false r1.1,vr 8 aH false r1.2,vp 9 16,vr 32 aH false r2,vi 33 (List.length r2:Int),vi 34 a7]) aw [0,1,2,3,4,5,6,7,8,9,10,11,12,13,14,15,16,18] ?_
 rintro⟨a6,a7⟩ oo h ax
 rw[CP]at h
 refine cd h (fun ay h=>?_) (fun ay h=>?_)
 refine bk ?_
 refine bH h fun az h=>?_
 refine dt (aD .i64) true [az.pos] ?_
 refine eb true h fun bd h=>?_
 cases h
 exact bl [0,1,2,3,4,5,6,7,8,9,10,11,12,13,14,15,16,20]
 cases h
 exact bj _ [0,1,2,3,4,5,6,7,8,9,10,11,12,13,14,15,16,17] (hx:=ax _ rfl)
 intro l h
 try dsimp only at h
 refine ps (dC 17 [] [16]) ?_
 refine dr mixed ?_
 refine dt aL true [(dI.mk v l dz)] ?_
 refine apA false h fun be h=>?_
 refine dk ?_
 refine dr mixed ?_
 refine cw h fun bf h=>?_
 refine dX true h fun bg h=>?_
 refine dk ?_
 refine po (dC 13 [66] [0]) ?_
 refine cl (some false) [] 1 h (E4 N _) fun bh h=>?_
 refine po (rL 15 4) ?_
 refine mkF (fun x:aX=>[sA aH false x]) (fun r:Bool=>[sB r]) (fun xx=>uG N xx v) (fun xx r h=>QV N xx v r h) LC ?_
 refine cl (some false) [20] 1 h (OV N _ _) fun bi h=>?_
 refine jn (fun x=>(Sum.inl x)) (fun⟨o,p,a8,a9,aa,ab,ac⟩=>cE 15 [some (.box [(lI .i64 s.n),(.ap 8 aE false o),(.ap 9 aJ false p),(.own 10),(.own 11),(.own 12),(.own 13),(.own 14)]),none,none,none,none,none,none,none,some (.aG aE false o),some (.aG aJ false p),some (.row (aT aA) false a8),some (.row (aD .i64) true a9),some (.row aA false aa),some (.row aH false ab),some (.row aL false ac)] [vp 0 0]) h (fun bm b0 b1=>?_) ?_
 refine bk ?_
 refine lp (fun⟨y,a0,ad,ae,af,ag,ah,c⟩=>cE 15 [some (.box [(lI .i64 s.n),(.ap 8 aE false y),(.ap 9 aJ false a0),(.own 10),(.own 11),(.own 12),(.own 13),(.own 14)]),none,none,none,none,none,none,none,some (.aG aE false y),some (.aG aJ false a0),some (.row (aT aA) false ad),some (.row (aD .i64) true ae),some (.row aA false af),some (.row aH false ag),some (.row aL false ah)] [vp 0 0,(4,some (.pr true [(lI .i64 v)] 0)),vr 8 aH false r1.2,vr 72 aH false r1.1,vi 73 (List.length r1.1:Int),vi 74 c]) b0 [0,1,2,3,4,5,6,7,8,9,10,11,12,21,19] ?_
 rintro⟨y,a0,ad,ae,af,ag,ah,c⟩ oo h ai
 rw[DL]at h
 refine cd h (fun b2 h=>?_) (fun b2 h=>?_)
 refine bk ?_
 refine bH h fun d h=>?_
 refine jn (fun x=>(Sum.inl x)) (fun⟨a1,a2,aj,ak,al,am,an⟩=>cE 15 [some (.box [(lI .i64 s.n),(.ap 8 aE false a1),(.ap 9 aJ false a2),(.own 10),(.own 11),(.own 12),(.own 13),(.own 14)]),none,none,none,none,none,none,none,some (.aG aE false a1),some (.aG aJ false a2),some (.row (aT aA) false aj),some (.row (aD .i64) true ak),some (.row aA false al),some (.row aH false am),some (.row aL false an)] [vp 0 0,(4,some (.pr true [(lI .i64 v)] 0)),vr 8 aH false r1.2,vr 72 aH false r1.1,vi 73 (List.length r1.1:Int),vi 74 c]) h (fun bn b3 b4=>?_) ?_
 refine bk ?_
 refine lp (fun⟨a,b,e,f,g,i,j,k⟩=>cE 16 [some (.box [(lI .i64 s.n),(.ap 8 aE false a),(.ap 9 aJ false b),(.own 10),(.own 11),(.own 12),(.own 13),(.own 14)]),none,none,none,none,none,none,none,some (.aG aE false a),some (.aG aJ false b),some (.row (aT aA) false e),some (.row (aD .i64) true f),some (.row aA false g),some (.row aH false i),some (.row aL false j),some (.box (aO.cl aH false d))] [vp 0 0,(4,some (.pr true [(lI .i64 v)] 0)),vr 8 aH false r1.2,vp 13 15,vr 72 aH false r1.1,vi 73 (List.length r1.1:Int),vi 74 c,vr 78 aH false r1.2,vi 79 (List.length r1.2:Int),vi 80 k]) b3 [0,1,2,3,4,5,6,7,8,9,10,11,12,13,14,15] ?_
 rintro⟨a,b,e,f,g,i,j,k⟩ oo h ao
 rw[Em]at h
 refine cd h (fun b5 h=>?_) (fun b5 h=>?_)
 refine bk ?_
 refine bH h fun a3 h=>?_
 refine dr mixed ?_
 refine bH h fun a4 h=>?_
 refine bH h fun bo h=>?_
 refine cl none [] 0 h (kU N _) fun a5 h=>?_
 refine dk ?_
 refine gI aA h fun b6 h=>?_
 refine jn (fun x=>x) (fun aq=>cE 20 [some (.box [(lI .i64 s.n),(.ap 8 aE false a),(.ap 9 aJ false b),(.own 10),(.own 11),(.own 12),(.own 13),(.own 14)]),none,none,none,none,none,none,none,some (.aG aE false a),some (.aG aJ false b),some (.row (aT aA) false e),some (.row (aD .i64) true f),some (.row aA false g),some (.row aH false i),some (.row aL false j),some (.box (aO.cl aH false d)),some (.box (aO.cl aH false a3)),some (.box (aO.cl aA false a4)),some (.box (aO.cl aA true a5)),some (.row aA true aq)] [vp 0 0,(4,some (.pr true [(lI .i64 v)] 0)),vr 8 aH false r1.2,vp 13 15,vp 15 16,vp 16 17,vp 17 18,vo 18 19,vr 72 aH false r1.1,vi 73 (List.length r1.1:Int),vi 74 c,vr 78 aH false r1.2,vi 79 (List.length r1.2:Int),vi 80 k]) h (fun bp b7 br=>?_) ?_
 refine bk ?_
 refine lp (fun⟨ar,av⟩=>cE 20 [some (.box [(lI .i64 s.n),(.ap 8 aE false a),(.ap 9 aJ false b),(.own 10),(.own 11),(.own 12),(.own 13),(.own 14)]),none,none,none,none,none,none,none,some (.aG aE false a),some (.aG aJ false b),some (.row (aT aA) false e),some (.row (aD .i64) true f),some (.row aA false g),some (.row aH false i),some (.row aL false j),some (.box (aO.cl aH false d)),some (.box (aO.cl aH false a3)),some (.box (aO.cl aA false a4)),some (.box (aO.cl aA true a5)),some (.row aA true ar)] [vp 0 0,(4,some (.pr true [(lI .i64 v)] 0)),vr 8 aH false r1.2,vp 13 15,vp 15 16,vp 16 17,vp 17 18,vo 18 19,vr 72 aH false r1.1,vi 73 (List.length r1.1:Int),vi 74 c,vr 78 aH false r1.2,vi 79 (List.length r1.2:Int),vi 80 k,vi 101 (List.length b6:Int),vi 102 av]) b7 [0,1,2,3,4,5,6,7,8,9,10,11,12,13,14,15,16,17,18,19] ?_
 rintro⟨ar,av⟩ oo h b8
 rw[zX]at h
 refine cd h (fun b9 h=>?_) (fun b9 h=>?_)
 refine bk ?_
 refine dr mixed ?_
 refine bH h fun bs h=>?_
 refine cl none [] 0 h (lR N _ _) fun bt h=>?_
 refine bH h fun bu h=>?_
 refine cl none [] 0 h (lR N _ _) fun bw h=>?_
 refine cl none [] 0 h (jJ N _ _) fun bx h=>?_
 refine cw h fun bz h=>?_
 refine dX true h fun c0 h=>?_
 refine dk ?_
 cases h
 exact bl [0,1,2,3,4,5,6,7,8,9,10,11,12,13,14,15,16,17,18,19]
 cases h
 exact bj _ [0,1,2,3,4,5,6,7,8,9,10,11,12,13,14,15,16,17,18,19] (hx:=b8 _ rfl)
 intro aq h
 try dsimp only at h
 refine dt eD false [(dO.mk d.pos a5),(dO.mk a3.pos a4)] ?_
 refine po (dC 19 [18,125] []) ?_
 refine po (dC 20 [134] []) ?_
 refine cl (some false) [0,8,9,10,11,12,13,14] 7 h (O8 N _ _ _) fun c1 h=>?_
 refine cd h (fun ba h=>?_) (fun ba h=>?_)
 cases h
 have h:=b4
 rw[<-ao _ rfl]at h
 try dsimp only at h
 cases h
 have h:=b1
 rw[<-ai _ rfl]at h
 try dsimp only at h
 cases h
 exact rt [0,1,2,3,4,5,6,7,21,22,23,24,25,26,27]
 cases h
 exact bl [0,1,2,3,4,5,6,7,21,22,23,24,25,26,27,15]
 cases h
 exact bj _ [0,1,2,3,4,5,6,7,8,9,10,11,12,13,14] (hx:=ao _ rfl)
 rintro⟨a1,a2,aj,ak,al,am,an⟩ h
 try dsimp only at h
 cases h
 exact bl [0,1,2,3,4,5,6,7,8,9,10,11,12,13,14]
 cases h
 exact bj _ [0,1,2,3,4,5,6,7,8,9,10,11,12,13,14] (hx:=ai _ rfl)
 rintro⟨o,p,a8,a9,aa,ab,ac⟩ h
 try dsimp only at h
 cases h
 exact rt [0,1,2,3,4,5,6,7,8,9,10,11,12,13,14]
theorem uo(N:Nat)(s:aR)(r:bX)(h:jy N s=some r):Cx Tryz.prog 74 [.lf (.ptr 0 0)] [.box [(lI .i64 s.n),.ap 1 aE false s.known,.ap 2 aJ false s.steps,.own 3,.own 4,.own 5,.own 6,.ap 7 aL false s.stack],.aG aE false s.known,.aG aJ false s.steps,.row (aT aA) false s.u,.row (aD .i64) true s.status,.row aA false s.value,.row aH false s.items,.aG aL false s.stack] [] [sA fu false r]:=by
 unfold jy at h
 refine iq (m:=8) tb (.comp (fa 0 1) (.comp (fa 0 2) (.comp (dC 3 [] [0]) (.comp (dC 4 [] [0]) (.comp (dC 5 [] [0]) (.comp (dC 6 [] [0]) (fa 0 7))))))) en74 Tryz.func74 fun X w H ν=>?_
 cases h
 exact rt [0,1,2,3,4,5,6,7]
theorem Ra(N:Nat)(n:Int)(system:(List bB))(r:aR)(h:xX N n system=some r):Cx Tryz.prog 62 [sI .i64 n,sR aE false system] [] [(0,some (.box [(lI .i64 r.n),.own 1,.own 2,.own 3,.own 4,.own 5,.own 6,.own 7])),(1,some (.row aE false r.known)),(2,some (.row aJ false r.steps)),(3,some (.row (aT aA) false r.u)),(4,some (.row (aD .i64) true r.status)),(5,some (.row aA false r.value)),(6,some (.row aH false r.items)),(7,some (.row aL false r.stack))] [.lf (.ptr 0 0)]:=by
 unfold xX at h
 refine fn tb en62 Tryz.func62 fun X w H ν=>?_
 refine dr mixed ?_
 refine cl (some false) [] 1 h (Sq N _) fun r1 h=>?_
 refine gI (aD .i64) h fun x2 h=>?_
 refine gI aA h fun x3 h=>?_
 refine dk ?_
 refine jn (fun x=>x) (fun a=>aV 5 [.box [(lI .i64 n),(.own 1),lN,(.own 2),(.own 3),(.own 4),lN,lN],.row aE false r1,.row (aT aA) true a,.row (aD .i64) true x2,.row aA true x3] [vp 5 0]) h (fun i d j=>?_) ?_
 refine bk ?_
 refine ps (nb 3 3 (aT aA)) ?_
 refine lp (fun⟨b,c⟩=>aV 5 [.box [(lI .i64 n),(.own 1),lN,(.own 2),(.own 3),(.own 4),lN,lN],.row aE false r1,.row (aT aA) true b,.row (aD .i64) true x2,.row aA true x3] [vi 0 n,vp 5 0,vi 17 n,vi 18 c]) d [3,0,4,1,2] ?_
 rintro⟨b,c⟩ oo h e
 rw[DD]at h
 refine cd h (fun f h=>?_) (fun f h=>?_)
 refine bk ?_
 refine gI aA h fun k h=>?_
 refine cl none [] 0 h (gi N _) fun l h=>?_
 refine cw h fun m h=>?_
 refine dX true h fun g h=>?_
 refine po (dC 5 [7,22,23,32] []) ?_
 refine dt (aT aA) true [g] ?_
 refine eb true h fun o h=>?_
 cases h
 exact bl [0,1,7,3,4]
 cases h
 exact bj _ [0,1,2,3,4] (hx:=e _ rfl)
 intro a h
 try dsimp only at h
 refine pr (nb 0 2 aJ) ?_
 refine pr (nb 0 6 aH) ?_
 refine pr (nb 0 7 aL) ?_
 cases h
 exact rt [0,1,5,2,3,4,6,7]
theorem Au(N:Nat)(s:aR)(r:aR)(h:p5 N s=some r):Cx Tryz.prog 140 [.lf (.ptr 0 0)] [.box [(lI .i64 s.n),(.ro aE false s.known),(.ro aJ false s.steps),(.ro (aT aA) false s.u),(.ro (aD .i64) false s.status),(.ro aA false s.value),(.ro aH false s.items),(.ro aL false s.stack)]] [(0,some (.box [(lI .i64 s.n),(.ro aE false s.known),(.ro aJ false s.steps),(.ro (aT aA) false s.u),(.ro (aD .i64) false s.status),(.ro aA false s.value),(.ro aH false s.items),(.ro aL false s.stack)])),(1,some (.box [(lI .i64 r.n),.cp aE false r.known,.cp aJ false r.steps,.own 2,.own 3,.own 4,.own 5,.cp aL false r.stack])),(2,some (.row (aT aA) false r.u)),(3,some (.row (aD .i64) true r.status)),(4,some (.row aA false r.value)),(5,some (.row aH false r.items))] [.lf (.ptr 1 0)]:=by
 unfold p5 at h
 refine fn tb en140 Tryz.func140 fun X w H ν=>?_
 refine dr mixed ?_
 refine cl (some false) [] 0 h (GU N _) fun r1 h=>?_
 refine cl (some false) [] 0 h (Up N _) fun r2 h=>?_
 refine dk ?_
 refine dr mixed ?_
 refine cl (some false) [] 1 h (Nh N _) fun r3 h=>?_
 refine cl none [] 1 h (OA N _) fun r4 h=>?_
 refine cl (some false) [] 1 h (vQ N _) fun r5 h=>?_
 refine dk ?_
 refine sn (aV 5 [.box [(lI .i64 s.n),(.ro aE false s.known),(.ro aJ false s.steps),(.ro (aT aA) false s.u),(.ro (aD .i64) false s.status),(.ro aA false s.value),(.ro aH false s.items),(.ro aL false s.stack)],.box [(lI .i64 s.n),(.cp aE false r1),(.cp aJ false r2),(.own 2),(.own 3),(.own 4),(.ro aH false s.items),(.ro aL false s.stack)],.row (aT aA) false r3,.row (aD .i64) true r4,.row aA false r5] [vp 0 0,vp 3 1]) [0,1,2,3,4] ?_
 refine dr mixed ?_
 refine cl (some false) [] 1 h (E4 N _) fun r6 h=>?_
 refine cl (some false) [] 0 h (Np N _) fun r7 h=>?_
 refine dk ?_
 cases h
 exact rt [0,1,2,3,4,5]
theorem ua(N:Nat)(s:aR)(q:bB)(r:aR)(h:mD N s q=some r):Cx Tryz.prog 162 [.lf (.ptr 0 0),sA aE false q] [.box [(lI .i64 s.n),(.ro aE false s.known),(.ro aJ false s.steps),(.ro (aT aA) false s.u),(.ro (aD .i64) false s.status),(.ro aA false s.value),(.ro aH false s.items),(.ro aL false s.stack)]] [(0,some (.box [(lI .i64 s.n),(.ro aE false s.known),(.ro aJ false s.steps),(.ro (aT aA) false s.u),(.ro (aD .i64) false s.status),(.ro aA false s.value),(.ro aH false s.items),(.ro aL false s.stack)])),(1,some (.box [(lI .i64 r.n),.own 2,.own 3,.own 4,.own 5,.own 6,.own 7,.cp aL false r.stack])),(2,some (.row aE false r.known)),(3,some (.row aJ false r.steps)),(4,some (.row (aT aA) false r.u)),(5,some (.row (aD .i64) true r.status)),(6,some (.row aA false r.value)),(7,some (.row aH false r.items))] [.lf (.ptr 1 0)]:=by
 unfold mD at h
 refine fn tb en162 Tryz.func162 fun X w H ν=>?_
 refine cl (some false) [0] 5 h (Au N _) fun r1 h=>?_
 refine dr mixed ?_
 refine dt aE false [q] ?_
 refine apC false h fun x2 h=>?_
 refine dk ?_
 refine pr (nb 2 2 aJ) ?_
 cases h
 exact rt [0,2,8,9,3,4,5,6]
theorem CZ(N:Nat)(s:aR)(form:(List aB))(bound:aB)(left:bX)(right:bX)(r:bX)(h:qz N s form bound left right=some r):Cx Tryz.prog 163 [.lf (.ptr 0 0),sR aA false form,sA aA false bound,sA fu false left,sA fu false right] [.box [(lI .i64 s.n),(.ro aE false s.known),(.ro aJ false s.steps),(.ro (aT aA) false s.u),(.ro (aD .i64) false s.status),(.ro aA false s.value),(.ro aH false s.items),(.ro aL false s.stack)]] [(0,some (.box [(lI .i64 s.n),(.ro aE false s.known),(.ro aJ false s.steps),(.ro (aT aA) false s.u),(.ro (aD .i64) false s.status),(.ro aA false s.value),(.ro aH false s.items),(.ro aL false s.stack)]))] [sA fu false r]:=by
 unfold qz at h
 refine fn tb en163 Tryz.func163 fun X w H ν=>?_
 refine dr mixed ?_
 refine dt iU false [left.proof,right.proof] ?_
 refine dk ?_
 cases h
 exact rt [0]
theorem Ud(N:Nat)(s:aR)(v:Int)(r:aB)(h:xS N s v=some r):Cx Tryz.prog 138 [.lf (.ptr 0 0),sI .i64 v] [.box [(lI .i64 s.n),(.ro aE false s.known),(.ro aJ false s.steps),(.ro (aT aA) false s.u),(.ro (aD .i64) false s.status),(.ro aA false s.value),(.ro aH false s.items),(.ro aL false s.stack)]] [(0,some (.box [(lI .i64 s.n),(.ro aE false s.known),(.ro aJ false s.steps),(.ro (aT aA) false s.u),(.ro (aD .i64) false s.status),(.ro aA false s.value),(.ro aH false s.items),(.ro aL false s.stack)]))] [sA aA true r]:=by
 unfold xS at h
 refine fn tb en138 Tryz.func138 fun X w H ν=>?_
 refine eR (some false) [0] h (Et N _ _) fun r1 h=>?_
 refine jn (fun x=>x) (fun b=>aV 3 [.box [(lI .i64 s.n),(.ro aE false s.known),(.ro aJ false s.steps),(.ro (aT aA) false s.u),(.ro (aD .i64) false s.status),(.ro aA false s.value),(.ro aH false s.items),(.ro aL false s.stack)],.box [(lB false),lN],.box (aO.cl aA true b)] [vp 0 0,vp 4 1,vp 7 2]) h (fun j e k=>?_) ?_
 refine bk ?_
 refine lp (fun⟨c,a⟩=>aV 3 [.box [(lI .i64 s.n),(.ro aE false s.known),(.ro aJ false s.steps),(.ro (aT aA) false s.u),(.ro (aD .i64) false s.status),(.ro aA false s.value),(.ro aH false s.items),(.ro aL false s.stack)],.box [(lB false),lN],.box (aO.cl aA true c)] [vp 0 0,vi 1 v,vp 4 1,vr 5 aH false r1.1,vp 7 2,vr 17 aH false r1.2,vi 18 (List.length r1.2:Int),vi 19 a]) e [0,1,2] ?_
 rintro⟨c,a⟩ oo h f
 rw[Dw]at h
 refine cd h (fun g h=>?_) (fun g h=>?_)
 refine jn (fun x=>x) (fun d=>aV 3 [.box [(lI .i64 s.n),(.ro aE false s.known),(.ro aJ false s.steps),(.ro (aT aA) false s.u),(.ro (aD .i64) false s.status),(.ro aA false s.value),(.ro aH false s.items),(.ro aL false s.stack)],.box [(lB false),lN],.box (aO.cl aA true d)] [vp 0 0,vi 1 v,vp 4 1,vr 5 aH false r1.1,vp 7 2,vr 17 aH false r1.2,vi 18 (List.length r1.2:Int),vi 19 a]) h (fun l h m=>?_) ?_
 refine bk ?_
 refine bH h fun o h=>?_
 refine cl none [] 0 h (xI N _ _ _) fun p h=>?_
 refine cl none [] 0 h (ic N _) fun y h=>?_
 refine cd h (fun i h=>?_) (fun i h=>?_)
 refine dr mixed ?_
 refine cl none [] 0 h (gi N _) fun a0 h=>?_
 refine cl none [] 0 h (jJ N _ _) fun a1 h=>?_
 refine cl none [] 0 h (jJ N _ _) fun a2 h=>?_
 refine dk ?_
 cases h
 exact bj _ [0,1,2]
 cases h
 exact bj _ [0,1,2]
 intro d h
 try dsimp only at h
 cases h
 exact bl [0,1,2]
 cases h
 exact bj _ [0,1,2] (hx:=f _ rfl)
 intro b h
 try dsimp only at h
 cases h
 exact rt [0]
theorem Um(N:Nat)(s:aR)(r:(gJ×Bool))(h:wF N s=some r):Cx Tryz.prog 137 [.lf (.ptr 0 0)] [.box [(lI .i64 s.n),(.ro aE false s.known),(.ro aJ false s.steps),(.ro (aT aA) false s.u),(.ro (aD .i64) false s.status),(.ro aA false s.value),(.ro aH false s.items),(.ro aL false s.stack)]] [(0,some (.box [(lI .i64 s.n),(.ro aE false s.known),(.ro aJ false s.steps),(.ro (aT aA) false s.u),(.ro (aD .i64) false s.status),(.ro aA false s.value),(.ro aH false s.items),(.ro aL false s.stack)]))] [sA jx false r.1,sB r.2]:=by
 unfold wF at h
 refine fn tb en137 Tryz.func137 fun X w H ν=>?_
 refine jn (fun x=>x) (fun⟨k,l⟩=>aV 3 [.box [(lI .i64 s.n),(.ro aE false s.known),(.ro aJ false s.steps),(.ro (aT aA) false s.u),(.ro (aD .i64) false s.status),(.ro aA false s.value),(.ro aH false s.items),(.ro aL false s.stack)],.box [(lI .i64 0),lN,(lB false),lN,(lB false),lN],.box (aO.cl jx false k)] [vp 0 0,vp 2 1,vp 4 2,vb 5 l]) h (fun ak a6 al=>?_) ?_
 refine bk ?_
 refine lp (fun⟨i,j,a⟩=>aV 3 [.box [(lI .i64 s.n),(.ro aE false s.known),(.ro aJ false s.steps),(.ro (aT aA) false s.u),(.ro (aD .i64) false s.status),(.ro aA false s.value),(.ro aH false s.items),(.ro aL false s.stack)],.box [(lI .i64 0),lN,(lB false),lN,(lB false),lN],.box (aO.cl jx false i)] [vp 0 0,vp 2 1,vp 4 2,vb 5 j,vr 18 aH false s.items,vi 19 (List.length s.items:Int),vi 20 a]) a6 [0,1,2] ?_
 rintro⟨i,j,a⟩ oo h a7
 rw[DQ]at h
 refine cd h (fun a8 h=>?_) (fun a8 h=>?_)
 refine jn (fun x=>x) (fun⟨m,o⟩=>aV 3 [.box [(lI .i64 s.n),(.ro aE false s.known),(.ro aJ false s.steps),(.ro (aT aA) false s.u),(.ro (aD .i64) false s.status),(.ro aA false s.value),(.ro aH false s.items),(.ro aL false s.stack)],.box [(lI .i64 0),lN,(lB false),lN,(lB false),lN],.box (aO.cl jx false m)] [vp 0 0,vp 2 1,vp 4 2,vb 5 o,vr 18 aH false s.items,vi 19 (List.length s.items:Int),vi 20 a]) h (fun am h an=>?_) ?_
 refine bk ?_
 refine bH h fun b h=>?_
 refine cl none [] 0 h (Gt N _) fun c h=>?_
 refine jn (fun x=>x) (fun p=>aV 4 [.box [(lI .i64 s.n),(.ro aE false s.known),(.ro aJ false s.steps),(.ro (aT aA) false s.u),(.ro (aD .i64) false s.status),(.ro aA false s.value),(.ro aH false s.items),(.ro aL false s.stack)],.box [(lI .i64 0),lN,(lB false),lN,(lB false),lN],.box (aO.cl jx false i),.box (aO.cl aH false b)] [vp 0 0,vp 2 1,vp 4 2,vb 5 j,vp 7 3,vi 8 c.1,vr 18 aH false s.items,vi 19 (List.length s.items:Int),vi 20 a,vb 39 p]) h (fun ao h aq=>?_) ?_
 refine rg ?_
 refine gd h (fun a9 h=>?_) (fun a9 h=>?_)
 cases h
 exact bj _ [0,1,2,3]
 refine bH h fun ar h=>?_
 refine cl none [] 0 h (ic N _) fun av h=>?_
 cases h
 exact bj _ [0,1,2,3]
 intro p h
 try dsimp only at h
 refine cd h (fun aa h=>?_) (fun aa h=>?_)
 cases h
 exact bj _ [0,1,2]
 refine jn (fun x=>x) (fun⟨v,y⟩=>aV 3 [.box [(lI .i64 s.n),(.ro aE false s.known),(.ro aJ false s.steps),(.ro (aT aA) false s.u),(.ro (aD .i64) false s.status),(.ro aA false s.value),(.ro aH false s.items),(.ro aL false s.stack)],.box [(lI .i64 0),lN,(lB false),lN,(lB false),lN],.box (aO.cl jx false v)] [vp 0 0,vp 2 1,vp 4 2,vb 5 y,vr 18 aH false s.items,vi 19 (List.length s.items:Int),vi 20 a]) h (fun aw ab ax=>?_) ?_
 refine bk ?_
 refine lp (fun⟨e,f,d⟩=>aV 4 [.box [(lI .i64 s.n),(.ro aE false s.known),(.ro aJ false s.steps),(.ro (aT aA) false s.u),(.ro (aD .i64) false s.status),(.ro aA false s.value),(.ro aH false s.items),(.ro aL false s.stack)],.box [(lI .i64 0),lN,(lB false),lN,(lB false),lN],.box (aO.cl jx false e),.box (aO.cl aH false b)] [vp 0 0,vp 2 1,vp 4 2,vb 5 f,vp 7 3,vi 8 c.1,vr 18 aH false s.items,vi 19 (List.length s.items:Int),vi 20 a,vr 43 aH false s.items,vi 44 (List.length s.items:Int),vi 45 d]) ab [0,1,2,3] ?_
 rintro⟨e,f,d⟩ oo h ac
 rw[Cu]at h
 refine cd h (fun ad h=>?_) (fun ad h=>?_)
 refine jn (fun x=>x) (fun⟨a0,a1⟩=>aV 4 [.box [(lI .i64 s.n),(.ro aE false s.known),(.ro aJ false s.steps),(.ro (aT aA) false s.u),(.ro (aD .i64) false s.status),(.ro aA false s.value),(.ro aH false s.items),(.ro aL false s.stack)],.box [(lI .i64 0),lN,(lB false),lN,(lB false),lN],.box (aO.cl jx false a0),.box (aO.cl aH false b)] [vp 0 0,vp 2 1,vp 4 2,vb 5 a1,vp 7 3,vi 8 c.1,vr 18 aH false s.items,vi 19 (List.length s.items:Int),vi 20 a,vr 43 aH false s.items,vi 44 (List.length s.items:Int),vi 45 d]) h (fun ay h az=>?_) ?_
 refine bk ?_
 refine bH h fun ae h=>?_
 refine cl none [] 0 h (Gt N _) fun b0 h=>?_
 refine jn (fun x=>x) (fun a2=>aV 5 [.box [(lI .i64 s.n),(.ro aE false s.known),(.ro aJ false s.steps),(.ro (aT aA) false s.u),(.ro (aD .i64) false s.status),(.ro aA false s.value),(.ro aH false s.items),(.ro aL false s.stack)],.box [(lI .i64 0),lN,(lB false),lN,(lB false),lN],.box (aO.cl jx false e),.box (aO.cl aH false b),.box (aO.cl aH false ae)] [vp 0 0,vp 2 1,vp 4 2,vb 5 f,vp 7 3,vi 8 c.1,vp 11 4,vr 18 aH false s.items,vi 19 (List.length s.items:Int),vi 20 a,vr 43 aH false s.items,vi 44 (List.length s.items:Int),vi 45 d,vb 69 a2]) h (fun b1 h b2=>?_) ?_
 refine rg ?_
 refine gd h (fun af h=>?_) (fun af h=>?_)
 cases h
 exact bj _ [0,1,2,3,4]
 refine gd h (fun ag h=>?_) (fun ag h=>?_)
 cases h
 exact bj _ [0,1,2,3,4]
 refine bH h fun b3 h=>?_
 refine cl none [] 0 h (ic N _) fun b4 h=>?_
 cases h
 exact bj _ [0,1,2,3,4]
 intro a2 h
 try dsimp only at h
 refine cd h (fun ah h=>?_) (fun ah h=>?_)
 cases h
 exact bj _ [0,1,2,3]
 refine dr mixed ?_
 refine eR (some false) [0] h (GQ N _ _) fun b5 h=>?_
 refine cl none [] 0 h (kU N _) fun a3 h=>?_
 refine eR (some false) [0] h (GQ N _ _) fun a4 h=>?_
 refine dk ?_
 refine jn (fun x=>x) (fun a5=>aV 5 [.box [(lI .i64 s.n),(.ro aE false s.known),(.ro aJ false s.steps),(.ro (aT aA) false s.u),(.ro (aD .i64) false s.status),(.ro aA false s.value),(.ro aH false s.items),(.ro aL false s.stack)],.box [(lI .i64 0),lN,(lB false),lN,(lB false),lN],.box (aO.cl jx false e),.box (aO.cl aH false b),.box [(lI .i64 b.pos),(.ro aA false b.g),(lB a3.bF),(.ro (aD .u32) true a3.aP),(lB a4.bF),(.ro (aD .u32) false a4.aP)]] [vp 0 0,vp 2 1,vp 4 2,vb 5 f,vp 7 3,vi 8 c.1,vp 14 4,vr 18 aH false s.items,vi 19 (List.length s.items:Int),vi 20 a,vr 43 aH false s.items,vi 44 (List.length s.items:Int),vi 45 d,vb 94 a5]) h (fun b6 h b7=>?_) ?_
 refine dr mixed ?_
 refine gd h (fun ai h=>?_) (fun ai h=>?_)
 refine dk ?_
 cases h
 exact bj _ [0,1,2,3,5]
 refine cl none [] 0 h (kI N _ _) fun b8 h=>?_
 refine cl none [] 0 h (kI N _ _) fun b9 h=>?_
 refine cl none [] 0 h (jb N _ _) fun ba h=>?_
 refine dk ?_
 cases h
 exact bj _ [0,1,2,3,5]
 intro a5 h
 try dsimp only at h
 refine cd h (fun aj h=>?_) (fun aj h=>?_)
 cases h
 exact bj _ [0,1,2,3]
 cases h
 exact bj _ [0,1,2,3]
 rintro⟨a0,a1⟩ h
 try dsimp only at h
 cases h
 exact bl [0,1,2,3]
 cases h
 exact bj _ [0,1,2] (hx:=ac _ rfl)
 rintro⟨v,y⟩ h
 try dsimp only at h
 cases h
 exact bj _ [0,1,2]
 rintro⟨m,o⟩ h
 try dsimp only at h
 cases h
 exact bl [0,1,2]
 cases h
 exact bj _ [0,1,2] (hx:=a7 _ rfl)
 rintro⟨k,l⟩ h
 try dsimp only at h
 cases h
 exact rt [0]
theorem Jr(N:Nat)(s:aR)(vat1:Int)(j:Int)(r:aB)(h:uY N s vat1 j=some r):Cx Tryz.prog 159 [.lf (.ptr 0 0),sI .i64 vat1,sI .i64 j] [.box [(lI .i64 s.n),(.ro aE false s.known),(.ro aJ false s.steps),(.ro (aT aA) false s.u),(.ro (aD .i64) false s.status),(.ro aA false s.value),(.ro aH false s.items),(.ro aL false s.stack)]] [(0,some (.box [(lI .i64 s.n),(.ro aE false s.known),(.ro aJ false s.steps),(.ro (aT aA) false s.u),(.ro (aD .i64) false s.status),(.ro aA false s.value),(.ro aH false s.items),(.ro aL false s.stack)]))] [sA aA true r]:=by
 unfold uY at h
 refine fn tb en159 Tryz.func159 fun X w H ν=>?_
 refine bH h fun x1 h=>?_
 refine jn (fun x=>x) (fun a=>aV 3 [.box [(lI .i64 s.n),(.ro aE false s.known),(.ro aJ false s.steps),(.ro (aT aA) false s.u),(.ro (aD .i64) false s.status),(.ro aA false s.value),(.ro aH false s.items),(.ro aL false s.stack)],.box [(lB false),lN],.box (aO.cl aA true a)] [vp 0 0,vp 6 1,vp 7 2]) h (fun g d i=>?_) ?_
 refine bk ?_
 refine lp (fun⟨b,c⟩=>aV 3 [.box [(lI .i64 s.n),(.ro aE false s.known),(.ro aJ false s.steps),(.ro (aT aA) false s.u),(.ro (aD .i64) false s.status),(.ro aA false s.value),(.ro aH false s.items),(.ro aL false s.stack)],.box [(lB false),lN],.box (aO.cl aA true b)] [vp 0 0,vi 2 j,vp 6 1,vp 7 2,vr 17 aA false x1.aZ,vi 18 (List.length x1.aZ:Int),vi 19 c]) d [0,1,2] ?_
 rintro⟨b,c⟩ oo h e
 rw[Ci]at h
 refine cd h (fun f h=>?_) (fun f h=>?_)
 refine bk ?_
 refine bH h fun k h=>?_
 refine dr mixed ?_
 refine bH h fun l h=>?_
 refine bH h fun m h=>?_
 refine cl none [] 0 h (lR N _ _) fun o h=>?_
 refine cl none [] 0 h (jJ N _ _) fun p h=>?_
 refine dk ?_
 cases h
 exact bl [0,1,2]
 cases h
 exact bj _ [0,1,2] (hx:=e _ rfl)
 intro a h
 try dsimp only at h
 cases h
 exact rt [0]
theorem OL(N:Nat)(s:aR)(y:(List aB))(r:(List aB))(h:pN N s y=some r):Cx Tryz.prog 66 [.lf (.ptr 0 0),sO 1] [.box [(lI .i64 s.n),(.ro aE false s.known),(.ro aJ false s.steps),(.ro (aT aA) false s.u),(.ro (aD .i64) false s.status),(.ro aA false s.value),(.ro aH false s.items),(.ro aL false s.stack)],.row aA false y] [(0,some (.box [(lI .i64 s.n),(.ro aE false s.known),(.ro aJ false s.steps),(.ro (aT aA) false s.u),(.ro (aD .i64) false s.status),(.ro aA false s.value),(.ro aH false s.items),(.ro aL false s.stack)])),(1,some (.row aA false y))] [sR aA true r]:=by
 unfold pN at h
 refine fn tb en66 Tryz.func66 fun X w H ν=>?_
 refine gI aA h fun x1 h=>?_
 refine jn (fun x=>x) (fun b=>aV 3 [.box [(lI .i64 s.n),(.ro aE false s.known),(.ro aJ false s.steps),(.ro (aT aA) false s.u),(.ro (aD .i64) false s.status),(.ro aA false s.value),(.ro aH false s.items),(.ro aL false s.stack)],.row aA false y,.row aA true b] [vp 0 0,vo 1 1,vo 5 2]) h (fun o g p=>?_) ?_
 refine bk ?_
 refine lp (fun⟨c,a⟩=>aV 3 [.box [(lI .i64 s.n),(.ro aE false s.known),(.ro aJ false s.steps),(.ro (aT aA) false s.u),(.ro (aD .i64) false s.status),(.ro aA false s.value),(.ro aH false s.items),(.ro aL false s.stack)],.row aA false y,.row aA true c] [vp 0 0,vo 1 1,vo 5 2,vi 14 (List.length x1:Int),vi 15 a]) g [0,1,2] ?_
 rintro⟨c,a⟩ oo h i
 rw[zZ]at h
 refine cd h (fun j h=>?_) (fun j h=>?_)
 refine bk ?_
 refine jn (fun x=>x) (fun d=>aV 3 [.box [(lI .i64 s.n),(.ro aE false s.known),(.ro aJ false s.steps),(.ro (aT aA) false s.u),(.ro (aD .i64) false s.status),(.ro aA false s.value),(.ro aH false s.items),(.ro aL false s.stack)],.row aA false y,.row aA true d] [vp 0 0,vo 1 1,vo 5 2,vi 14 (List.length x1:Int),vi 15 a]) h (fun v k a0=>?_) ?_
 refine bk ?_
 refine lp (fun⟨e,f⟩=>aV 3 [.box [(lI .i64 s.n),(.ro aE false s.known),(.ro aJ false s.steps),(.ro (aT aA) false s.u),(.ro (aD .i64) false s.status),(.ro aA false s.value),(.ro aH false s.items),(.ro aL false s.stack)],.row aA false y,.row aA true e] [vp 0 0,vo 1 1,vo 5 2,vi 6 a,vi 14 (List.length x1:Int),vi 15 a,vi 19 (List.length y:Int),vi 20 f]) k [0,1,2] ?_
 rintro⟨e,f⟩ oo h l
 rw[CS]at h
 refine cd h (fun m h=>?_) (fun m h=>?_)
 refine bk ?_
 refine dr mixed ?_
 refine cw h fun a1 h=>?_
 refine dK ?_
 refine bH h fun a2 h=>?_
 refine bH h fun a3 h=>?_
 refine cw h fun a4 h=>?_
 refine dK ?_
 refine cl none [] 0 h (lR N _ _) fun a5 h=>?_
 refine cl none [] 0 h (jJ N _ _) fun a6 h=>?_
 refine cw h fun a7 h=>?_
 refine dX true h fun a8 h=>?_
 refine dk ?_
 cases h
 exact bl [0,1,2]
 cases h
 exact bj _ [0,1,2] (hx:=l _ rfl)
 intro d h
 try dsimp only at h
 cases h
 exact bl [0,1,2]
 cases h
 exact bj _ [0,1,2] (hx:=i _ rfl)
 intro b h
 try dsimp only at h
 cases h
 exact rt [0,1]
theorem TG(N:Nat)(s:aR)(e:dI)(y:(List aB))(r:(aB×Bool))(h:nt N s e y=some r):Cx Tryz.prog 132 [.lf (.ptr 0 0),sA aL false e,sO 1] [.box [(lI .i64 s.n),(.ro aE false s.known),(.ro aJ false s.steps),(.ro (aT aA) false s.u),(.ro (aD .i64) false s.status),(.ro aA false s.value),(.ro aH false s.items),(.ro aL false s.stack)],.row aA false y] [(0,some (.box [(lI .i64 s.n),(.ro aE false s.known),(.ro aJ false s.steps),(.ro (aT aA) false s.u),(.ro (aD .i64) false s.status),(.ro aA false s.value),(.ro aH false s.items),(.ro aL false s.stack)])),(1,some (.row aA false y))] [sA aA true r.1,sB r.2]:=by
 unfold nt at h
 refine fn tb en132 Tryz.func132 fun X w H ν=>?_
 refine jn (fun x=>x) (fun⟨j,k,l,m⟩=>aV 5 [.box [(lI .i64 s.n),(.ro aE false s.known),(.ro aJ false s.steps),(.ro (aT aA) false s.u),(.ro (aD .i64) false s.status),(.ro aA false s.value),(.ro aH false s.items),(.ro aL false s.stack)],.row aA false y,.box [(lB false),lN],.box (aO.cl aA true j),.box (aO.cl aA true k)] [vp 0 0,vo 2 1,vp 6 2,vp 8 3,vp 9 4,vb 10 l,vb 11 m]) h (fun am a6 an=>?_) ?_
 refine bk ?_
 refine lp (fun⟨b,c,d,f,a⟩=>aV 6 [.box [(lI .i64 s.n),(.ro aE false s.known),(.ro aJ false s.steps),(.ro (aT aA) false s.u),(.ro (aD .i64) false s.status),(.ro aA false s.value),(.ro aH false s.items),(.ro aL false s.stack)],.row aA false y,.box (aO.cl aL false e),.box [(lB false),lN],.box (aO.cl aA true b),.box (aO.cl aA true c)] [vp 0 0,vo 2 1,vp 4 2,vp 6 3,vp 8 4,vp 9 5,vb 10 d,vb 11 f,vr 24 (aD .i64) false e.items,vi 25 (List.length e.items:Int),vi 26 a]) a6 [0,1,2,3,4,5] ?_
 rintro⟨b,c,d,f,a⟩ oo h a7
 rw[EP]at h
 refine cd h (fun a8 h=>?_) (fun a8 h=>?_)
 refine jn (fun x=>x) (fun⟨o,p,v,a0⟩=>aV 6 [.box [(lI .i64 s.n),(.ro aE false s.known),(.ro aJ false s.steps),(.ro (aT aA) false s.u),(.ro (aD .i64) false s.status),(.ro aA false s.value),(.ro aH false s.items),(.ro aL false s.stack)],.row aA false y,.box (aO.cl aL false e),.box [(lB false),lN],.box (aO.cl aA true o),.box (aO.cl aA true p)] [vp 0 0,vo 2 1,vp 4 2,vp 6 3,vp 8 4,vp 9 5,vb 10 v,vb 11 a0,vr 24 (aD .i64) false e.items,vi 25 (List.length e.items:Int),vi 26 a]) h (fun ao h aq=>?_) ?_
 refine bk ?_
 refine bH h fun g h=>?_
 refine bH h fun ar h=>?_
 refine jn (fun x=>x) (fun a1=>aV 7 [.box [(lI .i64 s.n),(.ro aE false s.known),(.ro aJ false s.steps),(.ro (aT aA) false s.u),(.ro (aD .i64) false s.status),(.ro aA false s.value),(.ro aH false s.items),(.ro aL false s.stack)],.row aA false y,.box (aO.cl aL false e),.box [(lB false),lN],.box (aO.cl aA true b),.box (aO.cl aA true c),.box (aO.cl aA false a1)] [vp 0 0,vo 2 1,vp 4 2,vp 6 3,vp 8 4,vp 9 5,vb 10 d,vb 11 f,vi 13 g,vp 14 6,vr 24 (aD .i64) false e.items,vi 25 (List.length e.items:Int),vi 26 a]) h (fun av a9 aw=>?_) ?_
 refine bk ?_
 refine lp (fun⟨a2,i⟩=>aV 7 [.box [(lI .i64 s.n),(.ro aE false s.known),(.ro aJ false s.steps),(.ro (aT aA) false s.u),(.ro (aD .i64) false s.status),(.ro aA false s.value),(.ro aH false s.items),(.ro aL false s.stack)],.row aA false y,.box (aO.cl aL false e),.box [(lB false),lN],.box (aO.cl aA true b),.box (aO.cl aA true c),.box (aO.cl aA false a2)] [vp 0 0,vo 2 1,vp 4 2,vp 6 3,vp 8 4,vp 9 5,vb 10 d,vb 11 f,vi 13 g,vp 14 6,vr 24 (aD .i64) false e.items,vi 25 (List.length e.items:Int),vi 26 a,vi 39 (List.length y:Int),vi 40 i]) a9 [0,1,2,3,4,5,6] ?_
 rintro⟨a2,i⟩ oo h aa
 rw[A6]at h
 refine cd h (fun ab h=>?_) (fun ab h=>?_)
 refine jn (fun x=>x) (fun a3=>aV 7 [.box [(lI .i64 s.n),(.ro aE false s.known),(.ro aJ false s.steps),(.ro (aT aA) false s.u),(.ro (aD .i64) false s.status),(.ro aA false s.value),(.ro aH false s.items),(.ro aL false s.stack)],.row aA false y,.box (aO.cl aL false e),.box [(lB false),lN],.box (aO.cl aA true b),.box (aO.cl aA true c),.box (aO.cl aA false a3)] [vp 0 0,vo 2 1,vp 4 2,vp 6 3,vp 8 4,vp 9 5,vb 10 d,vb 11 f,vi 13 g,vp 14 6,vr 24 (aD .i64) false e.items,vi 25 (List.length e.items:Int),vi 26 a,vi 39 (List.length y:Int),vi 40 i]) h (fun ax h ay=>?_) ?_
 refine bk ?_
 refine cd h (fun ac h=>?_) (fun ac h=>?_)
 refine dr mixed ?_
 refine eR (some false) [0] h (Jr N _ _ _) fun az h=>?_
 refine cw h fun b0 h=>?_
 refine dK ?_
 refine cl none [] 0 h (lR N _ _) fun b1 h=>?_
 refine cl none [] 0 h (kI N _ _) fun b2 h=>?_
 refine dk ?_
 cases h
 exact bj _ [0,1,2,3,4,5,6]
 cases h
 exact bj _ [0,1,2,3,4,5,6]
 intro a3 h
 try dsimp only at h
 cases h
 exact bl [0,1,2,3,4,5,6]
 cases h
 exact bj _ [0,1,2,3,4,5,6] (hx:=aa _ rfl)
 intro a1 h
 try dsimp only at h
 refine eR (some false) [0] h (Jr N _ _ _) fun b3 h=>?_
 refine cl none [] 0 h (ic N _) fun b4 h=>?_
 refine cd h (fun ad h=>?_) (fun ad h=>?_)
 refine cl none [] 0 h (l5 N _ _) fun ae h=>?_
 refine jn (fun x=>x) (fun a4=>aV 7 [.box [(lI .i64 s.n),(.ro aE false s.known),(.ro aJ false s.steps),(.ro (aT aA) false s.u),(.ro (aD .i64) false s.status),(.ro aA false s.value),(.ro aH false s.items),(.ro aL false s.stack)],.row aA false y,.box (aO.cl aL false e),.box [(lB false),lN],.box (aO.cl aA true b),.box (aO.cl aA true c),.box (aO.cl aA true ae.1)] [vp 0 0,vo 2 1,vp 4 2,vp 6 3,vp 8 4,vp 9 5,vb 10 d,vb 11 f,vp 17 6,vr 24 (aD .i64) false e.items,vi 25 (List.length e.items:Int),vi 26 a,vb 81 a4]) h (fun b5 h b6=>?_) ?_
 refine rg ?_
 refine gd h (fun af h=>?_) (fun af h=>?_)
 cases h
 exact bj _ [0,1,2,3,4,5,8]
 refine cl none [] 0 h (jb N _ _) fun b7 h=>?_
 cases h
 exact bj _ [0,1,2,3,4,5,8]
 intro a4 h
 try dsimp only at h
 refine cd h (fun ag h=>?_) (fun ag h=>?_)
 cases h
 exact bj _ [0,1,2,3,4,5]
 cases h
 exact bj _ [0,1,2,3,4,5]
 refine dr mixed ?_
 refine cl none [] 0 h (kU N _) fun b8 h=>?_
 refine cl none [] 0 h (l5 N _ _) fun b9 h=>?_
 refine dk ?_
 refine cl none [] 0 h (kU N _) fun ah h=>?_
 refine jn (fun x=>x) (fun a5=>aV 7 [.box [(lI .i64 s.n),(.ro aE false s.known),(.ro aJ false s.steps),(.ro (aT aA) false s.u),(.ro (aD .i64) false s.status),(.ro aA false s.value),(.ro aH false s.items),(.ro aL false s.stack)],.row aA false y,.box (aO.cl aL false e),.box [(lB false),lN],.box (aO.cl aA true b),.box (aO.cl aA true c),.box (aO.cl aA true ah)] [vp 0 0,vo 2 1,vp 4 2,vp 6 3,vp 8 4,vp 9 5,vb 10 d,vb 11 f,vp 20 6,vr 24 (aD .i64) false e.items,vi 25 (List.length e.items:Int),vi 26 a,vb 100 a5]) h (fun ba h bb=>?_) ?_
 refine rg ?_
 refine gd h (fun ai h=>?_) (fun ai h=>?_)
 cases h
 exact bj _ [0,1,2,3,4,5,8]
 refine cl none [] 0 h (jb N _ _) fun bc h=>?_
 cases h
 exact bj _ [0,1,2,3,4,5,8]
 intro a5 h
 try dsimp only at h
 refine cd h (fun aj h=>?_) (fun aj h=>?_)
 cases h
 exact bj _ [0,1,2,3,4,5]
 cases h
 exact bj _ [0,1,2,3,4,5]
 rintro⟨o,p,v,a0⟩ h
 try dsimp only at h
 cases h
 exact bl [0,1,2,3,4,5]
 cases h
 exact bj _ [0,1,3,4,5] (hx:=a7 _ rfl)
 rintro⟨j,k,l,m⟩ h
 try dsimp only at h
 refine cd h (fun ak h=>?_) (fun ak h=>?_)
 cases h
 exact rt [0,1]
 refine dr mixed ?_
 refine gd h (fun al h=>?_) (fun al h=>?_)
 refine dk ?_
 cases h
 exact rt [0,1]
 refine cl none [] 0 h (jb N _ _) fun bd h=>?_
 refine dk ?_
 cases h
 exact rt [0,1]
end Go.Proofs.YtipdkfmhfakbnaaGreatDoor.SW

/- Walks of the symbolic machine, written by a program of mine (wip/tool). -/
import Derived.Test.YtipdkfmhfakbnaaGreatDoorTB
import Derived.Test.YtipdkfmhfakbnaaGreatDoorAg
import Derived.Test.YtipdkfmhfakbnaaGreatDoorAd
import Derived.Test.YtipdkfmhfakbnaaGreatDoorSA
set_option linter.unusedVariables false
set_option linter.unusedSimpArgs false
set_option linter.unusedSectionVars false
set_option maxRecDepth 100000
set_option maxHeartbeats 4000000
namespace Go.Proofs.YtipdkfmhfakbnaaGreatDoor.SB
open Go Go.RowKit Go.X Go.Q Go.D Go.Proofs.YtipdkfmhfakbnaaGreatDoor.TB Go.Proofs.YtipdkfmhfakbnaaGreatDoor.FS Go.Proofs.YtipdkfmhfakbnaaGreatDoor.SA
theorem Tc(N:Nat)(x:Int)(r:Int)(h:wY N x=some r):Cn Tryz.prog 147 [sI .u32 x] [] [sI .i64 r]:=by
 unfold wY at h
 refine fn tb en147 Tryz.func147 fun X w H ν=>?_
 refine jn (fun x=>x) (fun⟨x2,n3⟩=>aW 0 [] [vk 0 .u32 x2,vi 2 n3]) h (fun s4 h g5=>?_) ?_
 refine cd h (fun hc6 h=>?_) (fun hc6 h=>?_)
 refine mS ?_
 cases h
 exact bj _ []
 cases h
 exact bj _ []
 rintro⟨x2,n3⟩ h
 try dsimp only at h
 refine jn (fun x=>x) (fun⟨a,b⟩=>aW 0 [] [vk 0 .u32 a,vi 2 b]) h (fun d h e=>?_) ?_
 refine cd h (fun c h=>?_) (fun c h=>?_)
 refine mS ?_
 cases h
 exact bj _ []
 cases h
 exact bj _ []
 rintro⟨a,b⟩ h
 try dsimp only at h
 refine ixS h fun f h=>?_
 cases h
 exact rt []
theorem Qv(N:Nat)(x:Int)(r:Int)(h:yp N x=some r):Cn Tryz.prog 112 [sI .u32 x] [] [sI .i64 r]:=by
 unfold yp at h
 refine fn tb en112 Tryz.func112 fun X w H ν=>?_
 refine cl none [] 0 h (Tc N _) fun r1 h=>?_
 cases h
 exact rt []
theorem OI(N:Nat)(pa:(List Int))(pa_lo:Int)(pa_hi:Int)(pb:(List Int))(n:Int)(r:(Bool×(List Int)))(h:zh N pa pa_lo pa_hi pb n=some r):Cx Tryz.prog 114 [.lf (.sg 0 1 pa_lo pa_hi),sR (aD .u32) false pb,sI .u64 n] [.row (aD .u32) true pa] [(0,some (.row (aD .u32) true r.2))] [sB r.1]:=by
 unfold zh at h
 refine fn tb en114 Tryz.func114 fun X w H ν=>?_
 refine jn (fun x=>x) (fun⟨a,b⟩=>aW 1 [.row (aD .u32) true a] [vl 0 (.sg 0 1 pa_lo pa_hi),vk 8 .u64 b]) h (fun l g i=>?_) ?_
 refine bk ?_
 refine lp (fun⟨c,d,e,f⟩=>aW 1 [.row (aD .u32) true c] [vl 0 (.sg 0 1 pa_lo pa_hi),vr 1 (aD .u32) false pb,vk 2 .u64 n,vk 7 .u64 d,vk 8 .u64 e,vi 12 (pa_hi-pa_lo),vi 13 f]) g [0] ?_
 rintro⟨c,d,e,f⟩ oo h j
 rw[Bo]at h
 refine cd h (fun k h=>?_) (fun k h=>?_)
 refine bk ?_
 refine cl none [] 0 h (Am N _ _) fun m h=>?_
 refine ixG h fun o h=>?_
 refine dL ?_
 refine ixG h fun p h=>?_
 refine dW true h fun s h=>?_
 refine mS ?_
 refine mS ?_
 cases h
 exact bl [0]
 cases h
 cases j _ rfl
 replace h:=i
 try dsimp only at h
 exact bj _ [0]
 rintro⟨a,b⟩ h
 try dsimp only at h
 cases h
 exact rt [0]
theorem Ll(N:Nat)(a:(List Int))(b:(List Int))(r:((List Int)×(List Int)))(h:tG N a b=some r):Cn Tryz.prog 79 [sR (aD .u32) false a,sR (aD .u32) false b] [.row (aD .u32) true r.1,.row (aD .u32) true r.2] [sO 0,sO 1]:=by
 unfold tG at h
 refine fn tb en79 Tryz.func79 fun X w H ν=>?_
 refine cl none [] 0 h (A1 N _ _) fun r1 h=>?_
 refine cd h (fun hc8 h=>?_) (fun hc8 h=>?_)
 refine cl none [] 1 h (pt N _) fun r9 h=>?_
 refine pr (nl 4 (aD .u32)) ?_
 cases h
 exact rt [1,0]
 refine cd h (fun a6 h=>?_) (fun a6 h=>?_)
 refine bF h fun ar h=>?_
 refine cl none [] 1 h (Me N _ _) fun a7 h=>?_
 refine cl none [] 1 h (pt N _) fun av h=>?_
 refine de (aD .u32) true [a7.2] ?_
 refine cl none [] 1 h (pt N _) fun aw h=>?_
 cases h
 exact rt [1,3]
 refine bF h fun ax h=>?_
 refine cl none [] 0 h (Qv N _) fun c h=>?_
 refine dr mixed ?_
 refine cl none [] 1 h (GX N _ _) fun ay h=>?_
 refine cl none [] 1 h (GX N _ _) fun az h=>?_
 refine EP h fun d h=>?_
 refine dk ?_
 refine gP (aD .u32) h fun b0 h=>?_
 refine jn (fun x=>x) (fun⟨k,i⟩=>aW 2 [.row (aD .u32) true k,.row (aD .u32) true i] [vk 8 .u64 (uw c),vo 9 0,vi 11 (List.length b:Int),vo 12 1]) h (fun b1 a8 a9=>?_) ?_
 refine bk ?_
 refine lp (fun⟨g,e,f⟩=>aW 3 [.row (aD .u32) true g,.row (aD .u32) true d,.row (aD .u32) true e] [vk 8 .u64 (uw c),vo 9 0,vo 10 1,vi 11 (List.length b:Int),vo 12 2,vi 13 f]) a8 [0,2,3] ?_
 rintro⟨g,e,f⟩ oo h aa
 rw[yZ]at h
 refine cd h (fun ab h=>?_) (fun ab h=>?_)
 refine bk ?_
 refine dr mixed ?_
 refine cy h fun b2 h=>?_
 refine dL ?_
 refine slL ?_
 refine cy h fun b3 h=>?_
 refine dL ?_
 refine dk ?_
 refine cy h fun b4 h=>?_
 refine dL ?_
 refine quB h fun b5 h=>?_
 refine cy h fun b6 h=>?_
 refine dL ?_
 refine reB h fun b7 h=>?_
 refine jn (fun x=>x) (fun j=>aW 3 [.row (aD .u32) true g,.row (aD .u32) true d,.row (aD .u32) true e] [vk 8 .u64 (uw c),vo 9 0,vo 10 1,vi 11 (List.length b:Int),vo 12 2,vi 13 f,vk 15 .u64 j]) h (fun b8 ac n=>?_) ?_
 refine bk ?_
 refine lp (fun⟨l,m⟩=>aW 3 [.row (aD .u32) true g,.row (aD .u32) true d,.row (aD .u32) true e] [vk 8 .u64 (uw c),vo 9 0,vo 10 1,vi 11 (List.length b:Int),vo 12 2,vi 13 f,vk 15 .u64 l,vk 16 .u64 m]) ac [0,1,2] ?_
 rintro⟨l,m⟩ oo h o
 rw[zf]at h
 refine jn (fun x=>x) (fun p=>aW 3 [.row (aD .u32) true g,.row (aD .u32) true d,.row (aD .u32) true e] [vk 8 .u64 (uw c),vo 9 0,vo 10 1,vi 11 (List.length b:Int),vo 12 2,vi 13 f,vk 15 .u64 l,vk 16 .u64 m,vb 130 p]) h (fun b9 h ba=>?_) ?_
 refine dr mixed ?_
 refine gd h (fun ad h=>?_) (fun ad h=>?_)
 refine dk ?_
 cases h
 exact bj _ [0,1,2]
 refine cy h fun bb h=>?_
 refine dL ?_
 refine slL ?_
 refine cy h fun bc h=>?_
 refine dL ?_
 refine dk ?_
 cases h
 exact bj _ [0,1,2]
 intro p h
 try dsimp only at h
 refine cd h (fun ae h=>?_) (fun ae h=>?_)
 refine bk ?_
 refine cy h fun bd h=>?_
 refine dL ?_
 refine cd h (fun af h=>?_) (fun af h=>?_)
 cases h
 cases o _ rfl
 replace h:=n
 try dsimp only at h
 exact bj _ [0,1,2]
 cases h
 exact bl [0,1,2]
 cases h
 cases o _ rfl
 replace h:=n
 try dsimp only at h
 exact bj _ [0,1,2]
 intro j h
 try dsimp only at h
 refine cutG h fun _ h=>?_
 refine cl none [0] 0 h (OI N _ _ _ _ _) (fun be h=>?_)
 refine jn (fun x=>x) (fun⟨s,u⟩=>aW 3 [.row (aD .u32) true s,.row (aD .u32) true d,.row (aD .u32) true e] [vk 8 .u64 (uw c),vo 9 0,vo 10 1,vi 11 (List.length b:Int),vo 12 2,vi 13 f,vk 15 .u64 u]) h (fun bf h bg=>?_) ?_
 refine cd h (fun ag h=>?_) (fun ag h=>?_)
 refine jn (fun x=>x) (fun⟨v,y⟩=>aW 3 [.row (aD .u32) true v,.row (aD .u32) true d,.row (aD .u32) true e] [vk 8 .u64 (uw c),vo 9 0,vo 10 1,vi 11 (List.length b:Int),vo 12 2,vi 13 f,vk 15 .u64 (uw (j-1)),vk 17 .u64 y]) h (fun bh ah ai=>?_) ?_
 refine bk ?_
 refine lp (fun⟨a0,a1,a2⟩=>aW 3 [.row (aD .u32) true a0,.row (aD .u32) true d,.row (aD .u32) true e] [vk 8 .u64 (uw c),vo 9 0,vo 10 1,vi 11 (List.length b:Int),vo 12 2,vi 13 f,vk 15 .u64 (uw (j-1)),vk 17 .u64 a1,vi 156 (List.length d:Int),vi 157 a2]) ah [0,1,2] ?_
 rintro⟨a0,a1,a2⟩ oo h aj
 rw[yO]at h
 refine cd h (fun ak h=>?_) (fun ak h=>?_)
 refine bk ?_
 refine dr mixed ?_
 refine cy h fun bi h=>?_
 refine dL ?_
 refine cy h fun bm h=>?_
 refine dL ?_
 refine dk ?_
 refine cy h fun bn h=>?_
 refine dW true h fun bo h=>?_
 refine mS ?_
 cases h
 exact bl [0,1,2]
 cases h
 cases aj _ rfl
 replace h:=ai
 try dsimp only at h
 exact bj _ [0,1,2]
 rintro⟨v,y⟩ h
 try dsimp only at h
 refine cy h fun bp h=>?_
 refine dL ?_
 refine cy h fun br h=>?_
 refine dW true h fun bs h=>?_
 cases h
 exact bj _ [0,1,2]
 cases h
 exact bj _ [0,1,2]
 rintro⟨s,u⟩ h
 try dsimp only at h
 refine cy h fun bt h=>?_
 refine dW true h fun bu h=>?_
 cases h
 exact bl [0,1,2]
 cases h
 cases aa _ rfl
 replace h:=a9
 try dsimp only at h
 exact bj _ [0,2]
 rintro⟨k,i⟩ h
 try dsimp only at h
 refine gP (aD .u32) h fun al h=>?_
 refine jn (fun x=>x) (fun a3=>aW 2 [.row (aD .u32) true i,.row (aD .u32) true a3] [vo 12 0,vo 19 1]) h (fun bw am an=>?_) ?_
 refine bk ?_
 refine lp (fun⟨a4,a5⟩=>aW 3 [.row (aD .u32) true k,.row (aD .u32) true i,.row (aD .u32) true a4] [vk 8 .u64 (uw c),vo 9 0,vo 12 1,vo 19 2,vi 203 (List.length al:Int),vi 204 a5]) am [0,1,2] ?_
 rintro⟨a4,a5⟩ oo h ao
 rw[zm]at h
 refine cd h (fun aq h=>?_) (fun aq h=>?_)
 refine bk ?_
 refine dr mixed ?_
 refine cy h fun bx h=>?_
 refine dL ?_
 refine slL ?_
 refine cy h fun bz h=>?_
 refine dL ?_
 refine srB h fun c0 h=>?_
 refine cy h fun c1 h=>?_
 refine dW true h fun c2 h=>?_
 refine dk ?_
 cases h
 exact bl [0,1,2]
 cases h
 cases ao _ rfl
 replace h:=an
 try dsimp only at h
 exact bj _ [1,2]
 intro a3 h
 try dsimp only at h
 refine cl none [] 1 h (pt N _) fun c3 h=>?_
 refine cl none [] 1 h (pt N _) fun c4 h=>?_
 cases h
 exact rt [2,3]
theorem gw(N:Nat)(n:Int)(r:aB)(h:fN N n=some r):Cn Tryz.prog 42 [sI .i64 n] [] [sA aA true r]:=by
 unfold fN at h
 refine fn tb en42 Tryz.func42 fun X w H ν=>?_
 refine jn (fun x=>x) (fun u8=>aW 1 [.box [(lB false),lN]] [vi 0 n,vp 2 0,vk 3 .u64 u8]) h (fun s9 h b=>?_) ?_
 refine cd h (fun a h=>?_) (fun a h=>?_)
 cases h
 exact bj _ [0]
 cases h
 exact bj _ [0]
 intro u8 h
 try dsimp only at h
 refine mS ?_
 refine de (aD .u32) true [(dU u8),(dU (fq .u64 u8 32))] ?_
 refine cl none [] 0 h (l8 N _ _) fun c h=>?_
 cases h
 exact rt []
theorem oQ(N:Nat)(x:aB)(r:aB)(h:lq N x=some r):Cn Tryz.prog 78 [sA aA false x] [] [sA aA true r]:=by
 unfold lq at h
 refine fn tb en78 Tryz.func78 fun X w H ν=>?_
 refine cl none [] 0 h (l8 N _ _) fun a h=>?_
 cases h
 exact rt []
theorem ic(N:Nat)(x:aB)(r:Int)(h:gJ N x=some r):Cn Tryz.prog 56 [sA aA false x] [] [sI .i64 r]:=by
 unfold gJ at h
 refine fn tb en56 Tryz.func56 fun X w H ν=>?_
 refine cl none [] 0 h (oQ N _) fun r6 h=>?_
 refine bk ?_
 refine cd h (fun a h=>?_) (fun a h=>?_)
 cases h
 exact rt []
 refine cd h (fun b h=>?_) (fun b h=>?_)
 cases h
 exact rt []
 cases h
 exact rt []
theorem jm(N:Nat)(a:aB)(b:aB)(r:Int)(h:iN N a b=some r):Cn Tryz.prog 46 [sA aA false a,sA aA false b] [] [sI .i64 r]:=by
 unfold iN at h
 refine fn tb en46 Tryz.func46 fun X w H ν=>?_
 refine dr mixed ?_
 refine cl none [] 0 h (oQ N _) fun d h=>?_
 refine cl none [] 0 h (oQ N _) fun e h=>?_
 refine dk ?_
 refine bk ?_
 refine jn (fun x=>x) (fun c=>aW 2 [.box (aO.cl aA true d),.box (aO.cl aA true e)] [vp 2 0,vp 3 1,vb 9 c]) h (fun k h l=>?_) ?_
 refine rg ?_
 refine gd h (fun f h=>?_) (fun f h=>?_)
 cases h
 exact bj _ [0,1]
 cases h
 exact bj _ [0,1]
 intro c h
 try dsimp only at h
 refine cd h (fun g h=>?_) (fun g h=>?_)
 cases h
 exact rt []
 refine cd h (fun i h=>?_) (fun i h=>?_)
 cases h
 exact rt []
 refine cd h (fun j h=>?_) (fun j h=>?_)
 refine cl none [] 0 h (A1 N _ _) fun m h=>?_
 cases h
 exact rt []
 refine cl none [] 0 h (A1 N _ _) fun n h=>?_
 cases h
 exact rt []
theorem ld(N:Nat)(x:aB)(r:aB)(h:jq N x=some r):Cn Tryz.prog 77 [sA aA false x] [] [sA aA true r]:=by
 unfold jq at h
 refine fn tb en77 Tryz.func77 fun X w H ν=>?_
 refine cl none [] 0 h (l8 N _ _) fun a h=>?_
 cases h
 exact rt []
theorem jP(N:Nat)(a:aB)(b:aB)(r:aB)(h:iT N a b=some r):Cn Tryz.prog 45 [sA aA false a,sA aA false b] [] [sA aA true r]:=by
 unfold iT at h
 refine fn tb en45 Tryz.func45 fun X w H ν=>?_
 refine dr mixed ?_
 refine cl none [] 0 h (oQ N _) fun e h=>?_
 refine cl none [] 0 h (oQ N _) fun f h=>?_
 refine dk ?_
 refine cd h (fun c h=>?_) (fun c h=>?_)
 refine dr mixed ?_
 refine cl none [] 1 h (Hr N _ _) fun g h=>?_
 refine cl none [] 0 h (l8 N _ _) fun i h=>?_
 refine dk ?_
 cases h
 exact rt []
 refine cl none [] 0 h (A1 N _ _) fun j h=>?_
 refine cd h (fun d h=>?_) (fun d h=>?_)
 refine dr mixed ?_
 refine cl none [] 1 h (C8 N _ _) fun k h=>?_
 refine cl none [] 0 h (l8 N _ _) fun l h=>?_
 refine dk ?_
 cases h
 exact rt []
 refine dr mixed ?_
 refine cl none [] 1 h (C8 N _ _) fun m h=>?_
 refine cl none [] 0 h (l8 N _ _) fun n h=>?_
 refine dk ?_
 cases h
 exact rt []
theorem kN(N:Nat)(a:aB)(b:aB)(r:aB)(h:jc N a b=some r):Cn Tryz.prog 43 [sA aA false a,sA aA false b] [] [sA aA true r]:=by
 unfold jc at h
 refine fn tb en43 Tryz.func43 fun X w H ν=>?_
 refine dr mixed ?_
 refine cl none [] 0 h (ld N _) fun c h=>?_
 refine cl none [] 0 h (jP N _ _) fun d h=>?_
 refine dk ?_
 cases h
 exact rt []
theorem l6(N:Nat)(a:aB)(b:aB)(r:aB)(h:km N a b=some r):Cn Tryz.prog 55 [sA aA false a,sA aA false b] [] [sA aA true r]:=by
 unfold km at h
 refine fn tb en55 Tryz.func55 fun X w H ν=>?_
 refine dr mixed ?_
 refine cl none [] 1 h (TS N _ _) fun c h=>?_
 refine cl none [] 0 h (l8 N _ _) fun d h=>?_
 refine dk ?_
 cases h
 exact rt []
theorem lS(N:Nat)(a:aB)(b:aB)(r:(aB×aB×Bool))(h:kG N a b=some r):Cn Tryz.prog 44 [sA aA false a,sA aA false b] [] [sA aA true r.1,sA aA true r.2.1,sB r.2.2]:=by
 unfold kG at h
 refine fn tb en44 Tryz.func44 fun X w H ν=>?_
 refine dr mixed ?_
 refine cl none [] 0 h (oQ N _) fun j h=>?_
 refine cl none [] 0 h (oQ N _) fun e h=>?_
 refine dk ?_
 refine cd h (fun f h=>?_) (fun f h=>?_)
 cases h
 exact rt []
 refine cl none [] 2 h (Ll N _ _) fun k h=>?_
 refine cd h (fun g h=>?_) (fun g h=>?_)
 refine jn (fun x=>x) (fun⟨c,d⟩=>aW 5 [.box (aO.cl aA true e),.box [(lB false),lN],.box [(lB false),lN],.row (aD .u32) true c,.row (aD .u32) true d] [vp 3 0,vp 4 1,vp 5 2,vo 7 3,vo 8 4]) h (fun l h m=>?_) ?_
 refine cd h (fun i h=>?_) (fun i h=>?_)
 refine de (aD .u32) true [1] ?_
 refine cl none [] 1 h (Hr N _ _) fun n h=>?_
 refine cl none [] 1 h (C8 N _ _) fun o h=>?_
 cases h
 exact bj _ [1,2,3,7,8]
 cases h
 exact bj _ [1,2,3,4,5]
 rintro⟨c,d⟩ h
 try dsimp only at h
 refine dr mixed ?_
 refine cl none [] 0 h (l8 N _ _) fun p h=>?_
 refine cl none [] 0 h (l8 N _ _) fun s h=>?_
 refine dk ?_
 cases h
 exact rt []
 refine dr mixed ?_
 refine cl none [] 0 h (l8 N _ _) fun u h=>?_
 refine cl none [] 0 h (l8 N _ _) fun v h=>?_
 refine dk ?_
 cases h
 exact rt []
theorem OM(N:Nat)(a:aB)(b:aB)(r:aB)(h:tK N a b=some r):Cn Tryz.prog 171 [sA aA false a,sA aA false b] [] [sA aA true r]:=by
 unfold tK at h
 refine fn tb en171 Tryz.func171 fun X w H ν=>?_
 refine dr mixed ?_
 refine cl none [] 1 h (pt N _) fun k h=>?_
 refine cl none [] 1 h (pt N _) fun l h=>?_
 refine dk ?_
 refine jn (fun x=>x) (fun c=>aW 2 [.box [(lB false),lN],.row (aD .u32) true c] [vp 4 0,vo 5 1]) h (fun m f g=>?_) ?_
 refine bk ?_
 refine lp (fun⟨d,e⟩=>aW 3 [.box [(lB false),lN],.row (aD .u32) true d,.row (aD .u32) true e] [vp 4 0,vo 5 1,vo 6 2]) f [2,3,4] ?_
 rintro⟨d,e⟩ oo h i
 rw[Dy]at h
 refine cd h (fun j h=>?_) (fun j h=>?_)
 refine bk ?_
 refine cl none [] 2 h (Ll N _ _) fun n h=>?_
 cases h
 exact bl [0,2,4]
 cases h
 cases i _ rfl
 replace h:=g
 try dsimp only at h
 exact bj _ [0,1]
 intro c h
 try dsimp only at h
 refine cl none [] 0 h (l8 N _ _) fun o h=>?_
 cases h
 exact rt []
theorem NB(N:Nat)(x:aB)(r:(List UInt8))(h:uL N x=some r):Cn Tryz.prog 121 [sA aA false x] [] [sT r]:=by
 unfold uL at h
 refine fn tb en121 Tryz.func121 fun X w H ν=>?_
 refine cl none [] 0 h (oQ N _) fun r6 h=>?_
 refine cd h (fun f h=>?_) (fun f h=>?_)
 cases h
 exact rt []
 refine jn (fun x=>x) (fun c=>aW 2 [.box (aO.cl aA true r6),.row gI true c] [vp 1 0,vo 3 1]) h (fun o g i=>?_) ?_
 refine bk ?_
 refine ps (nl 3 gI) ?_
 refine lp (fun⟨a,d⟩=>aW 2 [.box (aO.cl aA true r6),.row gI true a] [vp 1 0,vo 3 1,vr 4 (aD .u32) true d]) g [0,1] ?_
 rintro⟨a,d⟩ oo h j
 rw[E5]at h
 refine cd h (fun k h=>?_) (fun k h=>?_)
 refine bk ?_
 refine cl none [] 1 h (Me N _ _) fun p h=>?_
 refine cl none [] 1 h (pt N _) fun l h=>?_
 refine cl none [] 0 h (Q4 N _ _) fun s h=>?_
 refine jn (fun x=>x) (fun b=>aW 3 [.box (aO.cl aA true r6),.row gI true a,.row (aD .u32) true l] [vp 1 0,vo 3 1,vo 4 2,vt 7 b]) h (fun u h v=>?_) ?_
 refine cd h (fun m h=>?_) (fun m h=>?_)
 refine cl none [] 0 h (RE N _ _) fun y h=>?_
 refine sdB h fun _ h=>?_
 cases h
 exact bj _ [0,1,3]
 cases h
 exact bj _ [0,1,3]
 intro b h
 try dsimp only at h
 refine de gI true [b] ?_
 refine dQ true h fun a0 h=>?_
 cases h
 exact bl [0,4]
 cases h
 cases j _ rfl
 replace h:=i
 try dsimp only at h
 exact bj _ [0,1]
 intro c h
 try dsimp only at h
 refine jn (fun x=>x) (fun e=>aW 1 [.row gI true e] [vo 3 0]) h (fun a1 h a2=>?_) ?_
 refine cd h (fun n h=>?_) (fun n h=>?_)
 refine de gI true [([45]:List UInt8)] ?_
 refine dQ true h fun a3 h=>?_
 cases h
 exact bj _ [3]
 cases h
 exact bj _ [1]
 intro e h
 try dsimp only at h
 refine cl none [0] 0 h (Qx N _) (fun a4 h=>?_)
 refine cl none [] 0 h (Jr N _ _) fun a5 h=>?_
 cases h
 exact rt []
end Go.Proofs.YtipdkfmhfakbnaaGreatDoor.SB

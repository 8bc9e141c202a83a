/- Walks of the symbolic machine, written by a program of mine (wip/tool). -/
import Derived.Test.YtipdkfmhfakbnaaGreatDoorTB
import Derived.Test.YtipdkfmhfakbnaaGreatDoorAd
import Derived.Test.YtipdkfmhfakbnaaGreatDoorSA
set_option linter.unusedVariables false
set_option linter.unusedSimpArgs false
set_option linter.unusedSectionVars false
set_option maxRecDepth 100000
set_option maxHeartbeats 4000000
namespace Go.Proofs.YtipdkfmhfakbnaaGreatDoor.SB
open Go Go.RowKit Go.X Go.Q Go.D Go.Proofs.YtipdkfmhfakbnaaGreatDoor.TB Go.Proofs.YtipdkfmhfakbnaaGreatDoor.FS Go.Proofs.YtipdkfmhfakbnaaGreatDoor.SA
theorem len32_c(N:Nat)(x:Int)(r:Int)(h:len32 N x=some r):Cn Tryz.prog 147 [sI .u32 x] [] [sI .i64 r]:=by
 unfold len32 at h
 refine fn tb en147 Tryz.func147 fun X w H ν=>?_
 refine jn (fun x=>x) (fun⟨x2,n3⟩=>mkS 0 [] [vk 0 .u32 x2,vi 2 n3]) h (fun s4 h g5=>?_) ?_
 refine cd h (fun hc6 h=>?_) (fun hc6 h=>?_)
 refine srL ?_
 cases h
 exact bj _ []
 cases h
 exact bj _ []
 rintro⟨x2,n3⟩ h
 try dsimp only at h
 refine jn (fun x=>x) (fun⟨a,b⟩=>mkS 0 [] [vk 0 .u32 a,vi 2 b]) h (fun d h e=>?_) ?_
 refine cd h (fun c h=>?_) (fun c h=>?_)
 refine srL ?_
 cases h
 exact bj _ []
 cases h
 exact bj _ []
 rintro⟨a,b⟩ h
 try dsimp only at h
 refine ixS h fun f h=>?_
 cases h
 exact rt []
theorem lz32_c(N:Nat)(x:Int)(r:Int)(h:lz32 N x=some r):Cn Tryz.prog 112 [sI .u32 x] [] [sI .i64 r]:=by
 unfold lz32 at h
 refine fn tb en112 Tryz.func112 fun X w H ν=>?_
 refine cl none [] 0 h (len32_c N _) fun r1 h=>?_
 cases h
 exact rt []
theorem bbelow_c(N:Nat)(pa:(List Int))(pa_lo:Int)(pa_hi:Int)(pb:(List Int))(n:Int)(r:(Bool×(List Int)))(h:bbelow N pa pa_lo pa_hi pb n=some r):Cx Tryz.prog 114 [.lf (.sg 0 1 pa_lo pa_hi),sR (rInt .u32) false pb,sI .u64 n] [.row (rInt .u32) true pa] [(0,some (.row (rInt .u32) true r.2))] [sB r.1]:=by
 unfold bbelow at h
 refine fn tb en114 Tryz.func114 fun X w H ν=>?_
 refine jn (fun x=>x) (fun⟨a,b⟩=>mkS 1 [.row (rInt .u32) true a] [vl 0 (.sg 0 1 pa_lo pa_hi),vk 8 .u64 b]) h (fun l g i=>?_) ?_
 refine bk ?_
 refine lp (fun⟨c,d,e,f⟩=>mkS 1 [.row (rInt .u32) true c] [vl 0 (.sg 0 1 pa_lo pa_hi),vr 1 (rInt .u32) false pb,vk 2 .u64 n,vk 7 .u64 d,vk 8 .u64 e,vi 12 (pa_hi-pa_lo),vi 13 f]) g [0] ?_
 rintro⟨c,d,e,f⟩ oo h j
 rw[bbelow_b1]at h
 refine cd h (fun k h=>?_) (fun k h=>?_)
 refine bk ?_
 refine cl none [] 0 h (digit_c N _ _) fun m h=>?_
 refine ixG h fun o h=>?_
 refine ldO ?_
 refine ixG h fun p h=>?_
 refine stO true h fun q h=>?_
 refine srL ?_
 refine srL ?_
 cases h
 exact bl [0]
 cases h
 cases j _ rfl
 replace h:=i
 try dsimp only at h
 exact bj _ [0]
 rintro⟨a,b⟩ h
 try dsimp only at h
 cases h
 exact rt [0]
theorem bdivide_c(N:Nat)(a:(List Int))(b:(List Int))(r:((List Int)×(List Int)))(h:bdivide N a b=some r):Cn Tryz.prog 79 [sR (rInt .u32) false a,sR (rInt .u32) false b] [.row (rInt .u32) true r.1,.row (rInt .u32) true r.2] [sO 0,sO 1]:=by
 unfold bdivide at h
 refine fn tb en79 Tryz.func79 fun X w H ν=>?_
 refine cl none [] 0 h (bcompare_c N _ _) fun r1 h=>?_
 refine cd h (fun hc8 h=>?_) (fun hc8 h=>?_)
 refine cl none [] 1 h (btrim_c N _) fun r9 h=>?_
 refine pr (nl 4 (rInt .u32)) ?_
 cases h
 exact rt [1,0]
 refine cd h (fun a5 h=>?_) (fun a5 h=>?_)
 refine ixR h fun aq h=>?_
 refine cl none [] 1 h (bshort_c N _ _) fun a6 h=>?_
 refine cl none [] 1 h (btrim_c N _) fun ar h=>?_
 refine litO (rInt .u32) true [a6.2] ?_
 refine cl none [] 1 h (btrim_c N _) fun av h=>?_
 cases h
 exact rt [1,3]
 refine ixR h fun aw h=>?_
 refine cl none [] 0 h (lz32_c N _) fun c h=>?_
 refine dr mixed ?_
 refine cl none [] 1 h (bshift_c N _ _) fun ax h=>?_
 refine cl none [] 1 h (bshift_c N _ _) fun ay h=>?_
 refine cutO h fun d h=>?_
 refine dk ?_
 refine mkO (rInt .u32) h fun az h=>?_
 refine jn (fun x=>x) (fun⟨k,i⟩=>mkS 2 [.row (rInt .u32) true k,.row (rInt .u32) true i] [vk 8 .u64 (uw c),vo 9 0,vi 11 (List.length b:Int),vo 12 1]) h (fun b0 a7 a8=>?_) ?_
 refine bk ?_
 refine lp (fun⟨g,e,f⟩=>mkS 3 [.row (rInt .u32) true g,.row (rInt .u32) true d,.row (rInt .u32) true e] [vk 8 .u64 (uw c),vo 9 0,vo 10 1,vi 11 (List.length b:Int),vo 12 2,vi 13 f]) a7 [0,2,3] ?_
 rintro⟨g,e,f⟩ oo h a9
 rw[bdivide_b1]at h
 refine cd h (fun aa h=>?_) (fun aa h=>?_)
 refine bk ?_
 refine dr mixed ?_
 refine ixO h fun b1 h=>?_
 refine ldO ?_
 refine slL ?_
 refine ixO h fun b2 h=>?_
 refine ldO ?_
 refine dk ?_
 refine ixO h fun b3 h=>?_
 refine ldO ?_
 refine quB h fun b4 h=>?_
 refine ixO h fun b5 h=>?_
 refine ldO ?_
 refine reB h fun b6 h=>?_
 refine jn (fun x=>x) (fun j=>mkS 3 [.row (rInt .u32) true g,.row (rInt .u32) true d,.row (rInt .u32) true e] [vk 8 .u64 (uw c),vo 9 0,vo 10 1,vi 11 (List.length b:Int),vo 12 2,vi 13 f,vk 15 .u64 j]) h (fun b7 ab n=>?_) ?_
 refine bk ?_
 refine lp (fun⟨l,m⟩=>mkS 3 [.row (rInt .u32) true g,.row (rInt .u32) true d,.row (rInt .u32) true e] [vk 8 .u64 (uw c),vo 9 0,vo 10 1,vi 11 (List.length b:Int),vo 12 2,vi 13 f,vk 15 .u64 l,vk 16 .u64 m]) ab [0,1,2] ?_
 rintro⟨l,m⟩ oo h o
 rw[bdivide_b2]at h
 refine jn (fun x=>x) (fun p=>mkS 3 [.row (rInt .u32) true g,.row (rInt .u32) true d,.row (rInt .u32) true e] [vk 8 .u64 (uw c),vo 9 0,vo 10 1,vi 11 (List.length b:Int),vo 12 2,vi 13 f,vk 15 .u64 l,vk 16 .u64 m,vb 130 p]) h (fun b8 h b9=>?_) ?_
 refine dr mixed ?_
 refine gd h (fun ac h=>?_) (fun ac h=>?_)
 refine dk ?_
 cases h
 exact bj _ [0,1,2]
 refine ixO h fun ba h=>?_
 refine ldO ?_
 refine slL ?_
 refine ixO h fun bb h=>?_
 refine ldO ?_
 refine dk ?_
 cases h
 exact bj _ [0,1,2]
 intro p h
 try dsimp only at h
 refine cd h (fun ad h=>?_) (fun ad h=>?_)
 refine bk ?_
 refine ixO h fun bc h=>?_
 refine ldO ?_
 refine cd h (fun ae h=>?_) (fun ae h=>?_)
 cases h
 cases o _ rfl
 replace h:=n
 try dsimp only at h
 exact bj _ [0,1,2]
 cases h
 exact bl [0,1,2]
 cases h
 cases o _ rfl
 replace h:=n
 try dsimp only at h
 exact bj _ [0,1,2]
 intro j h
 try dsimp only at h
 refine cutG h fun _ h=>?_
 refine cl none [0] 0 h (bbelow_c N _ _ _ _ _) (fun bd h=>?_)
 refine jn (fun x=>x) (fun⟨q,s⟩=>mkS 3 [.row (rInt .u32) true q,.row (rInt .u32) true d,.row (rInt .u32) true e] [vk 8 .u64 (uw c),vo 9 0,vo 10 1,vi 11 (List.length b:Int),vo 12 2,vi 13 f,vk 15 .u64 s]) h (fun be h bf=>?_) ?_
 refine cd h (fun af h=>?_) (fun af h=>?_)
 refine jn (fun x=>x) (fun⟨u,v⟩=>mkS 3 [.row (rInt .u32) true u,.row (rInt .u32) true d,.row (rInt .u32) true e] [vk 8 .u64 (uw c),vo 9 0,vo 10 1,vi 11 (List.length b:Int),vo 12 2,vi 13 f,vk 15 .u64 (uw (j-1)),vk 17 .u64 v]) h (fun bg ag ah=>?_) ?_
 refine bk ?_
 refine lp (fun⟨y,a0,a1⟩=>mkS 3 [.row (rInt .u32) true y,.row (rInt .u32) true d,.row (rInt .u32) true e] [vk 8 .u64 (uw c),vo 9 0,vo 10 1,vi 11 (List.length b:Int),vo 12 2,vi 13 f,vk 15 .u64 (uw (j-1)),vk 17 .u64 a0,vi 156 (List.length d:Int),vi 157 a1]) ag [0,1,2] ?_
 rintro⟨y,a0,a1⟩ oo h ai
 rw[bdivide_b3]at h
 refine cd h (fun aj h=>?_) (fun aj h=>?_)
 refine bk ?_
 refine dr mixed ?_
 refine ixO h fun bh h=>?_
 refine ldO ?_
 refine ixO h fun bi h=>?_
 refine ldO ?_
 refine dk ?_
 refine ixO h fun bm h=>?_
 refine stO true h fun bn h=>?_
 refine srL ?_
 cases h
 exact bl [0,1,2]
 cases h
 cases ai _ rfl
 replace h:=ah
 try dsimp only at h
 exact bj _ [0,1,2]
 rintro⟨u,v⟩ h
 try dsimp only at h
 refine ixO h fun bo h=>?_
 refine ldO ?_
 refine ixO h fun bp h=>?_
 refine stO true h fun br h=>?_
 cases h
 exact bj _ [0,1,2]
 cases h
 exact bj _ [0,1,2]
 rintro⟨q,s⟩ h
 try dsimp only at h
 refine ixO h fun bs h=>?_
 refine stO true h fun bt h=>?_
 cases h
 exact bl [0,1,2]
 cases h
 cases a9 _ rfl
 replace h:=a8
 try dsimp only at h
 exact bj _ [0,2]
 rintro⟨k,i⟩ h
 try dsimp only at h
 refine mkO (rInt .u32) h fun ak h=>?_
 refine jn (fun x=>x) (fun a2=>mkS 2 [.row (rInt .u32) true i,.row (rInt .u32) true a2] [vo 12 0,vo 19 1]) h (fun bu al am=>?_) ?_
 refine bk ?_
 refine lp (fun⟨a3,a4⟩=>mkS 3 [.row (rInt .u32) true k,.row (rInt .u32) true i,.row (rInt .u32) true a3] [vk 8 .u64 (uw c),vo 9 0,vo 12 1,vo 19 2,vi 203 (List.length ak:Int),vi 204 a4]) al [0,1,2] ?_
 rintro⟨a3,a4⟩ oo h an
 rw[bdivide_b4]at h
 refine cd h (fun ao h=>?_) (fun ao h=>?_)
 refine bk ?_
 refine dr mixed ?_
 refine ixO h fun bw h=>?_
 refine ldO ?_
 refine slL ?_
 refine ixO h fun bx h=>?_
 refine ldO ?_
 refine srB h fun bz h=>?_
 refine ixO h fun c0 h=>?_
 refine stO true h fun c1 h=>?_
 refine dk ?_
 cases h
 exact bl [0,1,2]
 cases h
 cases an _ rfl
 replace h:=am
 try dsimp only at h
 exact bj _ [1,2]
 intro a2 h
 try dsimp only at h
 refine cl none [] 1 h (btrim_c N _) fun c2 h=>?_
 refine cl none [] 1 h (btrim_c N _) fun c3 h=>?_
 cases h
 exact rt [2,3]
theorem bOf_c(N:Nat)(n:Int)(r:Big)(h:bOf N n=some r):Cn Tryz.prog 42 [sI .i64 n] [] [sA rBig true r]:=by
 unfold bOf at h
 refine fn tb en42 Tryz.func42 fun X w H ν=>?_
 refine jn (fun x=>x) (fun u8=>mkS 1 [.box [(lB false),lN]] [vi 0 n,vp 2 0,vk 3 .u64 u8]) h (fun s9 h b=>?_) ?_
 refine cd h (fun a h=>?_) (fun a h=>?_)
 cases h
 exact bj _ [0]
 cases h
 exact bj _ [0]
 intro u8 h
 try dsimp only at h
 refine srL ?_
 refine litO (rInt .u32) true [(uw32 u8),(uw32 (bshr .u64 u8 32))] ?_
 refine cl none [] 0 h (bnormal_c N _ _) fun c h=>?_
 cases h
 exact rt []
theorem bNormal_c(N:Nat)(x:Big)(r:Big)(h:bNormal N x=some r):Cn Tryz.prog 78 [sA rBig false x] [] [sA rBig true r]:=by
 unfold bNormal at h
 refine fn tb en78 Tryz.func78 fun X w H ν=>?_
 refine cl none [] 0 h (bnormal_c N _ _) fun a h=>?_
 cases h
 exact rt []
theorem bSign_c(N:Nat)(x:Big)(r:Int)(h:bSign N x=some r):Cn Tryz.prog 56 [sA rBig false x] [] [sI .i64 r]:=by
 unfold bSign at h
 refine fn tb en56 Tryz.func56 fun X w H ν=>?_
 refine cl none [] 0 h (bNormal_c N _) fun r6 h=>?_
 refine bk ?_
 refine cd h (fun a h=>?_) (fun a h=>?_)
 cases h
 exact rt []
 refine cd h (fun b h=>?_) (fun b h=>?_)
 cases h
 exact rt []
 cases h
 exact rt []
theorem bCompare_c(N:Nat)(a:Big)(b:Big)(r:Int)(h:bCompare N a b=some r):Cn Tryz.prog 46 [sA rBig false a,sA rBig false b] [] [sI .i64 r]:=by
 unfold bCompare at h
 refine fn tb en46 Tryz.func46 fun X w H ν=>?_
 refine dr mixed ?_
 refine cl none [] 0 h (bNormal_c N _) fun d h=>?_
 refine cl none [] 0 h (bNormal_c N _) fun e h=>?_
 refine dk ?_
 refine bk ?_
 refine jn (fun x=>x) (fun c=>mkS 2 [.box (Opn.cl rBig true d),.box (Opn.cl rBig true e)] [vp 2 0,vp 3 1,vb 9 c]) h (fun k h l=>?_) ?_
 refine rg ?_
 refine gd h (fun f h=>?_) (fun f h=>?_)
 cases h
 exact bj _ [0,1]
 cases h
 exact bj _ [0,1]
 intro c h
 try dsimp only at h
 refine cd h (fun g h=>?_) (fun g h=>?_)
 cases h
 exact rt []
 refine cd h (fun i h=>?_) (fun i h=>?_)
 cases h
 exact rt []
 refine cd h (fun j h=>?_) (fun j h=>?_)
 refine cl none [] 0 h (bcompare_c N _ _) fun m h=>?_
 cases h
 exact rt []
 refine cl none [] 0 h (bcompare_c N _ _) fun n h=>?_
 cases h
 exact rt []
theorem bNeg_c(N:Nat)(x:Big)(r:Big)(h:bNeg N x=some r):Cn Tryz.prog 77 [sA rBig false x] [] [sA rBig true r]:=by
 unfold bNeg at h
 refine fn tb en77 Tryz.func77 fun X w H ν=>?_
 refine cl none [] 0 h (bnormal_c N _ _) fun a h=>?_
 cases h
 exact rt []
theorem bAdd_c(N:Nat)(a:Big)(b:Big)(r:Big)(h:bAdd N a b=some r):Cn Tryz.prog 45 [sA rBig false a,sA rBig false b] [] [sA rBig true r]:=by
 unfold bAdd at h
 refine fn tb en45 Tryz.func45 fun X w H ν=>?_
 refine dr mixed ?_
 refine cl none [] 0 h (bNormal_c N _) fun e h=>?_
 refine cl none [] 0 h (bNormal_c N _) fun f h=>?_
 refine dk ?_
 refine cd h (fun c h=>?_) (fun c h=>?_)
 refine dr mixed ?_
 refine cl none [] 1 h (bplus_c N _ _) fun g h=>?_
 refine cl none [] 0 h (bnormal_c N _ _) fun i h=>?_
 refine dk ?_
 cases h
 exact rt []
 refine cl none [] 0 h (bcompare_c N _ _) fun j h=>?_
 refine cd h (fun d h=>?_) (fun d h=>?_)
 refine dr mixed ?_
 refine cl none [] 1 h (bminus_c N _ _) fun k h=>?_
 refine cl none [] 0 h (bnormal_c N _ _) fun l h=>?_
 refine dk ?_
 cases h
 exact rt []
 refine dr mixed ?_
 refine cl none [] 1 h (bminus_c N _ _) fun m h=>?_
 refine cl none [] 0 h (bnormal_c N _ _) fun n h=>?_
 refine dk ?_
 cases h
 exact rt []
theorem bSub_c(N:Nat)(a:Big)(b:Big)(r:Big)(h:bSub N a b=some r):Cn Tryz.prog 43 [sA rBig false a,sA rBig false b] [] [sA rBig true r]:=by
 unfold bSub at h
 refine fn tb en43 Tryz.func43 fun X w H ν=>?_
 refine dr mixed ?_
 refine cl none [] 0 h (bNeg_c N _) fun c h=>?_
 refine cl none [] 0 h (bAdd_c N _ _) fun d h=>?_
 refine dk ?_
 cases h
 exact rt []
theorem bMul_c(N:Nat)(a:Big)(b:Big)(r:Big)(h:bMul N a b=some r):Cn Tryz.prog 55 [sA rBig false a,sA rBig false b] [] [sA rBig true r]:=by
 unfold bMul at h
 refine fn tb en55 Tryz.func55 fun X w H ν=>?_
 refine dr mixed ?_
 refine cl none [] 1 h (btimes_c N _ _) fun c h=>?_
 refine cl none [] 0 h (bnormal_c N _ _) fun d h=>?_
 refine dk ?_
 cases h
 exact rt []
theorem bDivFloor_c(N:Nat)(a:Big)(b:Big)(r:(Big×Big×Bool))(h:bDivFloor N a b=some r):Cn Tryz.prog 44 [sA rBig false a,sA rBig false b] [] [sA rBig true r.1,sA rBig true r.2.1,sB r.2.2]:=by
 unfold bDivFloor at h
 refine fn tb en44 Tryz.func44 fun X w H ν=>?_
 refine dr mixed ?_
 refine cl none [] 0 h (bNormal_c N _) fun j h=>?_
 refine cl none [] 0 h (bNormal_c N _) fun e h=>?_
 refine dk ?_
 refine cd h (fun f h=>?_) (fun f h=>?_)
 cases h
 exact rt []
 refine cl none [] 2 h (bdivide_c N _ _) fun k h=>?_
 refine cd h (fun g h=>?_) (fun g h=>?_)
 refine jn (fun x=>x) (fun⟨c,d⟩=>mkS 5 [.box (Opn.cl rBig true e),.box [(lB false),lN],.box [(lB false),lN],.row (rInt .u32) true c,.row (rInt .u32) true d] [vp 3 0,vp 4 1,vp 5 2,vo 7 3,vo 8 4]) h (fun l h m=>?_) ?_
 refine cd h (fun i h=>?_) (fun i h=>?_)
 refine litO (rInt .u32) true [1] ?_
 refine cl none [] 1 h (bplus_c N _ _) fun n h=>?_
 refine cl none [] 1 h (bminus_c N _ _) fun o h=>?_
 cases h
 exact bj _ [1,2,3,7,8]
 cases h
 exact bj _ [1,2,3,4,5]
 rintro⟨c,d⟩ h
 try dsimp only at h
 refine dr mixed ?_
 refine cl none [] 0 h (bnormal_c N _ _) fun p h=>?_
 refine cl none [] 0 h (bnormal_c N _ _) fun q h=>?_
 refine dk ?_
 cases h
 exact rt []
 refine dr mixed ?_
 refine cl none [] 0 h (bnormal_c N _ _) fun s h=>?_
 refine cl none [] 0 h (bnormal_c N _ _) fun u h=>?_
 refine dk ?_
 cases h
 exact rt []
theorem bGCD_c(N:Nat)(a:Big)(b:Big)(r:Big)(h:bGCD N a b=some r):Cn Tryz.prog 171 [sA rBig false a,sA rBig false b] [] [sA rBig true r]:=by
 unfold bGCD at h
 refine fn tb en171 Tryz.func171 fun X w H ν=>?_
 refine dr mixed ?_
 refine cl none [] 1 h (btrim_c N _) fun k h=>?_
 refine cl none [] 1 h (btrim_c N _) fun l h=>?_
 refine dk ?_
 refine jn (fun x=>x) (fun c=>mkS 2 [.box [(lB false),lN],.row (rInt .u32) true c] [vp 4 0,vo 5 1]) h (fun m f g=>?_) ?_
 refine bk ?_
 refine lp (fun⟨d,e⟩=>mkS 3 [.box [(lB false),lN],.row (rInt .u32) true d,.row (rInt .u32) true e] [vp 4 0,vo 5 1,vo 6 2]) f [2,3,4] ?_
 rintro⟨d,e⟩ oo h i
 rw[bGCD_b1]at h
 refine cd h (fun j h=>?_) (fun j h=>?_)
 refine bk ?_
 refine cl none [] 2 h (bdivide_c N _ _) fun n h=>?_
 cases h
 exact bl [0,2,4]
 cases h
 cases i _ rfl
 replace h:=g
 try dsimp only at h
 exact bj _ [0,1]
 intro c h
 try dsimp only at h
 refine cl none [] 0 h (bnormal_c N _ _) fun o h=>?_
 cases h
 exact rt []
theorem bFormat_c(N:Nat)(x:Big)(r:(List UInt8))(h:bFormat N x=some r):Cn Tryz.prog 121 [sA rBig false x] [] [sT r]:=by
 unfold bFormat at h
 refine fn tb en121 Tryz.func121 fun X w H ν=>?_
 refine cl none [] 0 h (bNormal_c N _) fun r6 h=>?_
 refine cd h (fun f h=>?_) (fun f h=>?_)
 cases h
 exact rt []
 refine jn (fun x=>x) (fun c=>mkS 2 [.box (Opn.cl rBig true r6),.row rStr true c] [vp 1 0,vo 3 1]) h (fun o g i=>?_) ?_
 refine bk ?_
 refine ps (nl 3 rStr) ?_
 refine lp (fun⟨a,d⟩=>mkS 2 [.box (Opn.cl rBig true r6),.row rStr true a] [vp 1 0,vo 3 1,vr 4 (rInt .u32) true d]) g [0,1] ?_
 rintro⟨a,d⟩ oo h j
 rw[bFormat_b1]at h
 refine cd h (fun k h=>?_) (fun k h=>?_)
 refine bk ?_
 refine cl none [] 1 h (bshort_c N _ _) fun p h=>?_
 refine cl none [] 1 h (btrim_c N _) fun l h=>?_
 refine cl none [] 0 h (formatUint_c N _ _) fun q h=>?_
 refine jn (fun x=>x) (fun b=>mkS 3 [.box (Opn.cl rBig true r6),.row rStr true a,.row (rInt .u32) true l] [vp 1 0,vo 3 1,vo 4 2,vt 7 b]) h (fun s h u=>?_) ?_
 refine cd h (fun m h=>?_) (fun m h=>?_)
 refine cl none [] 0 h (repeatStr_c N _ _) fun v h=>?_
 refine sdB h fun _ h=>?_
 cases h
 exact bj _ [0,1,3]
 cases h
 exact bj _ [0,1,3]
 intro b h
 try dsimp only at h
 refine litO rStr true [b] ?_
 refine apO true h fun y h=>?_
 cases h
 exact bl [0,4]
 cases h
 cases j _ rfl
 replace h:=i
 try dsimp only at h
 exact bj _ [0,1]
 intro c h
 try dsimp only at h
 refine jn (fun x=>x) (fun e=>mkS 1 [.row rStr true e] [vo 3 0]) h (fun a0 h a1=>?_) ?_
 refine cd h (fun n h=>?_) (fun n h=>?_)
 refine litO rStr true [([45]:List UInt8)] ?_
 refine apO true h fun a2 h=>?_
 cases h
 exact bj _ [3]
 cases h
 exact bj _ [1]
 intro e h
 try dsimp only at h
 refine cl none [0] 0 h (revStr_c N _) (fun a3 h=>?_)
 refine cl none [] 0 h (joinStr_c N _ _) fun a4 h=>?_
 cases h
 exact rt []
end Go.Proofs.YtipdkfmhfakbnaaGreatDoor.SB

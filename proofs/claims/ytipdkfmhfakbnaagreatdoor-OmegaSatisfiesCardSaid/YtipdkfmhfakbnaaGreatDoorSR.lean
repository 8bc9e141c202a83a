/- Walks of the symbolic machine, written by a program of mine (wip/tool). -/
import Derived.Test.YtipdkfmhfakbnaaGreatDoorTB
import Derived.Test.YtipdkfmhfakbnaaGreatDoorAd
set_option linter.unusedVariables false
set_option linter.unusedSimpArgs false
set_option linter.unusedSectionVars false
set_option maxRecDepth 100000
set_option maxHeartbeats 4000000
namespace Go.Proofs.YtipdkfmhfakbnaaGreatDoor.SR
open Go Go.RowKit Go.X Go.Q Go.D Go.Proofs.YtipdkfmhfakbnaaGreatDoor.TB Go.Proofs.YtipdkfmhfakbnaaGreatDoor.FS 
theorem rtrim_c(N:Nat)(l:(List Int))(r:(List Int))(h:rtrim N l=some r):Cn Tryz.prog 83 [sR (rInt .i64) false l] [] [sR (rInt .i64) false r]:=by
 unfold rtrim at h
 refine fn tb en83 Tryz.func83 fun X w H ν=>?_
 refine jn (fun x=>x) (fun b=>mkS 0 [] [vr 0 (rInt .i64) false b]) h (fun j d e=>?_) ?_
 refine bk ?_
 refine lp (fun a=>mkS 0 [] [vr 0 (rInt .i64) false a]) d [] ?_
 rintro a oo h f
 rw[rtrim_b1]at h
 refine jn (fun x=>x) (fun c=>mkS 0 [] [vr 0 (rInt .i64) false a,vb 14 c]) h (fun k h m=>?_) ?_
 refine rg ?_
 refine gd h (fun g h=>?_) (fun g h=>?_)
 refine ixR h fun n h=>?_
 cases h
 exact bj _ []
 cases h
 exact bj _ []
 intro c h
 try dsimp only at h
 refine cd h (fun i h=>?_) (fun i h=>?_)
 refine bk ?_
 refine cutR h fun o h=>?_
 cases h
 exact bl []
 cases h
 cases f _ rfl
 replace h:=e
 try dsimp only at h
 exact bj _ []
 intro b h
 try dsimp only at h
 cases h
 exact rt []
theorem halves_c(N:Nat)(x:Big)(r:(List Int))(h:halves N x=some r):Cn Tryz.prog 51 [sA rBig false x] [] [sR (rInt .i64) true r]:=by
 unfold halves at h
 refine fn tb en51 Tryz.func51 fun X w H ν=>?_
 refine litZ (rInt .i64) ?_
 refine jn (fun x=>x) (fun a=>mkS 1 [.row (rInt .i64) true a] [vo 3 0]) h (fun k d e=>?_) ?_
 refine bk ?_
 refine lp (fun⟨b,c⟩=>mkS 2 [.box (Opn.cl rBig false x),.row (rInt .i64) true b] [vp 1 0,vo 3 1,vi 4 c]) d [0,1] ?_
 rintro⟨b,c⟩ oo h f
 rw[halves_b1]at h
 refine cd h (fun g h=>?_) (fun g h=>?_)
 refine bk ?_
 refine dr mixed ?_
 refine ixR h fun i h=>?_
 refine reL ?_
 refine ixR h fun j h=>?_
 refine quL ?_
 refine litO (rInt .i64) true [(iw (Int.tmod i 65536)),(iw (uw32 (Int.tdiv j 65536)))] ?_
 refine apO true h fun l h=>?_
 refine dk ?_
 cases h
 exact bl [0,3]
 cases h
 cases f _ rfl
 replace h:=e
 try dsimp only at h
 exact bj _ [1]
 intro a h
 try dsimp only at h
 refine po (fzk 0 [3,30] []) ?_
 refine cl (some true) [] 0 h (rtrim_c N _) fun m h=>?_
 cases h
 exact rt []
theorem rbig_c(N:Nat)(negative:Bool)(l:(List Int))(r:Big)(h:rbig N negative l=some r):Cn Tryz.prog 49 [sB negative,sR (rInt .i64) false l] [] [sA rBig true r]:=by
 unfold rbig at h
 refine fn tb en49 Tryz.func49 fun X w H ν=>?_
 refine cl (some false) [] 0 h (rtrim_c N _) fun r6 h=>?_
 refine jn (fun x=>x) (fun a=>mkS 2 [.box [(lB false),lN],.box [(lB a),lN]] [vr 1 (rInt .i64) false r6,vp 4 0,vp 5 1]) h (fun n h o=>?_) ?_
 refine rg ?_
 refine gd h (fun f h=>?_) (fun f h=>?_)
 cases h
 exact bj _ [0,1]
 cases h
 exact bj _ [0,1]
 intro a h
 try dsimp only at h
 refine jn (fun x=>x) (fun e=>mkS 3 [.box [(lB false),lN],.box [(lB a),(.own 2)],.row (rInt .u32) true e] [vp 4 0,vp 5 1]) h (fun p g i=>?_) ?_
 refine bk ?_
 refine ps (nb 1 1 (rInt .u32)) ?_
 refine lp (fun⟨b,c⟩=>mkS 3 [.box [(lB false),lN],.box [(lB a),(.own 2)],.row (rInt .u32) true b] [vr 1 (rInt .i64) false r6,vp 4 0,vp 5 1,vi 6 c]) g [0,1,2] ?_
 rintro⟨b,c⟩ oo h j
 rw[rbig_b1]at h
 refine cd h (fun k h=>?_) (fun k h=>?_)
 refine bk ?_
 refine ixR h fun q h=>?_
 refine jn (fun x=>x) (fun d=>mkS 3 [.box [(lB false),lN],.box [(lB a),(.own 2)],.row (rInt .u32) true b] [vr 1 (rInt .i64) false r6,vp 4 0,vp 5 1,vi 6 c,vk 7 .u32 d]) h (fun s h u=>?_) ?_
 refine cd h (fun m h=>?_) (fun m h=>?_)
 refine ixR h fun v h=>?_
 cases h
 exact bj _ [0,1,2]
 cases h
 exact bj _ [0,1,2]
 intro d h
 try dsimp only at h
 refine litO (rInt .u32) true [d] ?_
 refine apO true h fun y h=>?_
 cases h
 exact bl [0,1,4]
 cases h
 cases j _ rfl
 replace h:=i
 try dsimp only at h
 exact bj _ [0,1,2]
 intro e h
 try dsimp only at h
 cases h
 exact rt []
theorem rNormal_c(N:Nat)(x:Big)(r:Big)(h:rNormal N x=some r):Cn Tryz.prog 129 [sA rBig false x] [] [sA rBig true r]:=by
 unfold rNormal at h
 refine fn tb en129 Tryz.func129 fun X w H ν=>?_
 refine dr mixed ?_
 refine cl none [] 0 h (halves_c N _) fun a h=>?_
 refine cl none [] 0 h (rbig_c N _ _) fun b h=>?_
 refine dk ?_
 cases h
 exact rt []
theorem rorder_c(N:Nat)(a:(List Int))(b:(List Int))(r:Int)(h:rorder N a b=some r):Cn Tryz.prog 84 [sR (rInt .i64) false a,sR (rInt .i64) false b] [] [sI .i64 r]:=by
 unfold rorder at h
 refine fn tb en84 Tryz.func84 fun X w H ν=>?_
 refine cd h (fun hc1 h=>?_) (fun hc1 h=>?_)
 refine cd h (fun hc2 h=>?_) (fun hc2 h=>?_)
 cases h
 exact rt []
 cases h
 exact rt []
 refine jn (fun x=>(Sum.inl x)) (fun(_:Unit)=>mkS 0 [] []) h (fun k f c=>?_) ?_
 refine bk ?_
 refine lp (fun e=>mkS 0 [] [vr 0 (rInt .i64) false a,vr 1 (rInt .i64) false b,vi 5 e]) f [] ?_
 rintro e oo h d
 rw[rorder_b1]at h
 refine cd h (fun g h=>?_) (fun g h=>?_)
 refine bk ?_
 refine dr mixed ?_
 refine ixR h fun l h=>?_
 refine ixR h fun m h=>?_
 refine dk ?_
 refine cd h (fun i h=>?_) (fun i h=>?_)
 cases h
 cases d _ rfl
 replace h:=c
 try dsimp only at h
 cases h
 exact rt []
 refine dr mixed ?_
 refine ixR h fun n h=>?_
 refine ixR h fun o h=>?_
 refine dk ?_
 refine cd h (fun j h=>?_) (fun j h=>?_)
 cases h
 cases d _ rfl
 replace h:=c
 try dsimp only at h
 cases h
 exact rt []
 cases h
 exact bl []
 cases h
 cases d _ rfl
 replace h:=c
 try dsimp only at h
 exact bj _ []
 intro _ h
 try dsimp only at h
 cases h
 exact rt []
theorem rplus_c(N:Nat)(a:(List Int))(b:(List Int))(r:(List Int))(h:rplus N a b=some r):Cn Tryz.prog 117 [sR (rInt .i64) false a,sR (rInt .i64) false b] [] [sR (rInt .i64) true r]:=by
 unfold rplus at h
 refine fn tb en117 Tryz.func117 fun X w H ν=>?_
 refine litZ (rInt .i64) ?_
 refine jn (fun x=>x) (fun g=>mkS 1 [.row (rInt .i64) true g] [vo 5 0]) h (fun u k l=>?_) ?_
 refine bk ?_
 refine lp (fun⟨c,e,d⟩=>mkS 1 [.row (rInt .i64) true c] [vr 0 (rInt .i64) false a,vr 1 (rInt .i64) false b,vo 5 0,vi 6 e,vi 7 d]) k [0] ?_
 rintro⟨c,e,d⟩ oo h m
 rw[rplus_b1]at h
 refine jn (fun x=>x) (fun i=>mkS 1 [.row (rInt .i64) true c] [vr 0 (rInt .i64) false a,vr 1 (rInt .i64) false b,vo 5 0,vi 6 e,vi 7 d,vb 22 i]) h (fun v h y=>?_) ?_
 refine rg ?_
 refine gd h (fun n h=>?_) (fun n h=>?_)
 cases h
 exact bj _ [0]
 refine gd h (fun o h=>?_) (fun o h=>?_)
 cases h
 exact bj _ [0]
 cases h
 exact bj _ [0]
 intro i h
 try dsimp only at h
 refine cd h (fun p h=>?_) (fun p h=>?_)
 refine bk ?_
 refine jn (fun x=>x) (fun j=>mkS 1 [.row (rInt .i64) true c] [vr 0 (rInt .i64) false a,vr 1 (rInt .i64) false b,vo 5 0,vi 6 j,vi 7 d]) h (fun a0 h a1=>?_) ?_
 refine cd h (fun q h=>?_) (fun q h=>?_)
 refine ixR h fun a2 h=>?_
 cases h
 exact bj _ [0]
 cases h
 exact bj _ [0]
 intro j h
 try dsimp only at h
 refine jn (fun x=>x) (fun f=>mkS 1 [.row (rInt .i64) true c] [vr 0 (rInt .i64) false a,vr 1 (rInt .i64) false b,vo 5 0,vi 6 f,vi 7 d]) h (fun a3 h a4=>?_) ?_
 refine cd h (fun s h=>?_) (fun s h=>?_)
 refine ixR h fun a5 h=>?_
 cases h
 exact bj _ [0]
 cases h
 exact bj _ [0]
 intro f h
 try dsimp only at h
 refine reL ?_
 refine litO (rInt .i64) true [(Int.tmod f 65536)] ?_
 refine apO true h fun a6 h=>?_
 refine quL ?_
 cases h
 exact bl [2]
 cases h
 cases m _ rfl
 replace h:=l
 try dsimp only at h
 exact bj _ [0]
 intro g h
 try dsimp only at h
 refine po (fzk 0 [5,52] []) ?_
 refine cl (some true) [] 0 h (rtrim_c N _) fun a7 h=>?_
 cases h
 exact rt []
theorem rminus_c(N:Nat)(a:(List Int))(b:(List Int))(r:(List Int))(h:rminus N a b=some r):Cn Tryz.prog 118 [sR (rInt .i64) false a,sR (rInt .i64) false b] [] [sR (rInt .i64) true r]:=by
 unfold rminus at h
 refine fn tb en118 Tryz.func118 fun X w H ν=>?_
 refine litZ (rInt .i64) ?_
 refine jn (fun x=>x) (fun f=>mkS 1 [.row (rInt .i64) true f] [vo 5 0]) h (fun q k l=>?_) ?_
 refine bk ?_
 refine lp (fun⟨c,g,d⟩=>mkS 1 [.row (rInt .i64) true c] [vr 0 (rInt .i64) false a,vr 1 (rInt .i64) false b,vo 5 0,vi 6 g,vi 7 d]) k [0] ?_
 rintro⟨c,g,d⟩ oo h m
 rw[rminus_b1]at h
 refine cd h (fun n h=>?_) (fun n h=>?_)
 refine bk ?_
 refine ixR h fun s h=>?_
 refine jn (fun x=>x) (fun i=>mkS 1 [.row (rInt .i64) true c] [vr 0 (rInt .i64) false a,vr 1 (rInt .i64) false b,vo 5 0,vi 7 d,vi 8 i]) h (fun u h v=>?_) ?_
 refine cd h (fun o h=>?_) (fun o h=>?_)
 refine ixR h fun y h=>?_
 cases h
 exact bj _ [0]
 cases h
 exact bj _ [0]
 intro i h
 try dsimp only at h
 refine jn (fun x=>x) (fun⟨j,e⟩=>mkS 1 [.row (rInt .i64) true c] [vr 0 (rInt .i64) false a,vr 1 (rInt .i64) false b,vo 5 0,vi 6 j,vi 7 d,vi 8 e]) h (fun a0 h a1=>?_) ?_
 refine cd h (fun p h=>?_) (fun p h=>?_)
 cases h
 exact bj _ [0]
 cases h
 exact bj _ [0]
 rintro⟨j,e⟩ h
 try dsimp only at h
 refine litO (rInt .i64) true [e] ?_
 refine apO true h fun a2 h=>?_
 cases h
 exact bl [2]
 cases h
 cases m _ rfl
 replace h:=l
 try dsimp only at h
 exact bj _ [0]
 intro f h
 try dsimp only at h
 refine po (fzk 0 [5,40] []) ?_
 refine cl (some true) [] 0 h (rtrim_c N _) fun a3 h=>?_
 cases h
 exact rt []
theorem rSign_c(N:Nat)(x:Big)(r:Int)(h:rSign N x=some r):Cn Tryz.prog 57 [sA rBig false x] [] [sI .i64 r]:=by
 unfold rSign at h
 refine fn tb en57 Tryz.func57 fun X w H ν=>?_
 refine cl none [] 0 h (halves_c N _) fun r6 h=>?_
 refine cd h (fun a h=>?_) (fun a h=>?_)
 cases h
 exact rt []
 refine cd h (fun b h=>?_) (fun b h=>?_)
 cases h
 exact rt []
 cases h
 exact rt []
theorem rNeg_c(N:Nat)(x:Big)(r:Big)(h:rNeg N x=some r):Cn Tryz.prog 98 [sA rBig false x] [] [sA rBig true r]:=by
 unfold rNeg at h
 refine fn tb en98 Tryz.func98 fun X w H ν=>?_
 refine dr mixed ?_
 refine cl none [] 0 h (halves_c N _) fun a h=>?_
 refine cl none [] 0 h (rbig_c N _ _) fun b h=>?_
 refine dk ?_
 cases h
 exact rt []
theorem rAdd_c(N:Nat)(a:Big)(b:Big)(r:Big)(h:rAdd N a b=some r):Cn Tryz.prog 87 [sA rBig false a,sA rBig false b] [] [sA rBig true r]:=by
 unfold rAdd at h
 refine fn tb en87 Tryz.func87 fun X w H ν=>?_
 refine dr mixed ?_
 refine cl none [] 0 h (halves_c N _) fun e h=>?_
 refine cl none [] 0 h (halves_c N _) fun f h=>?_
 refine dk ?_
 refine cd h (fun c h=>?_) (fun c h=>?_)
 refine dr mixed ?_
 refine cl none [] 0 h (rplus_c N _ _) fun g h=>?_
 refine cl none [] 0 h (rbig_c N _ _) fun i h=>?_
 refine dk ?_
 cases h
 exact rt []
 refine cl none [] 0 h (rorder_c N _ _) fun j h=>?_
 refine cd h (fun d h=>?_) (fun d h=>?_)
 refine dr mixed ?_
 refine cl none [] 0 h (rminus_c N _ _) fun k h=>?_
 refine cl none [] 0 h (rbig_c N _ _) fun l h=>?_
 refine dk ?_
 cases h
 exact rt []
 refine dr mixed ?_
 refine cl none [] 0 h (rminus_c N _ _) fun m h=>?_
 refine cl none [] 0 h (rbig_c N _ _) fun n h=>?_
 refine dk ?_
 cases h
 exact rt []
theorem rSub_c(N:Nat)(a:Big)(b:Big)(r:Big)(h:rSub N a b=some r):Cn Tryz.prog 69 [sA rBig false a,sA rBig false b] [] [sA rBig true r]:=by
 unfold rSub at h
 refine fn tb en69 Tryz.func69 fun X w H ν=>?_
 refine dr mixed ?_
 refine cl none [] 0 h (rNeg_c N _) fun c h=>?_
 refine cl none [] 0 h (rAdd_c N _ _) fun d h=>?_
 refine dk ?_
 cases h
 exact rt []
theorem rtimes_c(N:Nat)(a:(List Int))(d:Int)(r:(List Int))(h:rtimes N a d=some r):Cn Tryz.prog 119 [sR (rInt .i64) false a,sI .i64 d] [] [sR (rInt .i64) true r]:=by
 unfold rtimes at h
 refine fn tb en119 Tryz.func119 fun X w H ν=>?_
 refine litZ (rInt .i64) ?_
 refine jn (fun x=>x) (fun g=>mkS 1 [.row (rInt .i64) true g] [vo 5 0]) h (fun p j k=>?_) ?_
 refine bk ?_
 refine lp (fun⟨b,e,c⟩=>mkS 1 [.row (rInt .i64) true b] [vr 0 (rInt .i64) false a,vi 1 d,vo 5 0,vi 6 e,vi 7 c]) j [0] ?_
 rintro⟨b,e,c⟩ oo h l
 rw[rtimes_b1]at h
 refine jn (fun x=>x) (fun i=>mkS 1 [.row (rInt .i64) true b] [vr 0 (rInt .i64) false a,vi 1 d,vo 5 0,vi 6 e,vi 7 c,vb 16 i]) h (fun q h s=>?_) ?_
 refine rg ?_
 refine gd h (fun m h=>?_) (fun m h=>?_)
 cases h
 exact bj _ [0]
 cases h
 exact bj _ [0]
 intro i h
 try dsimp only at h
 refine cd h (fun n h=>?_) (fun n h=>?_)
 refine bk ?_
 refine jn (fun x=>x) (fun f=>mkS 1 [.row (rInt .i64) true b] [vr 0 (rInt .i64) false a,vi 1 d,vo 5 0,vi 6 f,vi 7 c]) h (fun u h v=>?_) ?_
 refine cd h (fun o h=>?_) (fun o h=>?_)
 refine ixR h fun y h=>?_
 cases h
 exact bj _ [0]
 cases h
 exact bj _ [0]
 intro f h
 try dsimp only at h
 refine reL ?_
 refine litO (rInt .i64) true [(Int.tmod f 65536)] ?_
 refine apO true h fun a0 h=>?_
 refine quL ?_
 cases h
 exact bl [2]
 cases h
 cases l _ rfl
 replace h:=k
 try dsimp only at h
 exact bj _ [0]
 intro g h
 try dsimp only at h
 refine po (fzk 0 [5,38] []) ?_
 refine cl (some true) [] 0 h (rtrim_c N _) fun a1 h=>?_
 cases h
 exact rt []
theorem rMul_c(N:Nat)(a:Big)(b:Big)(r:Big)(h:rMul N a b=some r):Cn Tryz.prog 88 [sA rBig false a,sA rBig false b] [] [sA rBig true r]:=by
 unfold rMul at h
 refine fn tb en88 Tryz.func88 fun X w H ν=>?_
 refine dr mixed ?_
 refine cl none [] 0 h (halves_c N _) fun f h=>?_
 refine cl none [] 0 h (halves_c N _) fun g h=>?_
 refine dk ?_
 refine litZ (rInt .i64) ?_
 refine jn (fun x=>x) (fun c=>mkS 3 [.box (Opn.cl rBig false a),.box (Opn.cl rBig false b),.box [(lB false),lN]] [vp 2 0,vp 3 1,vp 4 2,vr 7 (rInt .i64) true c]) h (fun m i j=>?_) ?_
 refine bk ?_
 refine lp (fun⟨d,e⟩=>mkS 3 [.box (Opn.cl rBig false a),.box (Opn.cl rBig false b),.box [(lB false),lN]] [vp 2 0,vp 3 1,vp 4 2,vr 5 (rInt .i64) true f,vr 6 (rInt .i64) true g,vr 7 (rInt .i64) true d,vi 8 e]) i [0,1,2] ?_
 rintro⟨d,e⟩ oo h k
 rw[rMul_b1]at h
 refine cd h (fun l h=>?_) (fun l h=>?_)
 refine bk ?_
 refine dr mixed ?_
 refine litO (rInt .i64) true [0] ?_
 refine apO true h fun n h=>?_
 refine ixR h fun o h=>?_
 refine cl none [] 0 h (rtimes_c N _ _) fun p h=>?_
 refine cl none [] 0 h (rplus_c N _ _) fun q h=>?_
 refine dk ?_
 cases h
 exact bl [0,1,2]
 cases h
 cases k _ rfl
 replace h:=j
 try dsimp only at h
 exact bj _ [0,1,2]
 intro c h
 try dsimp only at h
 refine cl none [] 0 h (rbig_c N _ _) fun s h=>?_
 cases h
 exact rt []
theorem rsplit_c(N:Nat)(a:(List Int))(b:(List Int))(r:((List Int)×(List Int)))(h:rsplit N a b=some r):Cn Tryz.prog 97 [sR (rInt .i64) false a,sR (rInt .i64) false b] [] [sR (rInt .i64) true r.1,sR (rInt .i64) true r.2]:=by
 unfold rsplit at h
 refine fn tb en97 Tryz.func97 fun X w H ν=>?_
 refine mkO (rInt .i64) h fun x2 h=>?_
 refine litZ (rInt .i64) ?_
 refine jn (fun x=>x) (fun⟨f,g⟩=>mkS 1 [.row (rInt .i64) true f] [vo 6 0,vr 7 (rInt .i64) true g]) h (fun a3 o p=>?_) ?_
 refine bk ?_
 refine lp (fun⟨i,j,c⟩=>mkS 1 [.row (rInt .i64) true i] [vr 0 (rInt .i64) false a,vr 1 (rInt .i64) false b,vo 6 0,vr 7 (rInt .i64) true j,vi 8 c]) o [0] ?_
 rintro⟨i,j,c⟩ oo h q
 rw[rsplit_b1]at h
 refine cd h (fun s h=>?_) (fun s h=>?_)
 refine bk ?_
 refine jn (fun x=>x) (fun⟨k,l⟩=>mkS 1 [.row (rInt .i64) true k] [vr 0 (rInt .i64) false a,vr 1 (rInt .i64) false b,vo 6 0,vr 7 (rInt .i64) true l,vi 8 c]) h (fun a4 u v=>?_) ?_
 refine bk ?_
 refine lp (fun⟨d,m,e⟩=>mkS 1 [.row (rInt .i64) true d] [vr 0 (rInt .i64) false a,vr 1 (rInt .i64) false b,vo 6 0,vr 7 (rInt .i64) true m,vi 8 c,vi 9 e]) u [0] ?_
 rintro⟨d,m,e⟩ oo h y
 rw[rsplit_b2]at h
 refine cd h (fun a0 h=>?_) (fun a0 h=>?_)
 refine bk ?_
 refine cl none [] 0 h (rplus_c N _ _) fun a5 h=>?_
 refine ixR h fun a6 h=>?_
 refine quB h fun a7 h=>?_
 refine reL ?_
 refine jn (fun x=>x) (fun n=>mkS 1 [.row (rInt .i64) true d] [vr 0 (rInt .i64) false a,vr 1 (rInt .i64) false b,vo 6 0,vr 7 (rInt .i64) true n,vi 8 c,vi 9 e]) h (fun a8 h a9=>?_) ?_
 refine cd h (fun a1 h=>?_) (fun a1 h=>?_)
 refine litO (rInt .i64) true [1] ?_
 refine cl none [] 0 h (rplus_c N _ _) fun aa h=>?_
 cases h
 exact bj _ [0]
 cases h
 exact bj _ [0]
 intro n h
 try dsimp only at h
 refine cl none [] 0 h (rorder_c N _ _) fun ab h=>?_
 refine cd h (fun a2 h=>?_) (fun a2 h=>?_)
 refine cl none [] 0 h (rminus_c N _ _) fun ac h=>?_
 refine ixO h fun ad h=>?_
 refine ldO ?_
 refine ixO h fun ae h=>?_
 refine stO true h fun af h=>?_
 refine quL ?_
 cases h
 exact bl [0]
 refine quL ?_
 cases h
 exact bl [0]
 cases h
 cases y _ rfl
 replace h:=v
 try dsimp only at h
 exact bj _ [0]
 rintro⟨k,l⟩ h
 try dsimp only at h
 cases h
 exact bl [0]
 cases h
 cases q _ rfl
 replace h:=p
 try dsimp only at h
 exact bj _ [0]
 rintro⟨f,g⟩ h
 try dsimp only at h
 refine po (fzk 0 [6,53] []) ?_
 refine cl (some true) [] 0 h (rtrim_c N _) fun ag h=>?_
 cases h
 exact rt []
theorem rOf_c(N:Nat)(n:Int)(r:Big)(h:rOf N n=some r):Cn Tryz.prog 18 [sI .i64 n] [] [sA rBig true r]:=by
 unfold rOf at h
 refine fn tb en18 Tryz.func18 fun X w H ν=>?_
 refine jn (fun x=>x) (fun u8=>mkS 1 [.box [(lB false),lN]] [vi 0 n,vp 2 0,vk 3 .u64 u8]) h (fun s9 h j=>?_) ?_
 refine cd h (fun d h=>?_) (fun d h=>?_)
 cases h
 exact bj _ [0]
 cases h
 exact bj _ [0]
 intro u8 h
 try dsimp only at h
 refine litZ (rInt .i64) ?_
 refine jn (fun x=>x) (fun b=>mkS 2 [.box [(lB false),lN],.row (rInt .i64) true b] [vi 0 n,vp 2 0,vo 4 1]) h (fun k e f=>?_) ?_
 refine bk ?_
 refine lp (fun⟨a,c⟩=>mkS 2 [.box [(lB false),lN],.row (rInt .i64) true c] [vi 0 n,vp 2 0,vk 3 .u64 a,vo 4 1]) e [0,1] ?_
 rintro⟨a,c⟩ oo h g
 rw[rOf_b1]at h
 refine cd h (fun i h=>?_) (fun i h=>?_)
 refine bk ?_
 refine reL ?_
 refine litO (rInt .i64) true [(iw (Int.tmod a 65536))] ?_
 refine apO true h fun l h=>?_
 refine quL ?_
 cases h
 exact bl [0,3]
 cases h
 cases g _ rfl
 replace h:=f
 try dsimp only at h
 exact bj _ [0,1]
 intro b h
 try dsimp only at h
 refine cl none [] 0 h (rbig_c N _ _) fun m h=>?_
 cases h
 exact rt []
theorem rDivFloor_c(N:Nat)(a:Big)(b:Big)(r:(Big×Big×Bool))(h:rDivFloor N a b=some r):Cn Tryz.prog 68 [sA rBig false a,sA rBig false b] [] [sA rBig true r.1,sA rBig true r.2.1,sB r.2.2]:=by
 unfold rDivFloor at h
 refine fn tb en68 Tryz.func68 fun X w H ν=>?_
 refine cl none [] 0 h (rSign_c N _) fun l h=>?_
 refine cd h (fun f h=>?_) (fun f h=>?_)
 cases h
 exact rt []
 refine dr mixed ?_
 refine cl none [] 0 h (halves_c N _) fun m h=>?_
 refine cl none [] 0 h (halves_c N _) fun n h=>?_
 refine cl none [] 0 h (rsplit_c N _ _) fun o h=>?_
 refine dk ?_
 refine cl none [] 0 h (rbig_c N _ _) fun g h=>?_
 refine cl none [] 0 h (rbig_c N _ _) fun i h=>?_
 refine jn (fun x=>x) (fun c=>mkS 5 [.box (Opn.cl rBig false b),.box [(lB false),lN],.box [(lB false),lN],.box (Opn.cl rBig true g),.box (Opn.cl rBig true i)] [vp 3 0,vp 4 1,vp 5 2,vp 9 3,vp 10 4,vb 44 c]) h (fun p h q=>?_) ?_
 refine dr mixed ?_
 refine cl none [] 0 h (rSign_c N _) fun s h=>?_
 refine gd h (fun j h=>?_) (fun j h=>?_)
 refine cl none [] 0 h (rSign_c N _) fun u h=>?_
 refine cl none [] 0 h (rSign_c N _) fun v h=>?_
 refine dk ?_
 cases h
 exact bj _ [1,2,3,4,5]
 refine dk ?_
 cases h
 exact bj _ [1,2,3,4,5]
 intro c h
 try dsimp only at h
 refine jn (fun x=>x) (fun⟨d,e⟩=>mkS 4 [.box [(lB false),lN],.box [(lB false),lN],.box (Opn.cl rBig true d),.box (Opn.cl rBig true e)] [vp 4 0,vp 5 1,vp 9 2,vp 10 3]) h (fun y h a0=>?_) ?_
 refine cd h (fun k h=>?_) (fun k h=>?_)
 refine dr mixed ?_
 refine cl none [] 0 h (rOf_c N _) fun a1 h=>?_
 refine cl none [] 0 h (rSub_c N _ _) fun a2 h=>?_
 refine cl none [] 0 h (rAdd_c N _ _) fun a3 h=>?_
 refine dk ?_
 cases h
 exact bj _ [1,2,3,4]
 cases h
 exact bj _ [1,2,3,4]
 rintro⟨d,e⟩ h
 try dsimp only at h
 refine dr mixed ?_
 refine dk ?_
 cases h
 exact rt []
theorem rSame_c(N:Nat)(a:Big)(b:Big)(r:Bool)(h:rSame N a b=some r):Cn Tryz.prog 17 [sA rBig false a,sA rBig false b] [] [sB r]:=by
 unfold rSame at h
 refine fn tb en17 Tryz.func17 fun X w H ν=>?_
 refine jn (fun x=>x) (fun c=>mkS 2 [.box (Opn.cl rBig false a),.box (Opn.cl rBig false b)] [vp 2 0,vp 3 1,vb 19 c]) h (fun m h n=>?_) ?_
 refine rg ?_
 refine gd h (fun g h=>?_) (fun g h=>?_)
 cases h
 exact bj _ [0,1]
 cases h
 exact bj _ [0,1]
 intro c h
 try dsimp only at h
 refine cd h (fun i h=>?_) (fun i h=>?_)
 cases h
 exact rt []
 refine jn (fun x=>(Sum.inl x)) (fun(_:Unit)=>mkS 0 [] []) h (fun o j d=>?_) ?_
 refine bk ?_
 refine lp (fun e=>mkS 2 [.box (Opn.cl rBig false a),.box (Opn.cl rBig false b)] [vp 2 0,vp 3 1,vi 5 e]) j [0,1] ?_
 rintro e oo h f
 rw[rSame_b1]at h
 refine cd h (fun k h=>?_) (fun k h=>?_)
 refine bk ?_
 refine dr mixed ?_
 refine ixR h fun p h=>?_
 refine ixR h fun q h=>?_
 refine dk ?_
 refine cd h (fun l h=>?_) (fun l h=>?_)
 cases h
 cases f _ rfl
 replace h:=d
 try dsimp only at h
 cases h
 exact rt []
 cases h
 exact bl [0,1]
 cases h
 cases f _ rfl
 replace h:=d
 try dsimp only at h
 exact bj _ []
 intro _ h
 try dsimp only at h
 cases h
 exact rt []
theorem rSmall_c(N:Nat)(x:Big)(r:Bool)(h:rSmall N x=some r):Cn Tryz.prog 24 [sA rBig false x] [] [sB r]:=by
 unfold rSmall at h
 refine fn tb en24 Tryz.func24 fun X w H ν=>?_
 cases h
 exact rt []
end Go.Proofs.YtipdkfmhfakbnaaGreatDoor.SR

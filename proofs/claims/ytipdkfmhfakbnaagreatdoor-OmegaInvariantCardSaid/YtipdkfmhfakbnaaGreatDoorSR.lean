/- Walks of the symbolic machine, written by a program of mine (wip/tool). -/
import Derived.Test.YtipdkfmhfakbnaaGreatDoorTB
import Derived.Test.YtipdkfmhfakbnaaGreatDoorAg
import Derived.Test.YtipdkfmhfakbnaaGreatDoorAd
set_option linter.unusedVariables false
set_option linter.unusedSimpArgs false
set_option linter.unusedSectionVars false
set_option maxRecDepth 100000
set_option maxHeartbeats 4000000
namespace Go.Proofs.YtipdkfmhfakbnaaGreatDoor.SR
open Go Go.RowKit Go.X Go.Q Go.D Go.Proofs.YtipdkfmhfakbnaaGreatDoor.TB Go.Proofs.YtipdkfmhfakbnaaGreatDoor.FS 
theorem tP(N:Nat)(l:(List Int))(r:(List Int))(h:nL N l=some r):Cn Tryz.prog 83 [sR (aD .i64) false l] [] [sR (aD .i64) false r]:=by
 unfold nL at h
 refine fn tb en83 Tryz.func83 fun X w H ν=>?_
 refine jn (fun x=>x) (fun b=>aW 0 [] [vr 0 (aD .i64) false b]) h (fun j d e=>?_) ?_
 refine bk ?_
 refine lp (fun a=>aW 0 [] [vr 0 (aD .i64) false a]) d [] ?_
 rintro a oo h f
 rw[Fe]at h
 refine jn (fun x=>x) (fun c=>aW 0 [] [vr 0 (aD .i64) false a,vb 14 c]) h (fun k h m=>?_) ?_
 refine rg ?_
 refine gd h (fun g h=>?_) (fun g h=>?_)
 refine bF h fun n h=>?_
 cases h
 exact bj _ []
 cases h
 exact bj _ []
 intro c h
 try dsimp only at h
 refine cd h (fun i h=>?_) (fun i h=>?_)
 refine bk ?_
 refine Bw h fun o h=>?_
 cases h
 exact bl []
 cases h
 cases f _ rfl
 replace h:=e
 try dsimp only at h
 exact bj _ []
 intro b h
 try dsimp only at h
 cases h
 exact rt []
theorem oY(N:Nat)(x:aB)(r:(List Int))(h:kT N x=some r):Cn Tryz.prog 51 [sA aA false x] [] [sR (aD .i64) true r]:=by
 unfold kT at h
 refine fn tb en51 Tryz.func51 fun X w H ν=>?_
 refine ji (aD .i64) ?_
 refine jn (fun x=>x) (fun a=>aW 1 [.row (aD .i64) true a] [vo 3 0]) h (fun k d e=>?_) ?_
 refine bk ?_
 refine lp (fun⟨b,c⟩=>aW 2 [.box (aO.cl aA false x),.row (aD .i64) true b] [vp 1 0,vo 3 1,vi 4 c]) d [0,1] ?_
 rintro⟨b,c⟩ oo h f
 rw[Dk]at h
 refine cd h (fun g h=>?_) (fun g h=>?_)
 refine bk ?_
 refine dr mixed ?_
 refine bF h fun i h=>?_
 refine ue ?_
 refine bF h fun j h=>?_
 refine u4 ?_
 refine de (aD .i64) true [(iw (Int.tmod i 65536)),(iw (dU (Int.tdiv j 65536)))] ?_
 refine dQ true h fun l h=>?_
 refine dk ?_
 cases h
 exact bl [0,3]
 cases h
 cases f _ rfl
 replace h:=e
 try dsimp only at h
 exact bj _ [1]
 intro a h
 try dsimp only at h
 refine po (jH 0 [3,30] []) ?_
 refine cl (some true) [] 0 h (tP N _) fun m h=>?_
 cases h
 exact rt []
theorem oM(N:Nat)(negative:Bool)(l:(List Int))(r:aB)(h:lj N negative l=some r):Cn Tryz.prog 49 [sB negative,sR (aD .i64) false l] [] [sA aA true r]:=by
 unfold lj at h
 refine fn tb en49 Tryz.func49 fun X w H ν=>?_
 refine cl (some false) [] 0 h (tP N _) fun r6 h=>?_
 refine jn (fun x=>x) (fun a=>aW 2 [.box [(lB false),lN],.box [(lB a),lN]] [vr 1 (aD .i64) false r6,vp 4 0,vp 5 1]) h (fun n h o=>?_) ?_
 refine rg ?_
 refine gd h (fun f h=>?_) (fun f h=>?_)
 cases h
 exact bj _ [0,1]
 cases h
 exact bj _ [0,1]
 intro a h
 try dsimp only at h
 refine jn (fun x=>x) (fun e=>aW 3 [.box [(lB false),lN],.box [(lB a),(.own 2)],.row (aD .u32) true e] [vp 4 0,vp 5 1]) h (fun p g i=>?_) ?_
 refine bk ?_
 refine ps (nb 1 1 (aD .u32)) ?_
 refine lp (fun⟨b,c⟩=>aW 3 [.box [(lB false),lN],.box [(lB a),(.own 2)],.row (aD .u32) true b] [vr 1 (aD .i64) false r6,vp 4 0,vp 5 1,vi 6 c]) g [0,1,2] ?_
 rintro⟨b,c⟩ oo h j
 rw[Dv]at h
 refine cd h (fun k h=>?_) (fun k h=>?_)
 refine bk ?_
 refine bF h fun s h=>?_
 refine jn (fun x=>x) (fun d=>aW 3 [.box [(lB false),lN],.box [(lB a),(.own 2)],.row (aD .u32) true b] [vr 1 (aD .i64) false r6,vp 4 0,vp 5 1,vi 6 c,vk 7 .u32 d]) h (fun u h v=>?_) ?_
 refine cd h (fun m h=>?_) (fun m h=>?_)
 refine bF h fun y h=>?_
 cases h
 exact bj _ [0,1,2]
 cases h
 exact bj _ [0,1,2]
 intro d h
 try dsimp only at h
 refine de (aD .u32) true [d] ?_
 refine dQ true h fun a0 h=>?_
 cases h
 exact bl [0,1,4]
 cases h
 cases j _ rfl
 replace h:=i
 try dsimp only at h
 exact bj _ [0,1,2]
 intro e h
 try dsimp only at h
 cases h
 exact rt []
theorem O1(N:Nat)(x:aB)(r:aB)(h:xh N x=some r):Cn Tryz.prog 129 [sA aA false x] [] [sA aA true r]:=by
 unfold xh at h
 refine fn tb en129 Tryz.func129 fun X w H ν=>?_
 refine dr mixed ?_
 refine cl none [] 0 h (oY N _) fun a h=>?_
 refine cl none [] 0 h (oM N _ _) fun b h=>?_
 refine dk ?_
 cases h
 exact rt []
theorem Kf(N:Nat)(a:(List Int))(b:(List Int))(r:Int)(h:tC N a b=some r):Cn Tryz.prog 84 [sR (aD .i64) false a,sR (aD .i64) false b] [] [sI .i64 r]:=by
 unfold tC at h
 refine fn tb en84 Tryz.func84 fun X w H ν=>?_
 refine cd h (fun hc1 h=>?_) (fun hc1 h=>?_)
 refine cd h (fun hc2 h=>?_) (fun hc2 h=>?_)
 cases h
 exact rt []
 cases h
 exact rt []
 refine jn (fun x=>(Sum.inl x)) (fun(_:Unit)=>aW 0 [] []) h (fun k f c=>?_) ?_
 refine bk ?_
 refine lp (fun e=>aW 0 [] [vr 0 (aD .i64) false a,vr 1 (aD .i64) false b,vi 5 e]) f [] ?_
 rintro e oo h d
 rw[CI]at h
 refine cd h (fun g h=>?_) (fun g h=>?_)
 refine bk ?_
 refine dr mixed ?_
 refine bF h fun l h=>?_
 refine bF h fun m h=>?_
 refine dk ?_
 refine cd h (fun i h=>?_) (fun i h=>?_)
 cases h
 cases d _ rfl
 replace h:=c
 try dsimp only at h
 cases h
 exact rt []
 refine dr mixed ?_
 refine bF h fun n h=>?_
 refine bF h fun o h=>?_
 refine dk ?_
 refine cd h (fun j h=>?_) (fun j h=>?_)
 cases h
 cases d _ rfl
 replace h:=c
 try dsimp only at h
 cases h
 exact rt []
 cases h
 exact bl []
 cases h
 cases d _ rfl
 replace h:=c
 try dsimp only at h
 exact bj _ []
 intro _ h
 try dsimp only at h
 cases h
 exact rt []
theorem Ac(N:Nat)(a:(List Int))(b:(List Int))(r:(List Int))(h:oP N a b=some r):Cn Tryz.prog 117 [sR (aD .i64) false a,sR (aD .i64) false b] [] [sR (aD .i64) true r]:=by
 unfold oP at h
 refine fn tb en117 Tryz.func117 fun X w H ν=>?_
 refine ji (aD .i64) ?_
 refine jn (fun x=>x) (fun g=>aW 1 [.row (aD .i64) true g] [vo 5 0]) h (fun v k l=>?_) ?_
 refine bk ?_
 refine lp (fun⟨c,e,d⟩=>aW 1 [.row (aD .i64) true c] [vr 0 (aD .i64) false a,vr 1 (aD .i64) false b,vo 5 0,vi 6 e,vi 7 d]) k [0] ?_
 rintro⟨c,e,d⟩ oo h m
 rw[CT]at h
 refine jn (fun x=>x) (fun i=>aW 1 [.row (aD .i64) true c] [vr 0 (aD .i64) false a,vr 1 (aD .i64) false b,vo 5 0,vi 6 e,vi 7 d,vb 22 i]) h (fun y h a0=>?_) ?_
 refine rg ?_
 refine gd h (fun n h=>?_) (fun n h=>?_)
 cases h
 exact bj _ [0]
 refine gd h (fun o h=>?_) (fun o h=>?_)
 cases h
 exact bj _ [0]
 cases h
 exact bj _ [0]
 intro i h
 try dsimp only at h
 refine cd h (fun p h=>?_) (fun p h=>?_)
 refine bk ?_
 refine jn (fun x=>x) (fun j=>aW 1 [.row (aD .i64) true c] [vr 0 (aD .i64) false a,vr 1 (aD .i64) false b,vo 5 0,vi 6 j,vi 7 d]) h (fun a1 h a2=>?_) ?_
 refine cd h (fun s h=>?_) (fun s h=>?_)
 refine bF h fun a3 h=>?_
 cases h
 exact bj _ [0]
 cases h
 exact bj _ [0]
 intro j h
 try dsimp only at h
 refine jn (fun x=>x) (fun f=>aW 1 [.row (aD .i64) true c] [vr 0 (aD .i64) false a,vr 1 (aD .i64) false b,vo 5 0,vi 6 f,vi 7 d]) h (fun a4 h a5=>?_) ?_
 refine cd h (fun u h=>?_) (fun u h=>?_)
 refine bF h fun a6 h=>?_
 cases h
 exact bj _ [0]
 cases h
 exact bj _ [0]
 intro f h
 try dsimp only at h
 refine ue ?_
 refine de (aD .i64) true [(Int.tmod f 65536)] ?_
 refine dQ true h fun a7 h=>?_
 refine u4 ?_
 cases h
 exact bl [2]
 cases h
 cases m _ rfl
 replace h:=l
 try dsimp only at h
 exact bj _ [0]
 intro g h
 try dsimp only at h
 refine po (jH 0 [5,52] []) ?_
 refine cl (some true) [] 0 h (tP N _) fun a8 h=>?_
 cases h
 exact rt []
theorem Db(N:Nat)(a:(List Int))(b:(List Int))(r:(List Int))(h:qY N a b=some r):Cn Tryz.prog 118 [sR (aD .i64) false a,sR (aD .i64) false b] [] [sR (aD .i64) true r]:=by
 unfold qY at h
 refine fn tb en118 Tryz.func118 fun X w H ν=>?_
 refine ji (aD .i64) ?_
 refine jn (fun x=>x) (fun f=>aW 1 [.row (aD .i64) true f] [vo 5 0]) h (fun s k l=>?_) ?_
 refine bk ?_
 refine lp (fun⟨c,g,d⟩=>aW 1 [.row (aD .i64) true c] [vr 0 (aD .i64) false a,vr 1 (aD .i64) false b,vo 5 0,vi 6 g,vi 7 d]) k [0] ?_
 rintro⟨c,g,d⟩ oo h m
 rw[FA]at h
 refine cd h (fun n h=>?_) (fun n h=>?_)
 refine bk ?_
 refine bF h fun u h=>?_
 refine jn (fun x=>x) (fun i=>aW 1 [.row (aD .i64) true c] [vr 0 (aD .i64) false a,vr 1 (aD .i64) false b,vo 5 0,vi 7 d,vi 8 i]) h (fun v h y=>?_) ?_
 refine cd h (fun o h=>?_) (fun o h=>?_)
 refine bF h fun a0 h=>?_
 cases h
 exact bj _ [0]
 cases h
 exact bj _ [0]
 intro i h
 try dsimp only at h
 refine jn (fun x=>x) (fun⟨j,e⟩=>aW 1 [.row (aD .i64) true c] [vr 0 (aD .i64) false a,vr 1 (aD .i64) false b,vo 5 0,vi 6 j,vi 7 d,vi 8 e]) h (fun a1 h a2=>?_) ?_
 refine cd h (fun p h=>?_) (fun p h=>?_)
 cases h
 exact bj _ [0]
 cases h
 exact bj _ [0]
 rintro⟨j,e⟩ h
 try dsimp only at h
 refine de (aD .i64) true [e] ?_
 refine dQ true h fun a3 h=>?_
 cases h
 exact bl [2]
 cases h
 cases m _ rfl
 replace h:=l
 try dsimp only at h
 exact bj _ [0]
 intro f h
 try dsimp only at h
 refine po (jH 0 [5,40] []) ?_
 refine cl (some true) [] 0 h (tP N _) fun a4 h=>?_
 cases h
 exact rt []
theorem ot(N:Nat)(x:aB)(r:Int)(h:kL N x=some r):Cn Tryz.prog 57 [sA aA false x] [] [sI .i64 r]:=by
 unfold kL at h
 refine fn tb en57 Tryz.func57 fun X w H ν=>?_
 refine cl none [] 0 h (oY N _) fun r6 h=>?_
 refine cd h (fun a h=>?_) (fun a h=>?_)
 cases h
 exact rt []
 refine cd h (fun b h=>?_) (fun b h=>?_)
 cases h
 exact rt []
 cases h
 exact rt []
theorem zw(N:Nat)(x:aB)(r:aB)(h:qa N x=some r):Cn Tryz.prog 98 [sA aA false x] [] [sA aA true r]:=by
 unfold qa at h
 refine fn tb en98 Tryz.func98 fun X w H ν=>?_
 refine dr mixed ?_
 refine cl none [] 0 h (oY N _) fun a h=>?_
 refine cl none [] 0 h (oM N _ _) fun b h=>?_
 refine dk ?_
 cases h
 exact rt []
theorem wR(N:Nat)(a:aB)(b:aB)(r:aB)(h:oK N a b=some r):Cn Tryz.prog 87 [sA aA false a,sA aA false b] [] [sA aA true r]:=by
 unfold oK at h
 refine fn tb en87 Tryz.func87 fun X w H ν=>?_
 refine dr mixed ?_
 refine cl none [] 0 h (oY N _) fun e h=>?_
 refine cl none [] 0 h (oY N _) fun f h=>?_
 refine dk ?_
 refine cd h (fun c h=>?_) (fun c h=>?_)
 refine dr mixed ?_
 refine cl none [] 0 h (Ac N _ _) fun g h=>?_
 refine cl none [] 0 h (oM N _ _) fun i h=>?_
 refine dk ?_
 cases h
 exact rt []
 refine cl none [] 0 h (Kf N _ _) fun j h=>?_
 refine cd h (fun d h=>?_) (fun d h=>?_)
 refine dr mixed ?_
 refine cl none [] 0 h (Db N _ _) fun k h=>?_
 refine cl none [] 0 h (oM N _ _) fun l h=>?_
 refine dk ?_
 cases h
 exact rt []
 refine dr mixed ?_
 refine cl none [] 0 h (Db N _ _) fun m h=>?_
 refine cl none [] 0 h (oM N _ _) fun n h=>?_
 refine dk ?_
 cases h
 exact rt []
theorem MC(N:Nat)(a:aB)(b:aB)(r:aB)(h:uM N a b=some r):Cn Tryz.prog 69 [sA aA false a,sA aA false b] [] [sA aA true r]:=by
 unfold uM at h
 refine fn tb en69 Tryz.func69 fun X w H ν=>?_
 refine dr mixed ?_
 refine cl none [] 0 h (zw N _) fun c h=>?_
 refine cl none [] 0 h (wR N _ _) fun d h=>?_
 refine dk ?_
 cases h
 exact rt []
theorem R2(N:Nat)(a:(List Int))(d:Int)(r:(List Int))(h:xJ N a d=some r):Cn Tryz.prog 119 [sR (aD .i64) false a,sI .i64 d] [] [sR (aD .i64) true r]:=by
 unfold xJ at h
 refine fn tb en119 Tryz.func119 fun X w H ν=>?_
 refine ji (aD .i64) ?_
 refine jn (fun x=>x) (fun g=>aW 1 [.row (aD .i64) true g] [vo 5 0]) h (fun p j k=>?_) ?_
 refine bk ?_
 refine lp (fun⟨b,e,c⟩=>aW 1 [.row (aD .i64) true b] [vr 0 (aD .i64) false a,vi 1 d,vo 5 0,vi 6 e,vi 7 c]) j [0] ?_
 rintro⟨b,e,c⟩ oo h l
 rw[Fs]at h
 refine jn (fun x=>x) (fun i=>aW 1 [.row (aD .i64) true b] [vr 0 (aD .i64) false a,vi 1 d,vo 5 0,vi 6 e,vi 7 c,vb 16 i]) h (fun s h u=>?_) ?_
 refine rg ?_
 refine gd h (fun m h=>?_) (fun m h=>?_)
 cases h
 exact bj _ [0]
 cases h
 exact bj _ [0]
 intro i h
 try dsimp only at h
 refine cd h (fun n h=>?_) (fun n h=>?_)
 refine bk ?_
 refine jn (fun x=>x) (fun f=>aW 1 [.row (aD .i64) true b] [vr 0 (aD .i64) false a,vi 1 d,vo 5 0,vi 6 f,vi 7 c]) h (fun v h y=>?_) ?_
 refine cd h (fun o h=>?_) (fun o h=>?_)
 refine bF h fun a0 h=>?_
 cases h
 exact bj _ [0]
 cases h
 exact bj _ [0]
 intro f h
 try dsimp only at h
 refine ue ?_
 refine de (aD .i64) true [(Int.tmod f 65536)] ?_
 refine dQ true h fun a1 h=>?_
 refine u4 ?_
 cases h
 exact bl [2]
 cases h
 cases l _ rfl
 replace h:=k
 try dsimp only at h
 exact bj _ [0]
 intro g h
 try dsimp only at h
 refine po (jH 0 [5,38] []) ?_
 refine cl (some true) [] 0 h (tP N _) fun a2 h=>?_
 cases h
 exact rt []
theorem EZ(N:Nat)(a:aB)(b:aB)(r:aB)(h:sc N a b=some r):Cn Tryz.prog 88 [sA aA false a,sA aA false b] [] [sA aA true r]:=by
 unfold sc at h
 refine fn tb en88 Tryz.func88 fun X w H ν=>?_
 refine dr mixed ?_
 refine cl none [] 0 h (oY N _) fun f h=>?_
 refine cl none [] 0 h (oY N _) fun g h=>?_
 refine dk ?_
 refine ji (aD .i64) ?_
 refine jn (fun x=>x) (fun c=>aW 3 [.box (aO.cl aA false a),.box (aO.cl aA false b),.box [(lB false),lN]] [vp 2 0,vp 3 1,vp 4 2,vr 7 (aD .i64) true c]) h (fun m i j=>?_) ?_
 refine bk ?_
 refine lp (fun⟨d,e⟩=>aW 3 [.box (aO.cl aA false a),.box (aO.cl aA false b),.box [(lB false),lN]] [vp 2 0,vp 3 1,vp 4 2,vr 5 (aD .i64) true f,vr 6 (aD .i64) true g,vr 7 (aD .i64) true d,vi 8 e]) i [0,1,2] ?_
 rintro⟨d,e⟩ oo h k
 rw[Ee]at h
 refine cd h (fun l h=>?_) (fun l h=>?_)
 refine bk ?_
 refine dr mixed ?_
 refine de (aD .i64) true [0] ?_
 refine dQ true h fun n h=>?_
 refine bF h fun o h=>?_
 refine cl none [] 0 h (R2 N _ _) fun p h=>?_
 refine cl none [] 0 h (Ac N _ _) fun s h=>?_
 refine dk ?_
 cases h
 exact bl [0,1,2]
 cases h
 cases k _ rfl
 replace h:=j
 try dsimp only at h
 exact bj _ [0,1,2]
 intro c h
 try dsimp only at h
 refine cl none [] 0 h (oM N _ _) fun u h=>?_
 cases h
 exact rt []
theorem NT(N:Nat)(a:(List Int))(b:(List Int))(r:((List Int)×(List Int)))(h:xu N a b=some r):Cn Tryz.prog 97 [sR (aD .i64) false a,sR (aD .i64) false b] [] [sR (aD .i64) true r.1,sR (aD .i64) true r.2]:=by
 unfold xu at h
 refine fn tb en97 Tryz.func97 fun X w H ν=>?_
 refine gP (aD .i64) h fun x2 h=>?_
 refine ji (aD .i64) ?_
 refine jn (fun x=>x) (fun⟨f,g⟩=>aW 1 [.row (aD .i64) true f] [vo 6 0,vr 7 (aD .i64) true g]) h (fun a4 o p=>?_) ?_
 refine bk ?_
 refine lp (fun⟨i,j,c⟩=>aW 1 [.row (aD .i64) true i] [vr 0 (aD .i64) false a,vr 1 (aD .i64) false b,vo 6 0,vr 7 (aD .i64) true j,vi 8 c]) o [0] ?_
 rintro⟨i,j,c⟩ oo h s
 rw[FO]at h
 refine cd h (fun u h=>?_) (fun u h=>?_)
 refine bk ?_
 refine jn (fun x=>x) (fun⟨k,l⟩=>aW 1 [.row (aD .i64) true k] [vr 0 (aD .i64) false a,vr 1 (aD .i64) false b,vo 6 0,vr 7 (aD .i64) true l,vi 8 c]) h (fun a5 v y=>?_) ?_
 refine bk ?_
 refine lp (fun⟨d,m,e⟩=>aW 1 [.row (aD .i64) true d] [vr 0 (aD .i64) false a,vr 1 (aD .i64) false b,vo 6 0,vr 7 (aD .i64) true m,vi 8 c,vi 9 e]) v [0] ?_
 rintro⟨d,m,e⟩ oo h a0
 rw[Bb]at h
 refine cd h (fun a1 h=>?_) (fun a1 h=>?_)
 refine bk ?_
 refine cl none [] 0 h (Ac N _ _) fun a6 h=>?_
 refine bF h fun a7 h=>?_
 refine quB h fun a8 h=>?_
 refine ue ?_
 refine jn (fun x=>x) (fun n=>aW 1 [.row (aD .i64) true d] [vr 0 (aD .i64) false a,vr 1 (aD .i64) false b,vo 6 0,vr 7 (aD .i64) true n,vi 8 c,vi 9 e]) h (fun a9 h aa=>?_) ?_
 refine cd h (fun a2 h=>?_) (fun a2 h=>?_)
 refine de (aD .i64) true [1] ?_
 refine cl none [] 0 h (Ac N _ _) fun ab h=>?_
 cases h
 exact bj _ [0]
 cases h
 exact bj _ [0]
 intro n h
 try dsimp only at h
 refine cl none [] 0 h (Kf N _ _) fun ac h=>?_
 refine cd h (fun a3 h=>?_) (fun a3 h=>?_)
 refine cl none [] 0 h (Db N _ _) fun ad h=>?_
 refine cy h fun ae h=>?_
 refine dL ?_
 refine cy h fun af h=>?_
 refine dW true h fun ag h=>?_
 refine u4 ?_
 cases h
 exact bl [0]
 refine u4 ?_
 cases h
 exact bl [0]
 cases h
 cases a0 _ rfl
 replace h:=y
 try dsimp only at h
 exact bj _ [0]
 rintro⟨k,l⟩ h
 try dsimp only at h
 cases h
 exact bl [0]
 cases h
 cases s _ rfl
 replace h:=p
 try dsimp only at h
 exact bj _ [0]
 rintro⟨f,g⟩ h
 try dsimp only at h
 refine po (jH 0 [6,53] []) ?_
 refine cl (some true) [] 0 h (tP N _) fun ah h=>?_
 cases h
 exact rt []
theorem oW(N:Nat)(n:Int)(r:aB)(h:kS N n=some r):Cn Tryz.prog 18 [sI .i64 n] [] [sA aA true r]:=by
 unfold kS at h
 refine fn tb en18 Tryz.func18 fun X w H ν=>?_
 refine jn (fun x=>x) (fun u8=>aW 1 [.box [(lB false),lN]] [vi 0 n,vp 2 0,vk 3 .u64 u8]) h (fun s9 h j=>?_) ?_
 refine cd h (fun d h=>?_) (fun d h=>?_)
 cases h
 exact bj _ [0]
 cases h
 exact bj _ [0]
 intro u8 h
 try dsimp only at h
 refine ji (aD .i64) ?_
 refine jn (fun x=>x) (fun b=>aW 2 [.box [(lB false),lN],.row (aD .i64) true b] [vi 0 n,vp 2 0,vo 4 1]) h (fun k e f=>?_) ?_
 refine bk ?_
 refine lp (fun⟨a,c⟩=>aW 2 [.box [(lB false),lN],.row (aD .i64) true c] [vi 0 n,vp 2 0,vk 3 .u64 a,vo 4 1]) e [0,1] ?_
 rintro⟨a,c⟩ oo h g
 rw[Ec]at h
 refine cd h (fun i h=>?_) (fun i h=>?_)
 refine bk ?_
 refine ue ?_
 refine de (aD .i64) true [(iw (Int.tmod a 65536))] ?_
 refine dQ true h fun l h=>?_
 refine u4 ?_
 cases h
 exact bl [0,3]
 cases h
 cases g _ rfl
 replace h:=f
 try dsimp only at h
 exact bj _ [0,1]
 intro b h
 try dsimp only at h
 refine cl none [] 0 h (oM N _ _) fun m h=>?_
 cases h
 exact rt []
theorem Ki(N:Nat)(a:aB)(b:aB)(r:(aB×aB×Bool))(h:tZ N a b=some r):Cn Tryz.prog 68 [sA aA false a,sA aA false b] [] [sA aA true r.1,sA aA true r.2.1,sB r.2.2]:=by
 unfold tZ at h
 refine fn tb en68 Tryz.func68 fun X w H ν=>?_
 refine cl none [] 0 h (ot N _) fun l h=>?_
 refine cd h (fun f h=>?_) (fun f h=>?_)
 cases h
 exact rt []
 refine dr mixed ?_
 refine cl none [] 0 h (oY N _) fun m h=>?_
 refine cl none [] 0 h (oY N _) fun n h=>?_
 refine cl none [] 0 h (NT N _ _) fun o h=>?_
 refine dk ?_
 refine cl none [] 0 h (oM N _ _) fun g h=>?_
 refine cl none [] 0 h (oM N _ _) fun i h=>?_
 refine jn (fun x=>x) (fun c=>aW 5 [.box (aO.cl aA false b),.box [(lB false),lN],.box [(lB false),lN],.box (aO.cl aA true g),.box (aO.cl aA true i)] [vp 3 0,vp 4 1,vp 5 2,vp 9 3,vp 10 4,vb 44 c]) h (fun p h s=>?_) ?_
 refine dr mixed ?_
 refine cl none [] 0 h (ot N _) fun u h=>?_
 refine gd h (fun j h=>?_) (fun j h=>?_)
 refine cl none [] 0 h (ot N _) fun v h=>?_
 refine cl none [] 0 h (ot N _) fun y h=>?_
 refine dk ?_
 cases h
 exact bj _ [1,2,3,4,5]
 refine dk ?_
 cases h
 exact bj _ [1,2,3,4,5]
 intro c h
 try dsimp only at h
 refine jn (fun x=>x) (fun⟨d,e⟩=>aW 4 [.box [(lB false),lN],.box [(lB false),lN],.box (aO.cl aA true d),.box (aO.cl aA true e)] [vp 4 0,vp 5 1,vp 9 2,vp 10 3]) h (fun a0 h a1=>?_) ?_
 refine cd h (fun k h=>?_) (fun k h=>?_)
 refine dr mixed ?_
 refine cl none [] 0 h (oW N _) fun a2 h=>?_
 refine cl none [] 0 h (MC N _ _) fun a3 h=>?_
 refine cl none [] 0 h (wR N _ _) fun a4 h=>?_
 refine dk ?_
 cases h
 exact bj _ [1,2,3,4]
 cases h
 exact bj _ [1,2,3,4]
 rintro⟨d,e⟩ h
 try dsimp only at h
 refine dr mixed ?_
 refine dk ?_
 cases h
 exact rt []
theorem D3(N:Nat)(a:aB)(b:aB)(r:Bool)(h:wV N a b=some r):Cn Tryz.prog 17 [sA aA false a,sA aA false b] [] [sB r]:=by
 unfold wV at h
 refine fn tb en17 Tryz.func17 fun X w H ν=>?_
 refine jn (fun x=>x) (fun c=>aW 2 [.box (aO.cl aA false a),.box (aO.cl aA false b)] [vp 2 0,vp 3 1,vb 19 c]) h (fun m h n=>?_) ?_
 refine rg ?_
 refine gd h (fun g h=>?_) (fun g h=>?_)
 cases h
 exact bj _ [0,1]
 cases h
 exact bj _ [0,1]
 intro c h
 try dsimp only at h
 refine cd h (fun i h=>?_) (fun i h=>?_)
 cases h
 exact rt []
 refine jn (fun x=>(Sum.inl x)) (fun(_:Unit)=>aW 0 [] []) h (fun o j d=>?_) ?_
 refine bk ?_
 refine lp (fun e=>aW 2 [.box (aO.cl aA false a),.box (aO.cl aA false b)] [vp 2 0,vp 3 1,vi 5 e]) j [0,1] ?_
 rintro e oo h f
 rw[Ja]at h
 refine cd h (fun k h=>?_) (fun k h=>?_)
 refine bk ?_
 refine dr mixed ?_
 refine bF h fun p h=>?_
 refine bF h fun s h=>?_
 refine dk ?_
 refine cd h (fun l h=>?_) (fun l h=>?_)
 cases h
 cases f _ rfl
 replace h:=d
 try dsimp only at h
 cases h
 exact rt []
 cases h
 exact bl [0,1]
 cases h
 cases f _ rfl
 replace h:=d
 try dsimp only at h
 exact bj _ []
 intro _ h
 try dsimp only at h
 cases h
 exact rt []
end Go.Proofs.YtipdkfmhfakbnaaGreatDoor.SR

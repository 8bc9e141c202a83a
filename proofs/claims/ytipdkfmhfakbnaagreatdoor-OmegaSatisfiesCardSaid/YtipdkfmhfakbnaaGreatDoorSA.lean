/- Walks of the symbolic machine, written by a program of mine (wip/tool). -/
import Derived.Test.YtipdkfmhfakbnaaGreatDoorTB
import Derived.Test.YtipdkfmhfakbnaaGreatDoorAd
set_option linter.unusedVariables false
set_option linter.unusedSimpArgs false
set_option linter.unusedSectionVars false
set_option maxRecDepth 100000
set_option maxHeartbeats 4000000
namespace Go.Proofs.YtipdkfmhfakbnaaGreatDoor.SA
open Go Go.RowKit Go.X Go.Q Go.D Go.Proofs.YtipdkfmhfakbnaaGreatDoor.TB Go.Proofs.YtipdkfmhfakbnaaGreatDoor.FS 
theorem cloneU32_c(N:Nat)(s:(List Int))(r:(List Int))(h:cloneU32 N s=some r):Cn Tryz.prog 146 [sR (rInt .u32) false s] [.row (rInt .u32) true r] [sO 0]:=by
 unfold cloneU32 at h
 refine fn tb en146 Tryz.func146 fun X w H ν=>?_
 refine eqn ?_
 refine cn (fun hnil=>?_) ?_
 replace h:some []=some r:=by rw[hnil]at h;simpa[apnd]using h
 refine pr (nl 2 (rInt .u32)) ?_
 cases h
 exact rt [0]
 refine litZ (rInt .u32) ?_
 refine apO true h fun a h=>?_
 cases h
 exact rt [1]
theorem digit_c(N:Nat)(d:(List Int))(i:Int)(r:Int)(h:digit N d i=some r):Cn Tryz.prog 115 [sR (rInt .u32) false d,sI .i64 i] [] [sI .u64 r]:=by
 unfold digit at h
 refine fn tb en115 Tryz.func115 fun X w H ν=>?_
 refine cd h (fun hc1 h=>?_) (fun hc1 h=>?_)
 refine ixR h fun x2 h=>?_
 cases h
 exact rt []
 cases h
 exact rt []
theorem bsign_c(N:Nat)(n:Int)(r:Int)(h:bsign N n=some r):Cn Tryz.prog 116 [sI .i64 n] [] [sI .i64 r]:=by
 unfold bsign at h
 refine fn tb en116 Tryz.func116 fun X w H ν=>?_
 cases h
 exact rt []
theorem btrim_c(N:Nat)(d:(List Int))(r:(List Int))(h:btrim N d=some r):Cn Tryz.prog 110 [sR (rInt .u32) false d] [.row (rInt .u32) true r] [sO 0]:=by
 unfold btrim at h
 refine fn tb en110 Tryz.func110 fun X w H ν=>?_
 refine jn (fun x=>x) (fun b=>mkS 0 [] [vr 0 (rInt .u32) false d,vi 3 b]) h (fun k e f=>?_) ?_
 refine bk ?_
 refine lp (fun a=>mkS 0 [] [vr 0 (rInt .u32) false d,vi 3 a]) e [] ?_
 rintro a oo h g
 rw[btrim_b1]at h
 refine jn (fun x=>x) (fun c=>mkS 0 [] [vr 0 (rInt .u32) false d,vi 3 a,vb 15 c]) h (fun l h m=>?_) ?_
 refine rg ?_
 refine gd h (fun i h=>?_) (fun i h=>?_)
 refine ixR h fun n h=>?_
 cases h
 exact bj _ []
 cases h
 exact bj _ []
 intro c h
 try dsimp only at h
 refine cd h (fun j h=>?_) (fun j h=>?_)
 refine bk ?_
 cases h
 exact bl []
 cases h
 cases g _ rfl
 replace h:=f
 try dsimp only at h
 exact bj _ []
 intro b h
 try dsimp only at h
 refine cutR h fun o h=>?_
 refine cl none [] 1 h (cloneU32_c N _) fun p h=>?_
 cases h
 exact rt [0]
theorem bnormal_c(N:Nat)(negative:Bool)(d:(List Int))(r:Big)(h:bnormal N negative d=some r):Cn Tryz.prog 76 [sB negative,sR (rInt .u32) false d] [] [sA rBig true r]:=by
 unfold bnormal at h
 refine fn tb en76 Tryz.func76 fun X w H ν=>?_
 refine cl none [] 1 h (btrim_c N _) fun r6 h=>?_
 refine cd h (fun a h=>?_) (fun a h=>?_)
 cases h
 exact rt []
 cases h
 exact rt []
theorem bcompare_c(N:Nat)(a:(List Int))(b:(List Int))(r:Int)(h:bcompare N a b=some r):Cn Tryz.prog 82 [sR (rInt .u32) false a,sR (rInt .u32) false b] [] [sI .i64 r]:=by
 unfold bcompare at h
 refine fn tb en82 Tryz.func82 fun X w H ν=>?_
 refine cd h (fun hc1 h=>?_) (fun hc1 h=>?_)
 refine cl none [] 0 h (bsign_c N _) fun r2 h=>?_
 cases h
 exact rt []
 refine jn (fun x=>(Sum.inl x)) (fun(_:Unit)=>mkS 0 [] []) h (fun k f c=>?_) ?_
 refine bk ?_
 refine lp (fun e=>mkS 0 [] [vr 0 (rInt .u32) false a,vr 1 (rInt .u32) false b,vi 5 e]) f [] ?_
 rintro e oo h d
 rw[bcompare_b1]at h
 refine cd h (fun g h=>?_) (fun g h=>?_)
 refine bk ?_
 refine dr mixed ?_
 refine ixR h fun l h=>?_
 refine ixR h fun m h=>?_
 refine dk ?_
 refine cd h (fun i h=>?_) (fun i h=>?_)
 cases h
 cases d _ rfl
 replace h:=c
 try dsimp only at h
 cases h
 exact rt []
 refine dr mixed ?_
 refine ixR h fun n h=>?_
 refine ixR h fun o h=>?_
 refine dk ?_
 refine cd h (fun j h=>?_) (fun j h=>?_)
 cases h
 cases d _ rfl
 replace h:=c
 try dsimp only at h
 cases h
 exact rt []
 cases h
 exact bl []
 cases h
 cases d _ rfl
 replace h:=c
 try dsimp only at h
 exact bj _ []
 intro _ h
 try dsimp only at h
 cases h
 exact rt []
theorem bplus_c(N:Nat)(a:(List Int))(b:(List Int))(r:(List Int))(h:bplus N a b=some r):Cn Tryz.prog 80 [sR (rInt .u32) false a,sR (rInt .u32) false b] [.row (rInt .u32) true r] [sO 0]:=by
 unfold bplus at h
 refine fn tb en80 Tryz.func80 fun X w H ν=>?_
 refine mkO (rInt .u32) h fun x2 h=>?_
 refine jn (fun x=>x) (fun c=>mkS 1 [.row (rInt .u32) true c] [vo 5 0]) h (fun l g i=>?_) ?_
 refine bk ?_
 refine lp (fun⟨d,e,f⟩=>mkS 1 [.row (rInt .u32) true d] [vr 0 (rInt .u32) false a,vr 1 (rInt .u32) false b,vo 5 0,vk 6 .u64 e,vi 16 (List.length x2:Int),vi 17 f]) g [0] ?_
 rintro⟨d,e,f⟩ oo h j
 rw[bplus_b1]at h
 refine cd h (fun k h=>?_) (fun k h=>?_)
 refine bk ?_
 refine cl none [] 0 h (digit_c N _ _) fun m h=>?_
 refine cl none [] 0 h (digit_c N _ _) fun n h=>?_
 refine ixO h fun o h=>?_
 refine stO true h fun p h=>?_
 refine srL ?_
 cases h
 exact bl [0]
 cases h
 cases j _ rfl
 replace h:=i
 try dsimp only at h
 exact bj _ [0]
 intro c h
 try dsimp only at h
 cases h
 exact rt [0]
theorem bminus_c(N:Nat)(a:(List Int))(b:(List Int))(r:(List Int))(h:bminus N a b=some r):Cn Tryz.prog 81 [sR (rInt .u32) false a,sR (rInt .u32) false b] [.row (rInt .u32) true r] [sO 0]:=by
 unfold bminus at h
 refine fn tb en81 Tryz.func81 fun X w H ν=>?_
 refine mkO (rInt .u32) h fun x2 h=>?_
 refine jn (fun x=>x) (fun c=>mkS 1 [.row (rInt .u32) true c] [vo 5 0]) h (fun l g i=>?_) ?_
 refine bk ?_
 refine lp (fun⟨d,e,f⟩=>mkS 1 [.row (rInt .u32) true d] [vr 0 (rInt .u32) false a,vr 1 (rInt .u32) false b,vo 5 0,vk 6 .u64 e,vi 13 (List.length a:Int),vi 14 f]) g [0] ?_
 rintro⟨d,e,f⟩ oo h j
 rw[bminus_b1]at h
 refine cd h (fun k h=>?_) (fun k h=>?_)
 refine bk ?_
 refine dr mixed ?_
 refine ixR h fun m h=>?_
 refine cl none [] 0 h (digit_c N _ _) fun n h=>?_
 refine dk ?_
 refine ixO h fun o h=>?_
 refine stO true h fun p h=>?_
 refine srL ?_
 cases h
 exact bl [0]
 cases h
 cases j _ rfl
 replace h:=i
 try dsimp only at h
 exact bj _ [0]
 intro c h
 try dsimp only at h
 cases h
 exact rt [0]
theorem btimes_c(N:Nat)(a:(List Int))(b:(List Int))(r:(List Int))(h:btimes N a b=some r):Cn Tryz.prog 86 [sR (rInt .u32) false a,sR (rInt .u32) false b] [.row (rInt .u32) true r] [sO 0]:=by
 unfold btimes at h
 refine fn tb en86 Tryz.func86 fun X w H ν=>?_
 refine mkO (rInt .u32) h fun x2 h=>?_
 refine jn (fun x=>x) (fun d=>mkS 1 [.row (rInt .u32) true d] [vo 5 0]) h (fun y l m=>?_) ?_
 refine bk ?_
 refine lp (fun⟨e,c⟩=>mkS 1 [.row (rInt .u32) true e] [vr 1 (rInt .u32) false b,vo 5 0,vr 17 (rInt .u32) false a,vi 18 (List.length a:Int),vi 19 c]) l [0] ?_
 rintro⟨e,c⟩ oo h n
 rw[btimes_b1]at h
 refine cd h (fun o h=>?_) (fun o h=>?_)
 refine bk ?_
 refine ixR h fun p h=>?_
 refine jn (fun x=>x) (fun⟨f,g⟩=>mkS 1 [.row (rInt .u32) true f] [vr 1 (rInt .u32) false b,vo 5 0,vi 6 c,vk 8 .u64 g,vr 17 (rInt .u32) false a,vi 18 (List.length a:Int),vi 19 c]) h (fun a0 q s=>?_) ?_
 refine bk ?_
 refine lp (fun⟨i,j,k⟩=>mkS 1 [.row (rInt .u32) true i] [vr 1 (rInt .u32) false b,vo 5 0,vi 6 c,vk 7 .u32 p,vk 8 .u64 j,vr 17 (rInt .u32) false a,vi 18 (List.length a:Int),vi 19 c,vr 24 (rInt .u32) false b,vi 25 (List.length b:Int),vi 26 k]) q [0] ?_
 rintro⟨i,j,k⟩ oo h u
 rw[btimes_b2]at h
 refine cd h (fun v h=>?_) (fun v h=>?_)
 refine bk ?_
 refine ixR h fun a1 h=>?_
 refine ixO h fun a2 h=>?_
 refine ldO ?_
 refine ixO h fun a3 h=>?_
 refine stO true h fun a4 h=>?_
 refine srL ?_
 cases h
 exact bl [0]
 cases h
 cases u _ rfl
 replace h:=s
 try dsimp only at h
 exact bj _ [0]
 rintro⟨f,g⟩ h
 try dsimp only at h
 refine ixO h fun a5 h=>?_
 refine stO true h fun a6 h=>?_
 cases h
 exact bl [0]
 cases h
 cases n _ rfl
 replace h:=m
 try dsimp only at h
 exact bj _ [0]
 intro d h
 try dsimp only at h
 cases h
 exact rt [0]
theorem bshort_c(N:Nat)(a:(List Int))(pb:Int)(r:((List Int)×Int))(h:bshort N a pb=some r):Cn Tryz.prog 111 [sR (rInt .u32) false a,sI .u32 pb] [.row (rInt .u32) true r.1] [sO 0,sI .u32 r.2]:=by
 unfold bshort at h
 refine fn tb en111 Tryz.func111 fun X w H ν=>?_
 refine mkO (rInt .u32) h fun x2 h=>?_
 refine jn (fun x=>x) (fun⟨b,c⟩=>mkS 1 [.row (rInt .u32) true b] [vo 6 0,vk 7 .u64 c]) h (fun l g i=>?_) ?_
 refine bk ?_
 refine lp (fun⟨d,e,f⟩=>mkS 1 [.row (rInt .u32) true d] [vr 0 (rInt .u32) false a,vk 1 .u32 pb,vo 6 0,vk 7 .u64 e,vi 8 f]) g [0] ?_
 rintro⟨d,e,f⟩ oo h j
 rw[bshort_b1]at h
 refine cd h (fun k h=>?_) (fun k h=>?_)
 refine bk ?_
 refine slL ?_
 refine ixR h fun m h=>?_
 refine quB h fun n h=>?_
 refine ixO h fun o h=>?_
 refine stO true h fun p h=>?_
 refine reB h fun q h=>?_
 cases h
 exact bl [0]
 cases h
 cases j _ rfl
 replace h:=i
 try dsimp only at h
 exact bj _ [0]
 rintro⟨b,c⟩ h
 try dsimp only at h
 cases h
 exact rt [0]
theorem bshift_c(N:Nat)(a:(List Int))(n:Int)(r:(List Int))(h:bshift N a n=some r):Cn Tryz.prog 113 [sR (rInt .u32) false a,sI .u64 n] [.row (rInt .u32) true r] [sO 0]:=by
 unfold bshift at h
 refine fn tb en113 Tryz.func113 fun X w H ν=>?_
 refine mkO (rInt .u32) h fun x2 h=>?_
 refine jn (fun x=>x) (fun b=>mkS 1 [.row (rInt .u32) true b] [vo 5 0]) h (fun j e f=>?_) ?_
 refine bk ?_
 refine lp (fun⟨c,d⟩=>mkS 1 [.row (rInt .u32) true c] [vk 1 .u64 n,vo 5 0,vr 13 (rInt .u32) false a,vi 14 (List.length a:Int),vi 15 d]) e [0] ?_
 rintro⟨c,d⟩ oo h g
 rw[bshift_b1]at h
 refine cd h (fun i h=>?_) (fun i h=>?_)
 refine bk ?_
 refine ixR h fun k h=>?_
 refine slB h fun l h=>?_
 refine ixO h fun m h=>?_
 refine ldO ?_
 refine ixO h fun o h=>?_
 refine stO true h fun p h=>?_
 refine srL ?_
 refine ixO h fun q h=>?_
 refine stO true h fun s h=>?_
 cases h
 exact bl [0]
 cases h
 cases g _ rfl
 replace h:=f
 try dsimp only at h
 exact bj _ [0]
 intro b h
 try dsimp only at h
 cases h
 exact rt [0]
end Go.Proofs.YtipdkfmhfakbnaaGreatDoor.SA

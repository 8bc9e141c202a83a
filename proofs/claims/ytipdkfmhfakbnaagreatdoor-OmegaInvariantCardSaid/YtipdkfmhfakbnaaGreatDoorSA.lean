/- Walks of the symbolic machine, written by a program of mine (wip/tool). -/
import Derived.Test.YtipdkfmhfakbnaaGreatDoorTB
import Derived.Test.YtipdkfmhfakbnaaGreatDoorAg
import Derived.Test.YtipdkfmhfakbnaaGreatDoorAd
set_option linter.unusedVariables false
set_option linter.unusedSimpArgs false
set_option linter.unusedSectionVars false
set_option maxRecDepth 100000
set_option maxHeartbeats 4000000
namespace Go.Proofs.YtipdkfmhfakbnaaGreatDoor.SA
open Go Go.RowKit Go.X Go.Q Go.D Go.Proofs.YtipdkfmhfakbnaaGreatDoor.TB Go.Proofs.YtipdkfmhfakbnaaGreatDoor.FS 
theorem Re(N:Nat)(s:(List Int))(r:(List Int))(h:wx N s=some r):Cn Tryz.prog 146 [sR (aD .u32) false s] [.row (aD .u32) true r] [sO 0]:=by
 unfold wx at h
 refine fn tb en146 Tryz.func146 fun X w H ν=>?_
 refine vA ?_
 refine cn (fun hnil=>?_) ?_
 replace h:some []=some r:=by rw[hnil]at h;simpa[cM]using h
 refine pr (nl 2 (aD .u32)) ?_
 cases h
 exact rt [0]
 refine ji (aD .u32) ?_
 refine dQ true h fun a h=>?_
 cases h
 exact rt [1]
theorem Am(N:Nat)(d:(List Int))(i:Int)(r:Int)(h:digit N d i=some r):Cn Tryz.prog 115 [sR (aD .u32) false d,sI .i64 i] [] [sI .u64 r]:=by
 unfold digit at h
 refine fn tb en115 Tryz.func115 fun X w H ν=>?_
 refine cd h (fun hc1 h=>?_) (fun hc1 h=>?_)
 refine bF h fun x2 h=>?_
 cases h
 exact rt []
 cases h
 exact rt []
theorem S3(N:Nat)(n:Int)(r:Int)(h:Ar N n=some r):Cn Tryz.prog 116 [sI .i64 n] [] [sI .i64 r]:=by
 unfold Ar at h
 refine fn tb en116 Tryz.func116 fun X w H ν=>?_
 cases h
 exact rt []
theorem pt(N:Nat)(d:(List Int))(r:(List Int))(h:k7 N d=some r):Cn Tryz.prog 110 [sR (aD .u32) false d] [.row (aD .u32) true r] [sO 0]:=by
 unfold k7 at h
 refine fn tb en110 Tryz.func110 fun X w H ν=>?_
 refine jn (fun x=>x) (fun b=>aW 0 [] [vr 0 (aD .u32) false d,vi 3 b]) h (fun k e f=>?_) ?_
 refine bk ?_
 refine lp (fun a=>aW 0 [] [vr 0 (aD .u32) false d,vi 3 a]) e [] ?_
 rintro a oo h g
 rw[Fz]at h
 refine jn (fun x=>x) (fun c=>aW 0 [] [vr 0 (aD .u32) false d,vi 3 a,vb 15 c]) h (fun l h m=>?_) ?_
 refine rg ?_
 refine gd h (fun i h=>?_) (fun i h=>?_)
 refine bF h fun n h=>?_
 cases h
 exact bj _ []
 cases h
 exact bj _ []
 intro c h
 try dsimp only at h
 refine cd h (fun j h=>?_) (fun j h=>?_)
 refine bk ?_
 cases h
 exact bl []
 cases h
 cases g _ rfl
 replace h:=f
 try dsimp only at h
 exact bj _ []
 intro b h
 try dsimp only at h
 refine Bw h fun o h=>?_
 refine cl none [] 1 h (Re N _) fun p h=>?_
 cases h
 exact rt [0]
theorem l8(N:Nat)(negative:Bool)(d:(List Int))(r:aB)(h:jQ N negative d=some r):Cn Tryz.prog 76 [sB negative,sR (aD .u32) false d] [] [sA aA true r]:=by
 unfold jQ at h
 refine fn tb en76 Tryz.func76 fun X w H ν=>?_
 refine cl none [] 1 h (pt N _) fun r6 h=>?_
 refine cd h (fun a h=>?_) (fun a h=>?_)
 cases h
 exact rt []
 cases h
 exact rt []
theorem A1(N:Nat)(a:(List Int))(b:(List Int))(r:Int)(h:qF N a b=some r):Cn Tryz.prog 82 [sR (aD .u32) false a,sR (aD .u32) false b] [] [sI .i64 r]:=by
 unfold qF at h
 refine fn tb en82 Tryz.func82 fun X w H ν=>?_
 refine cd h (fun hc1 h=>?_) (fun hc1 h=>?_)
 refine cl none [] 0 h (S3 N _) fun r2 h=>?_
 cases h
 exact rt []
 refine jn (fun x=>(Sum.inl x)) (fun(_:Unit)=>aW 0 [] []) h (fun k f c=>?_) ?_
 refine bk ?_
 refine lp (fun e=>aW 0 [] [vr 0 (aD .u32) false a,vr 1 (aD .u32) false b,vi 5 e]) f [] ?_
 rintro e oo h d
 rw[CW]at h
 refine cd h (fun g h=>?_) (fun g h=>?_)
 refine bk ?_
 refine dr mixed ?_
 refine bF h fun l h=>?_
 refine bF h fun m h=>?_
 refine dk ?_
 refine cd h (fun i h=>?_) (fun i h=>?_)
 cases h
 cases d _ rfl
 replace h:=c
 try dsimp only at h
 cases h
 exact rt []
 refine dr mixed ?_
 refine bF h fun n h=>?_
 refine bF h fun o h=>?_
 refine dk ?_
 refine cd h (fun j h=>?_) (fun j h=>?_)
 cases h
 cases d _ rfl
 replace h:=c
 try dsimp only at h
 cases h
 exact rt []
 cases h
 exact bl []
 cases h
 cases d _ rfl
 replace h:=c
 try dsimp only at h
 exact bj _ []
 intro _ h
 try dsimp only at h
 cases h
 exact rt []
theorem Hr(N:Nat)(a:(List Int))(b:(List Int))(r:(List Int))(h:vj N a b=some r):Cn Tryz.prog 80 [sR (aD .u32) false a,sR (aD .u32) false b] [.row (aD .u32) true r] [sO 0]:=by
 unfold vj at h
 refine fn tb en80 Tryz.func80 fun X w H ν=>?_
 refine gP (aD .u32) h fun x2 h=>?_
 refine jn (fun x=>x) (fun c=>aW 1 [.row (aD .u32) true c] [vo 5 0]) h (fun l g i=>?_) ?_
 refine bk ?_
 refine lp (fun⟨d,e,f⟩=>aW 1 [.row (aD .u32) true d] [vr 0 (aD .u32) false a,vr 1 (aD .u32) false b,vo 5 0,vk 6 .u64 e,vi 16 (List.length x2:Int),vi 17 f]) g [0] ?_
 rintro⟨d,e,f⟩ oo h j
 rw[E8]at h
 refine cd h (fun k h=>?_) (fun k h=>?_)
 refine bk ?_
 refine cl none [] 0 h (Am N _ _) fun m h=>?_
 refine cl none [] 0 h (Am N _ _) fun n h=>?_
 refine cy h fun o h=>?_
 refine dW true h fun p h=>?_
 refine mS ?_
 cases h
 exact bl [0]
 cases h
 cases j _ rfl
 replace h:=i
 try dsimp only at h
 exact bj _ [0]
 intro c h
 try dsimp only at h
 cases h
 exact rt [0]
theorem C8(N:Nat)(a:(List Int))(b:(List Int))(r:(List Int))(h:rO N a b=some r):Cn Tryz.prog 81 [sR (aD .u32) false a,sR (aD .u32) false b] [.row (aD .u32) true r] [sO 0]:=by
 unfold rO at h
 refine fn tb en81 Tryz.func81 fun X w H ν=>?_
 refine gP (aD .u32) h fun x2 h=>?_
 refine jn (fun x=>x) (fun c=>aW 1 [.row (aD .u32) true c] [vo 5 0]) h (fun l g i=>?_) ?_
 refine bk ?_
 refine lp (fun⟨d,e,f⟩=>aW 1 [.row (aD .u32) true d] [vr 0 (aD .u32) false a,vr 1 (aD .u32) false b,vo 5 0,vk 6 .u64 e,vi 13 (List.length a:Int),vi 14 f]) g [0] ?_
 rintro⟨d,e,f⟩ oo h j
 rw[E6]at h
 refine cd h (fun k h=>?_) (fun k h=>?_)
 refine bk ?_
 refine dr mixed ?_
 refine bF h fun m h=>?_
 refine cl none [] 0 h (Am N _ _) fun n h=>?_
 refine dk ?_
 refine cy h fun o h=>?_
 refine dW true h fun p h=>?_
 refine mS ?_
 cases h
 exact bl [0]
 cases h
 cases j _ rfl
 replace h:=i
 try dsimp only at h
 exact bj _ [0]
 intro c h
 try dsimp only at h
 cases h
 exact rt [0]
theorem TS(N:Nat)(a:(List Int))(b:(List Int))(r:(List Int))(h:xe N a b=some r):Cn Tryz.prog 86 [sR (aD .u32) false a,sR (aD .u32) false b] [.row (aD .u32) true r] [sO 0]:=by
 unfold xe at h
 refine fn tb en86 Tryz.func86 fun X w H ν=>?_
 refine gP (aD .u32) h fun x2 h=>?_
 refine jn (fun x=>x) (fun d=>aW 1 [.row (aD .u32) true d] [vo 5 0]) h (fun a0 l m=>?_) ?_
 refine bk ?_
 refine lp (fun⟨e,c⟩=>aW 1 [.row (aD .u32) true e] [vr 1 (aD .u32) false b,vo 5 0,vr 17 (aD .u32) false a,vi 18 (List.length a:Int),vi 19 c]) l [0] ?_
 rintro⟨e,c⟩ oo h n
 rw[Cv]at h
 refine cd h (fun o h=>?_) (fun o h=>?_)
 refine bk ?_
 refine bF h fun p h=>?_
 refine jn (fun x=>x) (fun⟨f,g⟩=>aW 1 [.row (aD .u32) true f] [vr 1 (aD .u32) false b,vo 5 0,vi 6 c,vk 8 .u64 g,vr 17 (aD .u32) false a,vi 18 (List.length a:Int),vi 19 c]) h (fun a1 s u=>?_) ?_
 refine bk ?_
 refine lp (fun⟨i,j,k⟩=>aW 1 [.row (aD .u32) true i] [vr 1 (aD .u32) false b,vo 5 0,vi 6 c,vk 7 .u32 p,vk 8 .u64 j,vr 17 (aD .u32) false a,vi 18 (List.length a:Int),vi 19 c,vr 24 (aD .u32) false b,vi 25 (List.length b:Int),vi 26 k]) s [0] ?_
 rintro⟨i,j,k⟩ oo h v
 rw[Fw]at h
 refine cd h (fun y h=>?_) (fun y h=>?_)
 refine bk ?_
 refine bF h fun a2 h=>?_
 refine cy h fun a3 h=>?_
 refine dL ?_
 refine cy h fun a4 h=>?_
 refine dW true h fun a5 h=>?_
 refine mS ?_
 cases h
 exact bl [0]
 cases h
 cases v _ rfl
 replace h:=u
 try dsimp only at h
 exact bj _ [0]
 rintro⟨f,g⟩ h
 try dsimp only at h
 refine cy h fun a6 h=>?_
 refine dW true h fun a7 h=>?_
 cases h
 exact bl [0]
 cases h
 cases n _ rfl
 replace h:=m
 try dsimp only at h
 exact bj _ [0]
 intro d h
 try dsimp only at h
 cases h
 exact rt [0]
theorem Me(N:Nat)(a:(List Int))(pb:Int)(r:((List Int)×Int))(h:uc N a pb=some r):Cn Tryz.prog 111 [sR (aD .u32) false a,sI .u32 pb] [.row (aD .u32) true r.1] [sO 0,sI .u32 r.2]:=by
 unfold uc at h
 refine fn tb en111 Tryz.func111 fun X w H ν=>?_
 refine gP (aD .u32) h fun x2 h=>?_
 refine jn (fun x=>x) (fun⟨b,c⟩=>aW 1 [.row (aD .u32) true b] [vo 6 0,vk 7 .u64 c]) h (fun l g i=>?_) ?_
 refine bk ?_
 refine lp (fun⟨d,e,f⟩=>aW 1 [.row (aD .u32) true d] [vr 0 (aD .u32) false a,vk 1 .u32 pb,vo 6 0,vk 7 .u64 e,vi 8 f]) g [0] ?_
 rintro⟨d,e,f⟩ oo h j
 rw[Eg]at h
 refine cd h (fun k h=>?_) (fun k h=>?_)
 refine bk ?_
 refine slL ?_
 refine bF h fun m h=>?_
 refine quB h fun n h=>?_
 refine cy h fun o h=>?_
 refine dW true h fun p h=>?_
 refine reB h fun s h=>?_
 cases h
 exact bl [0]
 cases h
 cases j _ rfl
 replace h:=i
 try dsimp only at h
 exact bj _ [0]
 rintro⟨b,c⟩ h
 try dsimp only at h
 cases h
 exact rt [0]
theorem GX(N:Nat)(a:(List Int))(n:Int)(r:(List Int))(h:uJ N a n=some r):Cn Tryz.prog 113 [sR (aD .u32) false a,sI .u64 n] [.row (aD .u32) true r] [sO 0]:=by
 unfold uJ at h
 refine fn tb en113 Tryz.func113 fun X w H ν=>?_
 refine gP (aD .u32) h fun x2 h=>?_
 refine jn (fun x=>x) (fun b=>aW 1 [.row (aD .u32) true b] [vo 5 0]) h (fun j e f=>?_) ?_
 refine bk ?_
 refine lp (fun⟨c,d⟩=>aW 1 [.row (aD .u32) true c] [vk 1 .u64 n,vo 5 0,vr 13 (aD .u32) false a,vi 14 (List.length a:Int),vi 15 d]) e [0] ?_
 rintro⟨c,d⟩ oo h g
 rw[CG]at h
 refine cd h (fun i h=>?_) (fun i h=>?_)
 refine bk ?_
 refine bF h fun k h=>?_
 refine slB h fun l h=>?_
 refine cy h fun m h=>?_
 refine dL ?_
 refine cy h fun o h=>?_
 refine dW true h fun p h=>?_
 refine mS ?_
 refine cy h fun s h=>?_
 refine dW true h fun u h=>?_
 cases h
 exact bl [0]
 cases h
 cases g _ rfl
 replace h:=f
 try dsimp only at h
 exact bj _ [0]
 intro b h
 try dsimp only at h
 cases h
 exact rt [0]
end Go.Proofs.YtipdkfmhfakbnaaGreatDoor.SA

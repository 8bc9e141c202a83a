/- Walks of the symbolic machine, written by a program of mine (wip/tool). -/
import Derived.Test.YtcakdidcpoolcaaGreatDoorTB
import Derived.Test.YtcakdidcpoolcaaGreatDoorAd
set_option linter.unusedVariables false
set_option linter.unusedSimpArgs false
set_option linter.unusedSectionVars false
set_option maxRecDepth 100000
set_option maxHeartbeats 4000000
namespace Go.Proofs.YtcakdidcpoolcaaGreatDoor.SH
open Go Go.RowKit Go.X Go.Q Go.D Go.Proofs.YtcakdidcpoolcaaGreatDoor.TB 
theorem qPrintable_c(N:Nat)(s:(List UInt8))(r:Bool)(h:qPrintable N s=some r):Cn Tryz.prog 57 [sT s] [] [sB r]:=by
 unfold qPrintable at h
 refine fn tb en57 Tryz.func57 fun X w H ν=>?_
 refine jn (fun x=>(Sum.inl x)) (fun(_:Unit)=>mkS 0 [] []) h (fun j e b=>?_) ?_
 refine bk ?_
 refine lp (fun a=>mkS 0 [] [vt 0 s,vi 3 a]) e [] ?_
 rintro a oo h c
 rw[qPrintable_b1]at h
 refine cd h (fun f h=>?_) (fun f h=>?_)
 refine bk ?_
 refine jn (fun x=>x) (fun d=>mkS 0 [] [vt 0 s,vi 3 a,vb 19 d]) h (fun k h l=>?_) ?_
 refine rg ?_
 refine ixS h fun m h=>?_
 refine gd h (fun g h=>?_) (fun g h=>?_)
 cases h
 exact bj _ []
 refine ixS h fun n h=>?_
 cases h
 exact bj _ []
 intro d h
 try dsimp only at h
 refine cd h (fun i h=>?_) (fun i h=>?_)
 cases h
 cases c _ rfl
 replace h:=b
 try dsimp only at h
 cases h
 exact rt []
 cases h
 exact bl []
 cases h
 cases c _ rfl
 replace h:=b
 try dsimp only at h
 exact bj _ []
 intro _ h
 try dsimp only at h
 cases h
 exact rt []
theorem qClosed_c(N:Nat)(p:(List UInt8))(vset:(List Int))(r:((List UInt8)×(List Int)))(h:qClosed N p vset=some r):Cx Tryz.prog 118 [sT p,sO 0] [.row (rInt .u8) true vset] [(0,some (.row (rInt .u8) true r.2))] [sT r.1]:=by
 unfold qClosed at h
 refine fn tb en118 Tryz.func118 fun X w H ν=>?_
 refine jn (fun x=>x) (fun c=>mkS 1 [.row (rInt .u8) true c] [vo 1 0]) h (fun l e f=>?_) ?_
 refine bk ?_
 refine lp (fun⟨a,b⟩=>mkS 1 [.row (rInt .u8) true a] [vt 0 p,vo 1 0,vi 5 b]) e [0] ?_
 rintro⟨a,b⟩ oo h g
 rw[qClosed_b1]at h
 refine cd h (fun i h=>?_) (fun i h=>?_)
 refine bk ?_
 refine jn (fun x=>x) (fun d=>mkS 1 [.row (rInt .u8) true a] [vt 0 p,vo 1 0,vi 5 b,vb 22 d]) h (fun m h n=>?_) ?_
 refine rg ?_
 refine ixO h fun o h=>?_
 refine ldO ?_
 refine gd h (fun j h=>?_) (fun j h=>?_)
 refine ixS h fun q h=>?_
 cases h
 exact bj _ [0]
 cases h
 exact bj _ [0]
 intro d h
 try dsimp only at h
 refine cd h (fun k h=>?_) (fun k h=>?_)
 refine ixO h fun s h=>?_
 refine stO true h fun u h=>?_
 cases h
 exact bl [0]
 cases h
 exact bl [0]
 cases h
 cases g _ rfl
 replace h:=f
 try dsimp only at h
 exact bj _ [0]
 intro c h
 try dsimp only at h
 refine cvT ?_
 cases h
 exact rt [0]
theorem qStart_c(N:Nat)(t:TTest)(r:(List UInt8))(h:qStart N t=some r):Cn Tryz.prog 87 [sA rTTest false t] [] [sT r]:=by
 unfold qStart at h
 refine fn tb en87 Tryz.func87 fun X w H ν=>?_
 refine cd h (fun hc6 h=>?_) (fun hc6 h=>?_)
 refine litO (rInt .u8) true [0] ?_
 refine cvT ?_
 refine sdB h fun _ h=>?_
 cases h
 exact rt []
 refine mkO (rInt .u8) h fun a h=>?_
 refine ixO h fun b h=>?_
 refine stO true h fun c h=>?_
 refine cl none [1] 0 h (qClosed_c N _ _) (fun d h=>?_)
 cases h
 exact rt []
theorem qStep_c(N:Nat)(t:TTest)(s:(List UInt8))(c:Int)(r:(List UInt8))(h:qStep N t s c=some r):Cn Tryz.prog 88 [sA rTTest false t,sT s,sI .u8 c] [] [sT r]:=by
 unfold qStep at h
 refine fn tb en88 Tryz.func88 fun X w H ν=>?_
 refine cd h (fun hc6 h=>?_) (fun hc6 h=>?_)
 refine mkO (rInt .u8) h fun x8 h=>?_
 refine jn (fun x=>x) (fun e=>mkS 1 [.row (rInt .u8) true e] [vt 7 t.Text,vo 8 0]) h (fun a4 k l=>?_) ?_
 refine bk ?_
 refine lp (fun⟨b,a⟩=>mkS 1 [.row (rInt .u8) true b] [vt 1 s,vk 2 .u8 c,vt 7 t.Text,vo 8 0,vi 9 a]) k [1] ?_
 rintro⟨b,a⟩ oo h m
 rw[qStep_b1]at h
 refine cd h (fun n h=>?_) (fun n h=>?_)
 refine bk ?_
 refine jn (fun x=>x) (fun f=>mkS 1 [.row (rInt .u8) true b] [vt 1 s,vk 2 .u8 c,vt 7 t.Text,vo 8 0,vi 9 a,vb 35 f]) h (fun a5 h a6=>?_) ?_
 refine rg ?_
 refine ixS h fun a7 h=>?_
 refine gd h (fun o h=>?_) (fun o h=>?_)
 refine ixS h fun a8 h=>?_
 cases h
 exact bj _ [0]
 cases h
 exact bj _ [0]
 intro f h
 try dsimp only at h
 refine jn (fun x=>x) (fun d=>mkS 1 [.row (rInt .u8) true d] [vt 1 s,vk 2 .u8 c,vt 7 t.Text,vo 8 0,vi 9 a]) h (fun a9 h aa=>?_) ?_
 refine cd h (fun p h=>?_) (fun p h=>?_)
 refine ixO h fun ab h=>?_
 refine stO true h fun ac h=>?_
 cases h
 exact bj _ [0]
 cases h
 exact bj _ [0]
 intro d h
 try dsimp only at h
 refine jn (fun x=>x) (fun g=>mkS 1 [.row (rInt .u8) true d] [vt 1 s,vk 2 .u8 c,vt 7 t.Text,vo 8 0,vi 9 a,vb 59 g]) h (fun ad h ae=>?_) ?_
 refine rg ?_
 refine ixS h fun af h=>?_
 refine gd h (fun q h=>?_) (fun q h=>?_)
 refine ixS h fun ag h=>?_
 refine gd h (fun u h=>?_) (fun u h=>?_)
 cases h
 exact bj _ [0]
 refine ixS h fun ah h=>?_
 refine gd h (fun v h=>?_) (fun v h=>?_)
 cases h
 exact bj _ [0]
 cases h
 exact bj _ [0]
 cases h
 exact bj _ [0]
 intro g h
 try dsimp only at h
 refine cd h (fun y h=>?_) (fun y h=>?_)
 refine ixO h fun ai h=>?_
 refine stO true h fun aj h=>?_
 cases h
 exact bl [0]
 cases h
 exact bl [0]
 cases h
 cases m _ rfl
 replace h:=l
 try dsimp only at h
 exact bj _ [0]
 intro e h
 try dsimp only at h
 refine cl none [0] 0 h (qClosed_c N _ _) (fun ak h=>?_)
 cases h
 exact rt []
 refine ixS h fun al h=>?_
 refine cd h (fun a0 h=>?_) (fun a0 h=>?_)
 cases h
 exact rt []
 refine ixS h fun i h=>?_
 refine jn (fun x=>x) (fun j=>mkS 0 [] [vk 2 .u8 c,vt 7 t.Text,vi 10 (iw (UInt8.toNat i:Int)),vb 84 j]) h (fun am h an=>?_) ?_
 refine rg ?_
 refine gd h (fun a1 h=>?_) (fun a1 h=>?_)
 cases h
 exact bj _ []
 refine ixS h fun ao h=>?_
 cases h
 exact bj _ []
 intro j h
 try dsimp only at h
 refine cd h (fun a2 h=>?_) (fun a2 h=>?_)
 cases h
 exact rt []
 refine ixS h fun aq h=>?_
 refine cd h (fun a3 h=>?_) (fun a3 h=>?_)
 cases h
 exact rt []
 refine litO (rInt .u8) true [(uw8 (iw ((iw (UInt8.toNat i:Int))+1)))] ?_
 refine cvT ?_
 refine sdB h fun _ h=>?_
 cases h
 exact rt []
theorem qFinal_c(N:Nat)(t:TTest)(s:(List UInt8))(r:Bool)(h:qFinal N t s=some r):Cn Tryz.prog 89 [sA rTTest false t,sT s] [] [sB r]:=by
 unfold qFinal at h
 refine fn tb en89 Tryz.func89 fun X w H ν=>?_
 refine jn (fun x=>x) (fun b=>mkS 1 [.box (Opn.cl rTTest true t)] [vp 2 0,vb 5 b]) h (fun a0 h a1=>?_) ?_
 refine cd h (fun f h=>?_) (fun f h=>?_)
 refine ixS h fun a2 h=>?_
 cases h
 exact bj _ [0]
 refine jn (fun x=>x) (fun a=>mkS 1 [.box (Opn.cl rTTest true t)] [vt 1 s,vp 2 0,vb 6 a]) h (fun a3 h a4=>?_) ?_
 refine dr mixed ?_
 refine ixS h fun a5 h=>?_
 refine gd h (fun g h=>?_) (fun g h=>?_)
 refine ixS h fun a6 h=>?_
 refine dk ?_
 cases h
 exact bj _ [0]
 refine dk ?_
 cases h
 exact bj _ [0]
 intro a h
 try dsimp only at h
 refine jn (fun x=>x) (fun c=>mkS 1 [.box (Opn.cl rTTest true t)] [vp 2 0,vb 6 a,vb 7 c]) h (fun a7 h a8=>?_) ?_
 refine rg ?_
 refine ixS h fun a9 h=>?_
 refine gd h (fun i h=>?_) (fun i h=>?_)
 cases h
 exact bj _ [0]
 refine ixS h fun aa h=>?_
 refine gd h (fun j h=>?_) (fun j h=>?_)
 cases h
 exact bj _ [0]
 cases h
 exact bj _ [0]
 intro c h
 try dsimp only at h
 refine rg ?_
 refine gd h (fun k h=>?_) (fun k h=>?_)
 refine gd h (fun l h=>?_) (fun l h=>?_)
 cases h
 exact bj _ [0]
 refine gd h (fun m h=>?_) (fun m h=>?_)
 refine gd h (fun d h=>?_) (fun d h=>?_)
 cases h
 exact bj _ [0]
 refine gd h (fun n h=>?_) (fun n h=>?_)
 refine bf (eq_false_of_ne_true d) ?_
 cases h
 exact bj _ [0]
 cases h
 exact bj _ [0]
 refine gd h (fun o h=>?_) (fun o h=>?_)
 refine gd h (fun p h=>?_) (fun p h=>?_)
 cases h
 exact bj _ [0]
 cases h
 exact bj _ [0]
 cases h
 exact bj _ [0]
 refine gd h (fun q h=>?_) (fun q h=>?_)
 refine gd h (fun e h=>?_) (fun e h=>?_)
 cases h
 exact bj _ [0]
 refine gd h (fun u h=>?_) (fun u h=>?_)
 refine bf (eq_false_of_ne_true e) ?_
 cases h
 exact bj _ [0]
 cases h
 exact bj _ [0]
 refine gd h (fun v h=>?_) (fun v h=>?_)
 refine gd h (fun y h=>?_) (fun y h=>?_)
 cases h
 exact bj _ [0]
 cases h
 exact bj _ [0]
 cases h
 exact bj _ [0]
 intro b h
 try dsimp only at h
 cases h
 exact rt []
theorem qPasses_c(N:Nat)(t:TTest)(text:(List UInt8))(r:Bool)(h:qPasses N t text=some r):Cn Tryz.prog 58 [sA rTTest false t,sT text] [] [sB r]:=by
 unfold qPasses at h
 refine fn tb en58 Tryz.func58 fun X w H ν=>?_
 refine cl none [] 0 h (qStart_c N _) fun r6 h=>?_
 refine jn (fun x=>x) (fun a=>mkS 1 [.box (Opn.cl rTTest true t)] [vp 2 0,vt 5 a]) h (fun i d e=>?_) ?_
 refine bk ?_
 refine lp (fun⟨b,c⟩=>mkS 1 [.box (Opn.cl rTTest true t)] [vt 1 text,vp 2 0,vt 5 b,vi 6 c]) d [0] ?_
 rintro⟨b,c⟩ oo h f
 rw[qPasses_b1]at h
 refine cd h (fun g h=>?_) (fun g h=>?_)
 refine bk ?_
 refine dr mixed ?_
 refine ixS h fun j h=>?_
 refine cl none [] 0 h (qStep_c N _ _ _) fun k h=>?_
 refine dk ?_
 cases h
 exact bl [0]
 cases h
 cases f _ rfl
 replace h:=e
 try dsimp only at h
 exact bj _ [0]
 intro a h
 try dsimp only at h
 refine cl none [] 0 h (qFinal_c N _ _) fun l h=>?_
 cases h
 exact rt []
theorem rSatisfies_c(N:Nat)(p:TProb)(texts:(List (List UInt8)))(r:Bool)(h:rSatisfies N p texts=some r):Cn Tryz.prog 25 [sA rTProb false p,sR rStr false texts] [] [sB r]:=by
 unfold rSatisfies at h
 refine fn tb en25 Tryz.func25 fun X w H ν=>?_
 refine cd h (fun hc8 h=>?_) (fun hc8 h=>?_)
 cases h
 exact rt []
 refine jn (fun x=>(Sum.inl x)) (fun(_:Unit)=>mkS 1 [.box (Opn.cl rTProb false p)] [vr 1 rStr false texts,vp 2 0]) h (fun a8 o b=>?_) ?_
 refine bk ?_
 refine lp (fun a=>mkS 1 [.box (Opn.cl rTProb false p)] [vr 1 rStr false texts,vp 2 0,vi 5 a]) o [0] ?_
 rintro a oo h c
 rw[rSatisfies_b1]at h
 refine cd h (fun q h=>?_) (fun q h=>?_)
 refine bk ?_
 refine jn (fun x=>x) (fun d=>mkS 1 [.box (Opn.cl rTProb false p)] [vr 1 rStr false texts,vp 2 0,vi 5 a,vb 52 d]) h (fun a9 h aa=>?_) ?_
 refine dr mixed ?_
 refine ixR h fun ab h=>?_
 refine ixR h fun ac h=>?_
 refine gd h (fun s h=>?_) (fun s h=>?_)
 refine dk ?_
 cases h
 exact bj _ [0]
 refine ixR h fun ad h=>?_
 refine ixR h fun ae h=>?_
 refine gd h (fun u h=>?_) (fun u h=>?_)
 refine dk ?_
 cases h
 exact bj _ [0]
 refine ixR h fun af h=>?_
 refine cl none [] 0 h (qPrintable_c N _) fun ag h=>?_
 refine dk ?_
 cases h
 exact bj _ [0]
 intro d h
 try dsimp only at h
 refine cd h (fun v h=>?_) (fun v h=>?_)
 cases h
 cases c _ rfl
 replace h:=b
 try dsimp only at h
 cases h
 exact rt []
 cases h
 exact bl [0]
 cases h
 cases c _ rfl
 replace h:=b
 try dsimp only at h
 exact bj _ [0]
 intro _ h
 try dsimp only at h
 refine jn (fun x=>(Sum.inl x)) (fun(_:Unit)=>mkS 1 [.box (Opn.cl rTProb false p)] [vr 1 rStr false texts,vp 2 0]) h (fun ah y e=>?_) ?_
 refine bk ?_
 refine lp (fun f=>mkS 1 [.box (Opn.cl rTProb false p)] [vr 1 rStr false texts,vp 2 0,vi 6 f]) y [0] ?_
 rintro f oo h g
 rw[rSatisfies_b2]at h
 refine cd h (fun a0 h=>?_) (fun a0 h=>?_)
 refine bk ?_
 refine dr mixed ?_
 refine ixR h fun ai h=>?_
 refine ixR h fun aj h=>?_
 refine ixR h fun ak h=>?_
 refine cl none [] 0 h (qPasses_c N _ _) fun al h=>?_
 refine dk ?_
 refine cd h (fun a1 h=>?_) (fun a1 h=>?_)
 cases h
 cases g _ rfl
 replace h:=e
 try dsimp only at h
 cases h
 exact rt []
 cases h
 exact bl [0]
 cases h
 cases g _ rfl
 replace h:=e
 try dsimp only at h
 exact bj _ [0]
 intro _ h
 try dsimp only at h
 refine jn (fun x=>(Sum.inl x)) (fun(_:Unit)=>mkS 1 [.box (Opn.cl rTProb false p)] [vr 1 rStr false texts,vp 2 0]) h (fun am a2 i=>?_) ?_
 refine bk ?_
 refine lp (fun j=>mkS 1 [.box (Opn.cl rTProb false p)] [vr 1 rStr false texts,vp 2 0,vi 7 j]) a2 [0] ?_
 rintro j oo h k
 rw[rSatisfies_b3]at h
 refine cd h (fun a3 h=>?_) (fun a3 h=>?_)
 refine bk ?_
 refine dr mixed ?_
 refine ixR h fun an h=>?_
 refine ixR h fun ao h=>?_
 refine ixR h fun aq h=>?_
 refine ixR h fun ar h=>?_
 refine dk ?_
 refine cd h (fun a4 h=>?_) (fun a4 h=>?_)
 cases h
 cases k _ rfl
 replace h:=i
 try dsimp only at h
 cases h
 exact rt []
 cases h
 exact bl [0]
 cases h
 cases k _ rfl
 replace h:=i
 try dsimp only at h
 exact bj _ [0]
 intro _ h
 try dsimp only at h
 refine jn (fun x=>(Sum.inl x)) (fun(_:Unit)=>mkS 0 [] []) h (fun av a5 l=>?_) ?_
 refine bk ?_
 refine lp (fun m=>mkS 1 [.box (Opn.cl rTProb false p)] [vr 1 rStr false texts,vp 2 0,vi 8 m]) a5 [0] ?_
 rintro m oo h n
 rw[rSatisfies_b4]at h
 refine cd h (fun a6 h=>?_) (fun a6 h=>?_)
 refine bk ?_
 refine dr mixed ?_
 refine ixR h fun aw h=>?_
 refine ixR h fun ax h=>?_
 refine ixR h fun ay h=>?_
 refine ixR h fun az h=>?_
 refine dk ?_
 refine cd h (fun a7 h=>?_) (fun a7 h=>?_)
 cases h
 cases n _ rfl
 replace h:=l
 try dsimp only at h
 cases h
 exact rt []
 cases h
 exact bl [0]
 cases h
 cases n _ rfl
 replace h:=l
 try dsimp only at h
 exact bj _ []
 intro _ h
 try dsimp only at h
 cases h
 exact rt []
theorem rLeaders_c(N:Nat)(p:TProb)(r:(List Int))(h:rLeaders N p=some r):Cn Tryz.prog 139 [sA rTProb false p] [.row (rInt .i64) true r] [sO 0]:=by
 unfold rLeaders at h
 refine fn tb en139 Tryz.func139 fun X w H ν=>?_
 refine litZ (rInt .i64) ?_
 refine jn (fun x=>x) (fun c=>mkS 2 [.box (Opn.cl rTProb false p),.row (rInt .i64) true c] [vp 1 0,vo 3 1]) h (fun a2 k l=>?_) ?_
 refine bk ?_
 refine lp (fun⟨d,b⟩=>mkS 2 [.box (Opn.cl rTProb false p),.row (rInt .i64) true d] [vp 1 0,vo 3 1,vi 4 b]) k [0,1] ?_
 rintro⟨d,b⟩ oo h m
 rw[rLeaders_b1]at h
 refine cd h (fun n h=>?_) (fun n h=>?_)
 refine bk ?_
 refine litO (rInt .i64) true [b] ?_
 refine apO true h fun a3 h=>?_
 cases h
 exact bl [0,3]
 cases h
 cases m _ rfl
 replace h:=l
 try dsimp only at h
 exact bj _ [0,1]
 intro c h
 try dsimp only at h
 refine jn (fun x=>x) (fun e=>mkS 1 [.row (rInt .i64) true e] [vo 3 0]) h (fun a4 o q=>?_) ?_
 refine bk ?_
 refine lp (fun⟨f,a⟩=>mkS 2 [.box (Opn.cl rTProb false p),.row (rInt .i64) true f] [vp 1 0,vo 3 1,vi 5 a]) o [0,1] ?_
 rintro⟨f,a⟩ oo h s
 rw[rLeaders_b2]at h
 refine cd h (fun u h=>?_) (fun u h=>?_)
 refine bk ?_
 refine jn (fun x=>x) (fun g=>mkS 2 [.box (Opn.cl rTProb false p),.row (rInt .i64) true g] [vp 1 0,vo 3 1,vi 5 a]) h (fun a5 v y=>?_) ?_
 refine bk ?_
 refine lp (fun⟨i,j⟩=>mkS 2 [.box (Opn.cl rTProb false p),.row (rInt .i64) true i] [vp 1 0,vo 3 1,vi 5 a,vi 6 j]) v [0,1] ?_
 rintro⟨i,j⟩ oo h a0
 rw[rLeaders_b3]at h
 refine cd h (fun a1 h=>?_) (fun a1 h=>?_)
 refine bk ?_
 refine dr mixed ?_
 refine ixR h fun a6 h=>?_
 refine ixR h fun a7 h=>?_
 refine dk ?_
 refine dr mixed ?_
 refine ixO h fun a8 h=>?_
 refine ldO ?_
 refine ixO h fun a9 h=>?_
 refine ldO ?_
 refine dk ?_
 refine ixO h fun aa h=>?_
 refine stO true h fun ab h=>?_
 refine ixO h fun ac h=>?_
 refine stO true h fun ad h=>?_
 cases h
 exact bl [0,1]
 cases h
 cases a0 _ rfl
 replace h:=y
 try dsimp only at h
 exact bj _ [0,1]
 intro g h
 try dsimp only at h
 cases h
 exact bl [0,1]
 cases h
 cases s _ rfl
 replace h:=q
 try dsimp only at h
 exact bj _ [1]
 intro e h
 try dsimp only at h
 cases h
 exact rt [0]
theorem rClasses_c(N:Nat)(p:TProb)(r:(List (List Int)))(h:rClasses N p=some r):Cn Tryz.prog 96 [sA rTProb false p] [.row (rSl (rInt .i64)) true r] [sO 0]:=by
 unfold rClasses at h
 refine fn tb en96 Tryz.func96 fun X w H ν=>?_
 refine litZ (rSl (rInt .i64)) ?_
 refine cl none [] 1 h (rLeaders_c N _) fun c h=>?_
 refine jn (fun x=>x) (fun f=>mkS 1 [.row (rSl (rInt .i64)) true f] [vo 3 0]) h (fun v i j=>?_) ?_
 refine bk ?_
 refine lp (fun⟨a,b⟩=>mkS 2 [.row (rSl (rInt .i64)) true a,.row (rInt .i64) true c] [vo 3 0,vo 4 1,vi 5 b]) i [1,2] ?_
 rintro⟨a,b⟩ oo h k
 rw[rClasses_b1]at h
 refine cd h (fun l h=>?_) (fun l h=>?_)
 refine bk ?_
 refine ixO h fun y h=>?_
 refine ldO ?_
 refine cd h (fun m h=>?_) (fun m h=>?_)
 cases h
 exact bl [0,1]
 refine litZ (rInt .i64) ?_
 refine jn (fun x=>x) (fun d=>mkS 3 [.row (rSl (rInt .i64)) true a,.row (rInt .i64) true c,.row (rInt .i64) true d] [vo 3 0,vo 4 1,vi 5 b,vo 6 2]) h (fun a0 n o=>?_) ?_
 refine bk ?_
 refine lp (fun⟨g,e⟩=>mkS 3 [.row (rSl (rInt .i64)) true a,.row (rInt .i64) true c,.row (rInt .i64) true g] [vo 3 0,vo 4 1,vi 5 b,vo 6 2,vi 7 e]) n [0,1,2] ?_
 rintro⟨g,e⟩ oo h q
 rw[rClasses_b2]at h
 refine cd h (fun s h=>?_) (fun s h=>?_)
 refine bk ?_
 refine ixO h fun a1 h=>?_
 refine ldO ?_
 refine cd h (fun u h=>?_) (fun u h=>?_)
 refine litO (rInt .i64) true [e] ?_
 refine apO true h fun a2 h=>?_
 cases h
 exact bl [0,1,4]
 cases h
 exact bl [0,1,2]
 cases h
 cases q _ rfl
 replace h:=o
 try dsimp only at h
 exact bj _ [0,1,2]
 intro d h
 try dsimp only at h
 refine po (fzk 2 [6,41] []) ?_
 refine litO (rSl (rInt .i64)) true [d] ?_
 refine apO true h fun a3 h=>?_
 cases h
 exact bl [4,1]
 cases h
 cases k _ rfl
 replace h:=j
 try dsimp only at h
 exact bj _ [0]
 intro f h
 try dsimp only at h
 cases h
 exact rt [0]
theorem rWord_c(N:Nat)(p:TProb)(vclass:(List Int))(s:(List UInt8))(r:Bool)(h:rWord N p vclass s=some r):Cn Tryz.prog 140 [sA rTProb false p,sR (rInt .i64) false vclass,sT s] [] [sB r]:=by
 unfold rWord at h
 refine fn tb en140 Tryz.func140 fun X w H ν=>?_
 refine jn (fun x=>(Sum.inl x)) (fun(_:Unit)=>mkS 0 [] []) h (fun y k b=>?_) ?_
 refine bk ?_
 refine lp (fun a=>mkS 1 [.box (Opn.cl rTProb false p)] [vr 1 (rInt .i64) false vclass,vt 2 s,vp 3 0,vi 7 a]) k [0] ?_
 rintro a oo h c
 rw[rWord_b1]at h
 refine cd h (fun l h=>?_) (fun l h=>?_)
 refine bk ?_
 refine ixR h fun d h=>?_
 refine jn (fun x=>x) (fun f=>mkS 1 [.box (Opn.cl rTProb false p)] [vr 1 (rInt .i64) false vclass,vt 2 s,vp 3 0,vi 7 a,vi 8 d,vb 37 f]) h (fun a0 h a1=>?_) ?_
 refine rg ?_
 refine ixR h fun a2 h=>?_
 refine gd h (fun m h=>?_) (fun m h=>?_)
 cases h
 exact bj _ [0]
 refine ixR h fun a3 h=>?_
 cases h
 exact bj _ [0]
 intro f h
 try dsimp only at h
 refine cd h (fun n h=>?_) (fun n h=>?_)
 cases h
 cases c _ rfl
 replace h:=b
 try dsimp only at h
 cases h
 exact rt []
 refine jn (fun x=>(Sum.inl x)) (fun(_:Unit)=>mkS 1 [.box (Opn.cl rTProb false p)] [vr 1 (rInt .i64) false vclass,vt 2 s,vp 3 0,vi 7 a]) h (fun a4 o g=>?_) ?_
 refine bk ?_
 refine lp (fun e=>mkS 1 [.box (Opn.cl rTProb false p)] [vr 1 (rInt .i64) false vclass,vt 2 s,vp 3 0,vi 7 a,vi 8 d,vi 9 e]) o [0] ?_
 rintro e oo h i
 rw[rWord_b2]at h
 refine cd h (fun q h=>?_) (fun q h=>?_)
 refine bk ?_
 refine jn (fun x=>x) (fun j=>mkS 1 [.box (Opn.cl rTProb false p)] [vr 1 (rInt .i64) false vclass,vt 2 s,vp 3 0,vi 7 a,vi 8 d,vi 9 e,vb 62 j]) h (fun a5 h a6=>?_) ?_
 refine rg ?_
 refine ixR h fun a7 h=>?_
 refine gd h (fun u h=>?_) (fun u h=>?_)
 refine ixR h fun a8 h=>?_
 refine cl none [] 0 h (qPasses_c N _ _) fun a9 h=>?_
 cases h
 exact bj _ [0]
 cases h
 exact bj _ [0]
 intro j h
 try dsimp only at h
 refine cd h (fun v h=>?_) (fun v h=>?_)
 cases h
 cases i _ rfl
 replace h:=g
 try dsimp only at h
 cases h
 cases c _ rfl
 replace h:=b
 try dsimp only at h
 cases h
 exact rt []
 cases h
 exact bl [0]
 cases h
 cases i _ rfl
 replace h:=g
 try dsimp only at h
 exact bj _ [0]
 intro _ h
 try dsimp only at h
 cases h
 exact bl [0]
 cases h
 cases c _ rfl
 replace h:=b
 try dsimp only at h
 exact bj _ []
 intro _ h
 try dsimp only at h
 cases h
 exact rt []
theorem rWords_c(N:Nat)(p:TProb)(vclass:(List Int))(most:Int)(r:((List (List UInt8))×(List Int)))(h:rWords N p vclass most=some r):Cn Tryz.prog 97 [sA rTProb false p,sR (rInt .i64) false vclass,sI .i64 most] [] [sR rStr true r.1,sR (rInt .i64) true r.2]:=by
 unfold rWords at h
 refine fn tb en97 Tryz.func97 fun X w H ν=>?_
 refine litZ rStr ?_
 refine litZ (rInt .i64) ?_
 refine litO rStr true [([]:List UInt8)] ?_
 refine jn (fun x=>x) (fun⟨k,l⟩=>mkS 2 [.row rStr true k,.row (rInt .i64) true l] [vo 8 0,vo 9 1]) h (fun ai a0 a1=>?_) ?_
 refine bk ?_
 refine lp (fun⟨m,b,c,a⟩=>mkS 4 [.box (Opn.cl rTProb false p),.row rStr true m,.row (rInt .i64) true b,.row rStr true c] [vr 1 (rInt .i64) false vclass,vi 2 most,vp 3 0,vo 8 1,vo 9 2,vo 10 3,vi 11 a]) a0 [0,1,2,3] ?_
 rintro⟨m,b,c,a⟩ oo h a2
 rw[rWords_b1]at h
 refine cd h (fun a3 h=>?_) (fun a3 h=>?_)
 refine bk ?_
 refine litZ rStr ?_
 refine jn (fun x=>x) (fun⟨n,o,q⟩=>mkS 4 [.box (Opn.cl rTProb false p),.row rStr true n,.row (rInt .i64) true b,.row rStr true o] [vr 1 (rInt .i64) false vclass,vi 2 most,vp 3 0,vo 8 1,vo 9 2,vi 11 a,vo 12 3,vb 13 q]) h (fun aj a4 a5=>?_) ?_
 refine bk ?_
 refine lp (fun⟨s,i,u,d⟩=>mkS 5 [.box (Opn.cl rTProb false p),.row rStr true s,.row (rInt .i64) true b,.row rStr true c,.row rStr true i] [vr 1 (rInt .i64) false vclass,vi 2 most,vp 3 0,vo 8 1,vo 9 2,vo 10 3,vi 11 a,vo 12 4,vb 13 u,vi 14 d]) a4 [0,1,2,3,4] ?_
 rintro⟨s,i,u,d⟩ oo h a6
 rw[rWords_b2]at h
 refine cd h (fun a7 h=>?_) (fun a7 h=>?_)
 refine bk ?_
 refine dr mixed ?_
 refine ixO h fun ak h=>?_
 refine ldO ?_
 refine cl none [] 0 h (rWord_c N _ _ _) fun al h=>?_
 refine dk ?_
 refine jn (fun x=>x) (fun⟨e,f⟩=>mkS 5 [.box (Opn.cl rTProb false p),.row rStr true e,.row (rInt .i64) true b,.row rStr true c,.row rStr true i] [vr 1 (rInt .i64) false vclass,vi 2 most,vp 3 0,vo 8 1,vo 9 2,vo 10 3,vi 11 a,vo 12 4,vb 13 f,vi 14 d]) h (fun am h an=>?_) ?_
 refine cd h (fun a8 h=>?_) (fun a8 h=>?_)
 refine cd h (fun a9 h=>?_) (fun a9 h=>?_)
 refine ixO h fun aa h=>?_
 refine ldO ?_
 refine litO rStr true [aa] ?_
 refine apO true h fun ao h=>?_
 cases h
 exact bj _ [0,6,2,3,4]
 cases h
 exact bj _ [0,1,2,3,4]
 cases h
 exact bj _ [0,1,2,3,4]
 rintro⟨e,f⟩ h
 try dsimp only at h
 refine jn (fun x=>x) (fun v=>mkS 5 [.box (Opn.cl rTProb false p),.row rStr true e,.row (rInt .i64) true b,.row rStr true c,.row rStr true v] [vr 1 (rInt .i64) false vclass,vi 2 most,vp 3 0,vo 8 1,vo 9 2,vo 10 3,vi 11 a,vo 12 4,vb 13 f,vi 14 d]) h (fun aq ab ac=>?_) ?_
 refine bk ?_
 refine lp (fun⟨j,g⟩=>mkS 5 [.box (Opn.cl rTProb false p),.row rStr true e,.row (rInt .i64) true b,.row rStr true c,.row rStr true j] [vr 1 (rInt .i64) false vclass,vi 2 most,vp 3 0,vo 8 1,vo 9 2,vo 10 3,vi 11 a,vo 12 4,vb 13 f,vi 14 d,vi 15 g]) ab [0,1,2,3,4] ?_
 rintro⟨j,g⟩ oo h ad
 rw[rWords_b3]at h
 refine jn (fun x=>x) (fun y=>mkS 5 [.box (Opn.cl rTProb false p),.row rStr true e,.row (rInt .i64) true b,.row rStr true c,.row rStr true j] [vr 1 (rInt .i64) false vclass,vi 2 most,vp 3 0,vo 8 1,vo 9 2,vo 10 3,vi 11 a,vo 12 4,vb 13 f,vi 14 d,vi 15 g,vb 53 y]) h (fun ar h av=>?_) ?_
 refine rg ?_
 refine gd h (fun ae h=>?_) (fun ae h=>?_)
 cases h
 exact bj _ [0,1,2,3,4]
 cases h
 exact bj _ [0,1,2,3,4]
 intro y h
 try dsimp only at h
 refine cd h (fun af h=>?_) (fun af h=>?_)
 refine bk ?_
 refine dr mixed ?_
 refine ixO h fun ag h=>?_
 refine ldO ?_
 refine litO (rInt .u8) true [(uw8 g)] ?_
 refine cvT ?_
 refine sdB h fun _ h=>?_
 refine litO rStr true [(ag++(bstr [(uw8 g)]))] ?_
 refine apO true h fun aw h=>?_
 refine dk ?_
 cases h
 exact bl [0,1,2,3,7]
 cases h
 cases ad _ rfl
 replace h:=ac
 try dsimp only at h
 exact bj _ [0,1,2,3,4]
 intro v h
 try dsimp only at h
 cases h
 exact bl [0,1,2,3,4]
 cases h
 cases a6 _ rfl
 replace h:=a5
 try dsimp only at h
 exact bj _ [0,1,2,4]
 rintro⟨n,o,q⟩ h
 try dsimp only at h
 refine cd h (fun ah h=>?_) (fun ah h=>?_)
 refine litO (rInt .i64) true [a] ?_
 refine apO true h fun ax h=>?_
 cases h
 exact bl [0,1,5,3]
 cases h
 exact bl [0,1,2,3]
 cases h
 cases a2 _ rfl
 replace h:=a1
 try dsimp only at h
 exact bj _ [1,2]
 rintro⟨k,l⟩ h
 try dsimp only at h
 cases h
 exact rt []
theorem rTry_c(N:Nat):∀(p:TProb) (l:(List (List Int))) (choices:(List (List (List UInt8)))) (chosen:(List (List UInt8))) (r:Bool) (h:rTry N p l choices chosen=some r),Cn Tryz.prog 98 [sA rTProb false p,sR (rSl (rInt .i64)) false l,sR (rSl rStr) false choices,sR rStr false chosen] [] [sB r]:=by
 induction N with
 |zero=>intro p l choices chosen r h;cases h
 |succ N ih=>
  intro p l choices chosen r h
  replace h:rTry_step N (rTry N) p l choices chosen=some r:=h
  unfold rTry_step at h
  refine fn tb en98 Tryz.func98 fun X w H ν=>?_
  refine cd h (fun hc8 h=>?_) (fun hc8 h=>?_)
  refine mkO rStr h fun a4 h=>?_
  refine jn (fun x=>x) (fun b=>mkS 2 [.box (Opn.cl rTProb false p),.row rStr true b] [vp 4 0,vo 9 1]) h (fun a5 k m=>?_) ?_
  refine bk ?_
  refine lp (fun⟨c,a⟩=>mkS 2 [.box (Opn.cl rTProb false p),.row rStr true c] [vr 1 (rSl (rInt .i64)) false l,vr 3 rStr false chosen,vp 4 0,vo 9 1,vi 10 a]) k [0,1] ?_
  rintro⟨c,a⟩ oo h n
  rw[rTry_b1]at h
  refine cd h (fun o h=>?_) (fun o h=>?_)
  refine bk ?_
  refine jn (fun x=>x) (fun d=>mkS 2 [.box (Opn.cl rTProb false p),.row rStr true d] [vr 1 (rSl (rInt .i64)) false l,vr 3 rStr false chosen,vp 4 0,vo 9 1,vi 10 a]) h (fun a6 q s=>?_) ?_
  refine bk ?_
  refine lp (fun⟨e,f⟩=>mkS 2 [.box (Opn.cl rTProb false p),.row rStr true e] [vr 1 (rSl (rInt .i64)) false l,vr 3 rStr false chosen,vp 4 0,vo 9 1,vi 10 a,vi 11 f]) q [0,1] ?_
  rintro⟨e,f⟩ oo h u
  rw[rTry_b2]at h
  refine ixR h fun a7 h=>?_
  refine cd h (fun v h=>?_) (fun v h=>?_)
  refine bk ?_
  refine dr mixed ?_
  refine ixR h fun a8 h=>?_
  refine ixR h fun a9 h=>?_
  refine ixR h fun aa h=>?_
  refine ixO h fun ab h=>?_
  refine stO true h fun ac h=>?_
  refine dk ?_
  cases h
  exact bl [0,1]
  cases h
  cases u _ rfl
  replace h:=s
  try dsimp only at h
  exact bj _ [0,1]
  intro d h
  try dsimp only at h
  cases h
  exact bl [0,1]
  cases h
  cases n _ rfl
  replace h:=m
  try dsimp only at h
  exact bj _ [0,1]
  intro b h
  try dsimp only at h
  refine cl none [] 0 h (rSatisfies_c N _ _) fun ad h=>?_
  cases h
  exact rt []
  refine ixR h fun y h=>?_
  refine jn (fun x=>(Sum.inl x)) (fun(_:Unit)=>mkS 0 [] []) h (fun ae a0 g=>?_) ?_
  refine bk ?_
  refine lp (fun i=>mkS 1 [.box (Opn.cl rTProb false p)] [vr 1 (rSl (rInt .i64)) false l,vr 2 (rSl rStr) false choices,vr 3 rStr false chosen,vp 4 0,vr 12 rStr false y,vi 13 i]) a0 [0] ?_
  rintro i oo h j
  rw[rTry_b3]at h
  refine cd h (fun a1 h=>?_) (fun a1 h=>?_)
  refine bk ?_
  refine dr mixed ?_
  refine litZ rStr ?_
  refine apO true h fun af h=>?_
  refine ixR h fun a2 h=>?_
  refine litO rStr true [a2] ?_
  refine apO true h fun ag h=>?_
  refine cl none [] 0 h (ih _ _ _ _) fun ah h=>?_
  refine dk ?_
  refine cd h (fun a3 h=>?_) (fun a3 h=>?_)
  cases h
  cases j _ rfl
  replace h:=g
  try dsimp only at h
  cases h
  exact rt []
  cases h
  exact bl [0]
  cases h
  cases j _ rfl
  replace h:=g
  try dsimp only at h
  exact bj _ []
  intro _ h
  try dsimp only at h
  cases h
  exact rt []
theorem rSolvable_c(N:Nat)(p:TProb)(r:Bool)(h:rSolvable N p=some r):Cn Tryz.prog 63 [sA rTProb false p] [] [sB r]:=by
 unfold rSolvable at h
 refine fn tb en63 Tryz.func63 fun X w H ν=>?_
 refine cl none [] 1 h (rClasses_c N _) fun r6 h=>?_
 refine litZ (rSl rStr) ?_
 refine jn (fun x=>x) (fun a=>mkS 3 [.box (Opn.cl rTProb false p),.row (rSl (rInt .i64)) true r6,.row (rSl rStr) true a] [vp 1 0,vo 3 1,vo 4 2]) h (fun j d e=>?_) ?_
 refine bk ?_
 refine lp (fun⟨b,c⟩=>mkS 3 [.box (Opn.cl rTProb false p),.row (rSl (rInt .i64)) true r6,.row (rSl rStr) true b] [vp 1 0,vo 3 1,vo 4 2,vi 5 c]) d [0,1,2] ?_
 rintro⟨b,c⟩ oo h f
 rw[rSolvable_b1]at h
 refine cd h (fun g h=>?_) (fun g h=>?_)
 refine bk ?_
 refine dr mixed ?_
 refine ixO h fun k h=>?_
 refine ldO ?_
 refine cl none [] 0 h (rWords_c N _ _ _) fun i h=>?_
 refine dk ?_
 refine litO (rSl rStr) true [i.1] ?_
 refine apO true h fun l h=>?_
 cases h
 exact bl [0,1,4]
 cases h
 cases f _ rfl
 replace h:=e
 try dsimp only at h
 exact bj _ [0,1,2]
 intro a h
 try dsimp only at h
 refine cl none [] 0 h (rTry_c N _ _ _ _) fun m h=>?_
 cases h
 exact rt []
end Go.Proofs.YtcakdidcpoolcaaGreatDoor.SH

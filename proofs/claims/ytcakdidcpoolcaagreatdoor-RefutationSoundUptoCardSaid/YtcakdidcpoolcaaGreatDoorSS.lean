/- Walks of the symbolic machine, written by a program of mine (wip/tool). -/
import Derived.Test.YtcakdidcpoolcaaGreatDoorTB
import Derived.Test.YtcakdidcpoolcaaGreatDoorAd
set_option linter.unusedVariables false
set_option linter.unusedSimpArgs false
set_option linter.unusedSectionVars false
set_option maxRecDepth 100000
set_option maxHeartbeats 4000000
namespace Go.Proofs.YtcakdidcpoolcaaGreatDoor.SS
open Go Go.RowKit Go.X Go.Q Go.D Go.Proofs.YtcakdidcpoolcaaGreatDoor.TB 
theorem sAbs_c(N:Nat)(n:Int)(r:Int)(h:sAbs N n=some r):Cn Tryz.prog 107 [sI .i64 n] [] [sI .i64 r]:=by
 unfold sAbs at h
 refine fn tb en107 Tryz.func107 fun X w H ν=>?_
 refine cd h (fun hc1 h=>?_) (fun hc1 h=>?_)
 ·
  cases h
  exact rt []
 cases h
 exact rt []
theorem sWithin_c(N:Nat)(n:Int)(low:Int)(high:Int)(r:Bool)(h:sWithin N n low high=some r):Cn Tryz.prog 74 [sI .i64 n,sI .i64 low,sI .i64 high] [] [sB r]:=by
 unfold sWithin at h
 refine fn tb en74 Tryz.func74 fun X w H ν=>?_
 refine rg ?_
 refine gd h (fun hc1 h=>?_) (fun hc1 h=>?_)
 ·
  cases h
  exact rt []
 cases h
 exact rt []
theorem sHas_c(N:Nat)(l:(List Int))(n:Int)(r:Bool)(h:sHas N l n=some r):Cn Tryz.prog 106 [sR (rInt .i64) false l,sI .i64 n] [] [sB r]:=by
 unfold sHas at h
 refine fn tb en106 Tryz.func106 fun X w H ν=>?_
 refine jn (fun x=>(Sum.inl x)) (fun(_:Unit)=>mkS 0 [] []) h (fun g d a=>?_) ?_
 ·
  refine bk ?_
  refine lp (fun b=>mkS 0 [] [vr 0 (rInt .i64) false l,vi 1 n,vi 5 b]) d [] ?_
  rintro b oo h c
  rw[sHas_b1]at h
  refine cd h (fun e h=>?_) (fun e h=>?_)
  ·
   refine bk ?_
   refine ixR h fun i h=>?_
   refine cd h (fun f h=>?_) (fun f h=>?_)
   ·
    cases h
    cases c _ rfl
    replace h:=a
    try dsimp only at h
    cases h
    exact rt []
   cases h
   exact bl []
  cases h
  cases c _ rfl
  replace h:=a
  try dsimp only at h
  exact bj _ []
 intro _ h
 try dsimp only at h
 cases h
 exact rt []
theorem sForm_c(N:Nat)(f:Linear)(c:RClause)(l:(List RVar))(bounds:(List Int))(r:Int)(h:sForm N f c l bounds=some r):Cn Tryz.prog 73 [sA rLinear false f,sA rRClause false c,sR rRVar false l,sR (rInt .i64) false bounds] [] [sI .i64 r]:=by
 unfold sForm at h
 refine fn tb en73 Tryz.func73 fun X w H ν=>?_
 refine cl none [] 0 h (sWithin_c N _ _ _) fun a8 h=>?_
 refine cd h (fun n h=>?_) (fun n h=>?_)
 ·
  cases h
  exact rt []
 refine cl none [] 0 h (sAbs_c N _) fun a9 h=>?_
 refine jn (fun x=>(Sum.inl x)) (fun i=>mkS 0 [] [vi 9 i]) h (fun aa o a=>?_) ?_
 ·
  refine bk ?_
  refine lp (fun⟨b,d⟩=>mkS 2 [.box (Opn.cl rLinear false f),.box (Opn.cl rRClause false c)] [vr 2 rRVar false l,vr 3 (rInt .i64) false bounds,vp 4 0,vp 5 1,vi 9 b,vi 10 d]) o [0,1] ?_
  rintro⟨b,d⟩ oo h e
  rw[sForm_b1]at h
  refine cd h (fun p h=>?_) (fun p h=>?_)
  ·
   refine bk ?_
   refine ixR h fun g h=>?_
   refine jn (fun x=>x) (fun j=>mkS 3 [.box (Opn.cl rLinear false f),.box (Opn.cl rRClause false c),.box (Opn.cl rCoef true g)] [vr 2 rRVar false l,vr 3 (rInt .i64) false bounds,vp 4 0,vp 5 1,vi 9 b,vi 10 d,vp 11 2,vb 71 j]) h (fun ab h ac=>?_) ?_
   ·
    refine dr mixed ?_
    refine gd h (fun q h=>?_) (fun q h=>?_)
    ·
     refine dk ?_
     cases h
     exact bj _ [0,1,2]
    refine gd h (fun s h=>?_) (fun s h=>?_)
    ·
     refine dk ?_
     cases h
     exact bj _ [0,1,2]
    refine gd h (fun u h=>?_) (fun u h=>?_)
    ·
     refine ixR h fun ad h=>?_
     refine gd h (fun v h=>?_) (fun v h=>?_)
     ·
      refine dk ?_
      cases h
      exact bj _ [0,1,2]
     refine gd h (fun y h=>?_) (fun y h=>?_)
     ·
      refine dk ?_
      cases h
      exact bj _ [0,1,2]
     refine cl none [] 0 h (sWithin_c N _ _ _) fun ae h=>?_
     refine dk ?_
     cases h
     exact bj _ [0,1,2]
    refine gd h (fun a0 h=>?_) (fun a0 h=>?_)
    ·
     refine dk ?_
     cases h
     exact bj _ [0,1,2]
    refine cl none [] 0 h (sWithin_c N _ _ _) fun af h=>?_
    refine dk ?_
    cases h
    exact bj _ [0,1,2]
   intro j h
   try dsimp only at h
   refine cd h (fun a1 h=>?_) (fun a1 h=>?_)
   ·
    cases h
    cases e _ rfl
    replace h:=a
    try dsimp only at h
    cases h
    exact rt []
   refine jn (fun x=>(Sum.inl x)) (fun k=>mkS 3 [.box (Opn.cl rLinear false f),.box (Opn.cl rRClause false c),.box (Opn.cl rCoef true g)] [vr 2 rRVar false l,vr 3 (rInt .i64) false bounds,vp 4 0,vp 5 1,vi 9 b,vi 10 d,vp 11 2,vi 12 k]) h (fun ag h a2=>?_) ?_
   ·
    refine cd h (fun a3 h=>?_) (fun a3 h=>?_)
    ·
     refine ixR h fun ah h=>?_
     cases h
     exact bj _ [0,1,2]
    refine jn (fun x=>x) (fun m=>mkS 3 [.box (Opn.cl rLinear false f),.box (Opn.cl rRClause false c),.box (Opn.cl rCoef true g)] [vr 2 rRVar false l,vr 3 (rInt .i64) false bounds,vp 4 0,vp 5 1,vi 9 b,vi 10 d,vp 11 2,vi 12 2147483648,vb 99 m]) h (fun ai h aj=>?_) ?_
    ·
     refine rg ?_
     refine ixR h fun ak h=>?_
     refine gd h (fun a4 h=>?_) (fun a4 h=>?_)
     ·
      cases h
      exact bj _ [0,1,2]
     refine cl none [] 0 h (sHas_c N _ _) fun al h=>?_
     cases h
     exact bj _ [0,1,2]
    intro m h
    try dsimp only at h
    refine cd h (fun a5 h=>?_) (fun a5 h=>?_)
    ·
     cases h
     replace h:=a2
     try dsimp only at h
     cases h
     cases e _ rfl
     replace h:=a
     try dsimp only at h
     cases h
     exact rt []
    cases h
    exact bj _ [0,1,2]
   intro k h
   try dsimp only at h
   refine cl none [] 0 h (sAbs_c N _) fun am h=>?_
   refine quB h fun an h=>?_
   refine cd h (fun a6 h=>?_) (fun a6 h=>?_)
   ·
    cases h
    cases e _ rfl
    replace h:=a
    try dsimp only at h
    cases h
    exact rt []
   refine cl none [] 0 h (sAbs_c N _) fun ao h=>?_
   refine cd h (fun a7 h=>?_) (fun a7 h=>?_)
   ·
    cases h
    cases e _ rfl
    replace h:=a
    try dsimp only at h
    cases h
    exact rt []
   cases h
   exact bl [0,1]
  cases h
  cases e _ rfl
  replace h:=a
  try dsimp only at h
  exact bj _ []
 intro i h
 try dsimp only at h
 cases h
 exact rt []
theorem sAscending_c(N:Nat)(l:(List Int))(n:Int)(r:Bool)(h:sAscending N l n=some r):Cn Tryz.prog 71 [sR (rInt .i64) false l,sI .i64 n] [] [sB r]:=by
 unfold sAscending at h
 refine fn tb en71 Tryz.func71 fun X w H ν=>?_
 refine jn (fun x=>(Sum.inl x)) (fun(_:Unit)=>mkS 0 [] []) h (fun m e b=>?_) ?_
 ·
  refine bk ?_
  refine lp (fun a=>mkS 0 [] [vr 0 (rInt .i64) false l,vi 1 n,vi 5 a]) e [] ?_
  rintro a oo h c
  rw[sAscending_b1]at h
  refine cd h (fun f h=>?_) (fun f h=>?_)
  ·
   refine bk ?_
   refine jn (fun x=>x) (fun d=>mkS 0 [] [vr 0 (rInt .i64) false l,vi 1 n,vi 5 a,vb 40 d]) h (fun o h p=>?_) ?_
   ·
    refine dr mixed ?_
    refine ixR h fun q h=>?_
    refine gd h (fun g h=>?_) (fun g h=>?_)
    ·
     refine dk ?_
     cases h
     exact bj _ []
    refine ixR h fun s h=>?_
    refine gd h (fun i h=>?_) (fun i h=>?_)
    ·
     refine dk ?_
     cases h
     exact bj _ []
    refine gd h (fun j h=>?_) (fun j h=>?_)
    ·
     refine ixR h fun u h=>?_
     refine ixR h fun v h=>?_
     refine dk ?_
     cases h
     exact bj _ []
    refine dk ?_
    cases h
    exact bj _ []
   intro d h
   try dsimp only at h
   refine cd h (fun k h=>?_) (fun k h=>?_)
   ·
    cases h
    cases c _ rfl
    replace h:=b
    try dsimp only at h
    cases h
    exact rt []
   cases h
   exact bl []
  cases h
  cases c _ rfl
  replace h:=b
  try dsimp only at h
  exact bj _ []
 intro _ h
 try dsimp only at h
 cases h
 exact rt []
theorem sText_c(N:Nat)(pa:Int)(c:RClause)(l:(List RVar))(r:Bool)(h:sText N pa c l=some r):Cn Tryz.prog 72 [sI .i64 pa,sA rRClause false c,sR rRVar false l] [] [sB r]:=by
 unfold sText at h
 refine fn tb en72 Tryz.func72 fun X w H ν=>?_
 refine rg ?_
 refine gd h (fun hc6 h=>?_) (fun hc6 h=>?_)
 ·
  refine gd h (fun hc8 h=>?_) (fun hc8 h=>?_)
  ·
   refine ixR h fun x9 h=>?_
   refine gd h (fun a h=>?_) (fun a h=>?_)
   ·
    refine cl none [] 0 h (sHas_c N _ _) fun b h=>?_
    cases h
    exact rt []
   cases h
   exact rt []
  cases h
  exact rt []
 cases h
 exact rt []
theorem sPairs_c(N:Nat)(p:(List Arr2Int))(c:RClause)(l:(List RVar))(r:Bool)(h:sPairs N p c l=some r):Cn Tryz.prog 76 [sR rArr2Int false p,sA rRClause false c,sR rRVar false l] [] [sB r]:=by
 unfold sPairs at h
 refine fn tb en76 Tryz.func76 fun X w H ν=>?_
 refine jn (fun x=>(Sum.inl x)) (fun(_:Unit)=>mkS 0 [] []) h (fun m f b=>?_) ?_
 ·
  refine bk ?_
  refine lp (fun a=>mkS 1 [.box (Opn.cl rRClause false c)] [vr 0 rArr2Int false p,vr 2 rRVar false l,vp 4 0,vi 7 a]) f [0] ?_
  rintro a oo h d
  rw[sPairs_b1]at h
  refine cd h (fun g h=>?_) (fun g h=>?_)
  ·
   refine bk ?_
   refine jn (fun x=>x) (fun e=>mkS 1 [.box (Opn.cl rRClause false c)] [vr 0 rArr2Int false p,vr 2 rRVar false l,vp 4 0,vi 7 a,vb 46 e]) h (fun n h o=>?_) ?_
   ·
    refine dr mixed ?_
    refine ixR h fun q h=>?_
    refine cl none [] 0 h (sText_c N _ _ _) fun s h=>?_
    refine gd h (fun i h=>?_) (fun i h=>?_)
    ·
     refine dk ?_
     cases h
     exact bj _ [0]
    refine ixR h fun u h=>?_
    refine cl none [] 0 h (sText_c N _ _ _) fun v h=>?_
    refine gd h (fun j h=>?_) (fun j h=>?_)
    ·
     refine dk ?_
     cases h
     exact bj _ [0]
    refine ixR h fun y h=>?_
    refine ixR h fun a0 h=>?_
    refine dk ?_
    cases h
    exact bj _ [0]
   intro e h
   try dsimp only at h
   refine cd h (fun k h=>?_) (fun k h=>?_)
   ·
    cases h
    cases d _ rfl
    replace h:=b
    try dsimp only at h
    cases h
    exact rt []
   cases h
   exact bl [0]
  cases h
  cases d _ rfl
  replace h:=b
  try dsimp only at h
  exact bj _ []
 intro _ h
 try dsimp only at h
 cases h
 exact rt []
theorem sTested_c(N:Nat)(t:TTest)(r:Bool)(h:sTested N t=some r):Cn Tryz.prog 75 [sA rTTest false t] [] [sB r]:=by
 unfold sTested at h
 refine fn tb en75 Tryz.func75 fun X w H ν=>?_
 refine jn (fun x=>(Sum.inl x)) (fun(_:Unit)=>mkS 1 [.box (Opn.cl rTTest true t)] [vp 1 0]) h (fun m e b=>?_) ?_
 ·
  refine bk ?_
  refine lp (fun a=>mkS 1 [.box (Opn.cl rTTest true t)] [vp 1 0,vi 3 a]) e [0] ?_
  rintro a oo h c
  rw[sTested_b1]at h
  refine cd h (fun f h=>?_) (fun f h=>?_)
  ·
   refine bk ?_
   refine jn (fun x=>x) (fun d=>mkS 1 [.box (Opn.cl rTTest true t)] [vp 1 0,vi 3 a,vb 22 d]) h (fun n h o=>?_) ?_
   ·
    refine rg ?_
    refine ixS h fun p h=>?_
    refine gd h (fun g h=>?_) (fun g h=>?_)
    ·
     cases h
     exact bj _ [0]
    refine ixS h fun q h=>?_
    cases h
    exact bj _ [0]
   intro d h
   try dsimp only at h
   refine cd h (fun i h=>?_) (fun i h=>?_)
   ·
    cases h
    cases c _ rfl
    replace h:=b
    try dsimp only at h
    cases h
    exact rt []
   cases h
   exact bl [0]
  cases h
  cases c _ rfl
  replace h:=b
  try dsimp only at h
  exact bj _ [0]
 intro _ h
 try dsimp only at h
 refine rg ?_
 refine gd h (fun j h=>?_) (fun j h=>?_)
 ·
  refine gd h (fun k h=>?_) (fun k h=>?_)
  ·
   cases h
   exact rt []
  cases h
  exact rt []
 cases h
 exact rt []
theorem sValid_c(N:Nat)(c:RClause)(l:(List RVar))(r:Bool)(h:sValid N c l=some r):Cn Tryz.prog 37 [sA rRClause false c,sR rRVar false l] [] [sB r]:=by
 unfold sValid at h
 refine fn tb en37 Tryz.func37 fun X w H ν=>?_
 refine jn (fun x=>x) (fun i=>mkS 1 [.box (Opn.cl rRClause false c)] [vr 1 rRVar false l,vp 2 0,vb 24 i]) h (fun aj h ak=>?_) ?_
 ·
  refine rg ?_
  refine cl none [] 0 h (sAscending_c N _ _) fun al h=>?_
  refine gd h (fun u h=>?_) (fun u h=>?_)
  ·
   cases h
   exact bj _ [0]
  refine cl none [] 0 h (sAscending_c N _ _) fun am h=>?_
  cases h
  exact bj _ [0]
 intro i h
 try dsimp only at h
 refine cd h (fun v h=>?_) (fun v h=>?_)
 ·
  cases h
  exact rt []
 refine jn (fun x=>(Sum.inl x)) (fun d=>mkS 2 [.box (Opn.cl rRClause false c),.row (rInt .i64) true d] [vr 1 rRVar false l,vp 2 0,vo 5 1]) h (fun an y e=>?_) ?_
 ·
  refine bk ?_
  refine ps (nl 5 (rInt .i64)) ?_
  refine lp (fun⟨a,b⟩=>mkS 2 [.box (Opn.cl rRClause false c),.row (rInt .i64) true a] [vr 1 rRVar false l,vp 2 0,vo 5 1,vi 6 b]) y [0,1] ?_
  rintro⟨a,b⟩ oo h f
  rw[sValid_b1]at h
  refine cd h (fun a0 h=>?_) (fun a0 h=>?_)
  ·
   refine bk ?_
   refine ixR h fun a1 h=>?_
   refine cd h (fun a2 h=>?_) (fun a2 h=>?_)
   ·
    refine jn (fun x=>x) (fun j=>mkS 2 [.box (Opn.cl rRClause false c),.row (rInt .i64) true a] [vr 1 rRVar false l,vp 2 0,vo 5 1,vi 6 b,vb 58 j]) h (fun ao h aq=>?_) ?_
    ·
     refine rg ?_
     refine gd h (fun a3 h=>?_) (fun a3 h=>?_)
     ·
      cases h
      exact bj _ [0,1]
     refine gd h (fun a4 h=>?_) (fun a4 h=>?_)
     ·
      cases h
      exact bj _ [0,1]
     refine cl none [] 0 h (sText_c N _ _ _) fun ar h=>?_
     cases h
     exact bj _ [0,1]
    intro j h
    try dsimp only at h
    refine cd h (fun a5 h=>?_) (fun a5 h=>?_)
    ·
     cases h
     cases f _ rfl
     replace h:=e
     try dsimp only at h
     cases h
     exact rt []
    refine litO (rInt .i64) true [16] ?_
    refine apO true h fun av h=>?_
    cases h
    exact bl [0,3]
   refine cl none [] 0 h (sForm_c N _ _ _ _) fun a6 h=>?_
   refine jn (fun x=>x) (fun k=>mkS 3 [.box (Opn.cl rRClause false c),.row (rInt .i64) true a,.box (Opn.cl rRAux false a1)] [vr 1 rRVar false l,vp 2 0,vo 5 1,vi 6 b,vp 7 2,vi 8 a6,vb 80 k]) h (fun aw h ax=>?_) ?_
   ·
    refine rg ?_
    refine cl none [] 0 h (sWithin_c N _ _ _) fun ay h=>?_
    refine gd h (fun a7 h=>?_) (fun a7 h=>?_)
    ·
     cases h
     exact bj _ [0,1,2]
    refine gd h (fun a8 h=>?_) (fun a8 h=>?_)
    ·
     cases h
     exact bj _ [0,1,2]
    cases h
    exact bj _ [0,1,2]
   intro k h
   try dsimp only at h
   refine cd h (fun a9 h=>?_) (fun a9 h=>?_)
   ·
    cases h
    cases f _ rfl
    replace h:=e
    try dsimp only at h
    cases h
    exact rt []
   refine quB h fun aa h=>?_
   refine litO (rInt .i64) true [(iw (aa+1))] ?_
   refine apO true h fun az h=>?_
   cases h
   exact bl [0,4]
  cases h
  cases f _ rfl
  replace h:=e
  try dsimp only at h
  exact bj _ [0,1]
 intro d h
 try dsimp only at h
 refine jn (fun x=>(Sum.inl x)) (fun(_:Unit)=>mkS 1 [.box (Opn.cl rRClause false c)] [vr 1 rRVar false l,vp 2 0]) h (fun b0 ab m=>?_) ?_
 ·
  refine bk ?_
  refine lp (fun n=>mkS 2 [.box (Opn.cl rRClause false c),.row (rInt .i64) true d] [vr 1 rRVar false l,vp 2 0,vo 5 1,vi 9 n]) ab [0,1] ?_
  rintro n oo h o
  rw[sValid_b2]at h
  refine cd h (fun ac h=>?_) (fun ac h=>?_)
  ·
   refine bk ?_
   refine dr mixed ?_
   refine ixR h fun b1 h=>?_
   refine cl none [] 0 h (sForm_c N _ _ _ _) fun b2 h=>?_
   refine dk ?_
   refine cd h (fun ad h=>?_) (fun ad h=>?_)
   ·
    cases h
    cases o _ rfl
    replace h:=m
    try dsimp only at h
    cases h
    exact rt []
   cases h
   exact bl [0,1]
  cases h
  cases o _ rfl
  replace h:=m
  try dsimp only at h
  exact bj _ [0]
 intro _ h
 try dsimp only at h
 refine jn (fun x=>(Sum.inl x)) (fun(_:Unit)=>mkS 1 [.box (Opn.cl rRClause false c)] [vr 1 rRVar false l,vp 2 0]) h (fun b3 ae p=>?_) ?_
 ·
  refine bk ?_
  refine lp (fun g=>mkS 1 [.box (Opn.cl rRClause false c)] [vr 1 rRVar false l,vp 2 0,vi 10 g]) ae [0] ?_
  rintro g oo h q
  rw[sValid_b3]at h
  refine cd h (fun af h=>?_) (fun af h=>?_)
  ·
   refine bk ?_
   refine jn (fun x=>x) (fun s=>mkS 1 [.box (Opn.cl rRClause false c)] [vr 1 rRVar false l,vp 2 0,vi 10 g,vb 132 s]) h (fun b4 h b5=>?_) ?_
   ·
    refine dr mixed ?_
    refine ixR h fun b6 h=>?_
    refine cl none [] 0 h (sTested_c N _) fun b7 h=>?_
    refine gd h (fun ag h=>?_) (fun ag h=>?_)
    ·
     refine dk ?_
     cases h
     exact bj _ [0]
    refine ixR h fun b8 h=>?_
    refine cl none [] 0 h (sText_c N _ _ _) fun b9 h=>?_
    refine dk ?_
    cases h
    exact bj _ [0]
   intro s h
   try dsimp only at h
   refine cd h (fun ah h=>?_) (fun ah h=>?_)
   ·
    cases h
    cases q _ rfl
    replace h:=p
    try dsimp only at h
    cases h
    exact rt []
   cases h
   exact bl [0]
  cases h
  cases q _ rfl
  replace h:=p
  try dsimp only at h
  exact bj _ [0]
 intro _ h
 try dsimp only at h
 refine rg ?_
 refine cl none [] 0 h (sPairs_c N _ _ _) fun ba h=>?_
 refine gd h (fun ai h=>?_) (fun ai h=>?_)
 ·
  refine cl none [] 0 h (sPairs_c N _ _ _) fun bb h=>?_
  cases h
  exact rt []
 cases h
 exact rt []
theorem sFew_c(N:Nat)(c:RClause)(r:Bool)(h:sFew N c=some r):Cn Tryz.prog 36 [sA rRClause false c] [] [sB r]:=by
 unfold sFew at h
 refine fn tb en36 Tryz.func36 fun X w H ν=>?_
 refine cd h (fun k h=>?_) (fun k h=>?_)
 ·
  cases h
  exact rt []
 refine jn (fun x=>x) (fun b=>mkS 1 [.box (Opn.cl rRClause false c)] [vp 1 0,vi 3 b]) h (fun a2 m n=>?_) ?_
 ·
  refine bk ?_
  refine lp (fun⟨d,i64⟩=>mkS 1 [.box (Opn.cl rRClause false c)] [vp 1 0,vi 3 d,vi 4 i64]) m [0] ?_
  rintro⟨d,i64⟩ oo h o
  rw[sFew_b1]at h
  refine cd h (fun p h=>?_) (fun p h=>?_)
  ·
   refine bk ?_
   refine ixR h fun a3 h=>?_
   cases h
   exact bl [0]
  cases h
  cases o _ rfl
  replace h:=n
  try dsimp only at h
  exact bj _ [0]
 intro b h
 try dsimp only at h
 refine jn (fun x=>x) (fun a=>mkS 1 [.box (Opn.cl rRClause false c)] [vp 1 0,vi 3 a]) h (fun a4 q s=>?_) ?_
 ·
  refine bk ?_
  refine lp (fun⟨e,f⟩=>mkS 1 [.box (Opn.cl rRClause false c)] [vp 1 0,vi 3 e,vi 5 f]) q [0] ?_
  rintro⟨e,f⟩ oo h u
  rw[sFew_b2]at h
  refine cd h (fun v h=>?_) (fun v h=>?_)
  ·
   refine bk ?_
   refine ixR h fun a5 h=>?_
   cases h
   exact bl [0]
  cases h
  cases u _ rfl
  replace h:=s
  try dsimp only at h
  exact bj _ [0]
 intro a h
 try dsimp only at h
 refine jn (fun x=>(Sum.inl x)) (fun(_:Unit)=>mkS 0 [] [vi 3 a]) h (fun a6 y g=>?_) ?_
 ·
  refine bk ?_
  refine lp (fun i=>mkS 1 [.box (Opn.cl rRClause false c)] [vp 1 0,vi 3 a,vi 6 i]) y [0] ?_
  rintro i oo h j
  rw[sFew_b3]at h
  refine cd h (fun a0 h=>?_) (fun a0 h=>?_)
  ·
   refine bk ?_
   refine ixR h fun a7 h=>?_
   refine cd h (fun a1 h=>?_) (fun a1 h=>?_)
   ·
    cases h
    cases j _ rfl
    replace h:=g
    try dsimp only at h
    cases h
    exact rt []
   cases h
   exact bl [0]
  cases h
  cases j _ rfl
  replace h:=g
  try dsimp only at h
  exact bj _ []
 intro _ h
 try dsimp only at h
 cases h
 exact rt []
theorem sValue_c(N:Nat)(f:Linear)(pb:(List RVal))(aux:(List Int))(r:(Int×Bool))(h:sValue N f pb aux=some r):Cn Tryz.prog 50 [sA rLinear false f,sR rRVal false pb,sR (rInt .i64) false aux] [] [sI .i64 r.1,sB r.2]:=by
 unfold sValue at h
 refine fn tb en50 Tryz.func50 fun X w H ν=>?_
 refine jn (fun x=>(Sum.inl x)) (fun c=>mkS 0 [] [vi 8 c]) h (fun o i d=>?_) ?_
 ·
  refine bk ?_
  refine lp (fun⟨a,b⟩=>mkS 1 [.box (Opn.cl rLinear false f)] [vr 1 rRVal false pb,vr 2 (rInt .i64) false aux,vp 3 0,vi 8 a,vi 9 b]) i [0] ?_
  rintro⟨a,b⟩ oo h e
  rw[sValue_b1]at h
  refine cd h (fun j h=>?_) (fun j h=>?_)
  ·
   refine bk ?_
   refine ixR h fun p h=>?_
   refine jn (fun x=>(Sum.inl x)) (fun g=>mkS 1 [.box (Opn.cl rLinear false f)] [vr 1 rRVal false pb,vr 2 (rInt .i64) false aux,vp 3 0,vi 8 a,vi 9 b,vi 11 g]) h (fun q h k=>?_) ?_
   ·
    refine cd h (fun m h=>?_) (fun m h=>?_)
    ·
     refine ixR h fun s h=>?_
     cases h
     exact bj _ [0]
    refine ixR h fun u h=>?_
    refine cd h (fun n h=>?_) (fun n h=>?_)
    ·
     cases h
     replace h:=k
     try dsimp only at h
     cases h
     cases e _ rfl
     replace h:=d
     try dsimp only at h
     cases h
     exact rt []
    refine ixR h fun v h=>?_
    cases h
    exact bj _ [0]
   intro g h
   try dsimp only at h
   refine ixR h fun y h=>?_
   cases h
   exact bl [0]
  cases h
  cases e _ rfl
  replace h:=d
  try dsimp only at h
  exact bj _ []
 intro c h
 try dsimp only at h
 cases h
 exact rt []
theorem floor13_c(N:Nat)(a:Int)(b:Int)(r:Int)(h:floor13 N a b=some r):Cn Tryz.prog 53 [sI .i64 a,sI .i64 b] [] [sI .i64 r]:=by
 unfold floor13 at h
 refine fn tb en53 Tryz.func53 fun X w H ν=>?_
 refine quB h fun x1 h=>?_
 refine cd h (fun hc5 h=>?_) (fun hc5 h=>?_)
 ·
  cases h
  exact rt []
 cases h
 exact rt []
theorem sAuxiliary_c(N:Nat)(c:RClause)(pb:(List RVal))(r:((List Int)×Bool))(h:sAuxiliary N c pb=some r):Cn Tryz.prog 22 [sA rRClause false c,sR rRVal false pb] [.row (rInt .i64) true r.1] [sO 0,sB r.2]:=by
 unfold sAuxiliary at h
 refine fn tb en22 Tryz.func22 fun X w H ν=>?_
 refine jn (fun x=>(Sum.inl x)) (fun d=>mkS 1 [.row (rInt .i64) true d] [vo 6 0]) h (fun p g a=>?_) ?_
 ·
  refine bk ?_
  refine ps (nl 6 (rInt .i64)) ?_
  refine lp (fun⟨e,f⟩=>mkS 2 [.box (Opn.cl rRClause false c),.row (rInt .i64) true e] [vr 1 rRVal false pb,vp 2 0,vo 6 1,vi 7 f]) g [0,1] ?_
  rintro⟨e,f⟩ oo h b
  rw[sAuxiliary_b1]at h
  refine cd h (fun i h=>?_) (fun i h=>?_)
  ·
   refine bk ?_
   refine ixR h fun q h=>?_
   refine cd h (fun j h=>?_) (fun j h=>?_)
   ·
    refine ixR h fun s h=>?_
    refine cd h (fun k h=>?_) (fun k h=>?_)
    ·
     refine pr (nl 4 (rInt .i64)) ?_
     cases h
     cases b _ rfl
     replace h:=a
     try dsimp only at h
     cases h
     exact rt [3]
    refine ixR h fun m h=>?_
    refine litO (rInt .i64) true [(List.length m.Text:Int)] ?_
    refine apO true h fun u h=>?_
    cases h
    exact bl [0,4]
   refine cl none [] 0 h (sValue_c N _ _ _) fun v h=>?_
   refine cd h (fun n h=>?_) (fun n h=>?_)
   ·
    refine pr (nl 4 (rInt .i64)) ?_
    cases h
    cases b _ rfl
    replace h:=a
    try dsimp only at h
    cases h
    exact rt [3]
   refine cl none [] 0 h (floor13_c N _ _) fun o h=>?_
   refine litO (rInt .i64) true [o] ?_
   refine apO true h fun y h=>?_
   cases h
   exact bl [0,4]
  cases h
  cases b _ rfl
  replace h:=a
  try dsimp only at h
  exact bj _ [1]
 intro d h
 try dsimp only at h
 cases h
 exact rt [0]
theorem u4Printable_c(N:Nat)(s:(List UInt8))(r:Bool)(h:u4Printable N s=some r):Cn Tryz.prog 108 [sT s] [] [sB r]:=by
 unfold u4Printable at h
 refine fn tb en108 Tryz.func108 fun X w H ν=>?_
 refine jn (fun x=>(Sum.inl x)) (fun(_:Unit)=>mkS 0 [] []) h (fun j e b=>?_) ?_
 ·
  refine bk ?_
  refine lp (fun a=>mkS 0 [] [vt 0 s,vi 3 a]) e [] ?_
  rintro a oo h c
  rw[u4Printable_b1]at h
  refine cd h (fun f h=>?_) (fun f h=>?_)
  ·
   refine bk ?_
   refine jn (fun x=>x) (fun d=>mkS 0 [] [vt 0 s,vi 3 a,vb 19 d]) h (fun k h m=>?_) ?_
   ·
    refine rg ?_
    refine ixS h fun n h=>?_
    refine gd h (fun g h=>?_) (fun g h=>?_)
    ·
     cases h
     exact bj _ []
    refine ixS h fun o h=>?_
    cases h
    exact bj _ []
   intro d h
   try dsimp only at h
   refine cd h (fun i h=>?_) (fun i h=>?_)
   ·
    cases h
    cases c _ rfl
    replace h:=b
    try dsimp only at h
    cases h
    exact rt []
   cases h
   exact bl []
  cases h
  cases c _ rfl
  replace h:=b
  try dsimp only at h
  exact bj _ []
 intro _ h
 try dsimp only at h
 cases h
 exact rt []
theorem u4ints_c(N:Nat)(a:Int)(b:Int)(r:Int)(h:u4ints N a b=some r):Cn Tryz.prog 109 [sI .i64 a,sI .i64 b] [] [sI .i64 r]:=by
 unfold u4ints at h
 refine fn tb en109 Tryz.func109 fun X w H ν=>?_
 refine cd h (fun hc1 h=>?_) (fun hc1 h=>?_)
 ·
  cases h
  exact rt []
 refine cd h (fun hc2 h=>?_) (fun hc2 h=>?_)
 ·
  cases h
  exact rt []
 cases h
 exact rt []
theorem u4Texts_c(N:Nat)(a:(List UInt8))(b:(List UInt8))(r:Int)(h:u4Texts N a b=some r):Cn Tryz.prog 79 [sT a,sT b] [] [sI .i64 r]:=by
 unfold u4Texts at h
 refine fn tb en79 Tryz.func79 fun X w H ν=>?_
 refine jn (fun x=>(Sum.inl x)) (fun(_:Unit)=>mkS 0 [] [vt 0 a,vt 1 b]) h (fun m g d=>?_) ?_
 ·
  refine bk ?_
  refine lp (fun c=>mkS 0 [] [vt 0 a,vt 1 b,vi 5 c]) g [] ?_
  rintro c oo h e
  rw[u4Texts_b1]at h
  refine jn (fun x=>x) (fun f=>mkS 0 [] [vt 0 a,vt 1 b,vi 5 c,vb 15 f]) h (fun n h o=>?_) ?_
  ·
   refine rg ?_
   refine gd h (fun i h=>?_) (fun i h=>?_)
   ·
    cases h
    exact bj _ []
   cases h
   exact bj _ []
  intro f h
  try dsimp only at h
  refine cd h (fun j h=>?_) (fun j h=>?_)
  ·
   refine bk ?_
   refine dr mixed ?_
   refine ixS h fun p h=>?_
   refine ixS h fun q h=>?_
   refine dk ?_
   refine cd h (fun k h=>?_) (fun k h=>?_)
   ·
    refine dr mixed ?_
    refine ixS h fun s h=>?_
    refine ixS h fun u h=>?_
    refine cl none [] 0 h (u4ints_c N _ _) fun v h=>?_
    refine dk ?_
    cases h
    cases e _ rfl
    replace h:=d
    try dsimp only at h
    cases h
    exact rt []
   cases h
   exact bl []
  cases h
  cases e _ rfl
  replace h:=d
  try dsimp only at h
  exact bj _ []
 intro _ h
 try dsimp only at h
 refine cl none [] 0 h (u4ints_c N _ _) fun y h=>?_
 cases h
 exact rt []
theorem u4Valid_c(N:Nat)(pa:RVal)(r:Bool)(h:u4Valid N pa=some r):Cn Tryz.prog 77 [sA rRVal false pa] [] [sB r]:=by
 unfold u4Valid at h
 refine fn tb en77 Tryz.func77 fun X w H ν=>?_
 refine bk ?_
 refine cd h (fun hc6 h=>?_) (fun hc6 h=>?_)
 ·
  refine rg ?_
  refine gd h (fun hc7 h=>?_) (fun hc7 h=>?_)
  ·
   cases h
   exact rt []
  cases h
  exact rt []
 refine cd h (fun hc8 h=>?_) (fun hc8 h=>?_)
 ·
  cases h
  exact rt []
 refine cd h (fun hc9 h=>?_) (fun hc9 h=>?_)
 ·
  refine rg ?_
  refine gd h (fun a h=>?_) (fun a h=>?_)
  ·
   refine cl none [] 0 h (u4Printable_c N _) fun c h=>?_
   refine gd h (fun b h=>?_) (fun b h=>?_)
   ·
    cases h
    exact rt []
   cases h
   exact rt []
  cases h
  exact rt []
 cases h
 exact rt []
theorem u4Fits_c(N:Nat)(pa:RVal)(x:RVar)(r:Bool)(h:u4Fits N pa x=some r):Cn Tryz.prog 49 [sA rRVal false pa,sA rRVar false x] [] [sB r]:=by
 unfold u4Fits at h
 refine fn tb en49 Tryz.func49 fun X w H ν=>?_
 refine cl none [] 0 h (u4Valid_c N _) fun g h=>?_
 refine cd h (fun a h=>?_) (fun a h=>?_)
 ·
  cases h
  exact rt []
 refine bk ?_
 refine cd h (fun b h=>?_) (fun b h=>?_)
 ·
  cases h
  exact rt []
 refine cd h (fun c h=>?_) (fun c h=>?_)
 ·
  refine rg ?_
  refine gd h (fun d h=>?_) (fun d h=>?_)
  ·
   refine gd h (fun e h=>?_) (fun e h=>?_)
   ·
    cases h
    exact rt []
   cases h
   exact rt []
  cases h
  exact rt []
 refine rg ?_
 refine gd h (fun f h=>?_) (fun f h=>?_)
 ·
  cases h
  exact rt []
 cases h
 exact rt []
theorem u16Like_c(N:Nat):∀(s:(List UInt8)) (p:(List UInt8)) (r:Bool) (h:u16Like N s p=some r),Cn Tryz.prog 78 [sT s,sT p] [] [sB r]:=by
 induction N with
 |zero=>intro s p r h;cases h
 |succ N ih=>
  intro s p r h
  replace h:u16Like_step N (u16Like N) s p=some r:=h
  unfold u16Like_step at h
  refine fn tb en78 Tryz.func78 fun X w H ν=>?_
  refine cd h (fun hc1 h=>?_) (fun hc1 h=>?_)
  ·
   cases h
   exact rt []
  refine ixS h fun x2 h=>?_
  refine cd h (fun hc7 h=>?_) (fun hc7 h=>?_)
  ·
   refine jn (fun x=>(Sum.inl x)) (fun(_:Unit)=>mkS 0 [] []) h (fun k d a=>?_) ?_
   ·
    refine bk ?_
    refine lp (fun b=>mkS 0 [] [vt 0 s,vt 1 p,vi 5 b]) d [] ?_
    rintro b oo h c
    rw[u16Like_b1]at h
    refine cd h (fun e h=>?_) (fun e h=>?_)
    ·
     refine bk ?_
     refine dr mixed ?_
     refine cutS1 h fun m h=>?_
     refine cutS1 h fun n h=>?_
     refine cl none [] 0 h (ih _ _) fun o h=>?_
     refine dk ?_
     refine cd h (fun f h=>?_) (fun f h=>?_)
     ·
      cases h
      cases c _ rfl
      replace h:=a
      try dsimp only at h
      cases h
      exact rt []
     cases h
     exact bl []
    cases h
    cases c _ rfl
    replace h:=a
    try dsimp only at h
    exact bj _ []
   intro _ h
   try dsimp only at h
   cases h
   exact rt []
  refine dr mixed ?_
  refine gd h (fun g h=>?_) (fun g h=>?_)
  ·
   refine ixS h fun q h=>?_
   refine gd h (fun i h=>?_) (fun i h=>?_)
   ·
    refine cutS1 h fun u h=>?_
    refine cutS1 h fun v h=>?_
    refine cl none [] 0 h (ih _ _) fun y h=>?_
    refine dk ?_
    cases h
    exact rt []
   refine ixS h fun a0 h=>?_
   refine ixS h fun a1 h=>?_
   refine gd h (fun j h=>?_) (fun j h=>?_)
   ·
    refine cutS1 h fun a2 h=>?_
    refine cutS1 h fun a3 h=>?_
    refine cl none [] 0 h (ih _ _) fun a4 h=>?_
    refine dk ?_
    cases h
    exact rt []
   refine dk ?_
   cases h
   exact rt []
  refine dk ?_
  cases h
  exact rt []
theorem u16Passes_c(N:Nat)(t:TTest)(s:(List UInt8))(r:Bool)(h:u16Passes N t s=some r):Cn Tryz.prog 51 [sA rTTest false t,sT s] [] [sB r]:=by
 unfold u16Passes at h
 refine fn tb en51 Tryz.func51 fun X w H ν=>?_
 refine jn (fun x=>x) (fun a=>mkS 1 [.box (Opn.cl rTTest true t)] [vp 2 0,vb 5 a]) h (fun f h g=>?_) ?_
 ·
  refine bk ?_
  refine cd h (fun b h=>?_) (fun b h=>?_)
  ·
   cases h
   exact bj _ [0]
  refine cd h (fun c h=>?_) (fun c h=>?_)
  ·
   refine cl none [] 0 h (u16Like_c N _ _) fun i h=>?_
   cases h
   exact bj _ [0]
  refine cd h (fun d h=>?_) (fun d h=>?_)
  ·
   refine cl none [] 0 h (u4Texts_c N _ _) fun j h=>?_
   cases h
   exact bj _ [0]
  refine cd h (fun e h=>?_) (fun e h=>?_)
  ·
   refine cl none [] 0 h (u4Texts_c N _ _) fun k h=>?_
   cases h
   exact bj _ [0]
  cases h
  exact bj _ [0]
 intro a h
 try dsimp only at h
 cases h
 exact rt []
theorem u16Inside_c(N:Nat)(pa:(List RVal))(l:(List RVar))(r:Bool)(h:u16Inside N pa l=some r):Cn Tryz.prog 19 [sR rRVal false pa,sR rRVar false l] [] [sB r]:=by
 unfold u16Inside at h
 refine fn tb en19 Tryz.func19 fun X w H ν=>?_
 refine cd h (fun hc1 h=>?_) (fun hc1 h=>?_)
 ·
  cases h
  exact rt []
 refine jn (fun x=>(Sum.inl x)) (fun(_:Unit)=>mkS 0 [] []) h (fun g d a=>?_) ?_
 ·
  refine bk ?_
  refine lp (fun b=>mkS 0 [] [vr 0 rRVal false pa,vr 1 rRVar false l,vi 5 b]) d [] ?_
  rintro b oo h c
  rw[u16Inside_b1]at h
  refine cd h (fun e h=>?_) (fun e h=>?_)
  ·
   refine bk ?_
   refine dr mixed ?_
   refine ixR h fun i h=>?_
   refine ixR h fun j h=>?_
   refine cl none [] 0 h (u4Fits_c N _ _) fun k h=>?_
   refine dk ?_
   refine cd h (fun f h=>?_) (fun f h=>?_)
   ·
    cases h
    cases c _ rfl
    replace h:=a
    try dsimp only at h
    cases h
    exact rt []
   cases h
   exact bl []
  cases h
  cases c _ rfl
  replace h:=a
  try dsimp only at h
  exact bj _ []
 intro _ h
 try dsimp only at h
 cases h
 exact rt []
theorem sHolds_c(N:Nat)(c:RClause)(pb:(List RVal))(r:Bool)(h:sHolds N c pb=some r):Cn Tryz.prog 20 [sA rRClause false c,sR rRVal false pb] [] [sB r]:=by
 unfold sHolds at h
 refine fn tb en20 Tryz.func20 fun X w H ν=>?_
 refine jn (fun x=>(Sum.inl x)) (fun(_:Unit)=>mkS 1 [.box (Opn.cl rRClause false c)] [vr 1 rRVal false pb,vp 2 0]) h (fun b8 a7 n=>?_) ?_
 ·
  refine bk ?_
  refine lp (fun o=>mkS 1 [.box (Opn.cl rRClause false c)] [vr 1 rRVal false pb,vp 2 0,vi 5 o]) a7 [0] ?_
  rintro o oo h p
  rw[sHolds_b1]at h
  refine cd h (fun a8 h=>?_) (fun a8 h=>?_)
  ·
   refine bk ?_
   refine ixR h fun b9 h=>?_
   refine ixR h fun ba h=>?_
   refine cd h (fun a9 h=>?_) (fun a9 h=>?_)
   ·
    cases h
    cases p _ rfl
    replace h:=n
    try dsimp only at h
    cases h
    exact rt []
   cases h
   exact bl [0]
  cases h
  cases p _ rfl
  replace h:=n
  try dsimp only at h
  exact bj _ [0]
 intro _ h
 try dsimp only at h
 refine jn (fun x=>(Sum.inl x)) (fun(_:Unit)=>mkS 1 [.box (Opn.cl rRClause false c)] [vr 1 rRVal false pb,vp 2 0]) h (fun bb aa q=>?_) ?_
 ·
  refine bk ?_
  refine lp (fun s=>mkS 1 [.box (Opn.cl rRClause false c)] [vr 1 rRVal false pb,vp 2 0,vi 6 s]) aa [0] ?_
  rintro s oo h u
  rw[sHolds_b2]at h
  refine cd h (fun ab h=>?_) (fun ab h=>?_)
  ·
   refine bk ?_
   refine ixR h fun bc h=>?_
   refine ixR h fun bd h=>?_
   refine cd h (fun ac h=>?_) (fun ac h=>?_)
   ·
    cases h
    cases u _ rfl
    replace h:=q
    try dsimp only at h
    cases h
    exact rt []
   cases h
   exact bl [0]
  cases h
  cases u _ rfl
  replace h:=q
  try dsimp only at h
  exact bj _ [0]
 intro _ h
 try dsimp only at h
 refine cl none [] 1 h (sAuxiliary_c N _ _) fun v h=>?_
 refine jn (fun x=>x) (fun y=>mkS 1 [.box (Opn.cl rRClause false c)] [vr 1 rRVal false pb,vp 2 0,vb 8 y]) h (fun be ad ae=>?_) ?_
 ·
  refine bk ?_
  refine lp (fun⟨a,b⟩=>mkS 2 [.box (Opn.cl rRClause false c),.row (rInt .i64) true v.1] [vr 1 rRVal false pb,vp 2 0,vo 7 1,vb 8 a,vi 9 b]) ad [0,1] ?_
  rintro⟨a,b⟩ oo h af
  rw[sHolds_b3]at h
  refine jn (fun x=>x) (fun a0=>mkS 2 [.box (Opn.cl rRClause false c),.row (rInt .i64) true v.1] [vr 1 rRVal false pb,vp 2 0,vo 7 1,vb 8 a,vi 9 b,vb 65 a0]) h (fun bf h bg=>?_) ?_
  ·
   refine rg ?_
   refine gd h (fun ag h=>?_) (fun ag h=>?_)
   ·
    cases h
    exact bj _ [0,1]
   cases h
   exact bj _ [0,1]
  intro a0 h
  try dsimp only at h
  refine cd h (fun ah h=>?_) (fun ah h=>?_)
  ·
   refine bk ?_
   refine ixR h fun bh h=>?_
   refine cl none [] 0 h (sValue_c N _ _ _) fun bi h=>?_
   refine rg ?_
   refine gd h (fun ai h=>?_) (fun ai h=>?_)
   ·
    refine gd h (fun aj h=>?_) (fun aj h=>?_)
    ·
     refine gd h (fun ak h=>?_) (fun ak h=>?_)
     ·
      cases h
      exact bl [0,1]
     refine ixR h fun bm h=>?_
     cases h
     exact bl [0,1]
    cases h
    exact bl [0,1]
   cases h
   exact bl [0,1]
  cases h
  cases af _ rfl
  replace h:=ae
  try dsimp only at h
  exact bj _ [0]
 intro y h
 try dsimp only at h
 refine jn (fun x=>x) (fun a1=>mkS 1 [.box (Opn.cl rRClause false c)] [vr 1 rRVal false pb,vp 2 0,vb 8 a1]) h (fun bn al am=>?_) ?_
 ·
  refine bk ?_
  refine lp (fun⟨d,e⟩=>mkS 1 [.box (Opn.cl rRClause false c)] [vr 1 rRVal false pb,vp 2 0,vb 8 d,vi 12 e]) al [0] ?_
  rintro⟨d,e⟩ oo h an
  rw[sHolds_b4]at h
  refine jn (fun x=>x) (fun a2=>mkS 1 [.box (Opn.cl rRClause false c)] [vr 1 rRVal false pb,vp 2 0,vb 8 d,vi 12 e,vb 105 a2]) h (fun bo h bp=>?_) ?_
  ·
   refine rg ?_
   refine gd h (fun ao h=>?_) (fun ao h=>?_)
   ·
    cases h
    exact bj _ [0]
   cases h
   exact bj _ [0]
  intro a2 h
  try dsimp only at h
  refine cd h (fun aq h=>?_) (fun aq h=>?_)
  ·
   refine bk ?_
   refine ixR h fun bq h=>?_
   refine ixR h fun br h=>?_
   refine dr mixed ?_
   refine gd h (fun ar h=>?_) (fun ar h=>?_)
   ·
    refine ixR h fun bu h=>?_
    refine cl none [] 0 h (u16Passes_c N _ _) fun bw h=>?_
    refine dk ?_
    cases h
    exact bl [0]
   refine dk ?_
   cases h
   exact bl [0]
  cases h
  cases an _ rfl
  replace h:=am
  try dsimp only at h
  exact bj _ [0]
 intro a1 h
 try dsimp only at h
 refine jn (fun x=>x) (fun a3=>mkS 1 [.box (Opn.cl rRClause false c)] [vr 1 rRVal false pb,vp 2 0,vb 8 a3]) h (fun bx av aw=>?_) ?_
 ·
  refine bk ?_
  refine lp (fun⟨f,g⟩=>mkS 1 [.box (Opn.cl rRClause false c)] [vr 1 rRVal false pb,vp 2 0,vb 8 f,vi 14 g]) av [0] ?_
  rintro⟨f,g⟩ oo h ax
  rw[sHolds_b5]at h
  refine jn (fun x=>x) (fun a4=>mkS 1 [.box (Opn.cl rRClause false c)] [vr 1 rRVal false pb,vp 2 0,vb 8 f,vi 14 g,vb 137 a4]) h (fun bz h c0=>?_) ?_
  ·
   refine rg ?_
   refine gd h (fun ay h=>?_) (fun ay h=>?_)
   ·
    cases h
    exact bj _ [0]
   cases h
   exact bj _ [0]
  intro a4 h
  try dsimp only at h
  refine cd h (fun az h=>?_) (fun az h=>?_)
  ·
   refine bk ?_
   refine dr mixed ?_
   refine ixR h fun c1 h=>?_
   refine ixR h fun c2 h=>?_
   refine gd h (fun b0 h=>?_) (fun b0 h=>?_)
   ·
    refine ixR h fun c3 h=>?_
    refine ixR h fun i h=>?_
    refine ixR h fun c4 h=>?_
    refine ixR h fun j h=>?_
    refine eqS [.ci .i64 i.Kind j.Kind,.ci .i64 i.Int j.Int,.cs i.Text j.Text] eqS_53 ?_
    refine dk ?_
    cases h
    exact bl [0]
   refine dk ?_
   cases h
   exact bl [0]
  cases h
  cases ax _ rfl
  replace h:=aw
  try dsimp only at h
  exact bj _ [0]
 intro a3 h
 try dsimp only at h
 refine jn (fun x=>x) (fun a5=>mkS 0 [] [vb 8 a5]) h (fun c5 b1 b2=>?_) ?_
 ·
  refine bk ?_
  refine lp (fun⟨k,m⟩=>mkS 1 [.box (Opn.cl rRClause false c)] [vr 1 rRVal false pb,vp 2 0,vb 8 k,vi 15 m]) b1 [0] ?_
  rintro⟨k,m⟩ oo h b3
  rw[sHolds_b6]at h
  refine jn (fun x=>x) (fun a6=>mkS 1 [.box (Opn.cl rRClause false c)] [vr 1 rRVal false pb,vp 2 0,vb 8 k,vi 15 m,vb 179 a6]) h (fun c6 h c7=>?_) ?_
  ·
   refine rg ?_
   refine gd h (fun b4 h=>?_) (fun b4 h=>?_)
   ·
    cases h
    exact bj _ [0]
   cases h
   exact bj _ [0]
  intro a6 h
  try dsimp only at h
  refine cd h (fun b5 h=>?_) (fun b5 h=>?_)
  ·
   refine bk ?_
   refine dr mixed ?_
   refine ixR h fun c8 h=>?_
   refine ixR h fun c9 h=>?_
   refine ixR h fun ca h=>?_
   refine ixR h fun cb h=>?_
   refine dk ?_
   refine rg ?_
   refine gd h (fun b6 h=>?_) (fun b6 h=>?_)
   ·
    refine gd h (fun b7 h=>?_) (fun b7 h=>?_)
    ·
     cases h
     exact bl [0]
    cases h
    exact bl [0]
   cases h
   exact bl [0]
  cases h
  cases b3 _ rfl
  replace h:=b2
  try dsimp only at h
  exact bj _ []
 intro a5 h
 try dsimp only at h
 cases h
 exact rt []
end Go.Proofs.YtcakdidcpoolcaaGreatDoor.SS

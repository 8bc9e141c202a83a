/- Walks of the symbolic machine, written by a program of mine (wip/tool). -/
import Derived.Test.YtcakdidcpoolcaaGreatDoorTB
import Derived.Test.YtcakdidcpoolcaaGreatDoorAd
set_option linter.unusedVariables false
set_option linter.unusedSimpArgs false
set_option linter.unusedSectionVars false
set_option maxRecDepth 100000
set_option maxHeartbeats 4000000
namespace Go.Proofs.YtcakdidcpoolcaaGreatDoor.SS
open Go Go.RowKit Go.X Go.Q Go.D Go.Proofs.YtcakdidcpoolcaaGreatDoor.TB 
theorem sAbs_c(N:Nat)(n:Int)(r:Int)(h:sAbs N n=some r):Cn Tryz.prog 107 [sI .i64 n] [] [sI .i64 r]:=by
 unfold sAbs at h
 refine fn tb en107 Tryz.func107 fun X w H ν=>?_
 refine cd h (fun hc1 h=>?_) (fun hc1 h=>?_)
 ·
  cases h
  exact rt []
 cases h
 exact rt []
theorem sWithin_c(N:Nat)(n:Int)(low:Int)(high:Int)(r:Bool)(h:sWithin N n low high=some r):Cn Tryz.prog 74 [sI .i64 n,sI .i64 low,sI .i64 high] [] [sB r]:=by
 unfold sWithin at h
 refine fn tb en74 Tryz.func74 fun X w H ν=>?_
 refine rg ?_
 refine gd h (fun hc1 h=>?_) (fun hc1 h=>?_)
 ·
  cases h
  exact rt []
 cases h
 exact rt []
theorem sHas_c(N:Nat)(l:(List Int))(n:Int)(r:Bool)(h:sHas N l n=some r):Cn Tryz.prog 106 [sR (rInt .i64) false l,sI .i64 n] [] [sB r]:=by
 unfold sHas at h
 refine fn tb en106 Tryz.func106 fun X w H ν=>?_
 refine jn (fun x=>(Sum.inl x)) (fun(_:Unit)=>mkS 0 [] []) h (fun g d a=>?_) ?_
 ·
  refine bk ?_
  refine lp (fun b=>mkS 0 [] [vr 0 (rInt .i64) false l,vi 1 n,vi 5 b]) d [] ?_
  rintro b oo h c
  rw[sHas_b1]at h
  refine cd h (fun e h=>?_) (fun e h=>?_)
  ·
   refine bk ?_
   refine ixR h fun i h=>?_
   refine cd h (fun f h=>?_) (fun f h=>?_)
   ·
    cases h
    cases c _ rfl
    replace h:=a
    try dsimp only at h
    cases h
    exact rt []
   cases h
   exact bl []
  cases h
  cases c _ rfl
  replace h:=a
  try dsimp only at h
  exact bj _ []
 intro _ h
 try dsimp only at h
 cases h
 exact rt []
theorem sForm_c(N:Nat)(f:Linear)(c:RClause)(l:(List RVar))(bounds:(List Int))(r:Int)(h:sForm N f c l bounds=some r):Cn Tryz.prog 73 [sA rLinear false f,sA rRClause false c,sR rRVar false l,sR (rInt .i64) false bounds] [] [sI .i64 r]:=by
 unfold sForm at h
 refine fn tb en73 Tryz.func73 fun X w H ν=>?_
 refine cl none [] 0 h (sWithin_c N _ _ _) fun a8 h=>?_
 refine cd h (fun n h=>?_) (fun n h=>?_)
 ·
  cases h
  exact rt []
 refine cl none [] 0 h (sAbs_c N _) fun a9 h=>?_
 refine jn (fun x=>(Sum.inl x)) (fun i=>mkS 0 [] [vi 9 i]) h (fun aa o a=>?_) ?_
 ·
  refine bk ?_
  refine lp (fun⟨b,d⟩=>mkS 2 [.box (Opn.cl rLinear false f),.box (Opn.cl rRClause false c)] [vr 2 rRVar false l,vr 3 (rInt .i64) false bounds,vp 4 0,vp 5 1,vi 9 b,vi 10 d]) o [0,1] ?_
  rintro⟨b,d⟩ oo h e
  rw[sForm_b1]at h
  refine cd h (fun p h=>?_) (fun p h=>?_)
  ·
   refine bk ?_
   refine ixR h fun g h=>?_
   refine jn (fun x=>x) (fun j=>mkS 3 [.box (Opn.cl rLinear false f),.box (Opn.cl rRClause false c),.box (Opn.cl rCoef true g)] [vr 2 rRVar false l,vr 3 (rInt .i64) false bounds,vp 4 0,vp 5 1,vi 9 b,vi 10 d,vp 11 2,vb 71 j]) h (fun ab h ac=>?_) ?_
   ·
    refine dr mixed ?_
    refine gd h (fun q h=>?_) (fun q h=>?_)
    ·
     refine dk ?_
     cases h
     exact bj _ [0,1,2]
    refine gd h (fun s h=>?_) (fun s h=>?_)
    ·
     refine dk ?_
     cases h
     exact bj _ [0,1,2]
    refine gd h (fun u h=>?_) (fun u h=>?_)
    ·
     refine ixR h fun ad h=>?_
     refine gd h (fun v h=>?_) (fun v h=>?_)
     ·
      refine dk ?_
      cases h
      exact bj _ [0,1,2]
     refine gd h (fun y h=>?_) (fun y h=>?_)
     ·
      refine dk ?_
      cases h
      exact bj _ [0,1,2]
     refine cl none [] 0 h (sWithin_c N _ _ _) fun ae h=>?_
     refine dk ?_
     cases h
     exact bj _ [0,1,2]
    refine gd h (fun a0 h=>?_) (fun a0 h=>?_)
    ·
     refine dk ?_
     cases h
     exact bj _ [0,1,2]
    refine cl none [] 0 h (sWithin_c N _ _ _) fun af h=>?_
    refine dk ?_
    cases h
    exact bj _ [0,1,2]
   intro j h
   try dsimp only at h
   refine cd h (fun a1 h=>?_) (fun a1 h=>?_)
   ·
    cases h
    cases e _ rfl
    replace h:=a
    try dsimp only at h
    cases h
    exact rt []
   refine jn (fun x=>(Sum.inl x)) (fun k=>mkS 3 [.box (Opn.cl rLinear false f),.box (Opn.cl rRClause false c),.box (Opn.cl rCoef true g)] [vr 2 rRVar false l,vr 3 (rInt .i64) false bounds,vp 4 0,vp 5 1,vi 9 b,vi 10 d,vp 11 2,vi 12 k]) h (fun ag h a2=>?_) ?_
   ·
    refine cd h (fun a3 h=>?_) (fun a3 h=>?_)
    ·
     refine ixR h fun ah h=>?_
     cases h
     exact bj _ [0,1,2]
    refine jn (fun x=>x) (fun m=>mkS 3 [.box (Opn.cl rLinear false f),.box (Opn.cl rRClause false c),.box (Opn.cl rCoef true g)] [vr 2 rRVar false l,vr 3 (rInt .i64) false bounds,vp 4 0,vp 5 1,vi 9 b,vi 10 d,vp 11 2,vi 12 2147483648,vb 99 m]) h (fun ai h aj=>?_) ?_
    ·
     refine rg ?_
     refine ixR h fun ak h=>?_
     refine gd h (fun a4 h=>?_) (fun a4 h=>?_)
     ·
      cases h
      exact bj _ [0,1,2]
     refine cl none [] 0 h (sHas_c N _ _) fun al h=>?_
     cases h
     exact bj _ [0,1,2]
    intro m h
    try dsimp only at h
    refine cd h (fun a5 h=>?_) (fun a5 h=>?_)
    ·
     cases h
     replace h:=a2
     try dsimp only at h
     cases h
     cases e _ rfl
     replace h:=a
     try dsimp only at h
     cases h
     exact rt []
    cases h
    exact bj _ [0,1,2]
   intro k h
   try dsimp only at h
   refine cl none [] 0 h (sAbs_c N _) fun am h=>?_
   refine quB h fun an h=>?_
   refine cd h (fun a6 h=>?_) (fun a6 h=>?_)
   ·
    cases h
    cases e _ rfl
    replace h:=a
    try dsimp only at h
    cases h
    exact rt []
   refine cl none [] 0 h (sAbs_c N _) fun ao h=>?_
   refine cd h (fun a7 h=>?_) (fun a7 h=>?_)
   ·
    cases h
    cases e _ rfl
    replace h:=a
    try dsimp only at h
    cases h
    exact rt []
   cases h
   exact bl [0,1]
  cases h
  cases e _ rfl
  replace h:=a
  try dsimp only at h
  exact bj _ []
 intro i h
 try dsimp only at h
 cases h
 exact rt []
theorem sAscending_c(N:Nat)(l:(List Int))(n:Int)(r:Bool)(h:sAscending N l n=some r):Cn Tryz.prog 71 [sR (rInt .i64) false l,sI .i64 n] [] [sB r]:=by
 unfold sAscending at h
 refine fn tb en71 Tryz.func71 fun X w H ν=>?_
 refine jn (fun x=>(Sum.inl x)) (fun(_:Unit)=>mkS 0 [] []) h (fun m e b=>?_) ?_
 ·
  refine bk ?_
  refine lp (fun a=>mkS 0 [] [vr 0 (rInt .i64) false l,vi 1 n,vi 5 a]) e [] ?_
  rintro a oo h c
  rw[sAscending_b1]at h
  refine cd h (fun f h=>?_) (fun f h=>?_)
  ·
   refine bk ?_
   refine jn (fun x=>x) (fun d=>mkS 0 [] [vr 0 (rInt .i64) false l,vi 1 n,vi 5 a,vb 40 d]) h (fun o h p=>?_) ?_
   ·
    refine dr mixed ?_
    refine ixR h fun q h=>?_
    refine gd h (fun g h=>?_) (fun g h=>?_)
    ·
     refine dk ?_
     cases h
     exact bj _ []
    refine ixR h fun s h=>?_
    refine gd h (fun i h=>?_) (fun i h=>?_)
    ·
     refine dk ?_
     cases h
     exact bj _ []
    refine gd h (fun j h=>?_) (fun j h=>?_)
    ·
     refine ixR h fun u h=>?_
     refine ixR h fun v h=>?_
     refine dk ?_
     cases h
     exact bj _ []
    refine dk ?_
    cases h
    exact bj _ []
   intro d h
   try dsimp only at h
   refine cd h (fun k h=>?_) (fun k h=>?_)
   ·
    cases h
    cases c _ rfl
    replace h:=b
    try dsimp only at h
    cases h
    exact rt []
   cases h
   exact bl []
  cases h
  cases c _ rfl
  replace h:=b
  try dsimp only at h
  exact bj _ []
 intro _ h
 try dsimp only at h
 cases h
 exact rt []
theorem sText_c(N:Nat)(pa:Int)(c:RClause)(l:(List RVar))(r:Bool)(h:sText N pa c l=some r):Cn Tryz.prog 72 [sI .i64 pa,sA rRClause false c,sR rRVar false l] [] [sB r]:=by
 unfold sText at h
 refine fn tb en72 Tryz.func72 fun X w H ν=>?_
 refine rg ?_
 refine gd h (fun hc6 h=>?_) (fun hc6 h=>?_)
 ·
  refine gd h (fun hc8 h=>?_) (fun hc8 h=>?_)
  ·
   refine ixR h fun x9 h=>?_
   refine gd h (fun a h=>?_) (fun a h=>?_)
   ·
    refine cl none [] 0 h (sHas_c N _ _) fun b h=>?_
    cases h
    exact rt []
   cases h
   exact rt []
  cases h
  exact rt []
 cases h
 exact rt []
theorem sPairs_c(N:Nat)(p:(List Arr2Int))(c:RClause)(l:(List RVar))(r:Bool)(h:sPairs N p c l=some r):Cn Tryz.prog 76 [sR rArr2Int false p,sA rRClause false c,sR rRVar false l] [] [sB r]:=by
 unfold sPairs at h
 refine fn tb en76 Tryz.func76 fun X w H ν=>?_
 refine jn (fun x=>(Sum.inl x)) (fun(_:Unit)=>mkS 0 [] []) h (fun m f b=>?_) ?_
 ·
  refine bk ?_
  refine lp (fun a=>mkS 1 [.box (Opn.cl rRClause false c)] [vr 0 rArr2Int false p,vr 2 rRVar false l,vp 4 0,vi 7 a]) f [0] ?_
  rintro a oo h d
  rw[sPairs_b1]at h
  refine cd h (fun g h=>?_) (fun g h=>?_)
  ·
   refine bk ?_
   refine jn (fun x=>x) (fun e=>mkS 1 [.box (Opn.cl rRClause false c)] [vr 0 rArr2Int false p,vr 2 rRVar false l,vp 4 0,vi 7 a,vb 46 e]) h (fun n h o=>?_) ?_
   ·
    refine dr mixed ?_
    refine ixR h fun q h=>?_
    refine cl none [] 0 h (sText_c N _ _ _) fun s h=>?_
    refine gd h (fun i h=>?_) (fun i h=>?_)
    ·
     refine dk ?_
     cases h
     exact bj _ [0]
    refine ixR h fun u h=>?_
    refine cl none [] 0 h (sText_c N _ _ _) fun v h=>?_
    refine gd h (fun j h=>?_) (fun j h=>?_)
    ·
     refine dk ?_
     cases h
     exact bj _ [0]
    refine ixR h fun y h=>?_
    refine ixR h fun a0 h=>?_
    refine dk ?_
    cases h
    exact bj _ [0]
   intro e h
   try dsimp only at h
   refine cd h (fun k h=>?_) (fun k h=>?_)
   ·
    cases h
    cases d _ rfl
    replace h:=b
    try dsimp only at h
    cases h
    exact rt []
   cases h
   exact bl [0]
  cases h
  cases d _ rfl
  replace h:=b
  try dsimp only at h
  exact bj _ []
 intro _ h
 try dsimp only at h
 cases h
 exact rt []
theorem sTested_c(N:Nat)(t:TTest)(r:Bool)(h:sTested N t=some r):Cn Tryz.prog 75 [sA rTTest false t] [] [sB r]:=by
 unfold sTested at h
 refine fn tb en75 Tryz.func75 fun X w H ν=>?_
 refine jn (fun x=>(Sum.inl x)) (fun(_:Unit)=>mkS 1 [.box (Opn.cl rTTest true t)] [vp 1 0]) h (fun l e b=>?_) ?_
 ·
  refine bk ?_
  refine lp (fun a=>mkS 1 [.box (Opn.cl rTTest true t)] [vp 1 0,vi 3 a]) e [0] ?_
  rintro a oo h c
  rw[sTested_b1]at h
  refine cd h (fun f h=>?_) (fun f h=>?_)
  ·
   refine bk ?_
   refine jn (fun x=>x) (fun d=>mkS 1 [.box (Opn.cl rTTest true t)] [vp 1 0,vi 3 a,vb 22 d]) h (fun m h n=>?_) ?_
   ·
    refine rg ?_
    refine ixS h fun o h=>?_
    refine gd h (fun g h=>?_) (fun g h=>?_)
    ·
     cases h
     exact bj _ [0]
    refine ixS h fun p h=>?_
    cases h
    exact bj _ [0]
   intro d h
   try dsimp only at h
   refine cd h (fun i h=>?_) (fun i h=>?_)
   ·
    cases h
    cases c _ rfl
    replace h:=b
    try dsimp only at h
    cases h
    exact rt []
   cases h
   exact bl [0]
  cases h
  cases c _ rfl
  replace h:=b
  try dsimp only at h
  exact bj _ [0]
 intro _ h
 try dsimp only at h
 refine rg ?_
 refine gd h (fun j h=>?_) (fun j h=>?_)
 ·
  refine gd h (fun k h=>?_) (fun k h=>?_)
  ·
   cases h
   exact rt []
  cases h
  exact rt []
 cases h
 exact rt []
theorem sValid_c(N:Nat)(c:RClause)(l:(List RVar))(r:Bool)(h:sValid N c l=some r):Cn Tryz.prog 37 [sA rRClause false c,sR rRVar false l] [] [sB r]:=by
 unfold sValid at h
 refine fn tb en37 Tryz.func37 fun X w H ν=>?_
 refine jn (fun x=>x) (fun i=>mkS 1 [.box (Opn.cl rRClause false c)] [vr 1 rRVar false l,vp 2 0,vb 24 i]) h (fun aj h ak=>?_) ?_
 ·
  refine rg ?_
  refine cl none [] 0 h (sAscending_c N _ _) fun al h=>?_
  refine gd h (fun u h=>?_) (fun u h=>?_)
  ·
   cases h
   exact bj _ [0]
  refine cl none [] 0 h (sAscending_c N _ _) fun am h=>?_
  cases h
  exact bj _ [0]
 intro i h
 try dsimp only at h
 refine cd h (fun v h=>?_) (fun v h=>?_)
 ·
  cases h
  exact rt []
 refine jn (fun x=>(Sum.inl x)) (fun d=>mkS 2 [.box (Opn.cl rRClause false c),.row (rInt .i64) true d] [vr 1 rRVar false l,vp 2 0,vo 5 1]) h (fun an y e=>?_) ?_
 ·
  refine bk ?_
  refine ps (nl 5 (rInt .i64)) ?_
  refine lp (fun⟨a,b⟩=>mkS 2 [.box (Opn.cl rRClause false c),.row (rInt .i64) true a] [vr 1 rRVar false l,vp 2 0,vo 5 1,vi 6 b]) y [0,1] ?_
  rintro⟨a,b⟩ oo h f
  rw[sValid_b1]at h
  refine cd h (fun a0 h=>?_) (fun a0 h=>?_)
  ·
   refine bk ?_
   refine ixR h fun a1 h=>?_
   refine cd h (fun a2 h=>?_) (fun a2 h=>?_)
   ·
    refine jn (fun x=>x) (fun j=>mkS 2 [.box (Opn.cl rRClause false c),.row (rInt .i64) true a] [vr 1 rRVar false l,vp 2 0,vo 5 1,vi 6 b,vb 58 j]) h (fun ao h aq=>?_) ?_
    ·
     refine rg ?_
     refine gd h (fun a3 h=>?_) (fun a3 h=>?_)
     ·
      cases h
      exact bj _ [0,1]
     refine gd h (fun a4 h=>?_) (fun a4 h=>?_)
     ·
      cases h
      exact bj _ [0,1]
     refine cl none [] 0 h (sText_c N _ _ _) fun ar h=>?_
     cases h
     exact bj _ [0,1]
    intro j h
    try dsimp only at h
    refine cd h (fun a5 h=>?_) (fun a5 h=>?_)
    ·
     cases h
     cases f _ rfl
     replace h:=e
     try dsimp only at h
     cases h
     exact rt []
    refine litO (rInt .i64) true [16] ?_
    refine apO true h fun av h=>?_
    cases h
    exact bl [0,3]
   refine cl none [] 0 h (sForm_c N _ _ _ _) fun a6 h=>?_
   refine jn (fun x=>x) (fun k=>mkS 3 [.box (Opn.cl rRClause false c),.row (rInt .i64) true a,.box (Opn.cl rRAux false a1)] [vr 1 rRVar false l,vp 2 0,vo 5 1,vi 6 b,vp 7 2,vi 8 a6,vb 80 k]) h (fun aw h ax=>?_) ?_
   ·
    refine rg ?_
    refine cl none [] 0 h (sWithin_c N _ _ _) fun ay h=>?_
    refine gd h (fun a7 h=>?_) (fun a7 h=>?_)
    ·
     cases h
     exact bj _ [0,1,2]
    refine gd h (fun a8 h=>?_) (fun a8 h=>?_)
    ·
     cases h
     exact bj _ [0,1,2]
    cases h
    exact bj _ [0,1,2]
   intro k h
   try dsimp only at h
   refine cd h (fun a9 h=>?_) (fun a9 h=>?_)
   ·
    cases h
    cases f _ rfl
    replace h:=e
    try dsimp only at h
    cases h
    exact rt []
   refine quB h fun aa h=>?_
   refine litO (rInt .i64) true [(iw (aa+1))] ?_
   refine apO true h fun az h=>?_
   cases h
   exact bl [0,4]
  cases h
  cases f _ rfl
  replace h:=e
  try dsimp only at h
  exact bj _ [0,1]
 intro d h
 try dsimp only at h
 refine jn (fun x=>(Sum.inl x)) (fun(_:Unit)=>mkS 1 [.box (Opn.cl rRClause false c)] [vr 1 rRVar false l,vp 2 0]) h (fun b0 ab m=>?_) ?_
 ·
  refine bk ?_
  refine lp (fun n=>mkS 2 [.box (Opn.cl rRClause false c),.row (rInt .i64) true d] [vr 1 rRVar false l,vp 2 0,vo 5 1,vi 9 n]) ab [0,1] ?_
  rintro n oo h o
  rw[sValid_b2]at h
  refine cd h (fun ac h=>?_) (fun ac h=>?_)
  ·
   refine bk ?_
   refine dr mixed ?_
   refine ixR h fun b1 h=>?_
   refine cl none [] 0 h (sForm_c N _ _ _ _) fun b2 h=>?_
   refine dk ?_
   refine cd h (fun ad h=>?_) (fun ad h=>?_)
   ·
    cases h
    cases o _ rfl
    replace h:=m
    try dsimp only at h
    cases h
    exact rt []
   cases h
   exact bl [0,1]
  cases h
  cases o _ rfl
  replace h:=m
  try dsimp only at h
  exact bj _ [0]
 intro _ h
 try dsimp only at h
 refine jn (fun x=>(Sum.inl x)) (fun(_:Unit)=>mkS 1 [.box (Opn.cl rRClause false c)] [vr 1 rRVar false l,vp 2 0]) h (fun b3 ae p=>?_) ?_
 ·
  refine bk ?_
  refine lp (fun g=>mkS 1 [.box (Opn.cl rRClause false c)] [vr 1 rRVar false l,vp 2 0,vi 10 g]) ae [0] ?_
  rintro g oo h q
  rw[sValid_b3]at h
  refine cd h (fun af h=>?_) (fun af h=>?_)
  ·
   refine bk ?_
   refine jn (fun x=>x) (fun s=>mkS 1 [.box (Opn.cl rRClause false c)] [vr 1 rRVar false l,vp 2 0,vi 10 g,vb 132 s]) h (fun b4 h b5=>?_) ?_
   ·
    refine dr mixed ?_
    refine ixR h fun b6 h=>?_
    refine cl none [] 0 h (sTested_c N _) fun b7 h=>?_
    refine gd h (fun ag h=>?_) (fun ag h=>?_)
    ·
     refine dk ?_
     cases h
     exact bj _ [0]
    refine ixR h fun b8 h=>?_
    refine cl none [] 0 h (sText_c N _ _ _) fun b9 h=>?_
    refine dk ?_
    cases h
    exact bj _ [0]
   intro s h
   try dsimp only at h
   refine cd h (fun ah h=>?_) (fun ah h=>?_)
   ·
    cases h
    cases q _ rfl
    replace h:=p
    try dsimp only at h
    cases h
    exact rt []
   cases h
   exact bl [0]
  cases h
  cases q _ rfl
  replace h:=p
  try dsimp only at h
  exact bj _ [0]
 intro _ h
 try dsimp only at h
 refine rg ?_
 refine cl none [] 0 h (sPairs_c N _ _ _) fun ba h=>?_
 refine gd h (fun ai h=>?_) (fun ai h=>?_)
 ·
  refine cl none [] 0 h (sPairs_c N _ _ _) fun bb h=>?_
  cases h
  exact rt []
 cases h
 exact rt []
theorem sFew_c(N:Nat)(c:RClause)(r:Bool)(h:sFew N c=some r):Cn Tryz.prog 36 [sA rRClause false c] [] [sB r]:=by
 unfold sFew at h
 refine fn tb en36 Tryz.func36 fun X w H ν=>?_
 refine cd h (fun k h=>?_) (fun k h=>?_)
 ·
  cases h
  exact rt []
 refine jn (fun x=>x) (fun b=>mkS 1 [.box (Opn.cl rRClause false c)] [vp 1 0,vi 3 b]) h (fun a1 l m=>?_) ?_
 ·
  refine bk ?_
  refine lp (fun⟨d,i64⟩=>mkS 1 [.box (Opn.cl rRClause false c)] [vp 1 0,vi 3 d,vi 4 i64]) l [0] ?_
  rintro⟨d,i64⟩ oo h n
  rw[sFew_b1]at h
  refine cd h (fun o h=>?_) (fun o h=>?_)
  ·
   refine bk ?_
   refine ixR h fun a2 h=>?_
   cases h
   exact bl [0]
  cases h
  cases n _ rfl
  replace h:=m
  try dsimp only at h
  exact bj _ [0]
 intro b h
 try dsimp only at h
 refine jn (fun x=>x) (fun a=>mkS 1 [.box (Opn.cl rRClause false c)] [vp 1 0,vi 3 a]) h (fun a3 p q=>?_) ?_
 ·
  refine bk ?_
  refine lp (fun⟨e,f⟩=>mkS 1 [.box (Opn.cl rRClause false c)] [vp 1 0,vi 3 e,vi 5 f]) p [0] ?_
  rintro⟨e,f⟩ oo h s
  rw[sFew_b2]at h
  refine cd h (fun u h=>?_) (fun u h=>?_)
  ·
   refine bk ?_
   refine ixR h fun a4 h=>?_
   cases h
   exact bl [0]
  cases h
  cases s _ rfl
  replace h:=q
  try dsimp only at h
  exact bj _ [0]
 intro a h
 try dsimp only at h
 refine jn (fun x=>(Sum.inl x)) (fun(_:Unit)=>mkS 0 [] [vi 3 a]) h (fun a5 v g=>?_) ?_
 ·
  refine bk ?_
  refine lp (fun i=>mkS 1 [.box (Opn.cl rRClause false c)] [vp 1 0,vi 3 a,vi 6 i]) v [0] ?_
  rintro i oo h j
  rw[sFew_b3]at h
  refine cd h (fun y h=>?_) (fun y h=>?_)
  ·
   refine bk ?_
   refine ixR h fun a6 h=>?_
   refine cd h (fun a0 h=>?_) (fun a0 h=>?_)
   ·
    cases h
    cases j _ rfl
    replace h:=g
    try dsimp only at h
    cases h
    exact rt []
   cases h
   exact bl [0]
  cases h
  cases j _ rfl
  replace h:=g
  try dsimp only at h
  exact bj _ []
 intro _ h
 try dsimp only at h
 cases h
 exact rt []
end Go.Proofs.YtcakdidcpoolcaaGreatDoor.SS

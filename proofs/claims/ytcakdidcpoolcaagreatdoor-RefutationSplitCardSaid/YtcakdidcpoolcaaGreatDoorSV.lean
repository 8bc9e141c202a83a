/- Walks of the symbolic machine, written by a program of mine (wip/tool). -/
import Derived.Test.YtcakdidcpoolcaaGreatDoorTB
import Derived.Test.YtcakdidcpoolcaaGreatDoorAd
import Derived.Test.YtcakdidcpoolcaaGreatDoorAe
import Derived.Test.YtcakdidcpoolcaaGreatDoorSC
import Derived.Test.YtcakdidcpoolcaaGreatDoorSI
import Derived.Test.YtcakdidcpoolcaaGreatDoorST
set_option linter.unusedVariables false
set_option linter.unusedSimpArgs false
set_option linter.unusedSectionVars false
set_option maxRecDepth 100000
set_option maxHeartbeats 4000000
namespace Go.Proofs.YtcakdidcpoolcaaGreatDoor.SV
open Go Go.RowKit Go.X Go.Q Go.D Go.Proofs.YtcakdidcpoolcaaGreatDoor.TB Go.Proofs.YtcakdidcpoolcaaGreatDoor.FS Go.Proofs.YtcakdidcpoolcaaGreatDoor.SC Go.Proofs.YtcakdidcpoolcaaGreatDoor.SI Go.Proofs.YtcakdidcpoolcaaGreatDoor.ST
theorem cloneCoef_c(N:Nat)(s:(List Coef))(r:(List Coef))(h:cloneCoef N s=some r):Cn Tryz.prog 42 [sR rCoef false s] [.row rCoef true r] [sO 0]:=by
 unfold cloneCoef at h
 refine fn tb en42 Tryz.func42 fun X w H ν=>?_
 refine eqn ?_
 refine cn (fun hnil=>?_) ?_
 ·
  replace h:some []=some r:=by rw[hnil]at h;simpa[apnd]using h
  refine pr (nl 2 rCoef) ?_
  cases h
  exact rt [0]
 refine litZ rCoef ?_
 refine apO true h fun a h=>?_
 cases h
 exact rt [1]
theorem clonePair_c(N:Nat)(s:(List Arr2Int))(r:(List Arr2Int))(h:clonePair N s=some r):Cn Tryz.prog 95 [sR rArr2Int false s] [.row rArr2Int true r] [sO 0]:=by
 unfold clonePair at h
 refine fn tb en95 Tryz.func95 fun X w H ν=>?_
 refine eqn ?_
 refine cn (fun hnil=>?_) ?_
 ·
  replace h:some []=some r:=by rw[hnil]at h;simpa[apnd]using h
  refine pr (nl 2 rArr2Int) ?_
  cases h
  exact rt [0]
 refine litZ rArr2Int ?_
 refine apO true h fun a h=>?_
 cases h
 exact rt [1]
theorem vfirst_c(N:Nat)(l:(List RVar))(r:(List Arr2Int))(h:vfirst N l=some r):Cn Tryz.prog 61 [sR rRVar false l] [.row rArr2Int true r] [sO 0]:=by
 unfold vfirst at h
 refine fn tb en61 Tryz.func61 fun X w H ν=>?_
 refine mkO rArr2Int h fun x2 h=>?_
 refine jn (fun x=>x) (fun a=>mkS 1 [.row rArr2Int true a] [vo 3 0]) h (fun j d e=>?_) ?_
 ·
  refine bk ?_
  refine lp (fun⟨b,c⟩=>mkS 1 [.row rArr2Int true b] [vo 3 0,vr 9 rRVar false l,vi 10 (List.length l:Int),vi 11 c]) d [0] ?_
  rintro⟨b,c⟩ oo h f
  rw[vfirst_b1]at h
  refine cd h (fun g h=>?_) (fun g h=>?_)
  ·
   refine bk ?_
   refine ixR h fun k h=>?_
   refine cd h (fun i h=>?_) (fun i h=>?_)
   ·
    refine dr mixed ?_
    refine ixQ h fun m n h=>?_
    refine stP h (fun o h=>?_) (by assumption)
    refine dk ?_
    cases h
    exact bl [0]
   cases h
   exact bl [0]
  cases h
  cases f _ rfl
  replace h:=e
  try dsimp only at h
  exact bj _ [0]
 intro a h
 try dsimp only at h
 cases h
 exact rt [0]
theorem vhigh_c(N:Nat)(l:(List RVar))(ranges:(List Arr2Int))(pc:Int)(r:Int)(h:vhigh N l ranges pc=some r):Cn Tryz.prog 40 [sR rRVar false l,sR rArr2Int false ranges,sI .i64 pc] [] [sI .i64 r]:=by
 unfold vhigh at h
 refine fn tb en40 Tryz.func40 fun X w H ν=>?_
 refine dr mixed ?_
 refine ixR h fun x1 h=>?_
 refine ixR h fun a h=>?_
 refine dk ?_
 cases h
 exact rt []
theorem vbounds_c(N:Nat)(pa:Int)(low:Int)(high:Int)(r:(List Constraint))(h:vbounds N pa low high=some r):Cn Tryz.prog 39 [sI .i64 pa,sI .i64 low,sI .i64 high] [.row rConstraint true r] [sO 0]:=by
 unfold vbounds at h
 refine fn tb en39 Tryz.func39 fun X w H ν=>?_
 refine litO rCoef true [(Coef.mk pa (-1))] ?_
 refine litO rCoef true [(Coef.mk pa 1)] ?_
 refine po (fzk 0 [10,11,12] []) ?_
 refine po (fzk 1 [17,18,19] []) ?_
 refine litO rConstraint true [(Constraint.mk (Linear.mk low [(Coef.mk pa (-1))]) false),(Constraint.mk (Linear.mk (iw (0-high)) [(Coef.mk pa 1)]) false)] ?_
 cases h
 exact rt [2]
theorem vquotient_c(N:Nat)(q:Int)(pb:Linear)(pc:Int)(r:(List Constraint))(h:vquotient N q pb pc=some r):Cn Tryz.prog 41 [sI .i64 q,sA rLinear false pb,sI .i64 pc] [.row rConstraint true r] [sO 0]:=by
 unfold vquotient at h
 refine fn tb en41 Tryz.func41 fun X w H ν=>?_
 refine jn (fun x=>x) (fun⟨b,c⟩=>mkS 4 [.box [(lI .i64 (iw (0-pb.Const))),(.own 1)],.row rCoef true b,.box [(lI .i64 (iw (pb.Const-(iw (pc-1))))),(.own 3)],.row rCoef true c] [vi 0 q,vi 2 pc,vp 7 0,vp 8 2]) h (fun n g i=>?_) ?_
 ·
  refine bk ?_
  refine ps (nb 1 1 rCoef) ?_
  refine ps (nb 2 1 rCoef) ?_
  refine lp (fun⟨d,e,f⟩=>mkS 4 [.box [(lI .i64 (iw (0-pb.Const))),(.own 1)],.row rCoef true d,.box [(lI .i64 (iw (pb.Const-(iw (pc-1))))),(.own 3)],.row rCoef true e] [vi 0 q,vi 2 pc,vp 7 0,vp 8 2,vr 22 rCoef false pb.Coefs,vi 23 (List.length pb.Coefs:Int),vi 24 f]) g [1,3,2,4] ?_
  rintro⟨d,e,f⟩ oo h j
  rw[vquotient_b1]at h
  refine cd h (fun k h=>?_) (fun k h=>?_)
  ·
   refine bk ?_
   refine ixR h fun a h=>?_
   refine litO rCoef true [(Coef.mk a.Var (iw (0-a.N)))] ?_
   refine apO true h fun o h=>?_
   refine litO rCoef true [a] ?_
   refine apO true h fun p h=>?_
   cases h
   exact bl [0,6,2,8]
  cases h
  cases j _ rfl
  replace h:=i
  try dsimp only at h
  exact bj _ [0,1,2,3]
 rintro⟨b,c⟩ h
 try dsimp only at h
 refine litO rCoef true [(Coef.mk q pc)] ?_
 refine apO true h fun l h=>?_
 refine litO rCoef true [(Coef.mk q (iw (0-pc)))] ?_
 refine apO true h fun m h=>?_
 refine po (fzk 5 [52,63,64] [0]) ?_
 refine po (fzk 7 [61,65,66] [2]) ?_
 refine litO rConstraint true [(Constraint.mk (Linear.mk (iw (0-pb.Const)) l) false),(Constraint.mk (Linear.mk (iw (pb.Const-(iw (pc-1)))) m) false)] ?_
 cases h
 exact rt [8]
theorem vInts_c(N:Nat)(l:(List RVar))(c:RClause)(ranges:(List Arr2Int))(r:(Int×(List Constraint)))(h:vInts N l c ranges=some r):Cn Tryz.prog 12 [sR rRVar false l,sA rRClause false c,sR rArr2Int false ranges] [.row rConstraint true r.2] [sI .i64 r.1,sO 0]:=by
 unfold vInts at h
 refine fn tb en12 Tryz.func12 fun X w H ν=>?_
 refine jn (fun x=>x) (fun a=>mkS 2 [.box (Opn.cl rRClause false c),.row rConstraint true a] [vr 0 rRVar false l,vr 2 rArr2Int false ranges,vp 4 0,vo 8 1]) h (fun a7 n o=>?_) ?_
 ·
  refine bk ?_
  refine ps (nl 8 rConstraint) ?_
  refine lp (fun⟨b,d⟩=>mkS 2 [.box (Opn.cl rRClause false c),.row rConstraint true b] [vr 0 rRVar false l,vr 2 rArr2Int false ranges,vp 4 0,vo 8 1,vr 17 (rInt .i64) false c.NotNull,vi 18 (List.length c.NotNull:Int),vi 19 d]) n [0,1] ?_
  rintro⟨b,d⟩ oo h p
  rw[vInts_b1]at h
  refine cd h (fun q h=>?_) (fun q h=>?_)
  ·
   refine bk ?_
   refine ixR h fun a8 h=>?_
   refine ixR h fun a9 h=>?_
   refine cd h (fun s h=>?_) (fun s h=>?_)
   ·
    refine dr mixed ?_
    refine ixR h fun aa h=>?_
    refine ixR h fun ab h=>?_
    refine cl none [] 1 h (vbounds_c N _ _ _) fun ac h=>?_
    refine apO true h fun ad h=>?_
    refine dk ?_
    cases h
    exact bl [0,3]
   cases h
   exact bl [0,1]
  cases h
  cases p _ rfl
  replace h:=o
  try dsimp only at h
  exact bj _ [0,1]
 intro a h
 try dsimp only at h
 refine jn (fun x=>x) (fun e=>mkS 2 [.box (Opn.cl rRClause false c),.row rConstraint true e] [vr 0 rRVar false l,vp 4 0,vo 8 1]) h (fun ae u v=>?_) ?_
 ·
  refine bk ?_
  refine lp (fun⟨f,g⟩=>mkS 2 [.box (Opn.cl rRClause false c),.row rConstraint true f] [vr 0 rRVar false l,vr 2 rArr2Int false ranges,vp 4 0,vo 8 1,vr 45 rRAux false c.Auxiliary,vi 46 (List.length c.Auxiliary:Int),vi 47 g]) u [0,1] ?_
  rintro⟨f,g⟩ oo h y
  rw[vInts_b2]at h
  refine cd h (fun a0 h=>?_) (fun a0 h=>?_)
  ·
   refine bk ?_
   refine ixR h fun af h=>?_
   refine cd h (fun a1 h=>?_) (fun a1 h=>?_)
   ·
    refine dr mixed ?_
    refine ixR h fun ag h=>?_
    refine cl none [] 0 h (vhigh_c N _ _ _) fun ah h=>?_
    refine cl none [] 1 h (vbounds_c N _ _ _) fun ai h=>?_
    refine apO true h fun aj h=>?_
    refine dk ?_
    cases h
    exact bl [0,4]
   refine cl none [] 1 h (vquotient_c N _ _ _) fun ak h=>?_
   refine apO true h fun al h=>?_
   cases h
   exact bl [0,4]
  cases h
  cases y _ rfl
  replace h:=v
  try dsimp only at h
  exact bj _ [0,1]
 intro e h
 try dsimp only at h
 refine jn (fun x=>x) (fun i=>mkS 2 [.box (Opn.cl rRClause false c),.row rConstraint true i] [vr 0 rRVar false l,vp 4 0,vo 8 1]) h (fun am a2 a3=>?_) ?_
 ·
  refine bk ?_
  refine lp (fun⟨j,k⟩=>mkS 2 [.box (Opn.cl rRClause false c),.row rConstraint true j] [vr 0 rRVar false l,vp 4 0,vo 8 1,vr 84 rConstraint false c.Ints,vi 85 (List.length c.Ints:Int),vi 86 k]) a2 [0,1] ?_
  rintro⟨j,k⟩ oo h a4
  rw[vInts_b3]at h
  refine cd h (fun a5 h=>?_) (fun a5 h=>?_)
  ·
   refine bk ?_
   refine ixR h fun m h=>?_
   refine cl none [] 1 h (cloneCoef_c N _) fun a6 h=>?_
   refine po (fzk 3 [93,97] [2]) ?_
   refine litO rConstraint true [(Constraint.mk (Linear.mk m.Linear.Const a6) m.Equal)] ?_
   refine apO true h fun an h=>?_
   cases h
   exact bl [0,5]
  cases h
  cases a4 _ rfl
  replace h:=a3
  try dsimp only at h
  exact bj _ [0,1]
 intro i h
 try dsimp only at h
 cases h
 exact rt [1]
theorem vTexts_c(N:Nat)(l:(List RVar))(c:RClause)(ranges:(List Arr2Int))(r:(TProb×(List Int)))(h:vTexts N l c ranges=some r):Cn Tryz.prog 15 [sR rRVar false l,sA rRClause false c,sR rArr2Int false ranges] [.row (rInt .i64) true r.2] [sA rTProb true r.1,sO 0]:=by
 unfold vTexts at h
 refine fn tb en15 Tryz.func15 fun X w H ν=>?_
 refine mkM inferInstance (fun x:Int=>Value.int .i64 x) (fun x:Int=>Value.int .i64 x) ?_
 refine jn (fun x=>x) (fun⟨b,d,e,a⟩=>mkS 7 [.box (Opn.cl rRClause false c),.box [lN,lN,lN,lN,lN],.box [(.own 3),(.own 4),lN,lN,lN],.row (rInt .i64) true b,.row (rInt .i64) true d,.row (rInt .i64) true e,.map inferInstance ((fun x:Int=>Value.int .i64 x)) ((fun x:Int=>Value.int .i64 x)) a] [vp 4 0,vp 6 1,vp 8 2,vo 9 5,vl 10 (.mp 6)]) h (fun an a4 a5=>?_) ?_
 ·
  refine bk ?_
  refine ps (nb 2 0 (rInt .i64)) ?_
  refine ps (nb 2 1 (rInt .i64)) ?_
  refine ps (nl 9 (rInt .i64)) ?_
  refine lp (fun⟨n,o,m,p,q⟩=>mkS 7 [.box (Opn.cl rRClause false c),.box [lN,lN,lN,lN,lN],.box [(.own 3),(.own 4),lN,lN,lN],.row (rInt .i64) true n,.row (rInt .i64) true o,.row (rInt .i64) true m,.map inferInstance ((fun x:Int=>Value.int .i64 x)) ((fun x:Int=>Value.int .i64 x)) p] [vr 0 rRVar false l,vr 2 rArr2Int false ranges,vp 4 0,vp 6 1,vp 8 2,vo 9 5,vl 10 (.mp 6),vr 21 (rInt .i64) false c.NotNull,vi 22 (List.length c.NotNull:Int),vi 23 q]) a4 [0,1,2,4,5,6,3] ?_
  rintro⟨n,o,m,p,q⟩ oo h a6
  rw[vTexts_b1]at h
  refine cd h (fun a7 h=>?_) (fun a7 h=>?_)
  ·
   refine bk ?_
   refine ixR h fun s h=>?_
   refine ixR h fun ao h=>?_
   refine cd h (fun a8 h=>?_) (fun a8 h=>?_)
   ·
    refine puM s (List.length m:Int) mky_3 ?_
    refine litO (rInt .i64) true [s] ?_
    refine apO true h fun aq h=>?_
    refine dr mixed ?_
    refine ixR h fun a9 h=>?_
    refine litO (rInt .i64) true [a9.e0] ?_
    refine apO true h fun ar h=>?_
    refine dk ?_
    refine dr mixed ?_
    refine cl none [] 0 h (vhigh_c N _ _ _) fun aa h=>?_
    refine litO (rInt .i64) true [aa] ?_
    refine apO true h fun av h=>?_
    refine dk ?_
    cases h
    exact bl [0,1,2,10,12,8,6]
   cases h
   exact bl [0,1,2,3,4,5,6]
  cases h
  cases a6 _ rfl
  replace h:=a5
  try dsimp only at h
  exact bj _ [0,1,2,3,4,5,6]
 rintro⟨b,d,e,a⟩ h
 try dsimp only at h
 refine jn (fun x=>x) (fun f=>mkS 8 [.box (Opn.cl rRClause false c),.box [lN,lN,lN,lN,lN],.box [(.own 3),(.own 4),(.own 5),lN,lN],.row (rInt .i64) true b,.row (rInt .i64) true d,.row rTTest true f,.row (rInt .i64) true e,.map inferInstance ((fun x:Int=>Value.int .i64 x)) ((fun x:Int=>Value.int .i64 x)) a] [vp 4 0,vp 6 1,vp 8 2,vo 9 6,vl 10 (.mp 7)]) h (fun aw ab ac=>?_) ?_
 ·
  refine bk ?_
  refine ps (nb 2 2 rTTest) ?_
  refine lp (fun⟨u,v⟩=>mkS 8 [.box (Opn.cl rRClause false c),.box [lN,lN,lN,lN,lN],.box [(.own 3),(.own 4),(.own 5),lN,lN],.row (rInt .i64) true b,.row (rInt .i64) true d,.row rTTest true u,.row (rInt .i64) true e,.map inferInstance ((fun x:Int=>Value.int .i64 x)) ((fun x:Int=>Value.int .i64 x)) a] [vp 4 0,vp 6 1,vp 8 2,vo 9 6,vl 10 (.mp 7),vr 62 rTTest false c.Tests,vi 63 (List.length c.Tests:Int),vi 64 v]) ab [0,1,2,3,4,7,5,6] ?_
  rintro⟨u,v⟩ oo h ad
  rw[vTexts_b2]at h
  refine cd h (fun ae h=>?_) (fun ae h=>?_)
  ·
   refine bk ?_
   refine ixR h fun g h=>?_
   refine luN (0:Int) g.Var mky_3 (fun _=>rfl) ?_
   refine litO rTTest true [(TTest.mk ((mget a g.Var 0).1) g.Kind g.Negated g.Text)] ?_
   refine apO true h fun ax h=>?_
   cases h
   exact bl [0,1,2,3,4,10,6,7]
  cases h
  cases ad _ rfl
  replace h:=ac
  try dsimp only at h
  exact bj _ [0,1,2,3,4,5,6,7]
 intro f h
 try dsimp only at h
 refine jn (fun x=>x) (fun i=>mkS 9 [.box (Opn.cl rRClause false c),.box [lN,lN,lN,lN,lN],.box [(.own 3),(.own 4),(.own 5),(.own 6),lN],.row (rInt .i64) true b,.row (rInt .i64) true d,.row rTTest true f,.row rArr2Int true i,.row (rInt .i64) true e,.map inferInstance ((fun x:Int=>Value.int .i64 x)) ((fun x:Int=>Value.int .i64 x)) a] [vp 4 0,vp 6 1,vp 8 2,vo 9 7,vl 10 (.mp 8)]) h (fun ay af ag=>?_) ?_
 ·
  refine bk ?_
  refine ps (nb 2 3 rArr2Int) ?_
  refine lp (fun⟨y,a0⟩=>mkS 9 [.box (Opn.cl rRClause false c),.box [lN,lN,lN,lN,lN],.box [(.own 3),(.own 4),(.own 5),(.own 6),lN],.row (rInt .i64) true b,.row (rInt .i64) true d,.row rTTest true f,.row rArr2Int true y,.row (rInt .i64) true e,.map inferInstance ((fun x:Int=>Value.int .i64 x)) ((fun x:Int=>Value.int .i64 x)) a] [vp 4 0,vp 6 1,vp 8 2,vo 9 7,vl 10 (.mp 8),vr 81 rArr2Int false c.Same,vi 82 (List.length c.Same:Int),vi 83 a0]) af [0,1,2,3,4,5,8,6,7] ?_
  rintro⟨y,a0⟩ oo h ah
  rw[vTexts_b3]at h
  refine cd h (fun ai h=>?_) (fun ai h=>?_)
  ·
   refine bk ?_
   refine ixR h fun j h=>?_
   refine luN (0:Int) j.e0 mky_3 (fun _=>rfl) ?_
   refine luN (0:Int) j.e1 mky_3 (fun _=>rfl) ?_
   refine litO rArr2Int true [(Arr2Int.mk ((mget a j.e0 0).1) ((mget a j.e1 0).1))] ?_
   refine apO true h fun az h=>?_
   cases h
   exact bl [0,1,2,3,4,5,11,7,8]
  cases h
  cases ah _ rfl
  replace h:=ag
  try dsimp only at h
  exact bj _ [0,1,2,3,4,5,6,7,8]
 intro i h
 try dsimp only at h
 refine jn (fun x=>x) (fun a1=>mkS 8 [.box [lN,lN,lN,lN,lN],.box [(.own 2),(.own 3),(.own 4),(.own 5),(.own 6)],.row (rInt .i64) true b,.row (rInt .i64) true d,.row rTTest true f,.row rArr2Int true i,.row rArr2Int true a1,.row (rInt .i64) true e] [vp 6 0,vp 8 1,vo 9 7]) h (fun b0 aj ak=>?_) ?_
 ·
  refine bk ?_
  refine ps (nb 2 4 rArr2Int) ?_
  refine lp (fun⟨a2,a3⟩=>mkS 9 [.box [lN,lN,lN,lN,lN],.box [(.own 2),(.own 3),(.own 4),(.own 5),(.own 6)],.row (rInt .i64) true b,.row (rInt .i64) true d,.row rTTest true f,.row rArr2Int true i,.row rArr2Int true a2,.row (rInt .i64) true e,.map inferInstance ((fun x:Int=>Value.int .i64 x)) ((fun x:Int=>Value.int .i64 x)) a] [vp 6 0,vp 8 1,vo 9 7,vl 10 (.mp 8),vr 103 rArr2Int false c.Different,vi 104 (List.length c.Different:Int),vi 105 a3]) aj [1,2,3,4,5,6,9,7,8] ?_
  rintro⟨a2,a3⟩ oo h al
  rw[vTexts_b4]at h
  refine cd h (fun am h=>?_) (fun am h=>?_)
  ·
   refine bk ?_
   refine ixR h fun k h=>?_
   refine luN (0:Int) k.e0 mky_3 (fun _=>rfl) ?_
   refine luN (0:Int) k.e1 mky_3 (fun _=>rfl) ?_
   refine litO rArr2Int true [(Arr2Int.mk ((mget a k.e0 0).1) ((mget a k.e1 0).1))] ?_
   refine apO true h fun b1 h=>?_
   cases h
   exact bl [0,1,2,3,4,5,11,7,8]
  cases h
  cases al _ rfl
  replace h:=ak
  try dsimp only at h
  exact bj _ [0,1,2,3,4,5,6,7]
 intro a1 h
 try dsimp only at h
 cases h
 exact rt [7]
theorem vcheck_c(N:Nat):∀(l:(List RVar)) (c:RClause) (pc:Refut) (ranges:(List Arr2Int)) (r:Bool) (h:vcheck N l c pc ranges=some r),Cn Tryz.prog 60 [sR rRVar false l,sA rRClause false c,sA rRefut false pc,sR rArr2Int false ranges] [] [sB r]:=by
 induction N with
 |zero=>intro l c pc ranges r h;cases h
 |succ N ih=>
  intro l c pc ranges r h
  replace h:vcheck_step N (vcheck N) l c pc ranges=some r:=h
  unfold vcheck_step at h
  refine fn tb en60 Tryz.func60 fun X w H ν=>?_
  refine bk ?_
  refine cd h (fun b h=>?_) (fun b h=>?_)
  ·
   refine rg ?_
   refine cl none [] 0 h (containsOf_c N _ _) fun q h=>?_
   refine gd h (fun d h=>?_) (fun d h=>?_)
   ·
    refine cl none [] 0 h (containsOf_c N _ _) fun s h=>?_
    refine gd h (fun e h=>?_) (fun e h=>?_)
    ·
     cases h
     exact rt []
    refine ixR h fun u h=>?_
    cases h
    exact rt []
   cases h
   exact rt []
  refine cd h (fun f h=>?_) (fun f h=>?_)
  ·
   refine cl none [] 1 h (vTexts_c N _ _ _) fun v h=>?_
   refine cl none [] 1 h (tSolve_c N _) fun y h=>?_
   cases h
   exact rt []
  refine cd h (fun g h=>?_) (fun g h=>?_)
  ·
   refine cl none [] 1 h (vInts_c N _ _ _) fun a0 h=>?_
   refine dr mixed ?_
   refine cl none [] 1 h (cSystem_c N _ _) fun a1 h=>?_
   refine cl none [] 0 h (cCheck_c N _ _) fun a2 h=>?_
   refine dk ?_
   cases h
   exact rt []
  refine cd h (fun i h=>?_) (fun i h=>?_)
  ·
   refine jn (fun x=>x) (fun a=>mkS 2 [.box (Opn.cl rRClause false c),.box (Opn.cl rRefut false pc)] [vr 0 rRVar false l,vr 3 rArr2Int false ranges,vp 5 0,vp 6 1,vi 15 pc.Var,vb 116 a]) h (fun a3 h a4=>?_) ?_
   ·
    refine dr mixed ?_
    refine cl none [] 0 h (containsOf_c N _ _) fun a5 h=>?_
    refine gd h (fun j h=>?_) (fun j h=>?_)
    ·
     refine dk ?_
     cases h
     exact bj _ [0,1]
    refine ixR h fun a6 h=>?_
    refine gd h (fun k h=>?_) (fun k h=>?_)
    ·
     refine dk ?_
     cases h
     exact bj _ [0,1]
    refine ixR h fun a7 h=>?_
    refine gd h (fun m h=>?_) (fun m h=>?_)
    ·
     refine dk ?_
     cases h
     exact bj _ [0,1]
    refine ixR h fun a8 h=>?_
    refine gd h (fun n h=>?_) (fun n h=>?_)
    ·
     refine dk ?_
     cases h
     exact bj _ [0,1]
    refine dk ?_
    cases h
    exact bj _ [0,1]
   intro a h
   try dsimp only at h
   refine cd h (fun o h=>?_) (fun o h=>?_)
   ·
    cases h
    exact rt []
   refine cl none [] 1 h (clonePair_c N _) fun a9 h=>?_
   refine cl none [] 1 h (clonePair_c N _) fun aa h=>?_
   refine dr mixed ?_
   refine ixQ h fun ab ac h=>?_
   refine stP h (fun ad h=>?_) (by assumption)
   refine ixQ h fun ae af h=>?_
   refine stP h (fun ag h=>?_) (by assumption)
   refine dk ?_
   refine dr mixed ?_
   refine ixR h fun ah h=>?_
   refine cl none [] 0 h (ih _ _ _ _) fun ai h=>?_
   refine gd h (fun p h=>?_) (fun p h=>?_)
   ·
    refine ixR h fun aj h=>?_
    refine cl none [] 0 h (ih _ _ _ _) fun ak h=>?_
    refine dk ?_
    cases h
    exact rt []
   refine dk ?_
   cases h
   exact rt []
  cases h
  exact rt []
theorem vCheck_c(N:Nat)(l:(List RVar))(c:RClause)(pc:Refut)(r:Bool)(h:vCheck N l c pc=some r):Cn Tryz.prog 29 [sR rRVar false l,sA rRClause false c,sA rRefut false pc] [] [sB r]:=by
 unfold vCheck at h
 refine fn tb en29 Tryz.func29 fun X w H ν=>?_
 refine dr mixed ?_
 refine cl none [] 1 h (vfirst_c N _) fun a h=>?_
 refine cl none [] 0 h (vcheck_c N _ _ _ _) fun b h=>?_
 refine dk ?_
 cases h
 exact rt []
theorem vFormat_c(N:Nat):∀(pa:Refut) (r:(List UInt8)) (h:vFormat N pa=some r),Cn Tryz.prog 33 [sA rRefut false pa] [] [sT r]:=by
 induction N with
 |zero=>intro pa r h;cases h
 |succ N ih=>
  intro pa r h
  replace h:vFormat_step N (vFormat N) pa=some r:=h
  unfold vFormat_step at h
  refine fn tb en33 Tryz.func33 fun X w H ν=>?_
  refine bk ?_
  refine cd h (fun hc6 h=>?_) (fun hc6 h=>?_)
  ·
   refine cl none [] 0 h (fmtI_c N _) fun r7 h=>?_
   refine sdB h fun _ h=>?_
   cases h
   exact rt []
  refine cd h (fun a h=>?_) (fun a h=>?_)
  ·
   cases h
   exact rt []
  refine cd h (fun b h=>?_) (fun b h=>?_)
  ·
   refine cl none [] 0 h (cSize_c N _) fun d h=>?_
   refine cl none [] 0 h (fmtI_c N _) fun e h=>?_
   refine sdB h fun _ h=>?_
   cases h
   exact rt []
  refine cd h (fun c h=>?_) (fun c h=>?_)
  ·
   refine dr mixed ?_
   refine cl none [] 0 h (fmtI_c N _) fun f h=>?_
   refine sdB h fun _ h=>?_
   refine sdB h fun _ h=>?_
   refine cl none [] 0 h (fmtI_c N _) fun g h=>?_
   refine sdB h fun _ h=>?_
   cases h
  cases h
  exact rt []
end Go.Proofs.YtcakdidcpoolcaaGreatDoor.SV

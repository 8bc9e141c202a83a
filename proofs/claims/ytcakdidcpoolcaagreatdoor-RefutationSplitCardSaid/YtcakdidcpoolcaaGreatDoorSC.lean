/- Walks of the symbolic machine, written by a program of mine (wip/tool). -/
import Derived.Test.YtcakdidcpoolcaaGreatDoorTB
import Derived.Test.YtcakdidcpoolcaaGreatDoorAd
import Derived.Test.YtcakdidcpoolcaaGreatDoorSB
set_option linter.unusedVariables false
set_option linter.unusedSimpArgs false
set_option linter.unusedSectionVars false
set_option maxRecDepth 100000
set_option maxHeartbeats 4000000
namespace Go.Proofs.YtcakdidcpoolcaaGreatDoor.SC
open Go Go.RowKit Go.X Go.Q Go.D Go.Proofs.YtcakdidcpoolcaaGreatDoor.TB Go.Proofs.YtcakdidcpoolcaaGreatDoor.SB
theorem cvalid_c(N:Nat)(c:Constraint)(n:Int)(r:Bool)(h:cvalid N c n=some r):Cn Tryz.prog 137 [sA rConstraint false c,sI .i64 n] [] [sB r]:=by
 unfold cvalid at h
 refine fn tb en137 Tryz.func137 fun X w H ν=>?_
 refine jn (fun x=>(Sum.inl x)) (fun(_:Unit)=>mkS 0 [] [vi 1 n]) h (fun o g b=>?_) ?_
 ·
  refine bk ?_
  refine lp (fun⟨d,a⟩=>mkS 0 [] [vi 1 n,vi 5 d,vr 10 rCoef false c.Linear.Coefs,vi 11 (List.length c.Linear.Coefs:Int),vi 12 a]) g [] ?_
  rintro⟨d,a⟩ oo h e
  rw[cvalid_b1]at h
  refine cd h (fun i h=>?_) (fun i h=>?_)
  ·
   refine bk ?_
   refine ixR h fun j h=>?_
   refine jn (fun x=>x) (fun f=>mkS 1 [.box (Opn.cl rCoef true j)] [vi 1 n,vp 7 0,vr 10 rCoef false c.Linear.Coefs,vi 11 (List.length c.Linear.Coefs:Int),vi 12 a,vb 25 f]) h (fun p h q=>?_) ?_
   ·
    refine rg ?_
    refine gd h (fun k h=>?_) (fun k h=>?_)
    ·
     cases h
     exact bj _ [0]
    cases h
    exact bj _ [0]
   intro f h
   try dsimp only at h
   refine cd h (fun l h=>?_) (fun l h=>?_)
   ·
    cases h
    cases e _ rfl
    replace h:=b
    try dsimp only at h
    cases h
    exact rt []
   cases h
   exact bl []
  cases h
  cases e _ rfl
  replace h:=b
  try dsimp only at h
  exact bj _ []
 intro _ h
 try dsimp only at h
 refine rg ?_
 refine gd h (fun m h=>?_) (fun m h=>?_)
 ·
  cases h
  exact rt []
 cases h
 exact rt []
theorem negated_c(N:Nat)(l:(List Big))(bound:Big)(r:Ineq)(h:negated N l bound=some r):Cn Tryz.prog 132 [sR rBig false l,sA rBig false bound] [] [sA rIneq true r]:=by
 unfold negated at h
 refine fn tb en132 Tryz.func132 fun X w H ν=>?_
 refine cl none [] 0 h (bNormal_c N _) fun a h=>?_
 refine jn (fun x=>x) (fun b=>mkS 3 [.box [lN,(lB false),lN],.box [(.own 2),(lB a.Negative),(.ro (rInt .u32) true a.Digits)],.row rBig true b] [vp 4 0,vp 5 1]) h (fun k e f=>?_) ?_
 ·
  refine bk ?_
  refine ps (nb 2 0 rBig) ?_
  refine lp (fun⟨c,d⟩=>mkS 3 [.box [lN,(lB false),lN],.box [(.own 2),(lB a.Negative),(.ro (rInt .u32) true a.Digits)],.row rBig true c] [vp 4 0,vp 5 1,vr 11 rBig false l,vi 12 (List.length l:Int),vi 13 d]) e [1,2,3] ?_
  rintro⟨c,d⟩ oo h g
  rw[negated_b1]at h
  refine cd h (fun i h=>?_) (fun i h=>?_)
  ·
   refine bk ?_
   refine ixR h fun m h=>?_
   refine dr mixed ?_
   refine cl none [] 0 h (bNeg_c N _) fun j h=>?_
   refine litO rBig true [j] ?_
   refine apO true h fun n h=>?_
   refine dk ?_
   cases h
   exact bl [0,1,5]
  cases h
  cases g _ rfl
  replace h:=f
  try dsimp only at h
  exact bj _ [0,1,2]
 intro b h
 try dsimp only at h
 cases h
 exact rt []
theorem cOf_c(N:Nat)(c:Constraint)(n:Int)(r:(List Ineq))(h:cOf N c n=some r):Cn Tryz.prog 138 [sA rConstraint false c,sI .i64 n] [.row rIneq true r] [sO 0]:=by
 unfold cOf at h
 refine fn tb en138 Tryz.func138 fun X w H ν=>?_
 refine cl none [] 0 h (cvalid_c N _ _) fun r6 h=>?_
 refine cd h (fun f h=>?_) (fun f h=>?_)
 ·
  refine pr (nl 4 rIneq) ?_
  cases h
  exact rt [1]
 refine dr mixed ?_
 refine mkO rBig h fun o h=>?_
 refine cl none [] 0 h (bOf_c N _) fun p h=>?_
 refine cl none [] 0 h (bNeg_c N _) fun a h=>?_
 refine dk ?_
 refine jn (fun x=>x) (fun b=>mkS 3 [.box (Opn.cl rConstraint false c),.box [(.own 2),(lB a.Negative),(.ro (rInt .u32) true a.Digits)],.row rBig true b] [vp 2 0,vp 5 1]) h (fun q g i=>?_) ?_
 ·
  refine bk ?_
  refine lp (fun⟨d,e⟩=>mkS 3 [.box (Opn.cl rConstraint false c),.box [(.own 2),(lB a.Negative),(.ro (rInt .u32) true a.Digits)],.row rBig true d] [vp 2 0,vp 5 1,vr 22 rCoef false c.Linear.Coefs,vi 23 (List.length c.Linear.Coefs:Int),vi 24 e]) g [0,2,1] ?_
  rintro⟨d,e⟩ oo h j
  rw[cOf_b1]at h
  refine cd h (fun k h=>?_) (fun k h=>?_)
  ·
   refine bk ?_
   refine ixR h fun s h=>?_
   refine dr mixed ?_
   refine cl none [] 0 h (bOf_c N _) fun u h=>?_
   refine ixQ h fun v y h=>?_
   refine stO true h fun a0 h=>?_
   refine dk ?_
   cases h
   exact bl [0,1,2]
  cases h
  cases j _ rfl
  replace h:=i
  try dsimp only at h
  exact bj _ [0,1,2]
 intro b h
 try dsimp only at h
 refine cd h (fun l h=>?_) (fun l h=>?_)
 ·
  refine po (fzk 2 [40] [1]) ?_
  refine litO rIneq true [(Ineq.mk b a)] ?_
  cases h
  exact rt [3]
 refine dr mixed ?_
 refine cl none [] 0 h (bOf_c N _) fun a1 h=>?_
 refine cl none [] 0 h (negated_c N _ _) fun m h=>?_
 refine po (fzk 2 [42,44] [1]) ?_
 refine litO rIneq true [(Ineq.mk b a),m] ?_
 refine dk ?_
 cases h
 exact rt [3]
theorem cSystem_c(N:Nat)(l:(List Constraint))(n:Int)(r:(List Ineq))(h:cSystem N l n=some r):Cn Tryz.prog 94 [sR rConstraint false l,sI .i64 n] [.row rIneq true r] [sO 0]:=by
 unfold cSystem at h
 refine fn tb en94 Tryz.func94 fun X w H ν=>?_
 refine jn (fun x=>(Sum.inl x)) (fun a=>mkS 1 [.row rIneq true a] [vo 5 0]) h (fun j f b=>?_) ?_
 ·
  refine bk ?_
  refine ps (nl 5 rIneq) ?_
  refine lp (fun⟨c,d⟩=>mkS 1 [.row rIneq true c] [vi 1 n,vo 5 0,vr 8 rConstraint false l,vi 9 (List.length l:Int),vi 10 d]) f [0] ?_
  rintro⟨c,d⟩ oo h e
  rw[cSystem_b1]at h
  refine cd h (fun g h=>?_) (fun g h=>?_)
  ·
   refine bk ?_
   refine ixR h fun k h=>?_
   refine cl none [] 0 h (cvalid_c N _ _) fun m h=>?_
   refine cd h (fun i h=>?_) (fun i h=>?_)
   ·
    refine pr (nl 4 rIneq) ?_
    cases h
    cases e _ rfl
    replace h:=b
    try dsimp only at h
    cases h
    exact rt [2]
   refine cl none [] 1 h (cOf_c N _ _) fun o h=>?_
   refine apO true h fun p h=>?_
   cases h
   exact bl [3]
  cases h
  cases e _ rfl
  replace h:=b
  try dsimp only at h
  exact bj _ [0]
 intro a h
 try dsimp only at h
 cases h
 exact rt [0]
theorem cloneIneq_c(N:Nat)(s:(List Ineq))(r:(List Ineq))(h:cloneIneq N s=some r):Cn Tryz.prog 128 [sR rIneq false s] [.row rIneq false r] [sO 0]:=by
 unfold cloneIneq at h
 refine fn tb en128 Tryz.func128 fun X w H ν=>?_
 refine eqn ?_
 refine cn (fun hnil=>?_) ?_
 ·
  replace h:some []=some r:=by rw[hnil]at h;simpa[apnd]using h
  refine pr (nl 2 rIneq) ?_
  cases h
  exact rt [0]
 refine litZ rIneq ?_
 refine apO false h fun a h=>?_
 cases h
 exact rt [1]
theorem indexIneq_c(N:Nat)(s:(List Ineq))(f:(Ineq→Option Bool))(r:Int)(h:indexIneq N s f=some r):Cx Tryz.prog 158 [sR rIneq false s,.lf (.pd (fnPd Tryz.prog (fun x:Ineq=>[sA rIneq false x]) (fun r:Bool=>[sB r]) f))] [] [] [sI .i64 r]:=by
 unfold indexIneq at h
 refine fn tb en158 Tryz.func158 fun X w H ν=>?_
 refine jn (fun x=>(Sum.inl x)) (fun(_:Unit)=>mkS 0 [] []) h (fun k d a=>?_) ?_
 ·
  refine bk ?_
  refine lp (fun b=>mkS 0 [] [vr 0 rIneq false s,vl 1 (.pd (fnPd Tryz.prog (fun x:Ineq=>[sA rIneq false x]) (fun r:Bool=>[sB r]) f)),vi 7 (List.length s:Int),vi 8 b]) d [] ?_
  rintro b oo h c
  rw[indexIneq_b1]at h
  refine cd h (fun e h=>?_) (fun e h=>?_)
  ·
   refine bk ?_
   refine ixR h fun i h=>?_
   refine cvl (g:=f) i h fun l h=>?_
   refine cd h (fun j h=>?_) (fun j h=>?_)
   ·
    cases h
    cases c _ rfl
    replace h:=a
    try dsimp only at h
    cases h
    exact rt []
   cases h
   exact bl []
  cases h
  cases c _ rfl
  replace h:=a
  try dsimp only at h
  exact bj _ []
 intro _ h
 try dsimp only at h
 cases h
 exact rt []
theorem containsIneq_c(N:Nat)(s:(List Ineq))(f:(Ineq→Option Bool))(r:Bool)(h:containsIneq N s f=some r):Cx Tryz.prog 130 [sR rIneq false s,.lf (.pd (fnPd Tryz.prog (fun x:Ineq=>[sA rIneq false x]) (fun r:Bool=>[sB r]) f))] [] [] [sB r]:=by
 unfold containsIneq at h
 refine fn tb en130 Tryz.func130 fun X w H ν=>?_
 refine cl none [] 0 h (indexIneq_c N _ _) fun r1 h=>?_
 cases h
 exact rt []
theorem width1_c(N:Nat)(q:Ineq)(ca:Int)(r:Bool)(h:width1 N q ca=some r):Cx Tryz.prog 153 [sA rIneq false q,.lf (.pd (ppPd false [lI .i64 ca]))] [] [] [sB r]:=by
 unfold width1 at h
 refine fnv tb (vpp 1) en153 Tryz.func153 fun X w H ν=>?_
 cases h
 exact rt []
theorem cwidth_c(N:Nat)(l:(List Ineq))(r:(Int×Bool))(h:cwidth N l=some r):Cn Tryz.prog 127 [sR rIneq false l] [] [sI .i64 r.1,sB r.2]:=by
 unfold cwidth at h
 refine fn tb en127 Tryz.func127 fun X w H ν=>?_
 refine cd h (fun hc1 h=>?_) (fun hc1 h=>?_)
 ·
  cases h
  exact rt []
 refine ixR h fun x2 h=>?_
 refine ps (fzb 0 4) ?_
 refine dr mixed ?_
 refine mkF (fun x:Ineq=>[sA rIneq false x]) (fun r:Bool=>[sB r]) (fun x=>width1 N x (List.length x2.Coefs:Int)) (fun x r h=>width1_c N x (List.length x2.Coefs:Int) r h) en153 ?_
 refine cl none [] 0 h (containsIneq_c N _ _) fun a h=>?_
 refine dk ?_
 cases h
 exact rt []
theorem cApply_c(N:Nat)(l:(List Ineq))(s:Step)(r:(Ineq×Bool))(h:cApply N l s=some r):Cn Tryz.prog 129 [sR rIneq false l,sA rStep false s] [] [sA rIneq true r.1,sB r.2]:=by
 unfold cApply at h
 refine fn tb en129 Tryz.func129 fun X w H ν=>?_
 refine cl none [] 0 h (cwidth_c N _) fun a3 h=>?_
 refine jn (fun x=>x) (fun k=>mkS 2 [.box (Opn.cl rStep false s),.box [lN,(lB false),lN]] [vr 0 rIneq false l,vp 3 0,vp 4 1,vi 6 a3.1,vb 31 k]) h (fun ai h aj=>?_) ?_
 ·
  refine rg ?_
  refine gd h (fun a4 h=>?_) (fun a4 h=>?_)
  ·
   cases h
   exact bj _ [0,1]
  refine cl none [] 0 h (bSign_c N _) fun ak h=>?_
  cases h
  exact bj _ [0,1]
 intro k h
 try dsimp only at h
 refine cd h (fun a5 h=>?_) (fun a5 h=>?_)
 ·
  cases h
  exact rt []
 refine mkO rBig h fun al h=>?_
 refine jn (fun x=>(Sum.inl x)) (fun⟨g,d,e⟩=>mkS 4 [.box (Opn.cl rStep false s),.box [lN,(lB false),lN],.box [(.own 3),(lB d),(.ro (rInt .u32) true e)],.row rBig true g] [vp 3 0,vp 4 1,vp 8 2]) h (fun am a6 m=>?_) ?_
 ·
  refine bk ?_
  refine lp (fun⟨i,a,b,c⟩=>mkS 4 [.box (Opn.cl rStep false s),.box [lN,(lB false),lN],.box [(.own 3),(lB a),(.ro (rInt .u32) true b)],.row rBig true i] [vr 0 rIneq false l,vp 3 0,vp 4 1,vp 8 2,vr 37 rUse false s.Uses,vi 38 (List.length s.Uses:Int),vi 39 c]) a6 [0,1,3,2] ?_
  rintro⟨i,a,b,c⟩ oo h n
  rw[cApply_b1]at h
  refine cd h (fun a7 h=>?_) (fun a7 h=>?_)
  ·
   refine bk ?_
   refine ixR h fun j h=>?_
   refine jn (fun x=>x) (fun o=>mkS 5 [.box (Opn.cl rStep false s),.box [lN,(lB false),lN],.box [(.own 3),(lB a),(.ro (rInt .u32) true b)],.row rBig true i,.box (Opn.cl rUse false j)] [vr 0 rIneq false l,vp 3 0,vp 4 1,vp 8 2,vp 10 4,vr 37 rUse false s.Uses,vi 38 (List.length s.Uses:Int),vi 39 c,vb 58 o]) h (fun an h ao=>?_) ?_
   ·
    refine rg ?_
    refine gd h (fun a8 h=>?_) (fun a8 h=>?_)
    ·
     cases h
     exact bj _ [0,1,2,3,4]
    refine gd h (fun a9 h=>?_) (fun a9 h=>?_)
    ·
     cases h
     exact bj _ [0,1,2,3,4]
    refine cl none [] 0 h (bSign_c N _) fun aq h=>?_
    cases h
    exact bj _ [0,1,2,3,4]
   intro o h
   try dsimp only at h
   refine cd h (fun aa h=>?_) (fun aa h=>?_)
   ·
    cases h
    cases n _ rfl
    replace h:=m
    try dsimp only at h
    cases h
    exact rt []
   refine ixR h fun f h=>?_
   refine jn (fun x=>x) (fun p=>mkS 6 [.box (Opn.cl rStep false s),.box [lN,(lB false),lN],.box [(.own 3),(lB a),(.ro (rInt .u32) true b)],.row rBig true p,.box (Opn.cl rUse false j),.box (Opn.cl rIneq false f)] [vr 0 rIneq false l,vp 3 0,vp 4 1,vp 8 2,vp 10 4,vp 11 5,vr 37 rUse false s.Uses,vi 38 (List.length s.Uses:Int),vi 39 c]) h (fun ar ab ac=>?_) ?_
   ·
    refine bk ?_
    refine lp (fun⟨q,u⟩=>mkS 6 [.box (Opn.cl rStep false s),.box [lN,(lB false),lN],.box [(.own 3),(lB a),(.ro (rInt .u32) true b)],.row rBig true q,.box (Opn.cl rUse false j),.box (Opn.cl rIneq false f)] [vr 0 rIneq false l,vp 3 0,vp 4 1,vp 8 2,vp 10 4,vp 11 5,vr 37 rUse false s.Uses,vi 38 (List.length s.Uses:Int),vi 39 c,vr 66 rBig false f.Coefs,vi 67 (List.length f.Coefs:Int),vi 68 u]) ab [0,1,2,3,4,5] ?_
    rintro⟨q,u⟩ oo h ad
    rw[cApply_b2]at h
    refine cd h (fun ae h=>?_) (fun ae h=>?_)
    ·
     refine bk ?_
     refine ixR h fun av h=>?_
     refine dr mixed ?_
     refine ixQ h fun aw ax h=>?_
     refine ldO ?_
     refine cl none [] 0 h (bMul_c N _ _) fun ay h=>?_
     refine cl none [] 0 h (bAdd_c N _ _) fun az h=>?_
     refine ixQ h fun b0 b1 h=>?_
     refine stO true h fun b2 h=>?_
     refine dk ?_
     cases h
     exact bl [0,1,2,3,4,5]
    cases h
    cases ad _ rfl
    replace h:=ac
    try dsimp only at h
    exact bj _ [0,1,2,3,4,5]
   intro p h
   try dsimp only at h
   refine dr mixed ?_
   refine cl none [] 0 h (bMul_c N _ _) fun b3 h=>?_
   refine cl none [] 0 h (bAdd_c N _ _) fun b4 h=>?_
   refine dk ?_
   cases h
   exact bl [0,1,2,3]
  cases h
  cases n _ rfl
  replace h:=m
  try dsimp only at h
  exact bj _ [0,1,2,3]
 rintro⟨g,d,e⟩ h
 try dsimp only at h
 refine jn (fun x=>(Sum.inl x)) (fun v=>mkS 4 [.box (Opn.cl rStep false s),.box [lN,(lB false),lN],.box [(.own 3),(lB d),(.ro (rInt .u32) true e)],.row rBig true v] [vp 3 0,vp 4 1,vp 8 2]) h (fun b5 af y=>?_) ?_
 ·
  refine bk ?_
  refine lp (fun⟨a0,a1⟩=>mkS 4 [.box (Opn.cl rStep false s),.box [lN,(lB false),lN],.box [(.own 3),(lB d),(.ro (rInt .u32) true e)],.row rBig true a0] [vp 3 0,vp 4 1,vp 8 2,vo 99 3,vi 100 (List.length g:Int),vi 101 a1]) af [0,1,2,3] ?_
  rintro⟨a0,a1⟩ oo h a2
  rw[cApply_b3]at h
  refine cd h (fun ag h=>?_) (fun ag h=>?_)
  ·
   refine bk ?_
   refine ixQ h fun b6 b7 h=>?_
   refine ldO ?_
   refine cl none [] 0 h (bDivFloor_c N _ _) fun b8 h=>?_
   refine cl none [] 0 h (bSign_c N _) fun b9 h=>?_
   refine cd h (fun ah h=>?_) (fun ah h=>?_)
   ·
    cases h
    cases a2 _ rfl
    replace h:=y
    try dsimp only at h
    cases h
    exact rt []
   refine ixQ h fun ba bb h=>?_
   refine stO true h fun bc h=>?_
   cases h
   exact bl [0,1,2,3]
  cases h
  cases a2 _ rfl
  replace h:=y
  try dsimp only at h
  exact bj _ [0,1,2,3]
 intro v h
 try dsimp only at h
 refine cl none [] 0 h (bDivFloor_c N _ _) fun bd h=>?_
 cases h
 exact rt []
theorem cContradictory_c(N:Nat)(q:Ineq)(r:Bool)(h:cContradictory N q=some r):Cn Tryz.prog 131 [sA rIneq false q] [] [sB r]:=by
 unfold cContradictory at h
 refine fn tb en131 Tryz.func131 fun X w H ν=>?_
 refine jn (fun x=>(Sum.inl x)) (fun(_:Unit)=>mkS 1 [.box (Opn.cl rIneq false q)] [vp 1 0]) h (fun g d a=>?_) ?_
 ·
  refine bk ?_
  refine lp (fun b=>mkS 1 [.box (Opn.cl rIneq false q)] [vp 1 0,vr 6 rBig false q.Coefs,vi 7 (List.length q.Coefs:Int),vi 8 b]) d [0] ?_
  rintro b oo h c
  rw[cContradictory_b1]at h
  refine cd h (fun e h=>?_) (fun e h=>?_)
  ·
   refine bk ?_
   refine ixR h fun i h=>?_
   refine cl none [] 0 h (bSign_c N _) fun j h=>?_
   refine cd h (fun f h=>?_) (fun f h=>?_)
   ·
    cases h
    cases c _ rfl
    replace h:=a
    try dsimp only at h
    cases h
    exact rt []
   cases h
   exact bl [0]
  cases h
  cases c _ rfl
  replace h:=a
  try dsimp only at h
  exact bj _ [0]
 intro _ h
 try dsimp only at h
 refine cl none [] 0 h (bSign_c N _) fun k h=>?_
 cases h
 exact rt []
theorem cCheck_c(N:Nat):∀(l:(List Ineq)) (p:Proof) (r:Bool) (h:cCheck N l p=some r),Cn Tryz.prog 93 [sR rIneq false l,sA rProof false p] [] [sB r]:=by
 induction N with
 |zero=>intro l p r h;cases h
 |succ N ih=>
  intro l p r h
  replace h:cCheck_step N (cCheck N) l p=some r:=h
  unfold cCheck_step at h
  refine fn tb en93 Tryz.func93 fun X w H ν=>?_
  refine cl none [] 0 h (cwidth_c N _) fun r6 h=>?_
  refine cd h (fun i h=>?_) (fun i h=>?_)
  ·
   cases h
   exact rt []
  refine cl (some false) [] 1 h (cloneIneq_c N _) fun a0 h=>?_
  refine jn (fun x=>(Sum.inl x)) (fun a=>mkS 2 [.box (Opn.cl rProof false p),.row rIneq false a] [vp 3 0,vo 7 1]) h (fun a1 j b=>?_) ?_
  ·
   refine bk ?_
   refine lp (fun⟨c,d⟩=>mkS 2 [.box (Opn.cl rProof false p),.row rIneq false c] [vp 3 0,vo 7 1,vr 26 rStep false p.Steps,vi 27 (List.length p.Steps:Int),vi 28 d]) j [0,1] ?_
   rintro⟨c,d⟩ oo h e
   rw[cCheck_b1]at h
   refine cd h (fun k h=>?_) (fun k h=>?_)
   ·
    refine bk ?_
    refine ixR h fun a2 h=>?_
    refine cl none [] 0 h (cApply_c N _ _) fun m h=>?_
    refine cd h (fun o h=>?_) (fun o h=>?_)
    ·
     cases h
     cases e _ rfl
     replace h:=b
     try dsimp only at h
     cases h
     exact rt []
    refine litO rIneq true [m.1] ?_
    refine apO false h fun a3 h=>?_
    cases h
    exact bl [0,5]
   cases h
   cases e _ rfl
   replace h:=b
   try dsimp only at h
   exact bj _ [0,1]
  intro a h
  try dsimp only at h
  refine bk ?_
  refine cd h (fun q h=>?_) (fun q h=>?_)
  ·
   refine clF none [] 0 h (containsIneq_c N _ _) (.s (.f (fun x:Ineq=>[sA rIneq false x]) (fun r:Bool=>[sB r]) (fun x=>cContradictory N x) (fun x r h=>cContradictory_c N x r h) en131 .n)) fun a4 h=>?_
   cases h
   exact rt []
  refine cd h (fun u h=>?_) (fun u h=>?_)
  ·
   refine cl none [] 0 h (cwidth_c N _) fun a5 h=>?_
   refine jn (fun x=>x) (fun g=>mkS 2 [.box (Opn.cl rProof false p),.row rIneq false a] [vp 3 0,vo 7 1,vb 68 g]) h (fun a6 h a7=>?_) ?_
   ·
    refine rg ?_
    refine gd h (fun v h=>?_) (fun v h=>?_)
    ·
     cases h
     exact bj _ [0,1]
    cases h
    exact bj _ [0,1]
   intro g h
   try dsimp only at h
   refine cd h (fun y h=>?_) (fun y h=>?_)
   ·
    cases h
    exact rt []
   refine dr mixed ?_
   refine cl none [] 0 h (bNeg_c N _) fun a8 h=>?_
   refine cl none [] 0 h (bOf_c N _) fun a9 h=>?_
   refine cl none [] 0 h (bSub_c N _ _) fun aa h=>?_
   refine cl none [] 0 h (negated_c N _ _) fun ab h=>?_
   refine dk ?_
   cases h
  cases h
  exact rt []
theorem cSize_c(N:Nat):∀(p:Proof) (r:Int) (h:cSize N p=some r),Cn Tryz.prog 65 [sA rProof false p] [] [sI .i64 r]:=by
 induction N with
 |zero=>intro p r h;cases h
 |succ N ih=>
  intro p r h
  replace h:cSize_step N (cSize N) p=some r:=h
  unfold cSize_step at h
  refine fn tb en65 Tryz.func65 fun X w H ν=>?_
  refine jn (fun x=>x) (fun a=>mkS 1 [.box (Opn.cl rProof false p)] [vp 1 0,vi 3 a]) h (fun k h l=>?_) ?_
  ·
   refine cd h (fun e h=>?_) (fun e h=>?_)
   ·
    cases h
    exact bj _ [0]
   cases h
   exact bj _ [0]
  intro a h
  try dsimp only at h
  refine jn (fun x=>x) (fun b=>mkS 0 [] [vi 3 b]) h (fun m f g=>?_) ?_
  ·
   refine bk ?_
   refine lp (fun⟨c,d⟩=>mkS 0 [] [vi 3 c,vr 16 rProof false p.Children,vi 17 (List.length p.Children:Int),vi 18 d]) f [] ?_
   rintro⟨c,d⟩ oo h i
   rw[cSize_b1]at h
   refine cd h (fun j h=>?_) (fun j h=>?_)
   ·
    refine bk ?_
    refine ixR h fun n h=>?_
    refine cl none [] 0 h (ih _) fun o h=>?_
    cases h
    exact bl []
   cases h
   cases i _ rfl
   replace h:=g
   try dsimp only at h
   exact bj _ []
  intro b h
  try dsimp only at h
  cases h
  exact rt []
end Go.Proofs.YtcakdidcpoolcaaGreatDoor.SC

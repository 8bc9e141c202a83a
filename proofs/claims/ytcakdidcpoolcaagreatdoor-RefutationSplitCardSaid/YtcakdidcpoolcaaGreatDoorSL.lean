/- Walks of the symbolic machine, written by a program of mine (wip/tool). -/
import Derived.Test.YtcakdidcpoolcaaGreatDoorTB
import Derived.Test.YtcakdidcpoolcaaGreatDoorAd
import Derived.Test.YtcakdidcpoolcaaGreatDoorSR
import Derived.Test.YtcakdidcpoolcaaGreatDoorSS
import Derived.Test.YtcakdidcpoolcaaGreatDoorSV
import Derived.Test.YtcakdidcpoolcaaGreatDoorSU
set_option linter.unusedVariables false
set_option linter.unusedSimpArgs false
set_option linter.unusedSectionVars false
set_option maxRecDepth 100000
set_option maxHeartbeats 4000000
namespace Go.Proofs.YtcakdidcpoolcaaGreatDoor.SL
open Go Go.RowKit Go.X Go.Q Go.D Go.Proofs.YtcakdidcpoolcaaGreatDoor.TB Go.Proofs.YtcakdidcpoolcaaGreatDoor.SR Go.Proofs.YtcakdidcpoolcaaGreatDoor.SS Go.Proofs.YtcakdidcpoolcaaGreatDoor.SV Go.Proofs.YtcakdidcpoolcaaGreatDoor.SU
theorem lbig_c(N:Nat)(n:Int)(r:Big)(h:lbig N n=some r):Cn Tryz.prog 21 [sI .i64 n] [] [sA rBig true r]:=by
 unfold lbig at h
 refine fn tb en21 Tryz.func21 fun X w H ν=>?_
 refine cl none [] 0 h (rOf_c N _) fun r6 h=>?_
 cases h
 exact rt []
theorem awake_c(N:Nat)(r:Bool)(h:awake N=some r):Cn Tryz.prog 10 [] [] [sB r]:=by
 unfold awake at h
 refine fn tb en10 Tryz.func10 fun X w H ν=>?_
 refine litO rRVar true [(RVar.mk 1 (-9) 9 0 false)] ?_
 refine litO (rInt .i64) true [0] ?_
 refine litO rCoef true [(Coef.mk 0 2)] ?_
 refine po (fzk 2 [9,10,11] []) ?_
 refine litO rConstraint true [(Constraint.mk (Linear.mk (-5) [(Coef.mk 0 2)]) true)] ?_
 refine cl none [] 0 h (lbig_c N _) fun a h=>?_
 refine litO rUse true [(Use.mk 2 a)] ?_
 refine cl none [] 0 h (lbig_c N _) fun e h=>?_
 refine cl none [] 0 h (lbig_c N _) fun b h=>?_
 refine litO rUse true [(Use.mk 3 b)] ?_
 refine cl none [] 0 h (lbig_c N _) fun f h=>?_
 refine cl none [] 0 h (lbig_c N _) fun c h=>?_
 refine cl none [] 0 h (lbig_c N _) fun d h=>?_
 refine litO rUse true [(Use.mk 4 c),(Use.mk 5 d)] ?_
 refine cl none [] 0 h (lbig_c N _) fun g h=>?_
 refine po (fzk 5 [16,18] []) ?_
 refine po (fzk 6 [21,23] []) ?_
 refine po (fzk 7 [28,30] []) ?_
 refine litO rStep true [(Step.mk [(Use.mk 2 a)] e),(Step.mk [(Use.mk 3 b)] f),(Step.mk [(Use.mk 4 c),(Use.mk 5 d)] g)] ?_
 refine rg ?_
 refine cl none [] 0 h (vCheck_c N _ _ _) fun l h=>?_
 refine gd h (fun i h=>?_) (fun i h=>?_)
 ·
  refine cl none [] 0 h (vFormat_c N _) fun m h=>?_
  refine gd h (fun j h=>?_) (fun j h=>?_)
  ·
   refine litO (rInt .i64) true [0] ?_
   refine cl none [] 0 h (vCheck_c N _ _ _) fun n h=>?_
   refine gd h (fun k h=>?_) (fun k h=>?_)
   ·
    refine litO (rInt .i64) true [0] ?_
    refine cl none [] 0 h (vCheck_c N _ _ _) fun o h=>?_
    cases h
    exact rt []
   cases h
   exact rt []
  cases h
  exact rt []
 cases h
 exact rt []
theorem lright_c(N:Nat)(x:RCase)(r:Bool)(h:lright N x=some r):Cn Tryz.prog 11 [sA rRCase false x] [] [sB r]:=by
 unfold lright at h
 refine fn tb en11 Tryz.func11 fun X w H ν=>?_
 refine rg ?_
 refine cl none [] 0 h (wDomains_c N _) fun r6 h=>?_
 refine gd h (fun a h=>?_) (fun a h=>?_)
 ·
  refine cl none [] 0 h (sFew_c N _) fun d h=>?_
  refine gd h (fun b h=>?_) (fun b h=>?_)
  ·
   refine cl none [] 0 h (sValid_c N _ _) fun e h=>?_
   refine gd h (fun c h=>?_) (fun c h=>?_)
   ·
    refine cl none [] 0 h (wRight_c N _ _) fun f h=>?_
    cases h
    exact rt []
   cases h
   exact rt []
  cases h
  exact rt []
 cases h
 exact rt []
theorem lawSplit_c(N:Nat)(l:(List RVar))(c:RClause)(pc:Refut)(r:Bool)(h:lawSplit N l c pc=some r):Cn Tryz.prog 8 [sR rRVar false l,sA rRClause false c,sA rRefut false pc] [] [sB r]:=by
 unfold lawSplit at h
 refine fn tb en8 Tryz.func8 fun X w H ν=>?_
 refine dr mixed ?_
 refine cl none [] 1 h (wRanges_c N _) fun y h=>?_
 refine dk ?_
 refine jn (fun x=>x) (fun b=>mkS 2 [.box (Opn.cl rRClause false c),.box (Opn.cl rRefut false pc)] [vr 0 rRVar false l,vp 4 0,vp 5 1,vb 49 b]) h (fun a0 h a1=>?_) ?_
 ·
  refine rg ?_
  refine cl none [] 0 h (awake_c N) fun a2 h=>?_
  refine gd h (fun g h=>?_) (fun g h=>?_)
  ·
   cases h
   exact bj _ [0,1]
  refine cl none [] 0 h (wShort_c N _ _) fun a3 h=>?_
  refine gd h (fun i h=>?_) (fun i h=>?_)
  ·
   cases h
   exact bj _ [0,1]
  refine cl none [] 0 h (lright_c N _) fun a4 h=>?_
  refine gd h (fun j h=>?_) (fun j h=>?_)
  ·
   cases h
   exact bj _ [0,1]
  refine cl none [] 0 h (wSmall_c N _) fun a5 h=>?_
  refine gd h (fun k h=>?_) (fun k h=>?_)
  ·
   cases h
   exact bj _ [0,1]
  refine gd h (fun m h=>?_) (fun m h=>?_)
  ·
   cases h
   exact bj _ [0,1]
  refine gd h (fun n h=>?_) (fun n h=>?_)
  ·
   cases h
   exact bj _ [0,1]
  refine cl none [] 0 h (vCheck_c N _ _ _) fun a6 h=>?_
  cases h
  exact bj _ [0,1]
 intro b h
 try dsimp only at h
 refine cd h (fun o h=>?_) (fun o h=>?_)
 ·
  refine cl none [] 0 h (awake_c N) fun a7 h=>?_
  cases h
  exact rt []
 refine jn (fun x=>(Sum.inl x)) (fun(_:Unit)=>mkS 0 [] []) h (fun a8 p d=>?_) ?_
 ·
  refine bk ?_
  refine lp (fun a=>mkS 2 [.box (Opn.cl rRClause false c),.box (Opn.cl rRefut false pc)] [vr 0 rRVar false l,vp 4 0,vp 5 1,vr 52 (rInt .i64) false c.NotNull,vi 53 (List.length c.NotNull:Int),vi 54 a]) p [0,1] ?_
  rintro a oo h e
  rw[lawSplit_b1]at h
  refine cd h (fun q h=>?_) (fun q h=>?_)
  ·
   refine bk ?_
   refine ixR h fun a9 h=>?_
   refine jn (fun x=>x) (fun f=>mkS 2 [.box (Opn.cl rRClause false c),.box (Opn.cl rRefut false pc)] [vr 0 rRVar false l,vp 4 0,vp 5 1,vr 52 (rInt .i64) false c.NotNull,vi 53 (List.length c.NotNull:Int),vi 54 a,vb 82 f]) h (fun aa h ab=>?_) ?_
   ·
    refine rg ?_
    refine ixR h fun ac h=>?_
    refine gd h (fun s h=>?_) (fun s h=>?_)
    ·
     refine ixR h fun ad h=>?_
     refine gd h (fun u h=>?_) (fun u h=>?_)
     ·
      refine litO rRefut false [pc,pc] ?_
      refine cl none [] 0 h (vCheck_c N _ _ _) fun ae h=>?_
      cases h
      exact bj _ [0,1]
     cases h
     exact bj _ [0,1]
    cases h
    exact bj _ [0,1]
   intro f h
   try dsimp only at h
   refine cd h (fun v h=>?_) (fun v h=>?_)
   ·
    cases h
    cases e _ rfl
    replace h:=d
    try dsimp only at h
    cases h
    exact rt []
   cases h
   exact bl [0,1]
  cases h
  cases e _ rfl
  replace h:=d
  try dsimp only at h
  exact bj _ []
 intro _ h
 try dsimp only at h
 cases h
 exact rt []
end Go.Proofs.YtcakdidcpoolcaaGreatDoor.SL

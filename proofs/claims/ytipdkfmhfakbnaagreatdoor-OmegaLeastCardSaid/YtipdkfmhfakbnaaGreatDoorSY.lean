/- Walks of the symbolic machine, written by a program of mine (wip/tool). -/
import Derived.Test.YtipdkfmhfakbnaaGreatDoorTB
import Derived.Test.YtipdkfmhfakbnaaGreatDoorAg
import Derived.Test.YtipdkfmhfakbnaaGreatDoorAf
import Derived.Test.YtipdkfmhfakbnaaGreatDoorOB
import Derived.Test.YtipdkfmhfakbnaaGreatDoorSB
import Derived.Test.YtipdkfmhfakbnaaGreatDoorSC
import Derived.Test.YtipdkfmhfakbnaaGreatDoorSP
import Derived.Test.YtipdkfmhfakbnaaGreatDoorSQ
import Derived.Test.YtipdkfmhfakbnaaGreatDoorSV
import Derived.Test.YtipdkfmhfakbnaaGreatDoorSW
set_option linter.unusedVariables false
set_option linter.unusedSimpArgs false
set_option linter.unusedSectionVars false
set_option maxRecDepth 100000
set_option maxHeartbeats 4000000
namespace Go.Proofs.YtipdkfmhfakbnaaGreatDoor.SY
open Go Go.RowKit Go.X Go.Q Go.D Go.Proofs.YtipdkfmhfakbnaaGreatDoor.TB Go.Proofs.YtipdkfmhfakbnaaGreatDoor.FS Go.Proofs.YtipdkfmhfakbnaaGreatDoor.OB Go.Proofs.YtipdkfmhfakbnaaGreatDoor.SB Go.Proofs.YtipdkfmhfakbnaaGreatDoor.SC Go.Proofs.YtipdkfmhfakbnaaGreatDoor.SP Go.Proofs.YtipdkfmhfakbnaaGreatDoor.SQ Go.Proofs.YtipdkfmhfakbnaaGreatDoor.SV Go.Proofs.YtipdkfmhfakbnaaGreatDoor.SW
theorem PK(N:Nat)(run:aS->Option cz)(hrun:∀(s:aS) (r:cz) (h:run s=some r),Cx Tryz.prog 75 [.lf (.ptr 0 0)] (zF s) [] [sA fK false r]):∀(s:aS) (low:bB) (k:aC) (most:aC) (r:cz) (h:qF N run s low k most=some r),Cx Tryz.prog 170 [.lf (.ptr 0 0),sA aP false low,sA aD false k,sA aD false most] [.box (zR s)] [(0,some (.box (zR s)))] [sA fK false r]:=by
 induction N with
 |zero=>intro s low k most r h;cases h
 |succ N ih=>
  intro s low k most r h
  replace h:sE N run (qF N run) s low k most=some r:=h
  unfold sE at h
  refine fn tb en170 Tryz.func170 λX w H ν=>?_
  refine cl none [] 0 h (jF N _ _) λr1 h=>?_
  refine cd h (λhc6 h=>?_) (λhc6 h=>?_)
  refine cl (some false) [0] 5 h (B6 N _) λr7 h=>?_
  refine po (ca 5 1) ?_
  refine po (ca 5 2) ?_
  refine po (ca 5 7) ?_
  refine cl (some false) [5,10,11,6,7,8,9,12] 0 h (hrun _) λr8 h=>?_
  cases h
  exact rt [0]
  refine dr mixed ?_
  refine bR h λx9 h=>?_
  refine dk ?_
  refine dr mixed ?_
  refine cl none [] 1 h (tQ N _) λc h=>?_
  refine cl none [] 0 h (lY N _) λd h=>?_
  refine dk ?_
  refine po (dQ 6 [10,34,39,41] []) ?_
  refine cl (some false) [0] 7 h (we N _ _) λa h=>?_
  refine sn (aZ 14 [.box (zR s),.box (aM.cl aP false low),.box (aM.cl aD false k),.box (aM.cl aD false most),.box [(lI .i64 0),lN,lN,lN,(lB false),lN,lN,(lI .i64 0)],.box (aM.cl aR false x9),.box (aM.cl aD true d),.box [(lI .i64 a.n),(.own 8),(.own 9),(.own 10),(.own 11),(.own 12),(.own 13),(.cp bH false a.aK)],.row aR false a.aA,.row bC false a.aU,.row (bN aD) false a.u,.row (aF .i64) true a.aN,.row aD false a.value,.row aP false a.aB] [vp 0 0,vp 5 1,vp 6 2,vp 7 3,vp 8 4,vp 9 5,vr 10 aD true c,vp 11 6,vp 12 7]) [0,1,2,3,4,5,7,8,9,10,11,12,13,14] ?_
  refine ps (oa 7 1) ?_
  refine ps (oa 7 2) ?_
  refine ps (ca 7 7) ?_
  refine dr mixed ?_
  refine cl none [] 1 h (tQ N _) λl h=>?_
  refine po (jR 15 [52,53] []) ?_
  refine cl (some false) [7,8,9,10,11,12,13,14] 7 h (vS N _ _) λm h=>?_
  refine dk ?_
  refine cl (some false) [7,16,17,18,19,20,21,22] 0 h (hrun _) λe h=>?_
  refine sn (aZ 8 [.box (zR s),.box (aM.cl aP false low),.box (aM.cl aD false k),.box (aM.cl aD false most),.box [(lI .i64 0),lN,lN,lN,(lB false),lN,lN,(lI .i64 0)],.box (aM.cl aR false x9),.box (aM.cl aD true d),.box (aM.cl fK false e)] [vp 0 0,vp 5 1,vp 6 2,vp 7 3,vp 8 4,vp 9 5,vr 10 aD true c,vp 11 6,vp 13 7,vb 59 (decide ((e.kind:Int)≠1))]) [0,1,2,3,4,5,6,23] ?_
  refine cd h (λf h=>?_) (λf h=>?_)
  cases h
  exact rt [0]
  refine dr mixed ?_
  refine cl none [] 0 h (gK N _) λo h=>?_
  refine cl none [] 0 h (kZ N _ _) λp h=>?_
  refine cl (some false) [0] 7 h (we N _ _) λb h=>?_
  refine dk ?_
  refine ps (dQ 14 [] [8]) ?_
  refine dr mixed ?_
  refine cl (some false) [] 1 h (Me N _ _ _) λi h=>?_
  refine dk ?_
  refine sn (aZ 14 [.box (zR s),.box (aM.cl aD false k),.box (aM.cl aD false most),.box [(lI .i64 0),lN,lN,lN,(lB false),lN,lN,(lI .i64 0)],.box (aM.cl aD true d),.box (aM.cl fK false e),.box [(lI .i64 b.n),(.own 7),(.own 8),(.own 9),(.own 10),(.own 11),(.own 12),(.cp bH false b.aK)],.row aR false b.aA,.row bC false b.aU,.row (bN aD) false b.u,.row (aF .i64) true b.aN,.row aD false b.value,.row aP false i,.box [(lI .i64 (iw ((List.length b.aA:Int)-1))),(.ro aD false low.g)]] [vp 0 0,vp 6 1,vp 7 2,vp 8 3,vr 10 aD true c,vp 11 4,vp 13 5,vp 14 6,vp 15 13]) [0,2,3,4,6,7,8,9,10,11,12,13,15,16] ?_
  refine ps (dQ 7 [] [6]) ?_
  refine ps (dQ 8 [] [6]) ?_
  refine ps (dQ 9 [] [6]) ?_
  refine ps (dQ 10 [] [6]) ?_
  refine ps (dQ 11 [] [6]) ?_
  refine ps (dQ 12 [] [6]) ?_
  refine dr mixed ?_
  refine cl none [] 0 h (gK N _) λv h=>?_
  refine cl none [] 0 h (kr N _ _) λy h=>?_
  refine cl (some false) [6] 0 h (ih _ _ _ _) λa0 h=>?_
  refine dk ?_
  refine cd h (λj h=>?_) (λj h=>?_)
  cases h
  exact rt [0]
  refine fp (some false) [0] h (EL N _ _ _ _ _) λa1 h=>?_
  cases h
  exact rt [0]
theorem T8(N:Nat)(run:aS->Option cz)(hrun:∀(s:aS) (r:cz) (h:run s=some r),Cx Tryz.prog 75 [.lf (.ptr 0 0)] (zF s) [] [sA fK false r]):∀(s:aS) (v:Int) (lows:(List bB)) (vat3:(List Int)) (r:cz) (h:nK N run s v lows vat3=some r),Cx Tryz.prog 142 [.lf (.ptr 0 0),sI .i64 v,sR aP false lows,sR (aF .i64) false vat3] [.box (zR s)] [(0,some (.box (zR s)))] [sA fK false r]:=by
 induction N with
 |zero=>intro s v lows vat3 r h;cases h
 |succ N ih=>
  intro s v lows vat3 r h
  replace h:pD N run (nK N run) s v lows vat3=some r:=h
  unfold pD at h
  refine fn tb en142 Tryz.func142 λX w H ν=>?_
  refine fp (some false) [0] h (GC N _ _) λr1 h=>?_
  refine jn (λx=>x) (λb=>aZ 2 [.box (zR s),.box [(lI .i64 0),lN,lN,lN,(lB false),lN,lN,(lI .i64 0)]] [vp 0 0,vi 1 v,vr 2 aP false b,vr 3 (aF .i64) false vat3,vp 8 1,vr 9 aP false r1.1]) h (λa6 l a7=>?_) ?_
  refine bk ?_
  refine lp (λc=>aZ 2 [.box (zR s),.box [(lI .i64 0),lN,lN,lN,(lB false),lN,lN,(lI .i64 0)]] [vp 0 0,vi 1 v,vr 2 aP false c,vr 3 (aF .i64) false vat3,vp 8 1,vr 9 aP false r1.1]) l [0,1] ?_
  rintro c oo h m
  rw[wa]at h
  refine jn (λx=>x) (λf=>aZ 2 [.box (zR s),.box [(lI .i64 0),lN,lN,lN,(lB false),lN,lN,(lI .i64 0)]] [vp 0 0,vi 1 v,vr 2 aP false c,vr 3 (aF .i64) false vat3,vp 8 1,vr 9 aP false r1.1,vb 40 f]) h (λa8 h a9=>?_) ?_
  refine rg ?_
  refine gd h (λo h=>?_) (λo h=>?_)
  refine bR h λaa h=>?_
  refine cl none [] 0 h (xj N _ _ _) λab h=>?_
  refine cl none [] 0 h (iC N _) λac h=>?_
  cases h
  exact bj _ [0,1]
  cases h
  exact bj _ [0,1]
  intro f h
  try dsimp only at h
  refine cd h (λp h=>?_) (λp h=>?_)
  refine bk ?_
  refine zV h λad h=>?_
  cases h
  exact bl [0,1]
  cases h
  exact bj _ [0,1] (hx:=m _ rfl)
  intro b h
  try dsimp only at h
  refine cd h (λy h=>?_) (λy h=>?_)
  refine cl (some false) [0] 5 h (B6 N _) λa0 h=>?_
  refine po (ca 2 1) ?_
  refine po (ca 2 2) ?_
  refine po (ca 2 7) ?_
  refine cl (some false) [2,7,8,3,4,5,6,9] 7 h (Gl N _ _ _) λa h=>?_
  refine dr mixed ?_
  refine jS h λae af h=>?_
  refine stP h (λa1 h=>?_) (by assumption)
  refine dk ?_
  refine sn (aZ 10 [.box (zR s),.box [(lI .i64 0),lN,lN,lN,(lB false),lN,lN,(lI .i64 0)],.box [(lI .i64 a0.n),(.ap 3 aR false a.2.aA),(.ap 4 bC false a.2.aU),(.own 5),(.own 6),(.own 7),(.own 8),(.own 9)],.aO aR false a.2.aA,.aO bC false a.2.aU,.row (bN aD) false a.2.u,.row (aF .i64) true a.2.aN,.row aD false a.2.value,.row aP false a.2.aB,.row bH false a1] [vp 0 0,vp 8 1,vp 11 2,vb 65 (!a.1)]) [0,1,2,10,11,12,13,14,15,16] ?_
  refine cd h (λa2 h=>?_) (λa2 h=>?_)
  refine po (oa 2 7) ?_
  refine cl (some false) [2,3,4,5,6,7,8,9] 0 h (wD N _) λag h=>?_
  cases h
  exact rt [0]
  refine po (oa 2 7) ?_
  refine cl (some false) [2,3,4,5,6,7,8,9] 0 h (hrun _) λah h=>?_
  cases h
  exact rt [0]
  refine dr mixed ?_
  refine bR h λg h=>?_
  refine bR h λai h=>?_
  refine cl none [] 0 h (xj N _ _ _) λi h=>?_
  refine dk ?_
  refine dr mixed ?_
  refine bR h λj h=>?_
  refine dk ?_
  refine cl none [] 1 h (tQ N _) λd h=>?_
  refine sn (aZ 6 [.box (zR s),.box [(lI .i64 0),lN,lN,lN,(lB false),lN,lN,(lI .i64 0)],.box (aM.cl aP false g),.box (aM.cl aD true i),.box (aM.cl aR false j),.row aD true d] [vp 0 0,vi 1 v,vr 2 aP false b,vr 3 (aF .i64) false vat3,vp 8 1,vp 13 2,vp 14 3,vp 15 4,vo 16 5]) [0,1,2,3,4,5] ?_
  refine dr mixed ?_
  refine cl none [] 0 h (kZ N _ _) λaj h=>?_
  refine cl none [] 0 h (gK N _) λak h=>?_
  refine cl none [] 0 h (kZ N _ _) λal h=>?_
  refine cl (some false) [0] 7 h (we N _ _) λam h=>?_
  refine dk ?_
  refine ps (dQ 12 [] [6]) ?_
  refine dr mixed ?_
  refine cl (some false) [] 1 h (Me N _ _ _) λan h=>?_
  refine dk ?_
  refine zV h λao h=>?_
  refine po (dQ 7 [111] [6]) ?_
  refine po (dQ 8 [] [6]) ?_
  refine po (dQ 9 [] [6]) ?_
  refine po (dQ 10 [] [6]) ?_
  refine po (dQ 11 [] [6]) ?_
  refine po (dQ 13 [114] [6]) ?_
  refine cl (some false) [6] 0 h (ih _ _ _ _) λe h=>?_
  refine sn (aZ 7 [.box (zR s),.box [(lI .i64 0),lN,lN,lN,(lB false),lN,lN,(lI .i64 0)],.box (aM.cl aP false g),.box (aM.cl aD true i),.box (aM.cl aR false j),.row aD true d,.box (aM.cl fK false e)] [vp 0 0,vp 8 1,vp 13 2,vp 14 3,vp 15 4,vo 16 5,vp 18 6,vb 125 (decide ((e.kind:Int)≠1))]) [0,1,2,3,4,5,14] ?_
  refine cd h (λa3 h=>?_) (λa3 h=>?_)
  cases h
  exact rt [0]
  refine cl none [] 0 h (kZ N _ _) λa4 h=>?_
  refine po (dQ 5 [16,132,134] []) ?_
  refine cl (some false) [0] 7 h (we N _ _) λaq h=>?_
  refine ps (oa 8 1) ?_
  refine ps (oa 8 2) ?_
  refine ps (ca 8 7) ?_
  refine dr mixed ?_
  refine cl none [] 1 h (tQ N _) λar h=>?_
  refine po (jR 16 [145,146] []) ?_
  refine cl (some false) [8,9,10,11,12,13,14,15] 7 h (vS N _ _) λav h=>?_
  refine dk ?_
  refine po (fa 8 1) ?_
  refine po (fa 8 2) ?_
  refine po (dQ 19 [] [8]) ?_
  refine po (dQ 20 [] [8]) ?_
  refine po (dQ 21 [] [8]) ?_
  refine po (dQ 22 [] [8]) ?_
  refine po (fa 8 7) ?_
  refine cl (some false) [8] 0 h (PK N run hrun _ _ _ _) λk h=>?_
  refine sn (aZ 5 [.box (zR s),.box [(lI .i64 0),lN,lN,lN,(lB false),lN,lN,(lI .i64 0)],.box (aM.cl fK false e),.box (aM.cl aD true a4),.box (aM.cl fK false k)] [vp 0 0,vp 8 1,vr 16 aD true d,vp 18 2,vp 19 3,vp 21 4,vb 155 (decide ((k.kind:Int)≠1))]) [0,1,6,7,24] ?_
  refine cd h (λa5 h=>?_) (λa5 h=>?_)
  cases h
  exact rt [0]
  refine fp (some false) [0] h (EL N _ _ _ _ _) λaw h=>?_
  cases h
  exact rt [0]
theorem Pa(N:Nat)(run:aS->Option cz)(hrun:∀(s:aS) (r:cz) (h:run s=some r),Cx Tryz.prog 75 [.lf (.ptr 0 0)] (zF s) [] [sA fK false r])(s:aS)(c:gZ)(r:cz)(h:zg N run s c=some r):Cx Tryz.prog 139 [.lf (.ptr 0 0),sA jV false c] [.box (zR s)] [(0,some (.box (zR s)))] [sA fK false r]:=by
 unfold zg at h;refine fn tb en139 Tryz.func139 λX w H ν=>?_;refine cl none [] 0 h (kr N _ _) λr1 h=>?_;refine cl none [] 0 h (gK N _) λr2 h=>?_;refine cl none [] 0 h (mR N _ _) λr3 h=>?_;refine dr mixed ?_;refine bR h λx4 h=>?_;refine dk ?_;refine cl (some false) [0] 7 h (we N _ _) λr5 h=>?_;refine sn (aZ 11 [.box (zR s),.box (aM.cl jV false c),.box [(lI .i64 0),lN,lN,lN,(lB false),lN,lN,(lI .i64 0)],.box (aM.cl aD true r3.1),.box [(lI .i64 r5.n),(.own 5),(.own 6),(.own 7),(.own 8),(.own 9),(.own 10),(.cp bH false r5.aK)],.row aR false r5.aA,.row bC false r5.aU,.row (bN aD) false r5.u,.row (aF .i64) true r5.aN,.row aD false r5.value,.row aP false r5.aB] [vp 0 0,vp 3 1,vp 4 2,vp 5 3,vr 8 aD false x4.bE,vp 9 4]) [0,1,2,3,5,6,7,8,9,10,11] ?_;refine ps (oa 4 1) ?_;refine ps (oa 4 2) ?_;refine ps (ca 4 7) ?_;refine dr mixed ?_;refine cl (some false) [4,5,6,7,8,9,10,11] 7 h (vS N _ _) λr6 h=>?_;refine dk ?_;refine cl (some false) [4,12,13,14,15,16,17,18] 0 h (hrun _) λr7 h=>?_;refine sn (aZ 5 [.box (zR s),.box (aM.cl jV false c),.box [(lI .i64 0),lN,lN,lN,(lB false),lN,lN,(lI .i64 0)],.box (aM.cl aD true r3.1),.box (aM.cl fK false r7)] [vp 0 0,vp 3 1,vp 4 2,vp 5 3,vr 8 aD false x4.bE,vp 10 4,vb 55 (decide ((r7.kind:Int)≠1))]) [0,1,2,3,19] ?_;refine cd h (λb h=>?_) (λb h=>?_);cases h;exact rt [0];refine dr mixed ?_;refine cl none [] 1 h (tQ N _) λe h=>?_;refine cl none [] 0 h (lY N _) λf h=>?_;refine cl none [] 0 h (gK N _) λg h=>?_;refine cl none [] 0 h (kZ N _ _) λi h=>?_;refine po (jR 5 [59,64] []) ?_;refine cl (some false) [0] 7 h (we N _ _) λj h=>?_;refine dk ?_;refine ps (oa 6 1) ?_;refine ps (oa 6 2) ?_;refine ps (ca 6 7) ?_;refine dr mixed ?_;refine cl none [] 1 h (tQ N _) λk h=>?_;refine po (jR 14 [76,77] []) ?_;refine cl (some false) [6,7,8,9,10,11,12,13] 7 h (vS N _ _) λl h=>?_;refine dk ?_;refine cl (some false) [6,15,16,17,18,19,20,21] 0 h (hrun _) λa h=>?_;refine sn (aZ 5 [.box (zR s),.box [(lI .i64 0),lN,lN,lN,(lB false),lN,lN,(lI .i64 0)],.box (aM.cl aD true r3.1),.box (aM.cl fK false r7),.box (aM.cl fK false a)] [vp 0 0,vp 4 1,vp 5 2,vr 8 aD false x4.bE,vp 10 3,vp 12 4,vb 83 (decide ((a.kind:Int)≠1))]) [0,2,3,4,22] ?_;refine cd h (λd h=>?_) (λd h=>?_);cases h;exact rt [0];refine fp (some false) [0] h (EL N _ _ _ _ _) λm h=>?_;cases h;exact rt [0]
theorem TY(N:Nat)(run:aS->Option cz)(hrun:∀(s:aS) (r:cz) (h:run s=some r),Cx Tryz.prog 75 [.lf (.ptr 0 0)] (zF s) [] [sA fK false r])(s:aS)(v:Int)(r:cz)(h:uX N run s v=some r):Cx Tryz.prog 108 [.lf (.ptr 0 0),sI .i64 v] [.box (zR s)] [(0,some (.box (zR s)))] [sA fK false r]:=by
 unfold uX at h;refine fn tb en108 Tryz.func108 λX w H ν=>?_;refine fp (some false) [0] h (PH N _) λr1 h=>?_;refine jn (λx=>(Sum.inl x)) (λ(_:Unit)=>aZ 2 [.box (zR s),.box [(lI .i64 0),lN,lN,lN,(lB false),lN,lN,(lI .i64 0)]] [vp 0 0,vi 1 v,vp 4 1]) h (λa2 h i=>?_) ?_;refine cd h (λj h=>?_) (λj h=>?_);refine cl none [] 0 h (kZ N _ _) λa3 h=>?_;refine jn (λx=>x) (λb=>aZ 3 [.box (zR s),.box [(lI .i64 0),lN,lN,lN,(lB false),lN,lN,(lI .i64 0)],.box (aM.cl jV false r1.1)] [vp 0 0,vi 1 v,vp 4 1,vp 5 2,vb 37 b]) h (λa4 h a5=>?_) ?_;refine dr mixed ?_;refine cl none [] 0 h (gK N _) λa6 h=>?_;refine cl none [] 0 h (jF N _ _) λa7 h=>?_;refine gd h (λk h=>?_) (λk h=>?_);refine fp (some false) [0] h (TS N _ _) λa8 h=>?_;refine cl none [] 0 h (jF N _ _) λa9 h=>?_;refine dk ?_;cases h;exact bj _ [0,1,2];refine dk ?_;cases h;exact bj _ [0,1,2];intro b h;try dsimp only at h
 refine cd h (λl h=>?_) (λl h=>?_);refine fp (some false) [0] h (Pa N run hrun _ _) λaa h=>?_;cases h;replace h:=i;try dsimp only at h
 cases h;exact rt [0];cases h;exact bj _ [0,1];cases h;exact bj _ [0,1];intro _ h;try dsimp only at h
 refine cl (some false) [0] 5 h (B6 N _) λab h=>?_;refine po (ca 2 1) ?_;refine po (ca 2 2) ?_;refine po (ca 2 7) ?_;refine cl (some false) [2,7,8,3,4,5,6,9] 7 h (Gl N _ _ _) λac h=>?_;refine cd h (λm h=>?_) (λm h=>?_);refine po (oa 2 7) ?_;refine cl (some false) [2,10,11,12,13,14,15,16] 0 h (wD N _) λad h=>?_;cases h;exact rt [0];refine po (oa 2 7) ?_;refine cl (some false) [2,10,11,12,13,14,15,16] 0 h (hrun _) λn h=>?_;refine jn (λx=>x) (λc=>aZ 3 [.box (zR s),.box [(lI .i64 0),lN,lN,lN,(lB false),lN,lN,(lI .i64 0)],.box (aM.cl fK false n)] [vp 0 0,vi 1 v,vp 4 1,vp 9 2,vb 59 c]) h (λae h af=>?_) ?_;refine rg ?_;refine gd h (λo h=>?_) (λo h=>?_);cases h;exact bj _ [0,1,17];cases h;exact bj _ [0,1,17];intro c h;try dsimp only at h
 refine cd h (λp h=>?_) (λp h=>?_);cases h;exact rt [0];refine fp (some false) [0] h (GC N _ _) λa h=>?_;refine dp (bN aP) false [a.1,a.2] ?_;refine po (dQ 3 [69] []) ?_;refine cl (some false) [] 0 h (Ma N _) λd h=>?_;refine jn (λx=>x) (λe=>aZ 3 [.box (zR s),.box [(lI .i64 0),lN,lN,lN,(lB false),lN,lN,(lI .i64 0)],.row (aF .i64) true e] [vp 0 0,vi 1 v,vp 4 1,vr 11 aP false a.2,vo 12 2]) h (λag u ah=>?_) ?_;refine bk ?_;refine ps (nl 12 (aF .i64)) ?_;refine lp (λ⟨f,g⟩=>aZ 3 [.box (zR s),.box [(lI .i64 0),lN,lN,lN,(lB false),lN,lN,(lI .i64 0)],.row (aF .i64) true f] [vp 0 0,vi 1 v,vp 4 1,vr 11 aP false a.2,vo 12 2,vr 70 aP false d,vi 71 (List.length d:Int),vi 72 g]) u [0,1,4] ?_;rintro⟨f,g⟩ oo h y
 rw[Ds]at h
 refine cd h (λa0 h=>?_) (λa0 h=>?_);refine bk ?_;refine bR h λa1 h=>?_;refine dp (aF .i64) true [a1.pos] ?_;refine ei true h λai h=>?_;cases h;exact bl [0,1,5];cases h;exact bj _ [0,1,2] (hx:=y _ rfl);intro e h;try dsimp only at h
 refine po (dQ 2 [12,85] []) ?_;refine fp (some false) [0] h (T8 N run hrun _ _ _ _) λaj h=>?_;cases h;exact rt [0]
theorem Pl(N:Nat):∀(s:aS) (r:cz) (h:kg N s=some r),Cx Tryz.prog 75 [.lf (.ptr 0 0)] (zF s) [] [sA fK false r]:=by
 induction N with
 |zero=>intro s r h;cases h
 |succ N ih=>
  intro s r h
  replace h:xW N (kg N) s=some r:=h
  unfold xW at h
  refine iP (m:=8) tb (.comp (eP 0 1 1) (.comp (eP 0 2 2) (.comp (dD 0 3 3) (.comp (dD 0 4 4) (.comp (dD 0 5 5) (.comp (dD 0 6 6) (eP 0 7 7))))))) en75 Tryz.func75 λX w H ν=>?_
  obtain⟨a4,p,d⟩:=bind_some h
  refine bk ?_
  refine lp (λ⟨f,g,j,k,l,o,i⟩=>cW 16 [some (.box [(lI .i64 s.n),(.ap 8 aR false f),(.ap 9 bC false g),(.own 10),(.own 11),(.own 12),(.own 13),(.ap 14 bH false i)]),none,none,none,none,none,none,none,some (.aO aR false f),some (.aO bC false g),some (.row (bN aD) false j),some (.row (aF .i64) true k),some (.row aD false l),some (.row aP false o),some (.aO bH false i),some (.box [(lI .i64 0),lN,lN,lN,(lB false),lN,lN,(lI .i64 0)])] [vp 0 0,vp 2 15]) p [0,1,2,3,4,5,6,7,8,9,10,11,12,13,14,15] ?_
  rintro⟨f,g,j,k,l,o,i⟩ oo h e
  rw[uo]at h
  refine bk ?_
  refine cl (some false) [0,8,9,10,11,12,13,14] 7 h (Tj N _) λa h=>?_
  refine sn (cW 16 [some (.box [(lI .i64 s.n),(.ap 8 aR false a.2.2.2.2.aA),(.ap 9 bC false a.2.2.2.2.aU),(.own 10),(.own 11),(.own 12),(.own 13),(.ap 14 bH false a.2.2.2.2.aK)]),none,none,none,none,none,none,none,some (.aO aR false a.2.2.2.2.aA),some (.aO bC false a.2.2.2.2.aU),some (.row (bN aD) false a.2.2.2.2.u),some (.row (aF .i64) true a.2.2.2.2.aN),some (.row aD false a.2.2.2.2.value),some (.row aP false a.2.2.2.2.aB),some (.aO bH false a.2.2.2.2.aK),some (.box [(lI .i64 0),lN,lN,lN,(lB false),lN,lN,(lI .i64 0)])] [vp 0 0,vp 2 15,vi 3 a.1,vi 4 a.2.1,vb 5 a.2.2.1,vb 17 (!a.2.2.2.1)]) [0,1,2,3,4,5,6,7,16,17,18,19,20,21,22,15] ?_
  refine cd h (λv h=>?_) (λv h=>?_)
  refine cl (some false) [0,8,9,10,11,12,13,14] 0 h (wD N _) λa5 h=>?_
  cases h
  have h:=d
  rw[<-e _ rfl]at h
  try dsimp only at h
  cases h
  exact rt [0,1,2,3,4,5,6,7]
  refine cd h (λy h=>?_) (λy h=>?_)
  refine cl (some false) [0,8,9,10,11,12,13,14] 7 h (UI N _ _ _) λb h=>?_
  refine sn (cW 16 [some (.box [(lI .i64 s.n),(.ap 8 aR false b.2.aA),(.ap 9 bC false b.2.aU),(.own 10),(.own 11),(.own 12),(.own 13),(.ap 14 bH false b.2.aK)]),none,none,none,none,none,none,none,some (.aO aR false b.2.aA),some (.aO bC false b.2.aU),some (.row (bN aD) false b.2.u),some (.row (aF .i64) true b.2.aN),some (.row aD false b.2.value),some (.row aP false b.2.aB),some (.aO bH false b.2.aK),some (.box [(lI .i64 0),lN,lN,lN,(lB false),lN,lN,(lI .i64 0)])] [vp 0 0,vp 2 15,vb 25 (!b.1)]) [0,1,2,3,4,5,6,7,16,17,18,19,20,21,22,15] ?_
  refine cd h (λa0 h=>?_) (λa0 h=>?_)
  refine cl (some false) [0,8,9,10,11,12,13,14] 0 h (wD N _) λa6 h=>?_
  cases h
  have h:=d
  rw[<-e _ rfl]at h
  try dsimp only at h
  cases h
  exact rt [0,1,2,3,4,5,6,7]
  cases h
  exact bl [0,1,2,3,4,5,6,7,8,9,10,11,12,13,14,15]
  refine fp (some false) [0,8,9,10,11,12,13,14] h (Vy N _) λa7 h=>?_
  refine cd h (λa1 h=>?_) (λa1 h=>?_)
  refine cl (some false) [0,8,9,10,11,12,13,14] 0 h (Uz N _) λa8 h=>?_
  cases h
  have h:=d
  rw[<-e _ rfl]at h
  try dsimp only at h
  cases h
  exact rt [0,1,2,3,4,5,6,7]
  refine fp (some false) [0,8,9,10,11,12,13,14] h (Qi N _ _) λa9 h=>?_
  refine cd h (λa2 h=>?_) (λa2 h=>?_)
  refine po (fa 0 1) ?_
  refine po (fa 0 2) ?_
  refine po (dQ 10 [] [0]) ?_
  refine po (dQ 11 [] [0]) ?_
  refine po (dQ 12 [] [0]) ?_
  refine po (dQ 13 [] [0]) ?_
  refine po (fa 0 7) ?_
  refine cl (some false) [0] 0 h (TY N (kg N) ih _ _) λaa h=>?_
  cases h
  have h:=d
  rw[<-e _ rfl]at h
  try dsimp only at h
  cases h
  exact rt [0,1,2,3,4,5,6,7]
  refine cl (some false) [0,8,9,10,11,12,13,14] 7 h (Gl N _ _ _) λc h=>?_
  refine sn (cW 16 [some (.box [(lI .i64 s.n),(.ap 8 aR false c.2.aA),(.ap 9 bC false c.2.aU),(.own 10),(.own 11),(.own 12),(.own 13),(.own 14)]),none,none,none,none,none,none,none,some (.aO aR false c.2.aA),some (.aO bC false c.2.aU),some (.row (bN aD) false c.2.u),some (.row (aF .i64) true c.2.aN),some (.row aD false c.2.value),some (.row aP false c.2.aB),some (.row bH false c.2.aK),some (.box [(lI .i64 0),lN,lN,lN,(lB false),lN,lN,(lI .i64 0)])] [vp 0 0,vp 2 15,vb 47 (!c.1)]) [0,1,2,3,4,5,6,7,16,17,18,19,20,21,22,15] ?_
  refine cd h (λa3 h=>?_) (λa3 h=>?_)
  refine po (oa 0 7) ?_
  refine cl (some false) [0,8,9,10,11,12,13,14] 0 h (wD N _) λab h=>?_
  cases h
  have h:=d
  rw[<-e _ rfl]at h
  try dsimp only at h
  cases h
  exact rt [0,1,2,3,4,5,6,7]
  cases h
  exact bl [0,1,2,3,4,5,6,7,8,9,10,11,12,13,14,15]
theorem AM(N:Nat)(n:Int)(system:(List bG))(r:cz)(h:p5 N n system=some r):Cx Tryz.prog 40 [sI .i64 n,sR aR false system] [] [] [sA fK false r]:=by
 unfold p5 at h;refine fn tb en40 Tryz.func40 λX w H ν=>?_;refine cl (some false) [] 8 h (O7 N _ _) λr1 h=>?_;refine po (oa 1 1) ?_;refine po (oa 1 2) ?_;refine po (oa 1 7) ?_;refine cl (some false) [1,2,3,4,5,6,7,8] 7 h (QP N _) λr2 h=>?_;refine cd h (λhc6 h=>?_) (λhc6 h=>?_);refine cl (some false) [1,9,10,11,12,13,14,15] 0 h (wD N _) λr7 h=>?_;cases h;exact rt [];refine cl (some false) [1,9,10,11,12,13,14,15] 0 h (Pl N _) λr8 h=>?_;cases h;exact rt []
theorem CJ(N:Nat)(n:Int)(l:(List Constraint))(r:((List aC)×Proof×Bool))(h:rI N n l=some r):Cx Tryz.prog 36 [sI .i64 n,sR dG false l] [] [] [sR aD false r.1,sA jo false r.2.1,sB r.2.2]:=by
 unfold rI at h;refine fn tb en36 Tryz.func36 λX w H ν=>?_;refine cl none [] 1 h (Mg N _ _) λr1 h=>?_;refine po (dQ 1 [11] []) ?_;refine cl (some true) [] 0 h (AM N _ _) λr2 h=>?_;refine cd h (λhc5 h=>?_) (λhc5 h=>?_);cases h;exact rt [];refine dr mixed ?_;refine dk ?_;cases h;exact rt []
theorem U0(N:Nat)(n:Int)(system:(List bG))(v:Int)(r:Bool)(h:yu N n system v=some r):Cx Tryz.prog 41 [sI .i64 n,sR aR false system,sI .i64 v] [] [] [sB r]:=by
 unfold yu at h;refine fn tb en41 Tryz.func41 λX w H ν=>?_;refine jn (λx=>x) (λa=>aZ 1 [.row aR false a] [vi 0 n,vi 2 v,vo 7 0]) h (λj d k=>?_) ?_;refine bk ?_;refine ps (nl 7 aR) ?_;refine lp (λ⟨b,c⟩=>aZ 1 [.row aR false b] [vi 0 n,vi 2 v,vo 7 0,vr 10 aR false system,vi 11 (List.length system:Int),vi 12 c]) d [0] ?_;rintro⟨b,c⟩ oo h e
 rw[EP]at h
 refine cd h (λf h=>?_) (λf h=>?_);refine bk ?_;refine bR h λg h=>?_;refine dp aR false [(bG.mk g.bE (aC.mk false ([]:(List Int))))] ?_;refine ei false h λl h=>?_;cases h;exact bl [3];cases h;exact bj _ [0] (hx:=e _ rfl);intro a h;try dsimp only at h
 refine cl none [] 0 h (gK N _) λm h=>?_;refine cl (some true) [] 0 h (HY N _ _ _ _) λi h=>?_;refine dp aR true [i] ?_;refine ei false h λo h=>?_;refine po (dQ 2 [30] []) ?_;refine cl (some false) [] 0 h (AM N _ _) λp h=>?_;cases h;exact rt []
theorem ID(N:Nat)(n:Int)(l:(List Constraint))(v:Int)(r:(aC×Bool))(h:wC N n l v=some r):Cx Tryz.prog 15 [sI .i64 n,sR dG false l,sI .i64 v] [] [] [sA aD false r.1,sB r.2]:=by
 unfold wC at h;refine fn tb en15 Tryz.func15 λX w H ν=>?_;refine cl none [] 1 h (Mg N _ _) λr1 h=>?_;refine po (dQ 1 [8,22,24] []) ?_;refine cl (some true) [] 0 h (AM N _ _) λr2 h=>?_;refine jn (λx=>x) (λx6=>aZ 2 [.box [(lB false),lN],.box (aM.cl fK true r2)] [vi 0 n,vi 2 v,vp 6 0,vr 8 aR true r1,vp 9 1,vb 34 x6]) h (λs7 h g8=>?_) ?_;refine rg ?_;refine gd h (λhc9 h=>?_) (λhc9 h=>?_);cases h;exact bj _ [0,2];refine cl none [] 0 h (U0 N _ _ _) λa6 h=>?_;cases h;exact bj _ [0,2];intro x6 h;try dsimp only at h
 refine cd h (λm h=>?_) (λm h=>?_);cases h;exact rt [];refine cl none [] 0 h (gK N _) λa h=>?_;refine bR h λa7 h=>?_;obtain⟨a8,o,p⟩:=bind_some h;refine bk ?_;refine lp (λ⟨b,c,d,e⟩=>aZ 5 [.box [(lB false),lN],.box (aM.cl aD true a),.box (aM.cl aD true b),.box (aM.cl aD true c),.box (aM.cl aD true e)] [vi 0 n,vi 2 v,vp 6 0,vr 8 aR true r1,vp 10 1,vp 11 2,vp 12 3,vb 13 d,vp 14 4]) o [0,2,3,4,5] ?_;rintro⟨b,c,d,e⟩ oo h s
 rw[zY]at h
 refine jn (λx=>(Sum.inl x)) (λ⟨f,g,i,j⟩=>aZ 5 [.box [(lB false),lN],.box (aM.cl aD true a),.box (aM.cl aD true f),.box (aM.cl aD true g),.box (aM.cl aD true j)] [vi 0 n,vi 2 v,vp 6 0,vr 8 aR true r1,vp 10 1,vp 11 2,vp 12 3,vb 13 i,vp 14 4]) h (λa9 h u=>?_) ?_;refine bk ?_;refine cl none [] 0 h (kZ N _ _) λaa h=>?_;refine jn (λx=>(Sum.inl x)) (λk=>aZ 6 [.box [(lB false),lN],.box (aM.cl aD true a),.box (aM.cl aD true b),.box (aM.cl aD true c),.box (aM.cl aD true e),.box (aM.cl aD true k)] [vi 0 n,vi 2 v,vp 6 0,vr 8 aR true r1,vp 10 1,vp 11 2,vp 12 3,vb 13 d,vp 14 4,vp 15 5]) h (λab h y=>?_) ?_;refine cd h (λa0 h=>?_) (λa0 h=>?_);refine cl none [] 0 h (kr N _ _) λac h=>?_;refine cl none [] 0 h (gK N _) λad h=>?_;refine cl none [] 0 h (mR N _ _) λa1 h=>?_;refine dr mixed ?_;refine cl none [] 0 h (kZ N _ _) λae h=>?_;refine cl none [] 0 h (jF N _ _) λa2 h=>?_;refine dk ?_;refine sn (aZ 6 [.box [(lB false),lN],.box (aM.cl aD true a),.box (aM.cl aD true b),.box (aM.cl aD true c),.box (aM.cl aD true e),.box (aM.cl aD true a1.1)] [vi 0 n,vi 2 v,vp 6 0,vr 8 aR true r1,vp 10 1,vp 11 2,vp 12 3,vb 13 d,vp 14 4,vp 15 5,vb 63 (decide ((a2:Int)<=0))]) [0,1,2,3,4,5] ?_;refine cd h (λa3 h=>?_) (λa3 h=>?_);cases h;replace h:=y;try dsimp only at h
 cases h;replace h:=u;try dsimp only at h
 cases h;have h:=p
 rw[<-s _ rfl]at h
 try dsimp only at h
 cases h;exact rt [];cases h;exact bj _ [0,1,2,3,4,5];cases h;exact bj _ [0,1,2,3,4,5];intro k h;try dsimp only at h
 refine dr mixed ?_;refine cl (some true) [] 0 h (JC N _) λaf h=>?_;refine cl (some true) [] 0 h (HY N _ _ _ _) λa4 h=>?_;refine dp aR true [a4] ?_;refine apC true h λag h=>?_;refine po (jR 7 [73] []) ?_;refine cl (some true) [] 0 h (AM N _ _) λah h=>?_;refine dk ?_;refine cd h (λa5 h=>?_) (λa5 h=>?_);refine dr mixed ?_;refine bR h λai h=>?_;refine cl none [] 0 h (kr N _ _) λaj h=>?_;refine dk ?_;cases h;exact bj _ [0,1,2,3,4];cases h;exact bj _ [0,1,2,3,4];rintro⟨f,g,i,j⟩ h;try dsimp only at h
 cases h;exact bl [0,1,2,3,5]
end Go.Proofs.YtipdkfmhfakbnaaGreatDoor.SY

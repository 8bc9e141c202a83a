/- Walks of the symbolic machine, written by a program of mine (wip/tool). -/
import Derived.Test.YtipdkfmhfakbnaaGreatDoorOB
set_option linter.unusedVariables false
set_option linter.unusedSimpArgs false
set_option maxRecDepth 100000
set_option maxHeartbeats 4000000
namespace Go.Proofs.YtipdkfmhfakbnaaGreatDoor.SY
open Go Go.RowKit Go.X Go.Q Go.D Go.Proofs.YtipdkfmhfakbnaaGreatDoor.TB Go.Proofs.YtipdkfmhfakbnaaGreatDoor.FS Go.Proofs.YtipdkfmhfakbnaaGreatDoor.OB Go.Proofs.YtipdkfmhfakbnaaGreatDoor.SB Go.Proofs.YtipdkfmhfakbnaaGreatDoor.SC Go.Proofs.YtipdkfmhfakbnaaGreatDoor.SP Go.Proofs.YtipdkfmhfakbnaaGreatDoor.SQ Go.Proofs.YtipdkfmhfakbnaaGreatDoor.SV Go.Proofs.YtipdkfmhfakbnaaGreatDoor.SW
theorem QF(N:Nat)(run:aS->Option cD)(hrun:∀(s:aS) (r:cD) (h:run s=some r),Cx aL 75 [.lf (.ptr 0 0)] (zF s) [] [sA gk false r]):∀(s:aS) (low:bD) (k:aC) (most:aC) (r:cD) (h:rE N run s low k most=some r),Cx aL 170 [.lf (.ptr 0 0),sA aP false low,sA aE false k,sA aE false most] [.box (zR s)] [(0,some (.box (zR s)))] [sA gk false r]:=by
 induction N with
 |zero=>intro s low k most r h;cases h
 |succ N ih=>
  intro s low k most r h
  replace h:tG N run (rE N run) s low k most=some r:=h
  unfold tG at h
  refine fn tb en170 Tryz.func170 λX w H ν=>?_
  refine cl none [] 0 h (jY N _ _) λr1 h=>?_
  refine cd h (λhc6 h=>?_) (λhc6 h=>?_)
  refine cl (some false) [0] 5 h (Di N _) λr7 h=>?_
  refine po (ca 5 1) ?_
  refine po (ca 5 2) ?_
  refine po (ca 5 7) ?_
  refine cl (some false) [5,10,11,6,7,8,9,12] 0 h (hrun _) λr8 h=>?_
  cases h
  exact rt [0]
  refine dr mixed ?_
  refine bP h λx9 h=>?_
  refine dk ?_
  refine dr mixed ?_
  refine cl none [] 1 h (tZ N _) λc h=>?_
  refine cl none [] 0 h (mC N _) λd h=>?_
  refine dk ?_
  refine po (dM 6 [10,34,39,41] []) ?_
  refine cl (some false) [0] 7 h (wL N _ _) λa h=>?_
  refine sn (aX 14 [.box (zR s),.box (aO.cl aP false low),.box (aO.cl aE false k),.box (aO.cl aE false most),.box [(lI .i64 0),lN,lN,lN,(lB false),lN,lN,(lI .i64 0)],.box (aO.cl aT false x9),.box (aO.cl aE true d),.box [(lI .i64 a.n),(.own 8),(.own 9),(.own 10),(.own 11),(.own 12),(.own 13),(.cp bH false a.aK)],.row aT false a.aA,.row bF false a.aV,.row bN false a.u,.row aY true a.aM,.row aE false a.value,.row aP false a.aB] [vp 0 0,vp 5 1,vp 6 2,vp 7 3,vp 8 4,vp 9 5,vr 10 aE true c,vp 11 6,vp 12 7]) [0,1,2,3,4,5,7,8,9,10,11,12,13,14] ?_
  refine ps (oa 7 1) ?_
  refine ps (oa 7 2) ?_
  refine ps (ca 7 7) ?_
  refine dr mixed ?_
  refine cl none [] 1 h (tZ N _) λl h=>?_
  refine po (jG 15 [52,53] []) ?_
  refine cl (some false) [7,8,9,10,11,12,13,14] 7 h (wq N _ _) λm h=>?_
  refine dk ?_
  refine cl (some false) [7,16,17,18,19,20,21,22] 0 h (hrun _) λe h=>?_
  refine sn (aX 8 [.box (zR s),.box (aO.cl aP false low),.box (aO.cl aE false k),.box (aO.cl aE false most),.box [(lI .i64 0),lN,lN,lN,(lB false),lN,lN,(lI .i64 0)],.box (aO.cl aT false x9),.box (aO.cl aE true d),.box (aO.cl gk false e)] [vp 0 0,vp 5 1,vp 6 2,vp 7 3,vp 8 4,vp 9 5,vr 10 aE true c,vp 11 6,vp 13 7,vb 59 (decide ((e.kind:Int)≠1))]) [0,1,2,3,4,5,6,23] ?_
  refine cd h (λf h=>?_) (λf h=>?_)
  cases h
  exact rt [0]
  refine dr mixed ?_
  refine cl none [] 0 h (ic N _) λo h=>?_
  refine cl none [] 0 h (l5 N _ _) λp h=>?_
  refine cl (some false) [0] 7 h (wL N _ _) λb h=>?_
  refine dk ?_
  refine ps (dM 14 [] [8]) ?_
  refine dr mixed ?_
  refine cl (some false) [] 1 h (Pj N _ _ _) λi h=>?_
  refine dk ?_
  refine sn (aX 14 [.box (zR s),.box (aO.cl aE false k),.box (aO.cl aE false most),.box [(lI .i64 0),lN,lN,lN,(lB false),lN,lN,(lI .i64 0)],.box (aO.cl aE true d),.box (aO.cl gk false e),.box [(lI .i64 b.n),(.own 7),(.own 8),(.own 9),(.own 10),(.own 11),(.own 12),(.cp bH false b.aK)],.row aT false b.aA,.row bF false b.aV,.row bN false b.u,.row aY true b.aM,.row aE false b.value,.row aP false i,.box [(lI .i64 (iw ((List.length b.aA:Int)-1))),(.ro aE false low.g)]] [vp 0 0,vp 6 1,vp 7 2,vp 8 3,vr 10 aE true c,vp 11 4,vp 13 5,vp 14 6,vp 15 13]) [0,2,3,4,6,7,8,9,10,11,12,13,15,16] ?_
  refine ps (dM 7 [] [6]) ?_
  refine ps (dM 8 [] [6]) ?_
  refine ps (dM 9 [] [6]) ?_
  refine ps (dM 10 [] [6]) ?_
  refine ps (dM 11 [] [6]) ?_
  refine ps (dM 12 [] [6]) ?_
  refine dr mixed ?_
  refine cl none [] 0 h (ic N _) λv h=>?_
  refine cl none [] 0 h (kA N _ _) λy h=>?_
  refine cl (some false) [6] 0 h (ih _ _ _ _) λa0 h=>?_
  refine dk ?_
  refine cd h (λj h=>?_) (λj h=>?_)
  cases h
  exact rt [0]
  refine fA (some false) [0] h (E0 N _ _ _ _ _) λa1 h=>?_
  cases h
  exact rt [0]
theorem Td(N:Nat)(run:aS->Option cD)(hrun:∀(s:aS) (r:cD) (h:run s=some r),Cx aL 75 [.lf (.ptr 0 0)] (zF s) [] [sA gk false r]):∀(s:aS) (v:Int) (lows:(List bD)) (vat3:(List Int)) (r:cD) (h:nI N run s v lows vat3=some r),Cx aL 142 [.lf (.ptr 0 0),sI .i64 v,sR aP false lows,sR aY false vat3] [.box (zR s)] [(0,some (.box (zR s)))] [sA gk false r]:=by
 induction N with
 |zero=>intro s v lows vat3 r h;cases h
 |succ N ih=>
  intro s v lows vat3 r h
  replace h:qs N run (nI N run) s v lows vat3=some r:=h
  unfold qs at h
  refine fn tb en142 Tryz.func142 λX w H ν=>?_
  refine fA (some false) [0] h (Ga N _ _) λr1 h=>?_
  refine jn (λx=>x) (λb=>aX 2 [.box (zR s),.box [(lI .i64 0),lN,lN,lN,(lB false),lN,lN,(lI .i64 0)]] [vp 0 0,vi 1 v,vr 2 aP false b,vr 3 aY false vat3,vp 8 1,vr 9 aP false r1.1]) h (λa6 l a7=>?_) ?_
  refine bk ?_
  refine lp (λc=>aX 2 [.box (zR s),.box [(lI .i64 0),lN,lN,lN,(lB false),lN,lN,(lI .i64 0)]] [vp 0 0,vi 1 v,vr 2 aP false c,vr 3 aY false vat3,vp 8 1,vr 9 aP false r1.1]) l [0,1] ?_
  rintro c oo h m
  rw[vm]at h
  refine jn (λx=>x) (λf=>aX 2 [.box (zR s),.box [(lI .i64 0),lN,lN,lN,(lB false),lN,lN,(lI .i64 0)]] [vp 0 0,vi 1 v,vr 2 aP false c,vr 3 aY false vat3,vp 8 1,vr 9 aP false r1.1,vb 40 f]) h (λa8 h a9=>?_) ?_
  refine rg ?_
  refine gd h (λo h=>?_) (λo h=>?_)
  refine bP h λaa h=>?_
  refine cl none [] 0 h (zf N _ _ _) λab h=>?_
  refine cl none [] 0 h (iW N _) λac h=>?_
  cases h
  exact bj _ [0,1]
  cases h
  exact bj _ [0,1]
  intro f h
  try dsimp only at h
  refine cd h (λp h=>?_) (λp h=>?_)
  refine bk ?_
  refine BF h λad h=>?_
  cases h
  exact bl [0,1]
  cases h
  exact bj _ [0,1] (hx:=m _ rfl)
  intro b h
  try dsimp only at h
  refine cd h (λy h=>?_) (λy h=>?_)
  refine cl (some false) [0] 5 h (Di N _) λa0 h=>?_
  refine po (ca 2 1) ?_
  refine po (ca 2 2) ?_
  refine po (ca 2 7) ?_
  refine cl (some false) [2,7,8,3,4,5,6,9] 7 h (Hx N _ _ _) λa h=>?_
  refine dr mixed ?_
  refine kh h λae af h=>?_
  refine stP h (λa1 h=>?_) (by assumption)
  refine dk ?_
  refine sn (aX 10 [.box (zR s),.box [(lI .i64 0),lN,lN,lN,(lB false),lN,lN,(lI .i64 0)],.box [(lI .i64 a0.n),(.ap 3 aT false a.2.aA),(.ap 4 bF false a.2.aV),(.own 5),(.own 6),(.own 7),(.own 8),(.own 9)],.aN aT false a.2.aA,.aN bF false a.2.aV,.row bN false a.2.u,.row aY true a.2.aM,.row aE false a.2.value,.row aP false a.2.aB,.row bH false a1] [vp 0 0,vp 8 1,vp 11 2,vb 65 (!a.1)]) [0,1,2,10,11,12,13,14,15,16] ?_
  refine cd h (λa2 h=>?_) (λa2 h=>?_)
  refine po (oa 2 7) ?_
  refine cl (some false) [2,3,4,5,6,7,8,9] 0 h (vz N _) λag h=>?_
  cases h
  exact rt [0]
  refine po (oa 2 7) ?_
  refine cl (some false) [2,3,4,5,6,7,8,9] 0 h (hrun _) λah h=>?_
  cases h
  exact rt [0]
  refine dr mixed ?_
  refine bP h λg h=>?_
  refine bP h λai h=>?_
  refine cl none [] 0 h (zf N _ _ _) λi h=>?_
  refine dk ?_
  refine dr mixed ?_
  refine bP h λj h=>?_
  refine dk ?_
  refine cl none [] 1 h (tZ N _) λd h=>?_
  refine sn (aX 6 [.box (zR s),.box [(lI .i64 0),lN,lN,lN,(lB false),lN,lN,(lI .i64 0)],.box (aO.cl aP false g),.box (aO.cl aE true i),.box (aO.cl aT false j),.row aE true d] [vp 0 0,vi 1 v,vr 2 aP false b,vr 3 aY false vat3,vp 8 1,vp 13 2,vp 14 3,vp 15 4,vo 16 5]) j6 ?_
  refine dr mixed ?_
  refine cl none [] 0 h (l5 N _ _) λaj h=>?_
  refine cl none [] 0 h (ic N _) λak h=>?_
  refine cl none [] 0 h (l5 N _ _) λal h=>?_
  refine cl (some false) [0] 7 h (wL N _ _) λam h=>?_
  refine dk ?_
  refine ps (dM 12 [] [6]) ?_
  refine dr mixed ?_
  refine cl (some false) [] 1 h (Pj N _ _ _) λan h=>?_
  refine dk ?_
  refine BF h λao h=>?_
  refine po (dM 7 [111] [6]) ?_
  refine po (dM 8 [] [6]) ?_
  refine po (dM 9 [] [6]) ?_
  refine po (dM 10 [] [6]) ?_
  refine po (dM 11 [] [6]) ?_
  refine po (dM 13 [114] [6]) ?_
  refine cl (some false) [6] 0 h (ih _ _ _ _) λe h=>?_
  refine sn (aX 7 [.box (zR s),.box [(lI .i64 0),lN,lN,lN,(lB false),lN,lN,(lI .i64 0)],.box (aO.cl aP false g),.box (aO.cl aE true i),.box (aO.cl aT false j),.row aE true d,.box (aO.cl gk false e)] [vp 0 0,vp 8 1,vp 13 2,vp 14 3,vp 15 4,vo 16 5,vp 18 6,vb 125 (decide ((e.kind:Int)≠1))]) [0,1,2,3,4,5,14] ?_
  refine cd h (λa3 h=>?_) (λa3 h=>?_)
  cases h
  exact rt [0]
  refine cl none [] 0 h (l5 N _ _) λa4 h=>?_
  refine po (dM 5 [16,132,134] []) ?_
  refine cl (some false) [0] 7 h (wL N _ _) λaq h=>?_
  refine ps (oa 8 1) ?_
  refine ps (oa 8 2) ?_
  refine ps (ca 8 7) ?_
  refine dr mixed ?_
  refine cl none [] 1 h (tZ N _) λar h=>?_
  refine po (jG 16 [145,146] []) ?_
  refine cl (some false) [8,9,10,11,12,13,14,15] 7 h (wq N _ _) λav h=>?_
  refine dk ?_
  refine po (fa 8 1) ?_
  refine po (fa 8 2) ?_
  refine po (dM 19 [] [8]) ?_
  refine po (dM 20 [] [8]) ?_
  refine po (dM 21 [] [8]) ?_
  refine po (dM 22 [] [8]) ?_
  refine po (fa 8 7) ?_
  refine cl (some false) [8] 0 h (QF N run hrun _ _ _ _) λk h=>?_
  refine sn (aX 5 [.box (zR s),.box [(lI .i64 0),lN,lN,lN,(lB false),lN,lN,(lI .i64 0)],.box (aO.cl gk false e),.box (aO.cl aE true a4),.box (aO.cl gk false k)] [vp 0 0,vp 8 1,vr 16 aE true d,vp 18 2,vp 19 3,vp 21 4,vb 155 (decide ((k.kind:Int)≠1))]) [0,1,6,7,24] ?_
  refine cd h (λa5 h=>?_) (λa5 h=>?_)
  cases h
  exact rt [0]
  refine fA (some false) [0] h (E0 N _ _ _ _ _) λaw h=>?_
  cases h
  exact rt [0]
theorem Wr(N:Nat)(run:aS->Option cD)(hrun:∀(s:aS) (r:cD) (h:run s=some r),Cx aL 75 [.lf (.ptr 0 0)] (zF s) [] [sA gk false r])(s:aS)(c:iD)(r:cD)(h:xY N run s c=some r):Cx aL 139 [.lf (.ptr 0 0),sA kB false c] [.box (zR s)] [(0,some (.box (zR s)))] [sA gk false r]:=by
 unfold xY at h;refine fn tb en139 Tryz.func139 λX w H ν=>?_;refine cl none [] 0 h (kA N _ _) λr1 h=>?_;refine cl none [] 0 h (ic N _) λr2 h=>?_;refine cl none [] 0 h (mV N _ _) λr3 h=>?_;refine dr mixed ?_;refine bP h λx4 h=>?_;refine dk ?_;refine cl (some false) [0] 7 h (wL N _ _) λr5 h=>?_;refine sn (aX 11 [.box (zR s),.box (aO.cl kB false c),.box [(lI .i64 0),lN,lN,lN,(lB false),lN,lN,(lI .i64 0)],.box (aO.cl aE true r3.1),.box [(lI .i64 r5.n),(.own 5),(.own 6),(.own 7),(.own 8),(.own 9),(.own 10),(.cp bH false r5.aK)],.row aT false r5.aA,.row bF false r5.aV,.row bN false r5.u,.row aY true r5.aM,.row aE false r5.value,.row aP false r5.aB] [vp 0 0,vp 3 1,vp 4 2,vp 5 3,vr 8 aE false x4.bG,vp 9 4]) [0,1,2,3,5,6,7,8,9,10,11] ?_;refine ps (oa 4 1) ?_;refine ps (oa 4 2) ?_;refine ps (ca 4 7) ?_;refine dr mixed ?_;refine cl (some false) [4,5,6,7,8,9,10,11] 7 h (wq N _ _) λr6 h=>?_;refine dk ?_;refine cl (some false) [4,12,13,14,15,16,17,18] 0 h (hrun _) λr7 h=>?_;refine sn (aX 5 [.box (zR s),.box (aO.cl kB false c),.box [(lI .i64 0),lN,lN,lN,(lB false),lN,lN,(lI .i64 0)],.box (aO.cl aE true r3.1),.box (aO.cl gk false r7)] [vp 0 0,vp 3 1,vp 4 2,vp 5 3,vr 8 aE false x4.bG,vp 10 4,vb 55 (decide ((r7.kind:Int)≠1))]) [0,1,2,3,19] ?_;refine cd h (λb h=>?_) (λb h=>?_);cases h;exact rt [0];refine dr mixed ?_;refine cl none [] 1 h (tZ N _) λe h=>?_;refine cl none [] 0 h (mC N _) λf h=>?_;refine cl none [] 0 h (ic N _) λg h=>?_;refine cl none [] 0 h (l5 N _ _) λi h=>?_;refine po (jG 5 [59,64] []) ?_;refine cl (some false) [0] 7 h (wL N _ _) λj h=>?_;refine dk ?_;refine ps (oa 6 1) ?_;refine ps (oa 6 2) ?_;refine ps (ca 6 7) ?_;refine dr mixed ?_;refine cl none [] 1 h (tZ N _) λk h=>?_;refine po (jG 14 [76,77] []) ?_;refine cl (some false) [6,7,8,9,10,11,12,13] 7 h (wq N _ _) λl h=>?_;refine dk ?_;refine cl (some false) [6,15,16,17,18,19,20,21] 0 h (hrun _) λa h=>?_;refine sn (aX 5 [.box (zR s),.box [(lI .i64 0),lN,lN,lN,(lB false),lN,lN,(lI .i64 0)],.box (aO.cl aE true r3.1),.box (aO.cl gk false r7),.box (aO.cl gk false a)] [vp 0 0,vp 4 1,vp 5 2,vr 8 aE false x4.bG,vp 10 3,vp 12 4,vb 83 (decide ((a.kind:Int)≠1))]) [0,2,3,4,22] ?_;refine cd h (λd h=>?_) (λd h=>?_);cases h;exact rt [0];refine fA (some false) [0] h (E0 N _ _ _ _ _) λm h=>?_;cases h;exact rt [0]
theorem TD(N:Nat)(run:aS->Option cD)(hrun:∀(s:aS) (r:cD) (h:run s=some r),Cx aL 75 [.lf (.ptr 0 0)] (zF s) [] [sA gk false r])(s:aS)(v:Int)(r:cD)(h:wV N run s v=some r):Cx aL 108 [.lf (.ptr 0 0),sI .i64 v] [.box (zR s)] [(0,some (.box (zR s)))] [sA gk false r]:=by
 unfold wV at h;refine fn tb en108 Tryz.func108 λX w H ν=>?_;refine fA (some false) [0] h (RN N _) λr1 h=>?_;refine jn (λx=>(Sum.inl x)) (λ(_:Unit)=>aX 2 [.box (zR s),.box [(lI .i64 0),lN,lN,lN,(lB false),lN,lN,(lI .i64 0)]] [vp 0 0,vi 1 v,vp 4 1]) h (λa2 h i=>?_) ?_;refine cd h (λj h=>?_) (λj h=>?_);refine cl none [] 0 h (l5 N _ _) λa3 h=>?_;refine jn (λx=>x) (λb=>aX 3 [.box (zR s),.box [(lI .i64 0),lN,lN,lN,(lB false),lN,lN,(lI .i64 0)],.box (aO.cl kB false r1.1)] [vp 0 0,vi 1 v,vp 4 1,vp 5 2,vb 37 b]) h (λa4 h a5=>?_) ?_;refine dr mixed ?_;refine cl none [] 0 h (ic N _) λa6 h=>?_;refine cl none [] 0 h (jY N _ _) λa7 h=>?_;refine gd h (λk h=>?_) (λk h=>?_);refine fA (some false) [0] h (XN N _ _) λa8 h=>?_;refine cl none [] 0 h (jY N _ _) λa9 h=>?_;refine dk ?_;cases h;exact bj _ [0,1,2];refine dk ?_;cases h;exact bj _ [0,1,2];intro b h;try dsimp only at h
 refine cd h (λl h=>?_) (λl h=>?_);refine fA (some false) [0] h (Wr N run hrun _ _) λaa h=>?_;cases h;replace h:=i;try dsimp only at h
 cases h;exact rt [0];cases h;exact bj _ [0,1];cases h;exact bj _ [0,1];intro _ h;try dsimp only at h
 refine cl (some false) [0] 5 h (Di N _) λab h=>?_;refine po (ca 2 1) ?_;refine po (ca 2 2) ?_;refine po (ca 2 7) ?_;refine cl (some false) [2,7,8,3,4,5,6,9] 7 h (Hx N _ _ _) λac h=>?_;refine cd h (λm h=>?_) (λm h=>?_);refine po (oa 2 7) ?_;refine cl (some false) [2,10,11,12,13,14,15,16] 0 h (vz N _) λad h=>?_;cases h;exact rt [0];refine po (oa 2 7) ?_;refine cl (some false) [2,10,11,12,13,14,15,16] 0 h (hrun _) λn h=>?_;refine jn (λx=>x) (λc=>aX 3 [.box (zR s),.box [(lI .i64 0),lN,lN,lN,(lB false),lN,lN,(lI .i64 0)],.box (aO.cl gk false n)] [vp 0 0,vi 1 v,vp 4 1,vp 9 2,vb 59 c]) h (λae h af=>?_) ?_;refine rg ?_;refine gd h (λo h=>?_) (λo h=>?_);cases h;exact bj _ [0,1,17];cases h;exact bj _ [0,1,17];intro c h;try dsimp only at h
 refine cd h (λp h=>?_) (λp h=>?_);cases h;exact rt [0];refine fA (some false) [0] h (Ga N _ _) λa h=>?_;refine dA (kL aP) false [a.1,a.2] ?_;refine po (dM 3 [69] []) ?_;refine cl (some false) [] 0 h (JI N _) λd h=>?_;refine jn (λx=>x) (λe=>aX 3 [.box (zR s),.box [(lI .i64 0),lN,lN,lN,(lB false),lN,lN,(lI .i64 0)],.row aY true e] [vp 0 0,vi 1 v,vp 4 1,vr 11 aP false a.2,vo 12 2]) h (λag u ah=>?_) ?_;refine bk ?_;refine ps (nl 12 aY) ?_;refine lp (λ⟨f,g⟩=>aX 3 [.box (zR s),.box [(lI .i64 0),lN,lN,lN,(lB false),lN,lN,(lI .i64 0)],.row aY true f] [vp 0 0,vi 1 v,vp 4 1,vr 11 aP false a.2,vo 12 2,vr 70 aP false d,vi 71 (List.length d:Int),vi 72 g]) u [0,1,4] ?_;rintro⟨f,g⟩ oo h y
 rw[HJ]at h
 refine cd h (λa0 h=>?_) (λa0 h=>?_);refine bk ?_;refine bP h λa1 h=>?_;refine dA aY true [a1.pos] ?_;refine ei true h λai h=>?_;cases h;exact bl [0,1,5];cases h;exact bj _ [0,1,2] (hx:=y _ rfl);intro e h;try dsimp only at h
 refine po (dM 2 [12,85] []) ?_;refine fA (some false) [0] h (Td N run hrun _ _ _ _) λaj h=>?_;cases h;exact rt [0]
theorem WD(N:Nat):∀(s:aS) (r:cD) (h:kP N s=some r),Cx aL 75 [.lf (.ptr 0 0)] (zF s) [] [sA gk false r]:=by
 induction N with
 |zero=>intro s r h;cases h
 |succ N ih=>
  intro s r h
  replace h:yc N (kP N) s=some r:=h
  unfold yc at h
  refine iZ (m:=8) tb (.comp (eY 0 1 1) (.comp (eY 0 2 2) (.comp (dK 0 3 3) (.comp (dK 0 4 4) (.comp (dK 0 5 5) (.comp (dK 0 6 6) (eY 0 7 7))))))) en75 Tryz.func75 λX w H ν=>?_
  obtain⟨a4,p,d⟩:=bind_some h
  refine bk ?_
  refine lp (λ⟨f,g,j,k,l,o,i⟩=>cW 16 [some (.box [(lI .i64 s.n),(.ap 8 aT false f),(.ap 9 bF false g),(.own 10),(.own 11),(.own 12),(.own 13),(.ap 14 bH false i)]),none,none,none,none,none,none,none,some (.aN aT false f),some (.aN bF false g),some (.row bN false j),some (.row aY true k),some (.row aE false l),some (.row aP false o),some (.aN bH false i),some (.box [(lI .i64 0),lN,lN,lN,(lB false),lN,lN,(lI .i64 0)])] [vp 0 0,vp 2 15]) p kF ?_
  rintro⟨f,g,j,k,l,o,i⟩ oo h e
  rw[wj]at h
  refine bk ?_
  refine cl (some false) [0,8,9,10,11,12,13,14] 7 h (MS N _) λa h=>?_
  refine sn (cW 16 [some (.box [(lI .i64 s.n),(.ap 8 aT false a.2.2.2.2.aA),(.ap 9 bF false a.2.2.2.2.aV),(.own 10),(.own 11),(.own 12),(.own 13),(.ap 14 bH false a.2.2.2.2.aK)]),none,none,none,none,none,none,none,some (.aN aT false a.2.2.2.2.aA),some (.aN bF false a.2.2.2.2.aV),some (.row bN false a.2.2.2.2.u),some (.row aY true a.2.2.2.2.aM),some (.row aE false a.2.2.2.2.value),some (.row aP false a.2.2.2.2.aB),some (.aN bH false a.2.2.2.2.aK),some (.box [(lI .i64 0),lN,lN,lN,(lB false),lN,lN,(lI .i64 0)])] [vp 0 0,vp 2 15,vi 3 a.1,vi 4 a.2.1,vb 5 a.2.2.1,vb 17 (!a.2.2.2.1)]) [0,1,2,3,4,5,6,7,16,17,18,19,20,21,22,15] ?_
  refine cd h (λv h=>?_) (λv h=>?_)
  refine cl (some false) [0,8,9,10,11,12,13,14] 0 h (vz N _) λa5 h=>?_
  cases h
  have h:=d
  rw[<-e _ rfl]at h
  try dsimp only at h
  cases h
  exact rt j8
  refine cd h (λy h=>?_) (λy h=>?_)
  refine cl (some false) [0,8,9,10,11,12,13,14] 7 h (Pv N _ _ _) λb h=>?_
  refine sn (cW 16 [some (.box [(lI .i64 s.n),(.ap 8 aT false b.2.aA),(.ap 9 bF false b.2.aV),(.own 10),(.own 11),(.own 12),(.own 13),(.ap 14 bH false b.2.aK)]),none,none,none,none,none,none,none,some (.aN aT false b.2.aA),some (.aN bF false b.2.aV),some (.row bN false b.2.u),some (.row aY true b.2.aM),some (.row aE false b.2.value),some (.row aP false b.2.aB),some (.aN bH false b.2.aK),some (.box [(lI .i64 0),lN,lN,lN,(lB false),lN,lN,(lI .i64 0)])] [vp 0 0,vp 2 15,vb 25 (!b.1)]) [0,1,2,3,4,5,6,7,16,17,18,19,20,21,22,15] ?_
  refine cd h (λa0 h=>?_) (λa0 h=>?_)
  refine cl (some false) [0,8,9,10,11,12,13,14] 0 h (vz N _) λa6 h=>?_
  cases h
  have h:=d
  rw[<-e _ rfl]at h
  try dsimp only at h
  cases h
  exact rt j8
  cases h
  exact bl kF
  refine fA (some false) [0,8,9,10,11,12,13,14] h (W7 N _) λa7 h=>?_
  refine cd h (λa1 h=>?_) (λa1 h=>?_)
  refine cl (some false) [0,8,9,10,11,12,13,14] 0 h (Ud N _) λa8 h=>?_
  cases h
  have h:=d
  rw[<-e _ rfl]at h
  try dsimp only at h
  cases h
  exact rt j8
  refine fA (some false) [0,8,9,10,11,12,13,14] h (XH N _ _) λa9 h=>?_
  refine cd h (λa2 h=>?_) (λa2 h=>?_)
  refine po (fa 0 1) ?_
  refine po (fa 0 2) ?_
  refine po (dM 10 [] [0]) ?_
  refine po (dM 11 [] [0]) ?_
  refine po (dM 12 [] [0]) ?_
  refine po (dM 13 [] [0]) ?_
  refine po (fa 0 7) ?_
  refine cl (some false) [0] 0 h (TD N (kP N) ih _ _) λaa h=>?_
  cases h
  have h:=d
  rw[<-e _ rfl]at h
  try dsimp only at h
  cases h
  exact rt j8
  refine cl (some false) [0,8,9,10,11,12,13,14] 7 h (Hx N _ _ _) λc h=>?_
  refine sn (cW 16 [some (.box [(lI .i64 s.n),(.ap 8 aT false c.2.aA),(.ap 9 bF false c.2.aV),(.own 10),(.own 11),(.own 12),(.own 13),(.own 14)]),none,none,none,none,none,none,none,some (.aN aT false c.2.aA),some (.aN bF false c.2.aV),some (.row bN false c.2.u),some (.row aY true c.2.aM),some (.row aE false c.2.value),some (.row aP false c.2.aB),some (.row bH false c.2.aK),some (.box [(lI .i64 0),lN,lN,lN,(lB false),lN,lN,(lI .i64 0)])] [vp 0 0,vp 2 15,vb 47 (!c.1)]) [0,1,2,3,4,5,6,7,16,17,18,19,20,21,22,15] ?_
  refine cd h (λa3 h=>?_) (λa3 h=>?_)
  refine po (oa 0 7) ?_
  refine cl (some false) [0,8,9,10,11,12,13,14] 0 h (vz N _) λab h=>?_
  cases h
  have h:=d
  rw[<-e _ rfl]at h
  try dsimp only at h
  cases h
  exact rt j8
  cases h
  exact bl kF
theorem CL(N:Nat)(n:Int)(system:(List bI))(r:cD)(h:p8 N n system=some r):Cx aL 40 [sI .i64 n,sR aT false system] [] [] [sA gk false r]:=by
 unfold p8 at h;refine fn tb en40 Tryz.func40 λX w H ν=>?_;refine cl (some false) [] 8 h (MG N _ _) λr1 h=>?_;refine po (oa 1 1) ?_;refine po (oa 1 2) ?_;refine po (oa 1 7) ?_;refine cl (some false) [1,2,3,4,5,6,7,8] 7 h (On N _) λr2 h=>?_;refine cd h (λhc6 h=>?_) (λhc6 h=>?_);refine cl (some false) [1,9,10,11,12,13,14,15] 0 h (vz N _) λr7 h=>?_;cases h;exact rt [];refine cl (some false) [1,9,10,11,12,13,14,15] 0 h (WD N _) λr8 h=>?_;cases h;exact rt []
theorem Cq(N:Nat)(n:Int)(l:(List Constraint))(r:((List aC)×Proof×Bool))(h:sG N n l=some r):Cx aL 36 [sI .i64 n,sR cK false l] [] [] [sR aE false r.1,sA jR false r.2.1,sB r.2.2]:=by
 unfold sG at h;refine fn tb en36 Tryz.func36 λX w H ν=>?_;refine cl none [] 1 h (E6 N _ _) λr1 h=>?_;refine po (dM 1 [11] []) ?_;refine cl (some true) [] 0 h (CL N _ _) λr2 h=>?_;refine cd h (λhc5 h=>?_) (λhc5 h=>?_);cases h;exact rt [];refine dr mixed ?_;refine dk ?_;cases h;exact rt []
theorem WC(N:Nat)(c:Constraint)(r:Bool)(h:ug N c=some r):Cx aL 61 [sA cK false c] [] [] [sB r]:=by
 unfold ug at h;refine fn tb en61 Tryz.func61 λX w H ν=>?_;cases h;exact rt []
theorem Vf(N:Nat)(n:Int)(l:(List Constraint))(r:((List aC)×(List (List aC))×Bool))(h:zV N n l=some r):Cx aL 30 [sI .i64 n,sR cK false l] [] [] [sR aE false r.1,sR bN false r.2.1,sB r.2.2]:=by
 unfold zV at h;refine fn tb en30 Tryz.func30 λX w H ν=>?_;refine cl (some false) [] 1 h (Vu N _) λr1 h=>?_;refine clF (some false) [0] 1 h (V2 N _ _) (.s (.f (λx:Constraint=>[sA cK false x]) (λr:Bool=>[sB r]) (λx=>ug N x) (λx r h=>WC N x r h) en61 .n)) λr2 h=>?_;refine cl none [] 1 h (E6 N _ _) λr3 h=>?_;refine po (dM 2 [24] []) ?_;refine cl (some true) [] 8 h (MG N _ _) λr4 h=>?_;refine po (oa 3 1) ?_;refine po (oa 3 2) ?_;refine po (oa 3 7) ?_;refine cl (some true) [3,4,5,6,7,8,9,10] 7 h (On N _) λr5 h=>?_;refine cd h (λhc8 h=>?_) (λhc8 h=>?_);cases h;exact rt [];refine jn (λx=>(Sum.inl x)) (λ⟨a,b,d,e,g,i,c⟩=>aX 8 [.box [(lI .i64 r4.n),(.ap 1 aT true a),(.ap 2 bF true b),(.own 3),(.own 4),(.own 5),(.own 6),(.ap 7 bH true c)],.aN aT true a,.aN bF true b,.row bN true d,.row aY true e,.row aE true g,.row aP true i,.aN bH true c] [vi 0 n,vp 8 0]) h (λam ab a0=>?_) ?_;refine bk ?_;refine lp (λ⟨o,p,a1,a2,a3,a4,u⟩=>aX 8 [.box [(lI .i64 r4.n),(.ap 1 aT true o),(.ap 2 bF true p),(.own 3),(.own 4),(.own 5),(.own 6),(.ap 7 bH true u)],.aN aT true o,.aN bF true p,.row bN true a1,.row aY true a2,.row aE true a3,.row aP true a4,.aN bH true u] [vi 0 n,vp 8 0]) ab [3,11,12,13,14,15,16,17] ?_;rintro⟨o,p,a1,a2,a3,a4,u⟩ oo h v
 rw[yY]at h
 refine bk ?_;refine cl (some true) j8 7 h (MS N _) λan h=>?_;refine cd h (λac h=>?_) (λac h=>?_);cases h;have h:=a0
 rw[<-v _ rfl]at h
 try dsimp only at h
 cases h;exact rt [];refine cd h (λad h=>?_) (λad h=>?_);cases h;exact bj _ [0,8,9,10,11,12,13,14] (hx:=v _ rfl);refine cl (some true) [0,8,9,10,11,12,13,14] 7 h (Pv N _ _ _) λao h=>?_;refine cd h (λae h=>?_) (λae h=>?_);cases h;have h:=a0
 rw[<-v _ rfl]at h
 try dsimp only at h
 cases h;exact rt [];cases h;exact bl [0,15,16,17,18,19,20,21];rintro⟨a,b,d,e,g,i,c⟩ h;try dsimp only at h
 refine gM aE h λaq h=>?_;refine jn (λx=>x) (λ⟨a5,a6⟩=>aX 10 [.box [(lI .i64 r4.n),(.ap 1 aT true a),(.ap 2 bF true b),(.own 3),(.own 4),(.own 5),(.own 6),(.ap 7 bH true c)],.aN aT true a,.aN bF true b,.row bN true d,.row aY true e,.row aE true g,.row aP true i,.aN bH true c,.row aE true a5,.row bN true a6] [vp 8 0,vo 13 8,vo 14 9]) h (λar af av=>?_) ?_;refine bk ?_;refine ps (nl 14 bN) ?_;refine lp (λ⟨k,m,j⟩=>aX 10 [.box [(lI .i64 r4.n),(.ap 1 aT true a),(.ap 2 bF true b),(.own 3),(.own 4),(.own 5),(.own 6),(.ap 7 bH true c)],.aN aT true a,.aN bF true b,.row bN true d,.row aY true e,.row aE true g,.row aP true i,.aN bH true c,.row aE true k,.row bN true m] [vi 0 n,vp 8 0,vo 13 8,vo 14 9,vi 47 n,vi 48 j]) af kT ?_;rintro⟨k,m,j⟩ oo h ag
 rw[yE]at h
 refine cd h (λah h=>?_) (λah h=>?_);refine jn (λx=>x) (λ⟨a7,a8⟩=>aX 10 [.box [(lI .i64 r4.n),(.ap 1 aT true a),(.ap 2 bF true b),(.own 3),(.own 4),(.own 5),(.own 6),(.ap 7 bH true c)],.aN aT true a,.aN bF true b,.row bN true d,.row aY true e,.row aE true g,.row aP true i,.aN bH true c,.row aE true a7,.row bN true a8] [vi 0 n,vp 8 0,vo 13 8,vo 14 9,vi 47 n,vi 48 j]) h (λaw h ax=>?_) ?_;refine bk ?_;refine cC h λay h=>?_;refine du ?_;refine cd h (λai h=>?_) (λai h=>?_);refine cC h λaz h=>?_;refine du ?_;refine cC h λb0 h=>?_;refine ej true h λb1 h=>?_;cases h;exact bj _ kT;refine gM aE h λb2 h=>?_;refine jn (λx=>x) (λy=>aX 11 [.box [(lI .i64 r4.n),(.ap 1 aT true a),(.ap 2 bF true b),(.own 3),(.own 4),(.own 5),(.own 6),(.ap 7 bH true c)],.aN aT true a,.aN bF true b,.row bN true d,.row aY true e,.row aE true g,.row aP true i,.aN bH true c,.row aE true k,.row bN true m,.row aE true y] [vi 0 n,vp 8 0,vo 13 8,vo 14 9,vo 16 10,vi 47 n,vi 48 j]) h (λb3 aj b4=>?_) ?_;refine bk ?_;refine lp (λ⟨a9,aa⟩=>aX 11 [.box [(lI .i64 r4.n),(.ap 1 aT true a),(.ap 2 bF true b),(.own 3),(.own 4),(.own 5),(.own 6),(.ap 7 bH true c)],.aN aT true a,.aN bF true b,.row bN true d,.row aY true e,.row aE true g,.row aP true i,.aN bH true c,.row aE true k,.row bN true m,.row aE true a9] [vi 0 n,vp 8 0,vo 13 8,vo 14 9,vi 15 j,vo 16 10,vi 47 n,vi 48 j,vi 71 n,vi 72 aa]) aj j11 ?_;rintro⟨a9,aa⟩ oo h ak
 rw[Dt]at h
 refine cd h (λal h=>?_) (λal h=>?_);refine bk ?_;refine cC h λb5 h=>?_;refine du ?_;refine bP h λb6 h=>?_;refine cC h λb7 h=>?_;refine ej true h λb8 h=>?_;cases h;exact bl j11;cases h;exact bj _ j11 (hx:=ak _ rfl);intro y h;try dsimp only at h
 refine po (dM 10 [16,90] []) ?_;refine dA bN true [y] ?_;refine ei true h λb9 h=>?_;cases h;exact bj _ [0,1,2,3,4,5,6,7,8,12];rintro⟨a7,a8⟩ h;try dsimp only at h
 cases h;exact bl kT;cases h;exact bj _ kT (hx:=ag _ rfl);rintro⟨a5,a6⟩ h;try dsimp only at h
 refine po (dM 8 [13,95] []) ?_;refine cl (some true) j8 0 h (QP N _ _) λba h=>?_;cases h;exact rt []
theorem Ux(N:Nat)(n:Int)(system:(List bI))(v:Int)(r:Bool)(h:Fk N n system v=some r):Cx aL 41 [sI .i64 n,sR aT false system,sI .i64 v] [] [] [sB r]:=by
 unfold Fk at h;refine fn tb en41 Tryz.func41 λX w H ν=>?_;refine jn (λx=>x) (λa=>aX 1 [.row aT false a] [vi 0 n,vi 2 v,vo 7 0]) h (λj d k=>?_) ?_;refine bk ?_;refine ps (nl 7 aT) ?_;refine lp (λ⟨b,c⟩=>aX 1 [.row aT false b] [vi 0 n,vi 2 v,vo 7 0,vr 10 aT false system,vi 11 (List.length system:Int),vi 12 c]) d [0] ?_;rintro⟨b,c⟩ oo h e
 rw[L5]at h
 refine cd h (λf h=>?_) (λf h=>?_);refine bk ?_;refine bP h λg h=>?_;refine dA aT false [(bI.mk g.bG (aC.mk false ([]:(List Int))))] ?_;refine ei false h λl h=>?_;cases h;exact bl [3];cases h;exact bj _ [0] (hx:=e _ rfl);intro a h;try dsimp only at h
 refine cl none [] 0 h (ic N _) λm h=>?_;refine cl (some true) [] 0 h (Kt N _ _ _ _) λi h=>?_;refine dA aT true [i] ?_;refine ei false h λo h=>?_;refine po (dM 2 [30] []) ?_;refine cl (some false) [] 0 h (CL N _ _) λp h=>?_;cases h;exact rt []
theorem QN(N:Nat)(n:Int)(l:(List Constraint))(v:Int)(r:(aC×Bool))(h:GK N n l v=some r):Cx aL 15 [sI .i64 n,sR cK false l,sI .i64 v] [] [] [sA aE false r.1,sB r.2]:=by
 unfold GK at h;refine fn tb en15 Tryz.func15 λX w H ν=>?_;refine cl none [] 1 h (E6 N _ _) λr1 h=>?_;refine po (dM 1 [8,22,24] []) ?_;refine cl (some true) [] 0 h (CL N _ _) λr2 h=>?_;refine jn (λx=>x) (λx6=>aX 2 [.box [(lB false),lN],.box (aO.cl gk true r2)] [vi 0 n,vi 2 v,vp 6 0,vr 8 aT true r1,vp 9 1,vb 34 x6]) h (λs7 h g8=>?_) ?_;refine rg ?_;refine gd h (λhc9 h=>?_) (λhc9 h=>?_);cases h;exact bj _ [0,2];refine cl none [] 0 h (Ux N _ _ _) λa6 h=>?_;cases h;exact bj _ [0,2];intro x6 h;try dsimp only at h
 refine cd h (λm h=>?_) (λm h=>?_);cases h;exact rt [];refine cl none [] 0 h (ic N _) λa h=>?_;refine bP h λa7 h=>?_;obtain⟨a8,o,p⟩:=bind_some h;refine bk ?_;refine lp (λ⟨b,c,d,e⟩=>aX 5 [.box [(lB false),lN],.box (aO.cl aE true a),.box (aO.cl aE true b),.box (aO.cl aE true c),.box (aO.cl aE true e)] [vi 0 n,vi 2 v,vp 6 0,vr 8 aT true r1,vp 10 1,vp 11 2,vp 12 3,vb 13 d,vp 14 4]) o [0,2,3,4,5] ?_;rintro⟨b,c,d,e⟩ oo h s
 rw[MO]at h
 refine jn (λx=>(Sum.inl x)) (λ⟨f,g,i,j⟩=>aX 5 [.box [(lB false),lN],.box (aO.cl aE true a),.box (aO.cl aE true f),.box (aO.cl aE true g),.box (aO.cl aE true j)] [vi 0 n,vi 2 v,vp 6 0,vr 8 aT true r1,vp 10 1,vp 11 2,vp 12 3,vb 13 i,vp 14 4]) h (λa9 h u=>?_) ?_;refine bk ?_;refine cl none [] 0 h (l5 N _ _) λaa h=>?_;refine jn (λx=>(Sum.inl x)) (λk=>aX 6 [.box [(lB false),lN],.box (aO.cl aE true a),.box (aO.cl aE true b),.box (aO.cl aE true c),.box (aO.cl aE true e),.box (aO.cl aE true k)] [vi 0 n,vi 2 v,vp 6 0,vr 8 aT true r1,vp 10 1,vp 11 2,vp 12 3,vb 13 d,vp 14 4,vp 15 5]) h (λab h y=>?_) ?_;refine cd h (λa0 h=>?_) (λa0 h=>?_);refine cl none [] 0 h (kA N _ _) λac h=>?_;refine cl none [] 0 h (ic N _) λad h=>?_;refine cl none [] 0 h (mV N _ _) λa1 h=>?_;refine dr mixed ?_;refine cl none [] 0 h (l5 N _ _) λae h=>?_;refine cl none [] 0 h (jY N _ _) λa2 h=>?_;refine dk ?_;refine sn (aX 6 [.box [(lB false),lN],.box (aO.cl aE true a),.box (aO.cl aE true b),.box (aO.cl aE true c),.box (aO.cl aE true e),.box (aO.cl aE true a1.1)] [vi 0 n,vi 2 v,vp 6 0,vr 8 aT true r1,vp 10 1,vp 11 2,vp 12 3,vb 13 d,vp 14 4,vp 15 5,vb 63 (decide ((a2:Int)<=0))]) j6 ?_;refine cd h (λa3 h=>?_) (λa3 h=>?_);cases h;replace h:=y;try dsimp only at h
 cases h;replace h:=u;try dsimp only at h
 cases h;have h:=p
 rw[<-s _ rfl]at h
 try dsimp only at h
 cases h;exact rt [];cases h;exact bj _ j6;cases h;exact bj _ j6;intro k h;try dsimp only at h
 refine dr mixed ?_;refine cl (some true) [] 0 h (Kr N _) λaf h=>?_;refine cl (some true) [] 0 h (Kt N _ _ _ _) λa4 h=>?_;refine dA aT true [a4] ?_;refine apC true h λag h=>?_;refine po (jG 7 [73] []) ?_;refine cl (some true) [] 0 h (CL N _ _) λah h=>?_;refine dk ?_;refine cd h (λa5 h=>?_) (λa5 h=>?_);refine dr mixed ?_;refine bP h λai h=>?_;refine cl none [] 0 h (kA N _ _) λaj h=>?_;refine dk ?_;cases h;exact bj _ [0,1,2,3,4];cases h;exact bj _ [0,1,2,3,4];rintro⟨f,g,i,j⟩ h;try dsimp only at h
 cases h;exact bl [0,1,2,3,5]
end Go.Proofs.YtipdkfmhfakbnaaGreatDoor.SY

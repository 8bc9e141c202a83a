/- Walks of the symbolic machine, written by a program of mine (wip/tool). -/
import Derived.Test.YtipdkfmhfakbnaaGreatDoorSR
set_option linter.unusedVariables false
set_option linter.unusedSimpArgs false
set_option maxRecDepth 100000
set_option maxHeartbeats 4000000
namespace Go.Proofs.YtipdkfmhfakbnaaGreatDoor.SD
open Go Go.RowKit Go.X Go.Q Go.D Go.Proofs.YtipdkfmhfakbnaaGreatDoor.TB Go.Proofs.YtipdkfmhfakbnaaGreatDoor.FS Go.Proofs.YtipdkfmhfakbnaaGreatDoor.SR
theorem Ln(N:Nat)(n:Int)(r:bI)(h:vK N n=some r):Cn aL 128 [sI .i64 n] [.row aE true r.bG,.row bM true r.dS.aR] [.agg [.own 0,lB r.dS.bR,.own 1]]:=by
 unfold vK at h;refine fn tb en128 Tryz.func128 λX w H ν=>?_;refine gM aE h λx7 h=>?_;refine pr (nb 0 2 bM) ?_;cases h;exact rt [1,2]
theorem FW(N:Nat)(c:Constraint)(n:Int)(r:Bool)(h:uF N c n=some r):Cn aL 52 [sA cK false c,sI .i64 n] [] [sB r]:=by
 unfold uF at h;refine fn tb en52 Tryz.func52 λX w H ν=>?_;refine jn (λx=>(Sum.inl x)) (λ(_:Unit)=>aX 0 [] [vi 1 n]) h (λo f b=>?_) ?_;refine bk ?_;refine lp (λa=>aX 1 [.box (aO.cl cK false c)] [vi 1 n,vp 2 0,vi 5 a]) f [0] ?_;rintro a oo h d
 rw[GO]at h
 refine cd h (λg h=>?_) (λg h=>?_);refine bk ?_;refine bP h λp h=>?_;refine jn (λx=>x) (λe=>aX 1 [.box (aO.cl cK false c)] [vi 1 n,vp 2 0,vi 5 a,vb 44 e]) h (λs h u=>?_) ?_;refine rg ?_;refine gd h (λi h=>?_) (λi h=>?_);cases h;exact bj _ [0];refine gd h (λj h=>?_) (λj h=>?_);cases h;exact bj _ [0];refine gd h (λk h=>?_) (λk h=>?_);refine bP h λv h=>?_;cases h;exact bj _ [0];cases h;exact bj _ [0];intro e h;try dsimp only at h
 refine cd h (λl h=>?_) (λl h=>?_);cases h;cases d _ rfl;replace h:=b;try dsimp only at h
 cases h;exact rt [];cases h;exact bl [0];cases h;cases d _ rfl;replace h:=b;try dsimp only at h
 exact bj _ [];intro _ h;try dsimp only at h
 refine rg ?_;refine gd h (λm h=>?_) (λm h=>?_);cases h;exact rt [];cases h;exact rt []
theorem Lh(N:Nat)(q:bI)(bound:aC)(r:bI)(h:rN N q bound=some r):Cn aL 102 [sA aT false q,sA aE false bound] [] [sA aT true r]:=by
 unfold rN at h;refine fn tb en102 Tryz.func102 λX w H ν=>?_;refine cl none [] 0 h (TJ N _) λa h=>?_;refine jn (λx=>x) (λb=>aX 3 [.box [lN,(lB false),lN],.box [(.own 2),(lB a.bR),(.ro bM true a.aR)],.row aE true b] [vp 4 0,vp 5 1]) h (λk e f=>?_) ?_;refine bk ?_;refine ps (nb 3 0 aE) ?_;refine lp (λ⟨c,d⟩=>aX 4 [.box (aO.cl aT false q),.box [lN,(lB false),lN],.box [(.own 3),(lB a.bR),(.ro bM true a.aR)],.row aE true c] [vp 2 0,vp 4 1,vp 5 2,vi 6 d]) e [0,2,3,4] ?_;rintro⟨c,d⟩ oo h g
 rw[Dk]at h
 refine cd h (λi h=>?_) (λi h=>?_);refine bk ?_;refine dr mixed ?_;refine bP h λl h=>?_;refine cl none [] 0 h (Bc N _) λj h=>?_;refine dA aE true [j] ?_;refine ei true h λm h=>?_;refine dk ?_;cases h;exact bl [0,1,2,5];cases h;cases g _ rfl;replace h:=f;try dsimp only at h
 exact bj _ [1,2,3];intro b h;try dsimp only at h
 cases h;exact rt []
theorem T2(N:Nat)(c:Constraint)(n:Int)(r:(List bI))(h:zJ N c n=some r):Cn aL 103 [sA cK false c,sI .i64 n] [.row aT true r] [sO 0]:=by
 unfold zJ at h;refine fn tb en103 Tryz.func103 λX w H ν=>?_;refine cl none [] 0 h (FW N _ _) λr6 h=>?_;refine cd h (λg h=>?_) (λg h=>?_);refine pr (nl 4 aT) ?_;cases h;exact rt [1];refine cl none [] 2 h (Ln N _) λa h=>?_;refine jn (λx=>x) (λb=>aX 4 [.box (aO.cl cK false c),.box [(.own 2),(lB a.dS.bR),(.own 3)],.row aE true b,.row bM true a.dS.aR] [vp 2 0,vp 5 1]) h (λp i j=>?_) ?_;refine bk ?_;refine lp (λ⟨d,e⟩=>aX 4 [.box (aO.cl cK false c),.box [(.own 2),(lB a.dS.bR),(.own 3)],.row aE true d,.row bM true a.dS.aR] [vp 2 0,vp 5 1,vi 6 e]) i [0,3,1,2] ?_;rintro⟨d,e⟩ oo h k
 rw[Ht]at h
 refine cd h (λl h=>?_) (λl h=>?_);refine bk ?_;refine dr mixed ?_;refine bP h λs h=>?_;refine bP h λu h=>?_;refine cl none [] 0 h (oP N _) λv h=>?_;refine kh h λy a0 h=>?_;refine ej true h λa1 h=>?_;refine dk ?_;cases h;exact bl [0,1,2,3];cases h;cases k _ rfl;replace h:=j;try dsimp only at h
 exact bj _ [0,1,2,3];intro b h;try dsimp only at h
 refine cl none [] 0 h (oP N _) λa2 h=>?_;refine cl none [] 0 h (Bc N _) λf h=>?_;refine cd h (λm h=>?_) (λm h=>?_);refine po (jG 2 [50] [1]) ?_;refine dA aT true [(bI.mk b f)] ?_;cases h;exact rt [5];refine dr mixed ?_;refine cl none [] 0 h (Lh N _ _) λo h=>?_;refine po (jG 2 [52,53] [1]) ?_;refine dA aT true [(bI.mk b f),o] ?_;refine dk ?_;cases h;exact rt [5]
theorem VS(N:Nat)(l:(List Constraint))(n:Int)(r:(List bI))(h:yt N l n=some r):Cn aL 71 [sR cK false l,sI .i64 n] [.row aT true r] [sO 0]:=by
 unfold yt at h;refine fn tb en71 Tryz.func71 λX w H ν=>?_;refine jN aT ?_;refine jn (λx=>(Sum.inl x)) (λa=>aX 1 [.row aT true a] [vo 5 0]) h (λj f b=>?_) ?_;refine bk ?_;refine lp (λ⟨c,d⟩=>aX 1 [.row aT true c] [vr 0 cK false l,vi 1 n,vo 5 0,vi 6 d]) f [0] ?_;rintro⟨c,d⟩ oo h e
 rw[Ik]at h
 refine cd h (λg h=>?_) (λg h=>?_);refine bk ?_;refine bP h λk h=>?_;refine cl none [] 0 h (FW N _ _) λm h=>?_;refine cd h (λi h=>?_) (λi h=>?_);refine pr (nl 4 aT) ?_;cases h;cases e _ rfl;replace h:=b;try dsimp only at h
 cases h;exact rt [1];refine bP h λo h=>?_;refine cl none [] 1 h (T2 N _ _) λp h=>?_;refine ei true h λs h=>?_;cases h;exact bl [2];cases h;cases e _ rfl;replace h:=b;try dsimp only at h
 exact bj _ [0];intro a h;try dsimp only at h
 cases h;exact rt [0]
theorem NY(N:Nat)(l:(List bI))(r:Bool)(h:va N l=some r):Cn aL 99 [sR aT false l] [] [sB r]:=by
 unfold va at h;refine fn tb en99 Tryz.func99 λX w H ν=>?_;refine jn (λx=>(Sum.inl x)) (λ(_:Unit)=>aX 0 [] []) h (λg d a=>?_) ?_;refine bk ?_;refine lp (λb=>aX 0 [] [vr 0 aT false l,vi 3 b]) d [] ?_;rintro b oo h c
 rw[yR]at h
 refine cd h (λe h=>?_) (λe h=>?_);refine bk ?_;refine dr mixed ?_;refine bP h λi h=>?_;refine bP h λj h=>?_;refine dk ?_;refine cd h (λf h=>?_) (λf h=>?_);cases h;cases c _ rfl;replace h:=a;try dsimp only at h
 cases h;exact rt [];cases h;exact bl [];cases h;cases c _ rfl;replace h:=a;try dsimp only at h
 exact bj _ [];intro _ h;try dsimp only at h
 cases h;exact rt []
theorem Xk(N:Nat)(l:(List bI))(s:Step)(r:(bI×Bool))(h:zA N l s=some r):Cn aL 100 [sR aT false l,sA bF false s] [] [sA aT true r.1,sB r.2]:=by
 unfold zA at h;refine fn tb en100 Tryz.func100 λX w H ν=>?_;refine jn (λx=>x) (λj=>aX 2 [.box (aO.cl bF false s),.box [lN,(lB false),lN]] [vr 0 aT false l,vp 3 0,vp 4 1,vb 24 j]) h (λak h al=>?_) ?_;refine rg ?_;refine cl none [] 0 h (NY N _) λam h=>?_;refine gd h (λa5 h=>?_) (λa5 h=>?_);cases h;exact bj _ [0,1];refine cl none [] 0 h (lQ N _) λan h=>?_;cases h;exact bj _ [0,1];intro j h;try dsimp only at h
 refine cd h (λa6 h=>?_) (λa6 h=>?_);cases h;exact rt [];refine jn (λx=>x) (λa=>aX 2 [.box (aO.cl bF false s),.box [lN,(lB false),lN]] [vr 0 aT false l,vp 3 0,vp 4 1,vi 6 a]) h (λao h aq=>?_) ?_;refine cd h (λa7 h=>?_) (λa7 h=>?_);refine bP h λar h=>?_;cases h;exact bj _ [0,1];cases h;exact bj _ [0,1];intro a h;try dsimp only at h
 refine cl none [] 2 h (Ln N _) λav h=>?_;refine jn (λx=>(Sum.inl x)) (λ⟨k,e,f⟩=>aX 4 [.box (aO.cl bF false s),.box [lN,(lB false),lN],.box [(.own 3),(lB e),(.ro bM true f)],.row aE true k] [vp 3 0,vp 4 1,vi 6 a,vp 7 2]) h (λaw a8 m=>?_) ?_;refine bk ?_;refine lp (λ⟨g,b,c,d⟩=>aX 4 [.box (aO.cl bF false s),.box [lN,(lB false),lN],.box [(.own 3),(lB b),(.ro bM true c)],.row aE true g] [vr 0 aT false l,vp 3 0,vp 4 1,vi 6 a,vp 7 2,vi 8 d]) a8 [0,1,4,2] ?_;rintro⟨g,b,c,d⟩ oo h n
 rw[GJ]at h
 refine cd h (λa9 h=>?_) (λa9 h=>?_);refine bk ?_;refine bP h λi h=>?_;refine jn (λx=>x) (λo=>aX 5 [.box (aO.cl bF false s),.box [lN,(lB false),lN],.box [(.own 3),(lB b),(.ro bM true c)],.row aE true g,.box (aO.cl eT false i)] [vr 0 aT false l,vp 3 0,vp 4 1,vi 6 a,vp 7 2,vi 8 d,vp 9 4,vb 63 o]) h (λax h ay=>?_) ?_;refine rg ?_;refine gd h (λaa h=>?_) (λaa h=>?_);cases h;exact bj _ [0,1,2,3,4];refine gd h (λab h=>?_) (λab h=>?_);cases h;exact bj _ [0,1,2,3,4];refine cl none [] 0 h (lQ N _) λaz h=>?_;cases h;exact bj _ [0,1,2,3,4];intro o h;try dsimp only at h
 refine cd h (λac h=>?_) (λac h=>?_);cases h;cases n _ rfl;replace h:=m;try dsimp only at h
 cases h;exact rt [];refine bP h λp h=>?_;refine jn (λx=>x) (λu=>aX 6 [.box (aO.cl bF false s),.box [lN,(lB false),lN],.box [(.own 3),(lB b),(.ro bM true c)],.row aE true u,.box (aO.cl eT false i),.box (aO.cl aT false p)] [vr 0 aT false l,vp 3 0,vp 4 1,vi 6 a,vp 7 2,vi 8 d,vp 9 4,vp 10 5]) h (λb0 ad ae=>?_) ?_;refine bk ?_;refine lp (λ⟨v,y⟩=>aX 6 [.box (aO.cl bF false s),.box [lN,(lB false),lN],.box [(.own 3),(lB b),(.ro bM true c)],.row aE true v,.box (aO.cl eT false i),.box (aO.cl aT false p)] [vr 0 aT false l,vp 3 0,vp 4 1,vi 6 a,vp 7 2,vi 8 d,vp 9 4,vp 10 5,vi 11 y]) ad j6 ?_;rintro⟨v,y⟩ oo h af
 rw[yK]at h
 refine cd h (λag h=>?_) (λag h=>?_);refine bk ?_;refine dr mixed ?_;refine kh h λb1 b2 h=>?_;refine du ?_;refine bP h λb3 h=>?_;refine cl none [] 0 h (zh N _ _) λb4 h=>?_;refine cl none [] 0 h (yO N _ _) λb5 h=>?_;refine kh h λb6 b7 h=>?_;refine ej true h λb8 h=>?_;refine dk ?_;cases h;exact bl j6;cases h;cases af _ rfl;replace h:=ae;try dsimp only at h
 exact bj _ j6;intro u h;try dsimp only at h
 refine dr mixed ?_;refine cl none [] 0 h (zh N _ _) λb9 h=>?_;refine cl none [] 0 h (yO N _ _) λba h=>?_;refine dk ?_;cases h;exact bl [0,1,2,3];cases h;cases n _ rfl;replace h:=m;try dsimp only at h
 exact bj _ [0,1,2,3];rintro⟨k,e,f⟩ h;try dsimp only at h
 refine jn (λx=>(Sum.inl x)) (λa0=>aX 4 [.box (aO.cl bF false s),.box [lN,(lB false),lN],.box [(.own 3),(lB e),(.ro bM true f)],.row aE true a0] [vp 3 0,vp 4 1,vp 7 2]) h (λbb ah a1=>?_) ?_;refine bk ?_;refine lp (λ⟨a2,a3⟩=>aX 4 [.box (aO.cl bF false s),.box [lN,(lB false),lN],.box [(.own 3),(lB e),(.ro bM true f)],.row aE true a2] [vp 3 0,vp 4 1,vi 6 a,vp 7 2,vi 12 a3]) ah [0,1,2,3] ?_;rintro⟨a2,a3⟩ oo h a4
 rw[xF]at h
 refine cd h (λai h=>?_) (λai h=>?_);refine bk ?_;refine dr mixed ?_;refine kh h λbc bd h=>?_;refine du ?_;refine cl none [] 0 h (HQ N _ _) λbe h=>?_;refine dk ?_;refine cl none [] 0 h (lQ N _) λbf h=>?_;refine cd h (λaj h=>?_) (λaj h=>?_);cases h;cases a4 _ rfl;replace h:=a1;try dsimp only at h
 cases h;exact rt [];refine kh h λbg bh h=>?_;refine ej true h λbi h=>?_;cases h;exact bl [0,1,2,3];cases h;cases a4 _ rfl;replace h:=a1;try dsimp only at h
 exact bj _ [0,1,2,3];intro a0 h;try dsimp only at h
 refine cl none [] 0 h (HQ N _ _) λbm h=>?_;cases h;exact rt []
theorem W9(N:Nat)(q:bI)(r:Bool)(h:yi N q=some r):Cn aL 101 [sA aT false q] [] [sB r]:=by
 unfold yi at h;refine fn tb en101 Tryz.func101 λX w H ν=>?_;refine jn (λx=>(Sum.inl x)) (λ(_:Unit)=>aX 1 [.box (aO.cl aT false q)] [vp 1 0]) h (λg d a=>?_) ?_;refine bk ?_;refine lp (λb=>aX 1 [.box (aO.cl aT false q)] [vp 1 0,vi 3 b]) d [0] ?_;rintro b oo h c
 rw[y9]at h
 refine cd h (λe h=>?_) (λe h=>?_);refine bk ?_;refine bP h λi h=>?_;refine cl none [] 0 h (lQ N _) λj h=>?_;refine cd h (λf h=>?_) (λf h=>?_);cases h;cases c _ rfl;replace h:=a;try dsimp only at h
 cases h;exact rt [];cases h;exact bl [0];cases h;cases c _ rfl;replace h:=a;try dsimp only at h
 exact bj _ [0];intro _ h;try dsimp only at h
 refine cl none [] 0 h (lQ N _) λk h=>?_;cases h;exact rt []
theorem WN(N:Nat):∀(l:(List bI)) (p:Proof) (r:Bool) (h:uv N l p=some r),Cn aL 70 [sR aT false l,sA jR false p] [] [sB r]:=by
 induction N with
 |zero=>intro l p r h;cases h
 |succ N ih=>
  intro l p r h
  replace h:tH N (uv N) l p=some r:=h
  unfold tH at h
  refine fn tb en70 Tryz.func70 λX w H ν=>?_
  refine cl none [] 0 h (NY N _) λr6 h=>?_
  refine cd h (λk h=>?_) (λk h=>?_)
  cases h
  exact rt []
  refine jN aT ?_
  refine ei false h λa6 h=>?_
  refine jn (λx=>(Sum.inl x)) (λa=>aX 2 [.box (aO.cl jR false p),.row aT false a] [vp 3 0,vo 5 1]) h (λa7 m b=>?_) ?_
  refine bk ?_
  refine lp (λ⟨c,d⟩=>aX 2 [.box (aO.cl jR false p),.row aT false c] [vp 3 0,vo 5 1,vi 6 d]) m [0,2] ?_
  rintro⟨c,d⟩ oo h e
  rw[CG]at h
  refine cd h (λn h=>?_) (λn h=>?_)
  refine bk ?_
  refine bP h λa8 h=>?_
  refine cl none [] 0 h (Xk N _ _) λo h=>?_
  refine cd h (λs h=>?_) (λs h=>?_)
  cases h
  cases e _ rfl
  replace h:=b
  try dsimp only at h
  cases h
  exact rt []
  refine dA aT true [o.1] ?_
  refine ei false h λa9 h=>?_
  cases h
  exact bl [0,4]
  cases h
  cases e _ rfl
  replace h:=b
  try dsimp only at h
  exact bj _ [0,1]
  intro a h
  try dsimp only at h
  refine cd h (λu h=>?_) (λu h=>?_)
  refine jn (λx=>(Sum.inl x)) (λ(_:Unit)=>aX 0 [] []) h (λaa v f=>?_) ?_
  refine bk ?_
  refine lp (λg=>aX 1 [.row aT false a] [vo 5 0,vi 9 g]) v [1] ?_
  rintro g oo h i
  rw[EW]at h
  refine cd h (λy h=>?_) (λy h=>?_)
  refine bk ?_
  refine kh h λab ac h=>?_
  refine du ?_
  refine cl none [] 0 h (W9 N _) λad h=>?_
  refine cd h (λa0 h=>?_) (λa0 h=>?_)
  cases h
  cases i _ rfl
  replace h:=f
  try dsimp only at h
  cases h
  exact rt []
  cases h
  exact bl [0]
  cases h
  cases i _ rfl
  replace h:=f
  try dsimp only at h
  exact bj _ []
  intro _ h
  try dsimp only at h
  cases h
  exact rt []
  refine jn (λx=>x) (λj=>aX 2 [.box (aO.cl jR false p),.row aT false a] [vp 3 0,vo 5 1,vb 77 j]) h (λae h af=>?_) ?_
  refine dr mixed ?_
  refine gd h (λa1 h=>?_) (λa1 h=>?_)
  refine dk ?_
  cases h
  exact bj _ [0,1]
  refine gd h (λa2 h=>?_) (λa2 h=>?_)
  refine kh h λag ah h=>?_
  refine du ?_
  refine dk ?_
  cases h
  exact bj _ [0,1]
  refine dk ?_
  cases h
  exact bj _ [0,1]
  intro j h
  try dsimp only at h
  refine cd h (λa3 h=>?_) (λa3 h=>?_)
  cases h
  exact rt []
  refine dr mixed ?_
  refine cl none [] 0 h (Bc N _) λai h=>?_
  refine cl none [] 0 h (oP N _) λaj h=>?_
  refine cl none [] 0 h (CX N _ _) λak h=>?_
  refine cl none [] 0 h (Lh N _ _) λa4 h=>?_
  refine dk ?_
  refine dr mixed ?_
  refine jN aT ?_
  refine ei false h λal h=>?_
  refine dA aT false [(bI.mk p.Form p.dS)] ?_
  refine ei false h λam h=>?_
  refine dk ?_
  refine dr mixed ?_
  refine jN aT ?_
  refine ei false h λan h=>?_
  refine dA aT true [a4] ?_
  refine ei false h λao h=>?_
  refine dk ?_
  refine rg ?_
  refine bP h λaq h=>?_
  refine cl none [] 0 h (ih _ _) λar h=>?_
  refine gd h (λa5 h=>?_) (λa5 h=>?_)
  refine bP h λav h=>?_
  refine cl none [] 0 h (ih _ _) λaw h=>?_
  cases h
  exact rt []
  cases h
  exact rt []
end Go.Proofs.YtipdkfmhfakbnaaGreatDoor.SD

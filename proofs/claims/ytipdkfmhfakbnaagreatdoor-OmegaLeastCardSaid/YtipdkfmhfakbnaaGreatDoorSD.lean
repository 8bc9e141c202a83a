/- Walks of the symbolic machine, written by a program of mine (wip/tool). -/
import Derived.Test.YtipdkfmhfakbnaaGreatDoorTB
import Derived.Test.YtipdkfmhfakbnaaGreatDoorAg
import Derived.Test.YtipdkfmhfakbnaaGreatDoorAd
import Derived.Test.YtipdkfmhfakbnaaGreatDoorSR
set_option linter.unusedVariables false
set_option linter.unusedSimpArgs false
set_option linter.unusedSectionVars false
set_option maxRecDepth 100000
set_option maxHeartbeats 4000000
namespace Go.Proofs.YtipdkfmhfakbnaaGreatDoor.SD
open Go Go.RowKit Go.X Go.Q Go.D Go.Proofs.YtipdkfmhfakbnaaGreatDoor.TB Go.Proofs.YtipdkfmhfakbnaaGreatDoor.FS Go.Proofs.YtipdkfmhfakbnaaGreatDoor.SR
theorem KH(N:Nat)(n:Int)(r:bG)(h:u9 N n=some r):Cn Tryz.prog 128 [sI .i64 n] [.row aD true r.bE,.row (aF .u32) true r.dO.aQ] [.agg [.own 0,lB r.dO.bM,.own 1]]:=by
 unfold u9 at h;refine fn tb en128 Tryz.func128 λX w H ν=>?_;refine ie aD h λx7 h=>?_;refine pr (nb 0 2 (aF .u32)) ?_;cases h;exact rt [1,2]
theorem Fs(N:Nat)(c:Constraint)(n:Int)(r:Bool)(h:sa N c n=some r):Cn Tryz.prog 52 [sA dG false c,sI .i64 n] [] [sB r]:=by
 unfold sa at h;refine fn tb en52 Tryz.func52 λX w H ν=>?_;refine jn (λx=>(Sum.inl x)) (λ(_:Unit)=>aZ 0 [] [vi 1 n]) h (λo f b=>?_) ?_;refine bk ?_;refine lp (λa=>aZ 1 [.box (aM.cl dG false c)] [vi 1 n,vp 2 0,vi 5 a]) f [0] ?_;rintro a oo h d
 rw[GM]at h
 refine cd h (λg h=>?_) (λg h=>?_);refine bk ?_;refine bR h λp h=>?_;refine jn (λx=>x) (λe=>aZ 1 [.box (aM.cl dG false c)] [vi 1 n,vp 2 0,vi 5 a,vb 44 e]) h (λs h u=>?_) ?_;refine rg ?_;refine gd h (λi h=>?_) (λi h=>?_);cases h;exact bj _ [0];refine gd h (λj h=>?_) (λj h=>?_);cases h;exact bj _ [0];refine gd h (λk h=>?_) (λk h=>?_);refine bR h λv h=>?_;cases h;exact bj _ [0];cases h;exact bj _ [0];intro e h;try dsimp only at h
 refine cd h (λl h=>?_) (λl h=>?_);cases h;cases d _ rfl;replace h:=b;try dsimp only at h
 cases h;exact rt [];cases h;exact bl [0];cases h;cases d _ rfl;replace h:=b;try dsimp only at h
 exact bj _ [];intro _ h;try dsimp only at h
 refine rg ?_;refine gd h (λm h=>?_) (λm h=>?_);cases h;exact rt [];cases h;exact rt []
theorem Kp(N:Nat)(q:bG)(bound:aC)(r:bG)(h:rF N q bound=some r):Cn Tryz.prog 102 [sA aR false q,sA aD false bound] [] [sA aR true r]:=by
 unfold rF at h;refine fn tb en102 Tryz.func102 λX w H ν=>?_;refine cl none [] 0 h (Sh N _) λa h=>?_;refine jn (λx=>x) (λb=>aZ 3 [.box [lN,(lB false),lN],.box [(.own 2),(lB a.bM),(.ro (aF .u32) true a.aQ)],.row aD true b] [vp 4 0,vp 5 1]) h (λk e f=>?_) ?_;refine bk ?_;refine ps (nb 3 0 aD) ?_;refine lp (λ⟨c,d⟩=>aZ 4 [.box (aM.cl aR false q),.box [lN,(lB false),lN],.box [(.own 3),(lB a.bM),(.ro (aF .u32) true a.aQ)],.row aD true c] [vp 2 0,vp 4 1,vp 5 2,vi 6 d]) e [0,2,3,4] ?_;rintro⟨c,d⟩ oo h g
 rw[AK]at h
 refine cd h (λi h=>?_) (λi h=>?_);refine bk ?_;refine dr mixed ?_;refine bR h λl h=>?_;refine cl none [] 0 h (zZ N _) λj h=>?_;refine dp aD true [j] ?_;refine ei true h λm h=>?_;refine dk ?_;cases h;exact bl [0,1,2,5];cases h;cases g _ rfl;replace h:=f;try dsimp only at h
 exact bj _ [1,2,3];intro b h;try dsimp only at h
 cases h;exact rt []
theorem TL(N:Nat)(c:Constraint)(n:Int)(r:(List bG))(h:zf N c n=some r):Cn Tryz.prog 103 [sA dG false c,sI .i64 n] [.row aR true r] [sO 0]:=by
 unfold zf at h;refine fn tb en103 Tryz.func103 λX w H ν=>?_;refine cl none [] 0 h (Fs N _ _) λr6 h=>?_;refine cd h (λg h=>?_) (λg h=>?_);refine pr (nl 4 aR) ?_;cases h;exact rt [1];refine cl none [] 2 h (KH N _) λa h=>?_;refine jn (λx=>x) (λb=>aZ 4 [.box (aM.cl dG false c),.box [(.own 2),(lB a.dO.bM),(.own 3)],.row aD true b,.row (aF .u32) true a.dO.aQ] [vp 2 0,vp 5 1]) h (λp i j=>?_) ?_;refine bk ?_;refine lp (λ⟨d,e⟩=>aZ 4 [.box (aM.cl dG false c),.box [(.own 2),(lB a.dO.bM),(.own 3)],.row aD true d,.row (aF .u32) true a.dO.aQ] [vp 2 0,vp 5 1,vi 6 e]) i [0,3,1,2] ?_;rintro⟨d,e⟩ oo h k
 rw[DN]at h
 refine cd h (λl h=>?_) (λl h=>?_);refine bk ?_;refine dr mixed ?_;refine bR h λs h=>?_;refine bR h λu h=>?_;refine cl none [] 0 h (mH N _) λv h=>?_;refine jS h λy a0 h=>?_;refine eH true h λa1 h=>?_;refine dk ?_;cases h;exact bl [0,1,2,3];cases h;cases k _ rfl;replace h:=j;try dsimp only at h
 exact bj _ [0,1,2,3];intro b h;try dsimp only at h
 refine cl none [] 0 h (mH N _) λa2 h=>?_;refine cl none [] 0 h (zZ N _) λf h=>?_;refine cd h (λm h=>?_) (λm h=>?_);refine po (jR 2 [50] [1]) ?_;refine dp aR true [(bG.mk b f)] ?_;cases h;exact rt [5];refine dr mixed ?_;refine cl none [] 0 h (Kp N _ _) λo h=>?_;refine po (jR 2 [52,53] [1]) ?_;refine dp aR true [(bG.mk b f),o] ?_;refine dk ?_;cases h;exact rt [5]
theorem TU(N:Nat)(l:(List Constraint))(n:Int)(r:(List bG))(h:xS N l n=some r):Cn Tryz.prog 71 [sR dG false l,sI .i64 n] [.row aR true r] [sO 0]:=by
 unfold xS at h;refine fn tb en71 Tryz.func71 λX w H ν=>?_;refine jI aR ?_;refine jn (λx=>(Sum.inl x)) (λa=>aZ 1 [.row aR true a] [vo 5 0]) h (λj f b=>?_) ?_;refine bk ?_;refine lp (λ⟨c,d⟩=>aZ 1 [.row aR true c] [vr 0 dG false l,vi 1 n,vo 5 0,vi 6 d]) f [0] ?_;rintro⟨c,d⟩ oo h e
 rw[EN]at h
 refine cd h (λg h=>?_) (λg h=>?_);refine bk ?_;refine bR h λk h=>?_;refine cl none [] 0 h (Fs N _ _) λm h=>?_;refine cd h (λi h=>?_) (λi h=>?_);refine pr (nl 4 aR) ?_;cases h;cases e _ rfl;replace h:=b;try dsimp only at h
 cases h;exact rt [1];refine bR h λo h=>?_;refine cl none [] 1 h (TL N _ _) λp h=>?_;refine ei true h λs h=>?_;cases h;exact bl [2];cases h;cases e _ rfl;replace h:=b;try dsimp only at h
 exact bj _ [0];intro a h;try dsimp only at h
 cases h;exact rt [0]
theorem Nz(N:Nat)(l:(List bG))(r:Bool)(h:uJ N l=some r):Cn Tryz.prog 99 [sR aR false l] [] [sB r]:=by
 unfold uJ at h;refine fn tb en99 Tryz.func99 λX w H ν=>?_;refine jn (λx=>(Sum.inl x)) (λ(_:Unit)=>aZ 0 [] []) h (λg d a=>?_) ?_;refine bk ?_;refine lp (λb=>aZ 0 [] [vr 0 aR false l,vi 3 b]) d [] ?_;rintro b oo h c
 rw[xY]at h
 refine cd h (λe h=>?_) (λe h=>?_);refine bk ?_;refine dr mixed ?_;refine bR h λi h=>?_;refine bR h λj h=>?_;refine dk ?_;refine cd h (λf h=>?_) (λf h=>?_);cases h;cases c _ rfl;replace h:=a;try dsimp only at h
 cases h;exact rt [];cases h;exact bl [];cases h;cases c _ rfl;replace h:=a;try dsimp only at h
 exact bj _ [];intro _ h;try dsimp only at h
 cases h;exact rt []
theorem Qz(N:Nat)(l:(List bG))(s:Step)(r:(bG×Bool))(h:yO N l s=some r):Cn Tryz.prog 100 [sR aR false l,sA bC false s] [] [sA aR true r.1,sB r.2]:=by
 unfold yO at h;refine fn tb en100 Tryz.func100 λX w H ν=>?_;refine jn (λx=>x) (λj=>aZ 2 [.box (aM.cl bC false s),.box [lN,(lB false),lN]] [vr 0 aR false l,vp 3 0,vp 4 1,vb 24 j]) h (λak h al=>?_) ?_;refine rg ?_;refine cl none [] 0 h (Nz N _) λam h=>?_;refine gd h (λa5 h=>?_) (λa5 h=>?_);cases h;exact bj _ [0,1];refine cl none [] 0 h (mD N _) λan h=>?_;cases h;exact bj _ [0,1];intro j h;try dsimp only at h
 refine cd h (λa6 h=>?_) (λa6 h=>?_);cases h;exact rt [];refine jn (λx=>x) (λa=>aZ 2 [.box (aM.cl bC false s),.box [lN,(lB false),lN]] [vr 0 aR false l,vp 3 0,vp 4 1,vi 6 a]) h (λao h aq=>?_) ?_;refine cd h (λa7 h=>?_) (λa7 h=>?_);refine bR h λar h=>?_;cases h;exact bj _ [0,1];cases h;exact bj _ [0,1];intro a h;try dsimp only at h
 refine cl none [] 2 h (KH N _) λav h=>?_;refine jn (λx=>(Sum.inl x)) (λ⟨k,e,f⟩=>aZ 4 [.box (aM.cl bC false s),.box [lN,(lB false),lN],.box [(.own 3),(lB e),(.ro (aF .u32) true f)],.row aD true k] [vp 3 0,vp 4 1,vi 6 a,vp 7 2]) h (λaw a8 m=>?_) ?_;refine bk ?_;refine lp (λ⟨g,b,c,d⟩=>aZ 4 [.box (aM.cl bC false s),.box [lN,(lB false),lN],.box [(.own 3),(lB b),(.ro (aF .u32) true c)],.row aD true g] [vr 0 aR false l,vp 3 0,vp 4 1,vi 6 a,vp 7 2,vi 8 d]) a8 [0,1,4,2] ?_;rintro⟨g,b,c,d⟩ oo h n
 rw[Dj]at h
 refine cd h (λa9 h=>?_) (λa9 h=>?_);refine bk ?_;refine bR h λi h=>?_;refine jn (λx=>x) (λo=>aZ 5 [.box (aM.cl bC false s),.box [lN,(lB false),lN],.box [(.own 3),(lB b),(.ro (aF .u32) true c)],.row aD true g,.box (aM.cl eR false i)] [vr 0 aR false l,vp 3 0,vp 4 1,vi 6 a,vp 7 2,vi 8 d,vp 9 4,vb 63 o]) h (λax h ay=>?_) ?_;refine rg ?_;refine gd h (λaa h=>?_) (λaa h=>?_);cases h;exact bj _ [0,1,2,3,4];refine gd h (λab h=>?_) (λab h=>?_);cases h;exact bj _ [0,1,2,3,4];refine cl none [] 0 h (mD N _) λaz h=>?_;cases h;exact bj _ [0,1,2,3,4];intro o h;try dsimp only at h
 refine cd h (λac h=>?_) (λac h=>?_);cases h;cases n _ rfl;replace h:=m;try dsimp only at h
 cases h;exact rt [];refine bR h λp h=>?_;refine jn (λx=>x) (λu=>aZ 6 [.box (aM.cl bC false s),.box [lN,(lB false),lN],.box [(.own 3),(lB b),(.ro (aF .u32) true c)],.row aD true u,.box (aM.cl eR false i),.box (aM.cl aR false p)] [vr 0 aR false l,vp 3 0,vp 4 1,vi 6 a,vp 7 2,vi 8 d,vp 9 4,vp 10 5]) h (λb0 ad ae=>?_) ?_;refine bk ?_;refine lp (λ⟨v,y⟩=>aZ 6 [.box (aM.cl bC false s),.box [lN,(lB false),lN],.box [(.own 3),(lB b),(.ro (aF .u32) true c)],.row aD true v,.box (aM.cl eR false i),.box (aM.cl aR false p)] [vr 0 aR false l,vp 3 0,vp 4 1,vi 6 a,vp 7 2,vi 8 d,vp 9 4,vp 10 5,vi 11 y]) ad [0,1,2,3,4,5] ?_;rintro⟨v,y⟩ oo h af
 rw[za]at h
 refine cd h (λag h=>?_) (λag h=>?_);refine bk ?_;refine dr mixed ?_;refine jS h λb1 b2 h=>?_;refine dX ?_;refine bR h λb3 h=>?_;refine cl none [] 0 h (Et N _ _) λb4 h=>?_;refine cl none [] 0 h (yr N _ _) λb5 h=>?_;refine jS h λb6 b7 h=>?_;refine eH true h λb8 h=>?_;refine dk ?_;cases h;exact bl [0,1,2,3,4,5];cases h;cases af _ rfl;replace h:=ae;try dsimp only at h
 exact bj _ [0,1,2,3,4,5];intro u h;try dsimp only at h
 refine dr mixed ?_;refine cl none [] 0 h (Et N _ _) λb9 h=>?_;refine cl none [] 0 h (yr N _ _) λba h=>?_;refine dk ?_;cases h;exact bl [0,1,2,3];cases h;cases n _ rfl;replace h:=m;try dsimp only at h
 exact bj _ [0,1,2,3];rintro⟨k,e,f⟩ h;try dsimp only at h
 refine jn (λx=>(Sum.inl x)) (λa0=>aZ 4 [.box (aM.cl bC false s),.box [lN,(lB false),lN],.box [(.own 3),(lB e),(.ro (aF .u32) true f)],.row aD true a0] [vp 3 0,vp 4 1,vp 7 2]) h (λbb ah a1=>?_) ?_;refine bk ?_;refine lp (λ⟨a2,a3⟩=>aZ 4 [.box (aM.cl bC false s),.box [lN,(lB false),lN],.box [(.own 3),(lB e),(.ro (aF .u32) true f)],.row aD true a2] [vp 3 0,vp 4 1,vi 6 a,vp 7 2,vi 12 a3]) ah [0,1,2,3] ?_;rintro⟨a2,a3⟩ oo h a4
 rw[xK]at h
 refine cd h (λai h=>?_) (λai h=>?_);refine bk ?_;refine dr mixed ?_;refine jS h λbc bd h=>?_;refine dX ?_;refine cl none [] 0 h (I2 N _ _) λbe h=>?_;refine dk ?_;refine cl none [] 0 h (mD N _) λbf h=>?_;refine cd h (λaj h=>?_) (λaj h=>?_);cases h;cases a4 _ rfl;replace h:=a1;try dsimp only at h
 cases h;exact rt [];refine jS h λbg bh h=>?_;refine eH true h λbi h=>?_;cases h;exact bl [0,1,2,3];cases h;cases a4 _ rfl;replace h:=a1;try dsimp only at h
 exact bj _ [0,1,2,3];intro a0 h;try dsimp only at h
 refine cl none [] 0 h (I2 N _ _) λbm h=>?_;cases h;exact rt []
theorem Q1(N:Nat)(q:bG)(r:Bool)(h:y5 N q=some r):Cn Tryz.prog 101 [sA aR false q] [] [sB r]:=by
 unfold y5 at h;refine fn tb en101 Tryz.func101 λX w H ν=>?_;refine jn (λx=>(Sum.inl x)) (λ(_:Unit)=>aZ 1 [.box (aM.cl aR false q)] [vp 1 0]) h (λg d a=>?_) ?_;refine bk ?_;refine lp (λb=>aZ 1 [.box (aM.cl aR false q)] [vp 1 0,vi 3 b]) d [0] ?_;rintro b oo h c
 rw[yB]at h
 refine cd h (λe h=>?_) (λe h=>?_);refine bk ?_;refine bR h λi h=>?_;refine cl none [] 0 h (mD N _) λj h=>?_;refine cd h (λf h=>?_) (λf h=>?_);cases h;cases c _ rfl;replace h:=a;try dsimp only at h
 cases h;exact rt [];cases h;exact bl [0];cases h;cases c _ rfl;replace h:=a;try dsimp only at h
 exact bj _ [0];intro _ h;try dsimp only at h
 refine cl none [] 0 h (mD N _) λk h=>?_;cases h;exact rt []
theorem Vi(N:Nat):∀(l:(List bG)) (p:Proof) (r:Bool) (h:td N l p=some r),Cn Tryz.prog 70 [sR aR false l,sA jo false p] [] [sB r]:=by
 induction N with
 |zero=>intro l p r h;cases h
 |succ N ih=>
  intro l p r h
  replace h:rV N (td N) l p=some r:=h
  unfold rV at h
  refine fn tb en70 Tryz.func70 λX w H ν=>?_
  refine cl none [] 0 h (Nz N _) λr6 h=>?_
  refine cd h (λk h=>?_) (λk h=>?_)
  cases h
  exact rt []
  refine jI aR ?_
  refine ei false h λa6 h=>?_
  refine jn (λx=>(Sum.inl x)) (λa=>aZ 2 [.box (aM.cl jo false p),.row aR false a] [vp 3 0,vo 5 1]) h (λa7 m b=>?_) ?_
  refine bk ?_
  refine lp (λ⟨c,d⟩=>aZ 2 [.box (aM.cl jo false p),.row aR false c] [vp 3 0,vo 5 1,vi 6 d]) m [0,2] ?_
  rintro⟨c,d⟩ oo h e
  rw[Cm]at h
  refine cd h (λn h=>?_) (λn h=>?_)
  refine bk ?_
  refine bR h λa8 h=>?_
  refine cl none [] 0 h (Qz N _ _) λo h=>?_
  refine cd h (λs h=>?_) (λs h=>?_)
  cases h
  cases e _ rfl
  replace h:=b
  try dsimp only at h
  cases h
  exact rt []
  refine dp aR true [o.1] ?_
  refine ei false h λa9 h=>?_
  cases h
  exact bl [0,4]
  cases h
  cases e _ rfl
  replace h:=b
  try dsimp only at h
  exact bj _ [0,1]
  intro a h
  try dsimp only at h
  refine cd h (λu h=>?_) (λu h=>?_)
  refine jn (λx=>(Sum.inl x)) (λ(_:Unit)=>aZ 0 [] []) h (λaa v f=>?_) ?_
  refine bk ?_
  refine lp (λg=>aZ 1 [.row aR false a] [vo 5 0,vi 9 g]) v [1] ?_
  rintro g oo h i
  rw[Gg]at h
  refine cd h (λy h=>?_) (λy h=>?_)
  refine bk ?_
  refine jS h λab ac h=>?_
  refine dX ?_
  refine cl none [] 0 h (Q1 N _) λad h=>?_
  refine cd h (λa0 h=>?_) (λa0 h=>?_)
  cases h
  cases i _ rfl
  replace h:=f
  try dsimp only at h
  cases h
  exact rt []
  cases h
  exact bl [0]
  cases h
  cases i _ rfl
  replace h:=f
  try dsimp only at h
  exact bj _ []
  intro _ h
  try dsimp only at h
  cases h
  exact rt []
  refine jn (λx=>x) (λj=>aZ 2 [.box (aM.cl jo false p),.row aR false a] [vp 3 0,vo 5 1,vb 77 j]) h (λae h af=>?_) ?_
  refine dr mixed ?_
  refine gd h (λa1 h=>?_) (λa1 h=>?_)
  refine dk ?_
  cases h
  exact bj _ [0,1]
  refine gd h (λa2 h=>?_) (λa2 h=>?_)
  refine jS h λag ah h=>?_
  refine dX ?_
  refine dk ?_
  cases h
  exact bj _ [0,1]
  refine dk ?_
  cases h
  exact bj _ [0,1]
  intro j h
  try dsimp only at h
  refine cd h (λa3 h=>?_) (λa3 h=>?_)
  cases h
  exact rt []
  refine dr mixed ?_
  refine cl none [] 0 h (zZ N _) λai h=>?_
  refine cl none [] 0 h (mH N _) λaj h=>?_
  refine cl none [] 0 h (KC N _ _) λak h=>?_
  refine cl none [] 0 h (Kp N _ _) λa4 h=>?_
  refine dk ?_
  refine dr mixed ?_
  refine jI aR ?_
  refine ei false h λal h=>?_
  refine dp aR false [(bG.mk p.Form p.dO)] ?_
  refine ei false h λam h=>?_
  refine dk ?_
  refine dr mixed ?_
  refine jI aR ?_
  refine ei false h λan h=>?_
  refine dp aR true [a4] ?_
  refine ei false h λao h=>?_
  refine dk ?_
  refine rg ?_
  refine bR h λaq h=>?_
  refine cl none [] 0 h (ih _ _) λar h=>?_
  refine gd h (λa5 h=>?_) (λa5 h=>?_)
  refine bR h λav h=>?_
  refine cl none [] 0 h (ih _ _) λaw h=>?_
  cases h
  exact rt []
  cases h
  exact rt []
end Go.Proofs.YtipdkfmhfakbnaaGreatDoor.SD

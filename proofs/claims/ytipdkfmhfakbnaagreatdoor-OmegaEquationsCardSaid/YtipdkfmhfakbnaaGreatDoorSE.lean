/- Walks of the symbolic machine, written by a program of mine (wip/tool). -/
import Derived.Test.YtipdkfmhfakbnaaGreatDoorSD
set_option linter.unusedVariables false
set_option linter.unusedSimpArgs false
set_option maxRecDepth 100000
set_option maxHeartbeats 4000000
namespace Go.Proofs.YtipdkfmhfakbnaaGreatDoor.SE
open Go Go.RowKit Go.X Go.Q Go.D Go.Proofs.YtipdkfmhfakbnaaGreatDoor.TB Go.Proofs.YtipdkfmhfakbnaaGreatDoor.FS Go.Proofs.YtipdkfmhfakbnaaGreatDoor.SR Go.Proofs.YtipdkfmhfakbnaaGreatDoor.SD
theorem UB(N:Nat)(l:(List Constraint))(r:(List Constraint))(h:zq N l=some r):Cn aL 29 [sR cK false l] [.row cK false r] [sO 0]:=by
 unfold zq at h;refine fn tb en29 Tryz.func29 λX w H ν=>?_;refine jn (λx=>x) (λa=>aX 1 [.row cK false a] [vo 3 0]) h (λk d e=>?_) ?_;refine bk ?_;refine ps (nl 3 cK) ?_;refine lp (λ⟨b,c⟩=>aX 1 [.row cK false b] [vr 0 cK false l,vo 3 0,vi 4 c]) d [0] ?_;rintro⟨b,c⟩ oo h f
 rw[Fs]at h
 refine cd h (λg h=>?_) (λg h=>?_);refine bk ?_;refine bP h λm h=>?_;refine cd h (λi h=>?_) (λi h=>?_);refine bP h λj h=>?_;refine dA cK false [j] ?_;refine ei false h λn h=>?_;cases h;exact bl [2];cases h;exact bl [0];cases h;cases f _ rfl;replace h:=e;try dsimp only at h
 exact bj _ [0];intro a h;try dsimp only at h
 cases h;exact rt [0]
theorem Ka(N:Nat)(f:Linear)(x:(List aC))(r:aC)(h:wA N f x=some r):Cn aL 58 [sA oX false f,sR aE false x] [] [sA aE true r]:=by
 unfold wA at h;refine fn tb en58 Tryz.func58 λX w H ν=>?_;refine cl none [] 0 h (oP N _) λj h=>?_;refine jn (λx=>x) (λa=>aX 2 [.box [(lB false),lN],.box (aO.cl aE true a)] [vp 4 0,vp 5 1]) h (λk d e=>?_) ?_;refine bk ?_;refine lp (λ⟨b,c⟩=>aX 3 [.box (aO.cl oX false f),.box [(lB false),lN],.box (aO.cl aE true b)] [vr 1 aE false x,vp 2 0,vp 4 1,vp 5 2,vi 6 c]) d [0,1,2] ?_;rintro⟨b,c⟩ oo h g
 rw[H5]at h
 refine cd h (λi h=>?_) (λi h=>?_);refine bk ?_;refine dr mixed ?_;refine bP h λl h=>?_;refine cl none [] 0 h (oP N _) λm h=>?_;refine bP h λn h=>?_;refine bP h λo h=>?_;refine cl none [] 0 h (zh N _ _) λp h=>?_;refine cl none [] 0 h (yO N _ _) λs h=>?_;refine dk ?_;cases h;exact bl [0,1,2];cases h;cases g _ rfl;replace h:=e;try dsimp only at h
 exact bj _ [1,2];intro a h;try dsimp only at h
 cases h;exact rt []
theorem G7(N:Nat)(l:(List Constraint))(x:(List aC))(r:Bool)(h:ra N l x=some r):Cn aL 28 [sR cK false l,sR aE false x] [] [sB r]:=by
 unfold ra at h;refine fn tb en28 Tryz.func28 λX w H ν=>?_;refine jn (λx=>(Sum.inl x)) (λ(_:Unit)=>aX 0 [] []) h (λk e b=>?_) ?_;refine bk ?_;refine lp (λa=>aX 0 [] [vr 0 cK false l,vr 1 aE false x,vi 5 a]) e [] ?_;rintro a oo h c
 rw[yu]at h
 refine cd h (λf h=>?_) (λf h=>?_);refine bk ?_;refine bP h λm h=>?_;refine cl none [] 0 h (Ka N _ _) λn h=>?_;refine cl none [] 0 h (lQ N _) λo h=>?_;refine jn (λx=>x) (λd=>aX 0 [] [vr 0 cK false l,vr 1 aE false x,vi 5 a,vb 33 d]) h (λp h s=>?_) ?_;refine rg ?_;refine gd h (λg h=>?_) (λg h=>?_);cases h;exact bj _ [];refine gd h (λi h=>?_) (λi h=>?_);refine bP h λu h=>?_;cases h;exact bj _ [];cases h;exact bj _ [];intro d h;try dsimp only at h
 refine cd h (λj h=>?_) (λj h=>?_);cases h;cases c _ rfl;replace h:=b;try dsimp only at h
 cases h;exact rt [];cases h;exact bl [];cases h;cases c _ rfl;replace h:=b;try dsimp only at h
 exact bj _ [];intro _ h;try dsimp only at h
 cases h;exact rt []
theorem VF(N:Nat)(l:(List Constraint))(x:(List aC))(r:Bool)(h:zU N l x=some r):Cn aL 31 [sR cK false l,sR aE false x] [] [sB r]:=by
 unfold zU at h;refine fn tb en31 Tryz.func31 λX w H ν=>?_;refine jn (λx=>(Sum.inl x)) (λ(_:Unit)=>aX 0 [] []) h (λg d a=>?_) ?_;refine bk ?_;refine lp (λb=>aX 0 [] [vr 0 cK false l,vr 1 aE false x,vi 5 b]) d [] ?_;rintro b oo h c
 rw[ye]at h
 refine cd h (λe h=>?_) (λe h=>?_);refine bk ?_;refine bP h λi h=>?_;refine cl none [] 0 h (Ka N _ _) λj h=>?_;refine cl none [] 0 h (lQ N _) λk h=>?_;refine cd h (λf h=>?_) (λf h=>?_);cases h;cases c _ rfl;replace h:=a;try dsimp only at h
 cases h;exact rt [];cases h;exact bl [];cases h;cases c _ rfl;replace h:=a;try dsimp only at h
 exact bj _ [];intro _ h;try dsimp only at h
 cases h;exact rt []
theorem Mg(N:Nat)(l:(List Int))(r:(List aC))(h:wU N l=some r):Cn aL 32 [sR aY false l] [.row aE true r] [sO 0]:=by
 unfold wU at h;refine fn tb en32 Tryz.func32 λX w H ν=>?_;refine jn (λx=>x) (λa=>aX 1 [.row aE true a] [vo 3 0]) h (λj d e=>?_) ?_;refine bk ?_;refine ps (nl 3 aE) ?_;refine lp (λ⟨b,c⟩=>aX 1 [.row aE true b] [vr 0 aY false l,vo 3 0,vi 4 c]) d [0] ?_;rintro⟨b,c⟩ oo h f
 rw[Ip]at h
 refine cd h (λg h=>?_) (λg h=>?_);refine bk ?_;refine bP h λk h=>?_;refine cl none [] 0 h (oP N _) λi h=>?_;refine dA aE true [i] ?_;refine ei true h λm h=>?_;cases h;exact bl [2];cases h;cases f _ rfl;replace h:=e;try dsimp only at h
 exact bj _ [0];intro a h;try dsimp only at h
 cases h;exact rt [0]
theorem VM(N:Nat)(n:Int)(l:(List Constraint))(r:Bool)(h:zo N n l=some r):Cn aL 25 [sI .i64 n,sR cK false l] [] [sB r]:=by
 unfold zo at h;refine fn tb en25 Tryz.func25 λX w H ν=>?_;refine jn (λx=>(Sum.inl x)) (λ(_:Unit)=>aX 0 [] [vi 0 n]) h (λi d a=>?_) ?_;refine bk ?_;refine lp (λb=>aX 0 [] [vi 0 n,vr 1 cK false l,vi 5 b]) d [] ?_;rintro b oo h c
 rw[yj]at h
 refine cd h (λe h=>?_) (λe h=>?_);refine bk ?_;refine bP h λj h=>?_;refine cl none [] 0 h (FW N _ _) λk h=>?_;refine cd h (λf h=>?_) (λf h=>?_);cases h;cases c _ rfl;replace h:=a;try dsimp only at h
 cases h;exact rt [];cases h;exact bl [];cases h;cases c _ rfl;replace h:=a;try dsimp only at h
 exact bj _ [];intro _ h;try dsimp only at h
 refine rg ?_;refine gd h (λg h=>?_) (λg h=>?_);cases h;exact rt [];cases h;exact rt []
theorem VX(N:Nat)(n:Int)(l:(List Constraint))(most:Int)(r:Bool)(h:yQ N n l most=some r):Cn aL 11 [sI .i64 n,sR cK false l,sI .i64 most] [] [sB r]:=by
 unfold yQ at h;refine fn tb en11 Tryz.func11 λX w H ν=>?_;refine jn (λx=>(Sum.inl x)) (λ(_:Unit)=>aX 0 [] [vi 0 n,vr 1 cK false l]) h (λa2 k b=>?_) ?_;refine bk ?_;refine lp (λa=>aX 0 [] [vi 0 n,vr 1 cK false l,vi 2 most,vi 7 a]) k [] ?_;rintro a oo h c
 rw[yI]at h
 refine cd h (λm h=>?_) (λm h=>?_);refine bk ?_;refine bP h λd h=>?_;refine jn (λx=>x) (λf=>aX 1 [.box (aO.cl oX false d.Linear)] [vi 0 n,vr 1 cK false l,vi 2 most,vi 7 a,vp 8 0,vb 28 f]) h (λa3 h a4=>?_) ?_;refine rg ?_;refine gd h (λo h=>?_) (λo h=>?_);cases h;exact bj _ [0];cases h;exact bj _ [0];intro f h;try dsimp only at h
 refine cd h (λp h=>?_) (λp h=>?_);cases h;cases c _ rfl;replace h:=b;try dsimp only at h
 cases h;exact rt [];refine jn (λx=>(Sum.inl x)) (λ(_:Unit)=>aX 0 [] [vi 0 n,vr 1 cK false l,vi 2 most,vi 7 a]) h (λa5 s g=>?_) ?_;refine bk ?_;refine lp (λe=>aX 1 [.box (aO.cl oX false d.Linear)] [vi 0 n,vr 1 cK false l,vi 2 most,vi 7 a,vp 8 0,vi 9 e]) s [0] ?_;rintro e oo h i
 rw[zS]at h
 refine cd h (λu h=>?_) (λu h=>?_);refine bk ?_;refine jn (λx=>x) (λj=>aX 1 [.box (aO.cl oX false d.Linear)] [vi 0 n,vr 1 cK false l,vi 2 most,vi 7 a,vp 8 0,vi 9 e,vb 54 j]) h (λa6 h a7=>?_) ?_;refine rg ?_;refine bP h λa8 h=>?_;refine gd h (λv h=>?_) (λv h=>?_);cases h;exact bj _ [0];refine bP h λa9 h=>?_;cases h;exact bj _ [0];intro j h;try dsimp only at h
 refine cd h (λy h=>?_) (λy h=>?_);cases h;cases i _ rfl;replace h:=g;try dsimp only at h
 cases h;cases c _ rfl;replace h:=b;try dsimp only at h
 cases h;exact rt [];cases h;exact bl [0];cases h;cases i _ rfl;replace h:=g;try dsimp only at h
 exact bj _ [];intro _ h;try dsimp only at h
 cases h;exact bl [];cases h;cases c _ rfl;replace h:=b;try dsimp only at h
 exact bj _ [];intro _ h;try dsimp only at h
 refine rg ?_;refine gd h (λa0 h=>?_) (λa0 h=>?_);refine gd h (λa1 h=>?_) (λa1 h=>?_);refine cl none [] 0 h (VM N _ _) λaa h=>?_;cases h;exact rt [];cases h;exact rt [];cases h;exact rt []
theorem Qm(N:Nat)(p:(List aC))(a:aC)(q:(List aC))(b:aC)(r:(List aC))(h:zL N p a q b=some r):Cn aL 67 [sR aE false p,sA aE false a,sR aE false q,sA aE false b] [.row aE true r] [sO 0]:=by
 unfold zL at h;refine fn tb en67 Tryz.func67 λX w H ν=>?_;refine jn (λx=>x) (λc=>aX 1 [.row aE true c] [vo 9 0]) h (λl f g=>?_) ?_;refine bk ?_;refine ps (nl 9 aE) ?_;refine lp (λ⟨d,e⟩=>aX 3 [.box (aO.cl aE false a),.box (aO.cl aE false b),.row aE true d] [vr 0 aE false p,vr 2 aE false q,vp 5 0,vp 7 1,vo 9 2,vi 10 e]) f [0,1,2] ?_;rintro⟨d,e⟩ oo h i
 rw[HT]at h
 refine cd h (λj h=>?_) (λj h=>?_);refine bk ?_;refine dr mixed ?_;refine bP h λm h=>?_;refine cl none [] 0 h (zh N _ _) λn h=>?_;refine bP h λo h=>?_;refine cl none [] 0 h (zh N _ _) λs h=>?_;refine cl none [] 0 h (CX N _ _) λk h=>?_;refine dA aE true [k] ?_;refine ei true h λu h=>?_;refine dk ?_;cases h;exact bl [0,1,4];cases h;cases i _ rfl;replace h:=g;try dsimp only at h
 exact bj _ [2];intro c h;try dsimp only at h
 cases h;exact rt [0]
theorem OY(N:Nat)(vectors:(List (List aC)))(y:(List aC))(r:Bool)(h:w8 N vectors y=some r):Cn aL 33 [sR bN false vectors,sR aE false y] [] [sB r]:=by
 unfold w8 at h;refine fn tb en33 Tryz.func33 λX w H ν=>?_;refine jn (λx=>x) (λj=>aX 1 [.row bN false j] [vr 0 bN false vectors,vo 5 0]) h (λaz a2 a3=>?_) ?_;refine bk ?_;refine ps (nl 5 bN) ?_;refine lp (λ⟨c,d⟩=>aX 1 [.row bN false c] [vr 0 bN false vectors,vr 1 aE false y,vo 5 0,vi 6 d]) a2 [0] ?_;rintro⟨c,d⟩ oo h a4
 rw[A8]at h
 refine cd h (λa5 h=>?_) (λa5 h=>?_);refine bk ?_;refine jn (λx=>x) (λk=>aX 2 [.row bN false c,.row aE false k] [vr 0 bN false vectors,vr 1 aE false y,vo 5 0,vi 6 d,vo 7 1]) h (λb0 a6 a7=>?_) ?_;refine bk ?_;refine ps (nl 7 aE) ?_;refine lp (λ⟨l,m⟩=>aX 2 [.row bN false c,.row aE false l] [vr 0 bN false vectors,vr 1 aE false y,vo 5 0,vi 6 d,vo 7 1,vi 8 m]) a6 [0,1] ?_;rintro⟨l,m⟩ oo h a8
 rw[If]at h
 refine cd h (λa9 h=>?_) (λa9 h=>?_);refine bk ?_;refine bP h λb1 h=>?_;refine bP h λaa h=>?_;refine dA aE false [aa] ?_;refine ei false h λb2 h=>?_;cases h;exact bl [0,3];cases h;cases a8 _ rfl;replace h:=a7;try dsimp only at h
 exact bj _ [0,1];intro k h;try dsimp only at h
 refine bP h λab h=>?_;refine dA aE false [ab] ?_;refine ei false h λac h=>?_;refine po (jG 3 [46] []) ?_;refine dA bN false [ac] ?_;refine ei false h λb3 h=>?_;cases h;exact bl [5];cases h;cases a4 _ rfl;replace h:=a3;try dsimp only at h
 exact bj _ [0];intro j h;try dsimp only at h
 refine jn (λx=>(Sum.inl x)) (λe=>aX 1 [.row bN false e] [vr 0 bN false vectors,vo 5 0]) h (λb4 ad n=>?_) ?_;refine bk ?_;refine lp (λ⟨b,a⟩=>aX 1 [.row bN false b] [vr 0 bN false vectors,vo 5 0,vi 9 a]) ad [0] ?_;rintro⟨b,a⟩ oo h o
 rw[Cz]at h
 refine cd h (λae h=>?_) (λae h=>?_);refine bk ?_;refine jn (λx=>x) (λp=>aX 1 [.row bN false b] [vr 0 bN false vectors,vo 5 0,vi 9 a,vi 10 p]) h (λb5 af ag=>?_) ?_;refine bk ?_;refine lp (λf=>aX 1 [.row bN false b] [vr 0 bN false vectors,vo 5 0,vi 9 a,vi 10 f]) af [0] ?_;rintro f oo h ah
 rw[CE]at h
 refine jn (λx=>x) (λs=>aX 1 [.row bN false b] [vr 0 bN false vectors,vo 5 0,vi 9 a,vi 10 f,vb 70 s]) h (λb6 h b7=>?_) ?_;refine rg ?_;refine gd h (λai h=>?_) (λai h=>?_);refine cC h λb8 h=>?_;refine du ?_;refine bP h λb9 h=>?_;refine cl none [] 0 h (lQ N _) λba h=>?_;cases h;exact bj _ [0];cases h;exact bj _ [0];intro s h;try dsimp only at h
 refine cd h (λaj h=>?_) (λaj h=>?_);refine bk ?_;cases h;exact bl [0];cases h;cases ah _ rfl;replace h:=ag;try dsimp only at h
 exact bj _ [0];intro p h;try dsimp only at h
 refine cd h (λak h=>?_) (λak h=>?_);cases h;cases o _ rfl;replace h:=n;try dsimp only at h
 cases h;exact rt [];refine dr mixed ?_;refine cC h λbb h=>?_;refine du ?_;refine cC h λbc h=>?_;refine du ?_;refine cC h λbd h=>?_;refine ej false h λbe h=>?_;refine cC h λbf h=>?_;refine ej false h λbg h=>?_;refine dk ?_;refine jn (λx=>x) (λu=>aX 1 [.row bN false u] [vr 0 bN false vectors,vo 5 0,vi 9 a]) h (λbh al am=>?_) ?_;refine bk ?_;refine lp (λ⟨v,a0⟩=>aX 1 [.row bN false v] [vr 0 bN false vectors,vo 5 0,vi 9 a,vi 11 a0]) al [0] ?_;rintro⟨v,a0⟩ oo h an
 rw[BE]at h
 refine cd h (λao h=>?_) (λao h=>?_);refine bk ?_;refine cd h (λaq h=>?_) (λaq h=>?_);refine dr mixed ?_;refine cC h λbi h=>?_;refine du ?_;refine cC h λbm h=>?_;refine du ?_;refine bP h λbn h=>?_;refine cC h λbo h=>?_;refine du ?_;refine cC h λbp h=>?_;refine du ?_;refine bP h λbr h=>?_;refine cl none [] 1 h (Qm N _ _ _ _) λbs h=>?_;refine cC h λbt h=>?_;refine po (jG 1 [124] []) ?_;refine ej false h λbu h=>?_;refine dk ?_;cases h;exact bl [0];cases h;exact bl [0];cases h;cases an _ rfl;replace h:=am;try dsimp only at h
 exact bj _ [0];intro u h;try dsimp only at h
 cases h;exact bl [0];cases h;cases o _ rfl;replace h:=n;try dsimp only at h
 exact bj _ [0];intro e h;try dsimp only at h
 refine jn (λx=>(Sum.inl x)) (λ(_:Unit)=>aX 0 [] []) h (λbw ar g=>?_) ?_;refine bk ?_;refine lp (λa1=>aX 1 [.row bN false e] [vr 0 bN false vectors,vo 5 0,vi 12 a1]) ar [0] ?_;rintro a1 oo h i
 rw[wR]at h
 refine cd h (λav h=>?_) (λav h=>?_);refine bk ?_;refine cC h λbx h=>?_;refine du ?_;refine bP h λbz h=>?_;refine cd h (λaw h=>?_) (λaw h=>?_);refine cl none [] 0 h (lQ N _) λc0 h=>?_;refine cd h (λax h=>?_) (λax h=>?_);cases h;cases i _ rfl;replace h:=g;try dsimp only at h
 cases h;exact rt [];cases h;exact bl [0];refine dr mixed ?_;refine cC h λc1 h=>?_;refine du ?_;refine bP h λc2 h=>?_;refine cl none [] 0 h (HQ N _ _) λc3 h=>?_;refine dk ?_;refine cl none [] 0 h (lQ N _) λc4 h=>?_;refine cd h (λay h=>?_) (λay h=>?_);cases h;cases i _ rfl;replace h:=g;try dsimp only at h
 cases h;exact rt [];cases h;exact bl [0];cases h;cases i _ rfl;replace h:=g;try dsimp only at h
 exact bj _ [];intro _ h;try dsimp only at h
 cases h;exact rt []
theorem Sm(N:Nat)(a:(List aC))(b:(List aC))(r:(List aC))(h:zp N a b=some r):Cn aL 34 [sR aE false a,sR aE false b] [.row aE true r] [sO 0]:=by
 unfold zp at h;refine fn tb en34 Tryz.func34 λX w H ν=>?_;refine jn (λx=>x) (λc=>aX 1 [.row aE true c] [vo 5 0]) h (λl f g=>?_) ?_;refine bk ?_;refine ps (nl 5 aE) ?_;refine lp (λ⟨d,e⟩=>aX 1 [.row aE true d] [vr 0 aE false a,vr 1 aE false b,vo 5 0,vi 6 e]) f [0] ?_;rintro⟨d,e⟩ oo h i
 rw[Ee]at h
 refine cd h (λj h=>?_) (λj h=>?_);refine bk ?_;refine dr mixed ?_;refine bP h λm h=>?_;refine bP h λn h=>?_;refine cl none [] 0 h (CX N _ _) λk h=>?_;refine dA aE true [k] ?_;refine ei true h λo h=>?_;refine dk ?_;cases h;exact bl [2];cases h;cases i _ rfl;replace h:=g;try dsimp only at h
 exact bj _ [0];intro c h;try dsimp only at h
 cases h;exact rt [0]
theorem GM(N:Nat)(n:Int)(l:(List Constraint))(p:Proof)(r:Bool)(h:uI N n l p=some r):Cn aL 37 [sI .i64 n,sR cK false l,sA jR false p] [] [sB r]:=by
 unfold uI at h;refine fn tb en37 Tryz.func37 λX w H ν=>?_;refine dr mixed ?_;refine cl none [] 1 h (VS N _ _) λr6 h=>?_;refine cl none [] 0 h (WN N _ _) λa h=>?_;refine dk ?_;cases h;exact rt []
end Go.Proofs.YtipdkfmhfakbnaaGreatDoor.SE

/- Walks of the symbolic machine, written by a program of mine (wip/tool). -/
import Derived.Test.YtipdkfmhfakbnaaGreatDoorTB
import Derived.Test.YtipdkfmhfakbnaaGreatDoorAg
set_option linter.unusedVariables false
set_option linter.unusedSimpArgs false
set_option maxRecDepth 100000
set_option maxHeartbeats 4000000
namespace Go.Proofs.YtipdkfmhfakbnaaGreatDoor.SR
open Go Go.RowKit Go.X Go.Q Go.D Go.Proofs.YtipdkfmhfakbnaaGreatDoor.TB Go.Proofs.YtipdkfmhfakbnaaGreatDoor.FS 
theorem vD(N:Nat)(l:(List Int))(r:(List Int))(h:pG N l=some r):Cn aL 83 [sR aY false l] [] [sR aY false r]:=by
 unfold pG at h;refine fn tb en83 Tryz.func83 λX w H ν=>?_;refine jn (λx=>x) (λb=>aX 0 [] [vr 0 aY false b]) h (λj d e=>?_) ?_;refine bk ?_;refine lp (λa=>aX 0 [] [vr 0 aY false a]) d [] ?_;rintro a oo h f
 rw[Fv]at h
 refine jn (λx=>x) (λc=>aX 0 [] [vr 0 aY false a,vb 14 c]) h (λk h m=>?_) ?_;refine rg ?_;refine gd h (λg h=>?_) (λg h=>?_);refine bP h λn h=>?_;cases h;exact bj _ [];cases h;exact bj _ [];intro c h;try dsimp only at h
 refine cd h (λi h=>?_) (λi h=>?_);refine bk ?_;refine BF h λo h=>?_;cases h;exact bl [];cases h;cases f _ rfl;replace h:=e;try dsimp only at h
 exact bj _ [];intro b h;try dsimp only at h
 cases h;exact rt []
theorem pW(N:Nat)(x:aC)(r:(List Int))(h:mO N x=some r):Cn aL 51 [sA aE false x] [] [sR aY true r]:=by
 unfold mO at h;refine fn tb en51 Tryz.func51 λX w H ν=>?_;refine jN aY ?_;refine jn (λx=>x) (λa=>aX 1 [.row aY true a] [vo 3 0]) h (λk d e=>?_) ?_;refine bk ?_;refine lp (λ⟨b,c⟩=>aX 2 [.box (aO.cl aE false x),.row aY true b] [vp 1 0,vo 3 1,vi 4 c]) d [0,1] ?_;rintro⟨b,c⟩ oo h f
 rw[E2]at h
 refine cd h (λg h=>?_) (λg h=>?_);refine bk ?_;refine dr mixed ?_;refine bP h λi h=>?_;refine reL ?_;refine bP h λj h=>?_;refine wN ?_;refine dA aY true [(iw (Int.tmod i 65536)),(iw (eL (Int.tdiv j 65536)))] ?_;refine ei true h λl h=>?_;refine dk ?_;cases h;exact bl [0,3];cases h;cases f _ rfl;replace h:=e;try dsimp only at h
 exact bj _ [1];intro a h;try dsimp only at h
 refine po (jG 0 [3,30] []) ?_;refine cl (some true) [] 0 h (vD N _) λm h=>?_;cases h;exact rt []
theorem qE(N:Nat)(negative:Bool)(l:(List Int))(r:aC)(h:mK N negative l=some r):Cn aL 49 [sB negative,sR aY false l] [] [sA aE true r]:=by
 unfold mK at h;refine fn tb en49 Tryz.func49 λX w H ν=>?_;refine cl (some false) [] 0 h (vD N _) λr6 h=>?_;refine jn (λx=>x) (λa=>aX 2 [.box [(lB false),lN],.box [(lB a),lN]] [vr 1 aY false r6,vp 4 0,vp 5 1]) h (λn h o=>?_) ?_;refine rg ?_;refine gd h (λf h=>?_) (λf h=>?_);cases h;exact bj _ [0,1];cases h;exact bj _ [0,1];intro a h;try dsimp only at h
 refine jn (λx=>x) (λe=>aX 3 [.box [(lB false),lN],.box [(lB a),(.own 2)],.row bM true e] [vp 4 0,vp 5 1]) h (λp g i=>?_) ?_;refine bk ?_;refine ps (nb 1 1 bM) ?_;refine lp (λ⟨b,c⟩=>aX 3 [.box [(lB false),lN],.box [(lB a),(.own 2)],.row bM true b] [vr 1 aY false r6,vp 4 0,vp 5 1,vi 6 c]) g [0,1,2] ?_;rintro⟨b,c⟩ oo h j
 rw[Eg]at h
 refine cd h (λk h=>?_) (λk h=>?_);refine bk ?_;refine bP h λs h=>?_;refine jn (λx=>x) (λd=>aX 3 [.box [(lB false),lN],.box [(lB a),(.own 2)],.row bM true b] [vr 1 aY false r6,vp 4 0,vp 5 1,vi 6 c,vk 7 .u32 d]) h (λu h v=>?_) ?_;refine cd h (λm h=>?_) (λm h=>?_);refine bP h λy h=>?_;cases h;exact bj _ [0,1,2];cases h;exact bj _ [0,1,2];intro d h;try dsimp only at h
 refine dA bM true [d] ?_;refine ei true h λa0 h=>?_;cases h;exact bl [0,1,4];cases h;cases j _ rfl;replace h:=i;try dsimp only at h
 exact bj _ [0,1,2];intro e h;try dsimp only at h
 cases h;exact rt []
theorem TJ(N:Nat)(x:aC)(r:aC)(h:zx N x=some r):Cn aL 129 [sA aE false x] [] [sA aE true r]:=by
 unfold zx at h;refine fn tb en129 Tryz.func129 λX w H ν=>?_;refine dr mixed ?_;refine cl none [] 0 h (pW N _) λa h=>?_;refine cl none [] 0 h (qE N _ _) λb h=>?_;refine dk ?_;cases h;exact rt []
theorem LL(N:Nat)(a:(List Int))(b:(List Int))(r:Int)(h:vF N a b=some r):Cn aL 84 [sR aY false a,sR aY false b] [] [sI .i64 r]:=by
 unfold vF at h;refine fn tb en84 Tryz.func84 λX w H ν=>?_;refine cd h (λhc1 h=>?_) (λhc1 h=>?_);refine cd h (λhc2 h=>?_) (λhc2 h=>?_);cases h;exact rt [];cases h;exact rt [];refine jn (λx=>(Sum.inl x)) (λ(_:Unit)=>aX 0 [] []) h (λk f c=>?_) ?_;refine bk ?_;refine lp (λe=>aX 0 [] [vr 0 aY false a,vr 1 aY false b,vi 5 e]) f [] ?_;rintro e oo h d
 rw[Hd]at h
 refine cd h (λg h=>?_) (λg h=>?_);refine bk ?_;refine dr mixed ?_;refine bP h λl h=>?_;refine bP h λm h=>?_;refine dk ?_;refine cd h (λi h=>?_) (λi h=>?_);cases h;cases d _ rfl;replace h:=c;try dsimp only at h
 cases h;exact rt [];refine dr mixed ?_;refine bP h λn h=>?_;refine bP h λo h=>?_;refine dk ?_;refine cd h (λj h=>?_) (λj h=>?_);cases h;cases d _ rfl;replace h:=c;try dsimp only at h
 cases h;exact rt [];cases h;exact bl [];cases h;cases d _ rfl;replace h:=c;try dsimp only at h
 exact bj _ [];intro _ h;try dsimp only at h
 cases h;exact rt []
theorem AT(N:Nat)(a:(List Int))(b:(List Int))(r:(List Int))(h:qK N a b=some r):Cn aL 117 [sR aY false a,sR aY false b] [] [sR aY true r]:=by
 unfold qK at h;refine fn tb en117 Tryz.func117 λX w H ν=>?_;refine jN aY ?_;refine jn (λx=>x) (λg=>aX 1 [.row aY true g] [vo 5 0]) h (λv k l=>?_) ?_;refine bk ?_;refine lp (λ⟨c,e,d⟩=>aX 1 [.row aY true c] [vr 0 aY false a,vr 1 aY false b,vo 5 0,vi 6 e,vi 7 d]) k [0] ?_;rintro⟨c,e,d⟩ oo h m
 rw[Io]at h
 refine jn (λx=>x) (λi=>aX 1 [.row aY true c] [vr 0 aY false a,vr 1 aY false b,vo 5 0,vi 6 e,vi 7 d,vb 22 i]) h (λy h a0=>?_) ?_;refine rg ?_;refine gd h (λn h=>?_) (λn h=>?_);cases h;exact bj _ [0];refine gd h (λo h=>?_) (λo h=>?_);cases h;exact bj _ [0];cases h;exact bj _ [0];intro i h;try dsimp only at h
 refine cd h (λp h=>?_) (λp h=>?_);refine bk ?_;refine jn (λx=>x) (λj=>aX 1 [.row aY true c] [vr 0 aY false a,vr 1 aY false b,vo 5 0,vi 6 j,vi 7 d]) h (λa1 h a2=>?_) ?_;refine cd h (λs h=>?_) (λs h=>?_);refine bP h λa3 h=>?_;cases h;exact bj _ [0];cases h;exact bj _ [0];intro j h;try dsimp only at h
 refine jn (λx=>x) (λf=>aX 1 [.row aY true c] [vr 0 aY false a,vr 1 aY false b,vo 5 0,vi 6 f,vi 7 d]) h (λa4 h a5=>?_) ?_;refine cd h (λu h=>?_) (λu h=>?_);refine bP h λa6 h=>?_;cases h;exact bj _ [0];cases h;exact bj _ [0];intro f h;try dsimp only at h
 refine reL ?_;refine dA aY true [(Int.tmod f 65536)] ?_;refine ei true h λa7 h=>?_;refine wN ?_;cases h;exact bl [2];cases h;cases m _ rfl;replace h:=l;try dsimp only at h
 exact bj _ [0];intro g h;try dsimp only at h
 refine po (jG 0 [5,52] []) ?_;refine cl (some true) [] 0 h (vD N _) λa8 h=>?_;cases h;exact rt []
theorem F2(N:Nat)(a:(List Int))(b:(List Int))(r:(List Int))(h:uE N a b=some r):Cn aL 118 [sR aY false a,sR aY false b] [] [sR aY true r]:=by
 unfold uE at h;refine fn tb en118 Tryz.func118 λX w H ν=>?_;refine jN aY ?_;refine jn (λx=>x) (λf=>aX 1 [.row aY true f] [vo 5 0]) h (λs k l=>?_) ?_;refine bk ?_;refine lp (λ⟨c,g,d⟩=>aX 1 [.row aY true c] [vr 0 aY false a,vr 1 aY false b,vo 5 0,vi 6 g,vi 7 d]) k [0] ?_;rintro⟨c,g,d⟩ oo h m
 rw[Fy]at h
 refine cd h (λn h=>?_) (λn h=>?_);refine bk ?_;refine bP h λu h=>?_;refine jn (λx=>x) (λi=>aX 1 [.row aY true c] [vr 0 aY false a,vr 1 aY false b,vo 5 0,vi 7 d,vi 8 i]) h (λv h y=>?_) ?_;refine cd h (λo h=>?_) (λo h=>?_);refine bP h λa0 h=>?_;cases h;exact bj _ [0];cases h;exact bj _ [0];intro i h;try dsimp only at h
 refine jn (λx=>x) (λ⟨j,e⟩=>aX 1 [.row aY true c] [vr 0 aY false a,vr 1 aY false b,vo 5 0,vi 6 j,vi 7 d,vi 8 e]) h (λa1 h a2=>?_) ?_;refine cd h (λp h=>?_) (λp h=>?_);cases h;exact bj _ [0];cases h;exact bj _ [0];rintro⟨j,e⟩ h;try dsimp only at h
 refine dA aY true [e] ?_;refine ei true h λa3 h=>?_;cases h;exact bl [2];cases h;cases m _ rfl;replace h:=l;try dsimp only at h
 exact bj _ [0];intro f h;try dsimp only at h
 refine po (jG 0 [5,40] []) ?_;refine cl (some true) [] 0 h (vD N _) λa4 h=>?_;cases h;exact rt []
theorem lQ(N:Nat)(x:aC)(r:Int)(h:jP N x=some r):Cn aL 57 [sA aE false x] [] [sI .i64 r]:=by
 unfold jP at h;refine fn tb en57 Tryz.func57 λX w H ν=>?_;refine cl none [] 0 h (pW N _) λr6 h=>?_;refine cd h (λa h=>?_) (λa h=>?_);cases h;exact rt [];refine cd h (λb h=>?_) (λb h=>?_);cases h;exact rt [];cases h;exact rt []
theorem Bc(N:Nat)(x:aC)(r:aC)(h:sa N x=some r):Cn aL 98 [sA aE false x] [] [sA aE true r]:=by
 unfold sa at h;refine fn tb en98 Tryz.func98 λX w H ν=>?_;refine dr mixed ?_;refine cl none [] 0 h (pW N _) λa h=>?_;refine cl none [] 0 h (qE N _ _) λb h=>?_;refine dk ?_;cases h;exact rt []
theorem yO(N:Nat)(a:aC)(b:aC)(r:aC)(h:p9 N a b=some r):Cn aL 87 [sA aE false a,sA aE false b] [] [sA aE true r]:=by
 unfold p9 at h;refine fn tb en87 Tryz.func87 λX w H ν=>?_;refine dr mixed ?_;refine cl none [] 0 h (pW N _) λe h=>?_;refine cl none [] 0 h (pW N _) λf h=>?_;refine dk ?_;refine cd h (λc h=>?_) (λc h=>?_);refine dr mixed ?_;refine cl none [] 0 h (AT N _ _) λg h=>?_;refine cl none [] 0 h (qE N _ _) λi h=>?_;refine dk ?_;cases h;exact rt [];refine cl none [] 0 h (LL N _ _) λj h=>?_;refine cd h (λd h=>?_) (λd h=>?_);refine dr mixed ?_;refine cl none [] 0 h (F2 N _ _) λk h=>?_;refine cl none [] 0 h (qE N _ _) λl h=>?_;refine dk ?_;cases h;exact rt [];refine dr mixed ?_;refine cl none [] 0 h (F2 N _ _) λm h=>?_;refine cl none [] 0 h (qE N _ _) λn h=>?_;refine dk ?_;cases h;exact rt []
theorem CX(N:Nat)(a:aC)(b:aC)(r:aC)(h:qB N a b=some r):Cn aL 69 [sA aE false a,sA aE false b] [] [sA aE true r]:=by
 unfold qB at h;refine fn tb en69 Tryz.func69 λX w H ν=>?_;refine dr mixed ?_;refine cl none [] 0 h (Bc N _) λc h=>?_;refine cl none [] 0 h (yO N _ _) λd h=>?_;refine dk ?_;cases h;exact rt []
theorem Xa(N:Nat)(a:(List Int))(d:Int)(r:(List Int))(h:yA N a d=some r):Cn aL 119 [sR aY false a,sI .i64 d] [] [sR aY true r]:=by
 unfold yA at h;refine fn tb en119 Tryz.func119 λX w H ν=>?_;refine jN aY ?_;refine jn (λx=>x) (λg=>aX 1 [.row aY true g] [vo 5 0]) h (λp j k=>?_) ?_;refine bk ?_;refine lp (λ⟨b,e,c⟩=>aX 1 [.row aY true b] [vr 0 aY false a,vi 1 d,vo 5 0,vi 6 e,vi 7 c]) j [0] ?_;rintro⟨b,e,c⟩ oo h l
 rw[FM]at h
 refine jn (λx=>x) (λi=>aX 1 [.row aY true b] [vr 0 aY false a,vi 1 d,vo 5 0,vi 6 e,vi 7 c,vb 16 i]) h (λs h u=>?_) ?_;refine rg ?_;refine gd h (λm h=>?_) (λm h=>?_);cases h;exact bj _ [0];cases h;exact bj _ [0];intro i h;try dsimp only at h
 refine cd h (λn h=>?_) (λn h=>?_);refine bk ?_;refine jn (λx=>x) (λf=>aX 1 [.row aY true b] [vr 0 aY false a,vi 1 d,vo 5 0,vi 6 f,vi 7 c]) h (λv h y=>?_) ?_;refine cd h (λo h=>?_) (λo h=>?_);refine bP h λa0 h=>?_;cases h;exact bj _ [0];cases h;exact bj _ [0];intro f h;try dsimp only at h
 refine reL ?_;refine dA aY true [(Int.tmod f 65536)] ?_;refine ei true h λa1 h=>?_;refine wN ?_;cases h;exact bl [2];cases h;cases l _ rfl;replace h:=k;try dsimp only at h
 exact bj _ [0];intro g h;try dsimp only at h
 refine po (jG 0 [5,38] []) ?_;refine cl (some true) [] 0 h (vD N _) λa2 h=>?_;cases h;exact rt []
theorem zh(N:Nat)(a:aC)(b:aC)(r:aC)(h:oU N a b=some r):Cn aL 88 [sA aE false a,sA aE false b] [] [sA aE true r]:=by
 unfold oU at h;refine fn tb en88 Tryz.func88 λX w H ν=>?_;refine dr mixed ?_;refine cl none [] 0 h (pW N _) λf h=>?_;refine cl none [] 0 h (pW N _) λg h=>?_;refine dk ?_;refine jN aY ?_;refine jn (λx=>x) (λc=>aX 3 [.box (aO.cl aE false a),.box (aO.cl aE false b),.box [(lB false),lN]] [vp 2 0,vp 3 1,vp 4 2,vr 7 aY true c]) h (λm i j=>?_) ?_;refine bk ?_;refine lp (λ⟨d,e⟩=>aX 3 [.box (aO.cl aE false a),.box (aO.cl aE false b),.box [(lB false),lN]] [vp 2 0,vp 3 1,vp 4 2,vr 5 aY true f,vr 6 aY true g,vr 7 aY true d,vi 8 e]) i [0,1,2] ?_;rintro⟨d,e⟩ oo h k
 rw[F8]at h
 refine cd h (λl h=>?_) (λl h=>?_);refine bk ?_;refine dr mixed ?_;refine dA aY true [0] ?_;refine ei true h λn h=>?_;refine bP h λo h=>?_;refine cl none [] 0 h (Xa N _ _) λp h=>?_;refine cl none [] 0 h (AT N _ _) λs h=>?_;refine dk ?_;cases h;exact bl [0,1,2];cases h;cases k _ rfl;replace h:=j;try dsimp only at h
 exact bj _ [0,1,2];intro c h;try dsimp only at h
 refine cl none [] 0 h (qE N _ _) λu h=>?_;cases h;exact rt []
theorem UZ(N:Nat)(a:(List Int))(b:(List Int))(r:((List Int)×(List Int)))(h:yH N a b=some r):Cn aL 97 [sR aY false a,sR aY false b] [] [sR aY true r.1,sR aY true r.2]:=by
 unfold yH at h;refine fn tb en97 Tryz.func97 λX w H ν=>?_;refine gM aY h λx2 h=>?_;refine jN aY ?_;refine jn (λx=>x) (λ⟨f,g⟩=>aX 1 [.row aY true f] [vo 6 0,vr 7 aY true g]) h (λa4 o p=>?_) ?_;refine bk ?_;refine lp (λ⟨i,j,c⟩=>aX 1 [.row aY true i] [vr 0 aY false a,vr 1 aY false b,vo 6 0,vr 7 aY true j,vi 8 c]) o [0] ?_;rintro⟨i,j,c⟩ oo h s
 rw[FL]at h
 refine cd h (λu h=>?_) (λu h=>?_);refine bk ?_;refine jn (λx=>x) (λ⟨k,l⟩=>aX 1 [.row aY true k] [vr 0 aY false a,vr 1 aY false b,vo 6 0,vr 7 aY true l,vi 8 c]) h (λa5 v y=>?_) ?_;refine bk ?_;refine lp (λ⟨d,m,e⟩=>aX 1 [.row aY true d] [vr 0 aY false a,vr 1 aY false b,vo 6 0,vr 7 aY true m,vi 8 c,vi 9 e]) v [0] ?_;rintro⟨d,m,e⟩ oo h a0
 rw[BP]at h
 refine cd h (λa1 h=>?_) (λa1 h=>?_);refine bk ?_;refine cl none [] 0 h (AT N _ _) λa6 h=>?_;refine bP h λa7 h=>?_;refine quB h λa8 h=>?_;refine reL ?_;refine jn (λx=>x) (λn=>aX 1 [.row aY true d] [vr 0 aY false a,vr 1 aY false b,vo 6 0,vr 7 aY true n,vi 8 c,vi 9 e]) h (λa9 h aa=>?_) ?_;refine cd h (λa2 h=>?_) (λa2 h=>?_);refine dA aY true [1] ?_;refine cl none [] 0 h (AT N _ _) λab h=>?_;cases h;exact bj _ [0];cases h;exact bj _ [0];intro n h;try dsimp only at h
 refine cl none [] 0 h (LL N _ _) λac h=>?_;refine cd h (λa3 h=>?_) (λa3 h=>?_);refine cl none [] 0 h (F2 N _ _) λad h=>?_;refine cC h λae h=>?_;refine du ?_;refine cC h λaf h=>?_;refine ej true h λag h=>?_;refine wN ?_;cases h;exact bl [0];refine wN ?_;cases h;exact bl [0];cases h;cases a0 _ rfl;replace h:=y;try dsimp only at h
 exact bj _ [0];rintro⟨k,l⟩ h;try dsimp only at h
 cases h;exact bl [0];cases h;cases s _ rfl;replace h:=p;try dsimp only at h
 exact bj _ [0];rintro⟨f,g⟩ h;try dsimp only at h
 refine po (jG 0 [6,53] []) ?_;refine cl (some true) [] 0 h (vD N _) λah h=>?_;cases h;exact rt []
theorem oP(N:Nat)(n:Int)(r:aC)(h:lX N n=some r):Cn aL 18 [sI .i64 n] [] [sA aE true r]:=by
 unfold lX at h;refine fn tb en18 Tryz.func18 λX w H ν=>?_;refine jn (λx=>x) (λu8=>aX 1 [.box [(lB false),lN]] [vi 0 n,vp 2 0,vk 3 .u64 u8]) h (λs9 h j=>?_) ?_;refine cd h (λd h=>?_) (λd h=>?_);cases h;exact bj _ [0];cases h;exact bj _ [0];intro u8 h;try dsimp only at h
 refine jN aY ?_;refine jn (λx=>x) (λb=>aX 2 [.box [(lB false),lN],.row aY true b] [vi 0 n,vp 2 0,vo 4 1]) h (λk e f=>?_) ?_;refine bk ?_;refine lp (λ⟨a,c⟩=>aX 2 [.box [(lB false),lN],.row aY true c] [vi 0 n,vp 2 0,vk 3 .u64 a,vo 4 1]) e [0,1] ?_;rintro⟨a,c⟩ oo h g
 rw[F3]at h
 refine cd h (λi h=>?_) (λi h=>?_);refine bk ?_;refine reL ?_;refine dA aY true [(iw (Int.tmod a 65536))] ?_;refine ei true h λl h=>?_;refine wN ?_;cases h;exact bl [0,3];cases h;cases g _ rfl;replace h:=f;try dsimp only at h
 exact bj _ [0,1];intro b h;try dsimp only at h
 refine cl none [] 0 h (qE N _ _) λm h=>?_;cases h;exact rt []
theorem HQ(N:Nat)(a:aC)(b:aC)(r:(aC×aC×Bool))(h:uh N a b=some r):Cn aL 68 [sA aE false a,sA aE false b] [] [sA aE true r.1,sA aE true r.2.1,sB r.2.2]:=by
 unfold uh at h;refine fn tb en68 Tryz.func68 λX w H ν=>?_;refine cl none [] 0 h (lQ N _) λl h=>?_;refine cd h (λf h=>?_) (λf h=>?_);cases h;exact rt [];refine dr mixed ?_;refine cl none [] 0 h (pW N _) λm h=>?_;refine cl none [] 0 h (pW N _) λn h=>?_;refine cl none [] 0 h (UZ N _ _) λo h=>?_;refine dk ?_;refine cl none [] 0 h (qE N _ _) λg h=>?_;refine cl none [] 0 h (qE N _ _) λi h=>?_;refine jn (λx=>x) (λc=>aX 5 [.box (aO.cl aE false b),.box [(lB false),lN],.box [(lB false),lN],.box (aO.cl aE true g),.box (aO.cl aE true i)] [vp 3 0,vp 4 1,vp 5 2,vp 9 3,vp 10 4,vb 44 c]) h (λp h s=>?_) ?_;refine dr mixed ?_;refine cl none [] 0 h (lQ N _) λu h=>?_;refine gd h (λj h=>?_) (λj h=>?_);refine cl none [] 0 h (lQ N _) λv h=>?_;refine cl none [] 0 h (lQ N _) λy h=>?_;refine dk ?_;cases h;exact bj _ [1,2,3,4,5];refine dk ?_;cases h;exact bj _ [1,2,3,4,5];intro c h;try dsimp only at h
 refine jn (λx=>x) (λ⟨d,e⟩=>aX 4 [.box [(lB false),lN],.box [(lB false),lN],.box (aO.cl aE true d),.box (aO.cl aE true e)] [vp 4 0,vp 5 1,vp 9 2,vp 10 3]) h (λa0 h a1=>?_) ?_;refine cd h (λk h=>?_) (λk h=>?_);refine dr mixed ?_;refine cl none [] 0 h (oP N _) λa2 h=>?_;refine cl none [] 0 h (CX N _ _) λa3 h=>?_;refine cl none [] 0 h (yO N _ _) λa4 h=>?_;refine dk ?_;cases h;exact bj _ [1,2,3,4];cases h;exact bj _ [1,2,3,4];rintro⟨d,e⟩ h;try dsimp only at h
 refine dr mixed ?_;refine dk ?_;cases h;exact rt []
theorem GR(N:Nat)(a:aC)(b:aC)(r:Bool)(h:xJ N a b=some r):Cn aL 17 [sA aE false a,sA aE false b] [] [sB r]:=by
 unfold xJ at h;refine fn tb en17 Tryz.func17 λX w H ν=>?_;refine jn (λx=>x) (λc=>aX 2 [.box (aO.cl aE false a),.box (aO.cl aE false b)] [vp 2 0,vp 3 1,vb 19 c]) h (λm h n=>?_) ?_;refine rg ?_;refine gd h (λg h=>?_) (λg h=>?_);cases h;exact bj _ [0,1];cases h;exact bj _ [0,1];intro c h;try dsimp only at h
 refine cd h (λi h=>?_) (λi h=>?_);cases h;exact rt [];refine jn (λx=>(Sum.inl x)) (λ(_:Unit)=>aX 0 [] []) h (λo j d=>?_) ?_;refine bk ?_;refine lp (λe=>aX 2 [.box (aO.cl aE false a),.box (aO.cl aE false b)] [vp 2 0,vp 3 1,vi 5 e]) j [0,1] ?_;rintro e oo h f
 rw[K3]at h
 refine cd h (λk h=>?_) (λk h=>?_);refine bk ?_;refine dr mixed ?_;refine bP h λp h=>?_;refine bP h λs h=>?_;refine dk ?_;refine cd h (λl h=>?_) (λl h=>?_);cases h;cases f _ rfl;replace h:=d;try dsimp only at h
 cases h;exact rt [];cases h;exact bl [0,1];cases h;cases f _ rfl;replace h:=d;try dsimp only at h
 exact bj _ [];intro _ h;try dsimp only at h
 cases h;exact rt []
end Go.Proofs.YtipdkfmhfakbnaaGreatDoor.SR

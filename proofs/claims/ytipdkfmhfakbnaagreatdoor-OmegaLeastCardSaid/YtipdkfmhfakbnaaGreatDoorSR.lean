/- Walks of the symbolic machine, written by a program of mine (wip/tool). -/
import Derived.Test.YtipdkfmhfakbnaaGreatDoorTB
import Derived.Test.YtipdkfmhfakbnaaGreatDoorAg
import Derived.Test.YtipdkfmhfakbnaaGreatDoorAd
set_option linter.unusedVariables false
set_option linter.unusedSimpArgs false
set_option linter.unusedSectionVars false
set_option maxRecDepth 100000
set_option maxHeartbeats 4000000
namespace Go.Proofs.YtipdkfmhfakbnaaGreatDoor.SR
open Go Go.RowKit Go.X Go.Q Go.D Go.Proofs.YtipdkfmhfakbnaaGreatDoor.TB Go.Proofs.YtipdkfmhfakbnaaGreatDoor.FS 
theorem vA(N:Nat)(l:(List Int))(r:(List Int))(h:oW N l=some r):Cn Tryz.prog 83 [sR (aF .i64) false l] [] [sR (aF .i64) false r]:=by
 unfold oW at h;refine fn tb en83 Tryz.func83 λX w H ν=>?_;refine jn (λx=>x) (λb=>aZ 0 [] [vr 0 (aF .i64) false b]) h (λj d e=>?_) ?_;refine bk ?_;refine lp (λa=>aZ 0 [] [vr 0 (aF .i64) false a]) d [] ?_;rintro a oo h f
 rw[Ep]at h
 refine jn (λx=>x) (λc=>aZ 0 [] [vr 0 (aF .i64) false a,vb 14 c]) h (λk h m=>?_) ?_;refine rg ?_;refine gd h (λg h=>?_) (λg h=>?_);refine bR h λn h=>?_;cases h;exact bj _ [];cases h;exact bj _ [];intro c h;try dsimp only at h
 refine cd h (λi h=>?_) (λi h=>?_);refine bk ?_;refine zV h λo h=>?_;cases h;exact bl [];cases h;cases f _ rfl;replace h:=e;try dsimp only at h
 exact bj _ [];intro b h;try dsimp only at h
 cases h;exact rt []
theorem mJ(N:Nat)(x:aC)(r:(List Int))(h:kd N x=some r):Cn Tryz.prog 51 [sA aD false x] [] [sR (aF .i64) true r]:=by
 unfold kd at h;refine fn tb en51 Tryz.func51 λX w H ν=>?_;refine jI (aF .i64) ?_;refine jn (λx=>x) (λa=>aZ 1 [.row (aF .i64) true a] [vo 3 0]) h (λk d e=>?_) ?_;refine bk ?_;refine lp (λ⟨b,c⟩=>aZ 2 [.box (aM.cl aD false x),.row (aF .i64) true b] [vp 1 0,vo 3 1,vi 4 c]) d [0,1] ?_;rintro⟨b,c⟩ oo h f
 rw[D1]at h
 refine cd h (λg h=>?_) (λg h=>?_);refine bk ?_;refine dr mixed ?_;refine bR h λi h=>?_;refine reL ?_;refine bR h λj h=>?_;refine um ?_;refine dp (aF .i64) true [(iw (Int.tmod i 65536)),(iw (eu (Int.tdiv j 65536)))] ?_;refine ei true h λl h=>?_;refine dk ?_;cases h;exact bl [0,3];cases h;cases f _ rfl;replace h:=e;try dsimp only at h
 exact bj _ [1];intro a h;try dsimp only at h
 refine po (jR 0 [3,30] []) ?_;refine cl (some true) [] 0 h (vA N _) λm h=>?_;cases h;exact rt []
theorem pW(N:Nat)(negative:Bool)(l:(List Int))(r:aC)(h:lT N negative l=some r):Cn Tryz.prog 49 [sB negative,sR (aF .i64) false l] [] [sA aD true r]:=by
 unfold lT at h;refine fn tb en49 Tryz.func49 λX w H ν=>?_;refine cl (some false) [] 0 h (vA N _) λr6 h=>?_;refine jn (λx=>x) (λa=>aZ 2 [.box [(lB false),lN],.box [(lB a),lN]] [vr 1 (aF .i64) false r6,vp 4 0,vp 5 1]) h (λn h o=>?_) ?_;refine rg ?_;refine gd h (λf h=>?_) (λf h=>?_);cases h;exact bj _ [0,1];cases h;exact bj _ [0,1];intro a h;try dsimp only at h
 refine jn (λx=>x) (λe=>aZ 3 [.box [(lB false),lN],.box [(lB a),(.own 2)],.row (aF .u32) true e] [vp 4 0,vp 5 1]) h (λp g i=>?_) ?_;refine bk ?_;refine ps (nb 1 1 (aF .u32)) ?_;refine lp (λ⟨b,c⟩=>aZ 3 [.box [(lB false),lN],.box [(lB a),(.own 2)],.row (aF .u32) true b] [vr 1 (aF .i64) false r6,vp 4 0,vp 5 1,vi 6 c]) g [0,1,2] ?_;rintro⟨b,c⟩ oo h j
 rw[EO]at h
 refine cd h (λk h=>?_) (λk h=>?_);refine bk ?_;refine bR h λs h=>?_;refine jn (λx=>x) (λd=>aZ 3 [.box [(lB false),lN],.box [(lB a),(.own 2)],.row (aF .u32) true b] [vr 1 (aF .i64) false r6,vp 4 0,vp 5 1,vi 6 c,vk 7 .u32 d]) h (λu h v=>?_) ?_;refine cd h (λm h=>?_) (λm h=>?_);refine bR h λy h=>?_;cases h;exact bj _ [0,1,2];cases h;exact bj _ [0,1,2];intro d h;try dsimp only at h
 refine dp (aF .u32) true [d] ?_;refine ei true h λa0 h=>?_;cases h;exact bl [0,1,4];cases h;cases j _ rfl;replace h:=i;try dsimp only at h
 exact bj _ [0,1,2];intro e h;try dsimp only at h
 cases h;exact rt []
theorem Sh(N:Nat)(x:aC)(r:aC)(h:yb N x=some r):Cn Tryz.prog 129 [sA aD false x] [] [sA aD true r]:=by
 unfold yb at h;refine fn tb en129 Tryz.func129 λX w H ν=>?_;refine dr mixed ?_;refine cl none [] 0 h (mJ N _) λa h=>?_;refine cl none [] 0 h (pW N _ _) λb h=>?_;refine dk ?_;cases h;exact rt []
theorem Dy(N:Nat)(a:(List Int))(b:(List Int))(r:Int)(h:rX N a b=some r):Cn Tryz.prog 84 [sR (aF .i64) false a,sR (aF .i64) false b] [] [sI .i64 r]:=by
 unfold rX at h;refine fn tb en84 Tryz.func84 λX w H ν=>?_;refine cd h (λhc1 h=>?_) (λhc1 h=>?_);refine cd h (λhc2 h=>?_) (λhc2 h=>?_);cases h;exact rt [];cases h;exact rt [];refine jn (λx=>(Sum.inl x)) (λ(_:Unit)=>aZ 0 [] []) h (λk f c=>?_) ?_;refine bk ?_;refine lp (λe=>aZ 0 [] [vr 0 (aF .i64) false a,vr 1 (aF .i64) false b,vi 5 e]) f [] ?_;rintro e oo h d
 rw[EX]at h
 refine cd h (λg h=>?_) (λg h=>?_);refine bk ?_;refine dr mixed ?_;refine bR h λl h=>?_;refine bR h λm h=>?_;refine dk ?_;refine cd h (λi h=>?_) (λi h=>?_);cases h;cases d _ rfl;replace h:=c;try dsimp only at h
 cases h;exact rt [];refine dr mixed ?_;refine bR h λn h=>?_;refine bR h λo h=>?_;refine dk ?_;refine cd h (λj h=>?_) (λj h=>?_);cases h;cases d _ rfl;replace h:=c;try dsimp only at h
 cases h;exact rt [];cases h;exact bl [];cases h;cases d _ rfl;replace h:=c;try dsimp only at h
 exact bj _ [];intro _ h;try dsimp only at h
 cases h;exact rt []
theorem B9(N:Nat)(a:(List Int))(b:(List Int))(r:(List Int))(h:pC N a b=some r):Cn Tryz.prog 117 [sR (aF .i64) false a,sR (aF .i64) false b] [] [sR (aF .i64) true r]:=by
 unfold pC at h;refine fn tb en117 Tryz.func117 λX w H ν=>?_;refine jI (aF .i64) ?_;refine jn (λx=>x) (λg=>aZ 1 [.row (aF .i64) true g] [vo 5 0]) h (λv k l=>?_) ?_;refine bk ?_;refine lp (λ⟨c,e,d⟩=>aZ 1 [.row (aF .i64) true c] [vr 0 (aF .i64) false a,vr 1 (aF .i64) false b,vo 5 0,vi 6 e,vi 7 d]) k [0] ?_;rintro⟨c,e,d⟩ oo h m
 rw[E8]at h
 refine jn (λx=>x) (λi=>aZ 1 [.row (aF .i64) true c] [vr 0 (aF .i64) false a,vr 1 (aF .i64) false b,vo 5 0,vi 6 e,vi 7 d,vb 22 i]) h (λy h a0=>?_) ?_;refine rg ?_;refine gd h (λn h=>?_) (λn h=>?_);cases h;exact bj _ [0];refine gd h (λo h=>?_) (λo h=>?_);cases h;exact bj _ [0];cases h;exact bj _ [0];intro i h;try dsimp only at h
 refine cd h (λp h=>?_) (λp h=>?_);refine bk ?_;refine jn (λx=>x) (λj=>aZ 1 [.row (aF .i64) true c] [vr 0 (aF .i64) false a,vr 1 (aF .i64) false b,vo 5 0,vi 6 j,vi 7 d]) h (λa1 h a2=>?_) ?_;refine cd h (λs h=>?_) (λs h=>?_);refine bR h λa3 h=>?_;cases h;exact bj _ [0];cases h;exact bj _ [0];intro j h;try dsimp only at h
 refine jn (λx=>x) (λf=>aZ 1 [.row (aF .i64) true c] [vr 0 (aF .i64) false a,vr 1 (aF .i64) false b,vo 5 0,vi 6 f,vi 7 d]) h (λa4 h a5=>?_) ?_;refine cd h (λu h=>?_) (λu h=>?_);refine bR h λa6 h=>?_;cases h;exact bj _ [0];cases h;exact bj _ [0];intro f h;try dsimp only at h
 refine reL ?_;refine dp (aF .i64) true [(Int.tmod f 65536)] ?_;refine ei true h λa7 h=>?_;refine um ?_;cases h;exact bl [2];cases h;cases m _ rfl;replace h:=l;try dsimp only at h
 exact bj _ [0];intro g h;try dsimp only at h
 refine po (jR 0 [5,52] []) ?_;refine cl (some true) [] 0 h (vA N _) λa8 h=>?_;cases h;exact rt []
theorem Fq(N:Nat)(a:(List Int))(b:(List Int))(r:(List Int))(h:sq N a b=some r):Cn Tryz.prog 118 [sR (aF .i64) false a,sR (aF .i64) false b] [] [sR (aF .i64) true r]:=by
 unfold sq at h;refine fn tb en118 Tryz.func118 λX w H ν=>?_;refine jI (aF .i64) ?_;refine jn (λx=>x) (λf=>aZ 1 [.row (aF .i64) true f] [vo 5 0]) h (λs k l=>?_) ?_;refine bk ?_;refine lp (λ⟨c,g,d⟩=>aZ 1 [.row (aF .i64) true c] [vr 0 (aF .i64) false a,vr 1 (aF .i64) false b,vo 5 0,vi 6 g,vi 7 d]) k [0] ?_;rintro⟨c,g,d⟩ oo h m
 rw[DK]at h
 refine cd h (λn h=>?_) (λn h=>?_);refine bk ?_;refine bR h λu h=>?_;refine jn (λx=>x) (λi=>aZ 1 [.row (aF .i64) true c] [vr 0 (aF .i64) false a,vr 1 (aF .i64) false b,vo 5 0,vi 7 d,vi 8 i]) h (λv h y=>?_) ?_;refine cd h (λo h=>?_) (λo h=>?_);refine bR h λa0 h=>?_;cases h;exact bj _ [0];cases h;exact bj _ [0];intro i h;try dsimp only at h
 refine jn (λx=>x) (λ⟨j,e⟩=>aZ 1 [.row (aF .i64) true c] [vr 0 (aF .i64) false a,vr 1 (aF .i64) false b,vo 5 0,vi 6 j,vi 7 d,vi 8 e]) h (λa1 h a2=>?_) ?_;refine cd h (λp h=>?_) (λp h=>?_);cases h;exact bj _ [0];cases h;exact bj _ [0];rintro⟨j,e⟩ h;try dsimp only at h
 refine dp (aF .i64) true [e] ?_;refine ei true h λa3 h=>?_;cases h;exact bl [2];cases h;cases m _ rfl;replace h:=l;try dsimp only at h
 exact bj _ [0];intro f h;try dsimp only at h
 refine po (jR 0 [5,40] []) ?_;refine cl (some true) [] 0 h (vA N _) λa4 h=>?_;cases h;exact rt []
theorem mD(N:Nat)(x:aC)(r:Int)(h:kq N x=some r):Cn Tryz.prog 57 [sA aD false x] [] [sI .i64 r]:=by
 unfold kq at h;refine fn tb en57 Tryz.func57 λX w H ν=>?_;refine cl none [] 0 h (mJ N _) λr6 h=>?_;refine cd h (λa h=>?_) (λa h=>?_);cases h;exact rt [];refine cd h (λb h=>?_) (λb h=>?_);cases h;exact rt [];cases h;exact rt []
theorem MM(N:Nat)(a:aC)(b:aC)(r:Int)(h:ur N a b=some r):Cn Tryz.prog 50 [sA aD false a,sA aD false b] [] [sI .i64 r]:=by
 unfold ur at h;refine fn tb en50 Tryz.func50 λX w H ν=>?_;refine dr mixed ?_;refine cl none [] 0 h (mD N _) λe h=>?_;refine cl none [] 0 h (mD N _) λf h=>?_;refine dk ?_;refine cd h (λc h=>?_) (λc h=>?_);cases h;exact rt [];refine cd h (λd h=>?_) (λd h=>?_);cases h;exact rt [];refine dr mixed ?_;refine cl none [] 0 h (mJ N _) λg h=>?_;refine cl none [] 0 h (mJ N _) λi h=>?_;refine cl none [] 0 h (Dy N _ _) λj h=>?_;refine dk ?_;cases h;exact rt []
theorem zZ(N:Nat)(x:aC)(r:aC)(h:rj N x=some r):Cn Tryz.prog 98 [sA aD false x] [] [sA aD true r]:=by
 unfold rj at h;refine fn tb en98 Tryz.func98 λX w H ν=>?_;refine dr mixed ?_;refine cl none [] 0 h (mJ N _) λa h=>?_;refine cl none [] 0 h (pW N _ _) λb h=>?_;refine dk ?_;cases h;exact rt []
theorem yr(N:Nat)(a:aC)(b:aC)(r:aC)(h:pR N a b=some r):Cn Tryz.prog 87 [sA aD false a,sA aD false b] [] [sA aD true r]:=by
 unfold pR at h;refine fn tb en87 Tryz.func87 λX w H ν=>?_;refine dr mixed ?_;refine cl none [] 0 h (mJ N _) λe h=>?_;refine cl none [] 0 h (mJ N _) λf h=>?_;refine dk ?_;refine cd h (λc h=>?_) (λc h=>?_);refine dr mixed ?_;refine cl none [] 0 h (B9 N _ _) λg h=>?_;refine cl none [] 0 h (pW N _ _) λi h=>?_;refine dk ?_;cases h;exact rt [];refine cl none [] 0 h (Dy N _ _) λj h=>?_;refine cd h (λd h=>?_) (λd h=>?_);refine dr mixed ?_;refine cl none [] 0 h (Fq N _ _) λk h=>?_;refine cl none [] 0 h (pW N _ _) λl h=>?_;refine dk ?_;cases h;exact rt [];refine dr mixed ?_;refine cl none [] 0 h (Fq N _ _) λm h=>?_;refine cl none [] 0 h (pW N _ _) λn h=>?_;refine dk ?_;cases h;exact rt []
theorem KC(N:Nat)(a:aC)(b:aC)(r:aC)(h:uy N a b=some r):Cn Tryz.prog 69 [sA aD false a,sA aD false b] [] [sA aD true r]:=by
 unfold uy at h;refine fn tb en69 Tryz.func69 λX w H ν=>?_;refine dr mixed ?_;refine cl none [] 0 h (zZ N _) λc h=>?_;refine cl none [] 0 h (yr N _ _) λd h=>?_;refine dk ?_;cases h;exact rt []
theorem RW(N:Nat)(a:(List Int))(d:Int)(r:(List Int))(h:yP N a d=some r):Cn Tryz.prog 119 [sR (aF .i64) false a,sI .i64 d] [] [sR (aF .i64) true r]:=by
 unfold yP at h;refine fn tb en119 Tryz.func119 λX w H ν=>?_;refine jI (aF .i64) ?_;refine jn (λx=>x) (λg=>aZ 1 [.row (aF .i64) true g] [vo 5 0]) h (λp j k=>?_) ?_;refine bk ?_;refine lp (λ⟨b,e,c⟩=>aZ 1 [.row (aF .i64) true b] [vr 0 (aF .i64) false a,vi 1 d,vo 5 0,vi 6 e,vi 7 c]) j [0] ?_;rintro⟨b,e,c⟩ oo h l
 rw[GY]at h
 refine jn (λx=>x) (λi=>aZ 1 [.row (aF .i64) true b] [vr 0 (aF .i64) false a,vi 1 d,vo 5 0,vi 6 e,vi 7 c,vb 16 i]) h (λs h u=>?_) ?_;refine rg ?_;refine gd h (λm h=>?_) (λm h=>?_);cases h;exact bj _ [0];cases h;exact bj _ [0];intro i h;try dsimp only at h
 refine cd h (λn h=>?_) (λn h=>?_);refine bk ?_;refine jn (λx=>x) (λf=>aZ 1 [.row (aF .i64) true b] [vr 0 (aF .i64) false a,vi 1 d,vo 5 0,vi 6 f,vi 7 c]) h (λv h y=>?_) ?_;refine cd h (λo h=>?_) (λo h=>?_);refine bR h λa0 h=>?_;cases h;exact bj _ [0];cases h;exact bj _ [0];intro f h;try dsimp only at h
 refine reL ?_;refine dp (aF .i64) true [(Int.tmod f 65536)] ?_;refine ei true h λa1 h=>?_;refine um ?_;cases h;exact bl [2];cases h;cases l _ rfl;replace h:=k;try dsimp only at h
 exact bj _ [0];intro g h;try dsimp only at h
 refine po (jR 0 [5,38] []) ?_;refine cl (some true) [] 0 h (vA N _) λa2 h=>?_;cases h;exact rt []
theorem Et(N:Nat)(a:aC)(b:aC)(r:aC)(h:sJ N a b=some r):Cn Tryz.prog 88 [sA aD false a,sA aD false b] [] [sA aD true r]:=by
 unfold sJ at h;refine fn tb en88 Tryz.func88 λX w H ν=>?_;refine dr mixed ?_;refine cl none [] 0 h (mJ N _) λf h=>?_;refine cl none [] 0 h (mJ N _) λg h=>?_;refine dk ?_;refine jI (aF .i64) ?_;refine jn (λx=>x) (λc=>aZ 3 [.box (aM.cl aD false a),.box (aM.cl aD false b),.box [(lB false),lN]] [vp 2 0,vp 3 1,vp 4 2,vr 7 (aF .i64) true c]) h (λm i j=>?_) ?_;refine bk ?_;refine lp (λ⟨d,e⟩=>aZ 3 [.box (aM.cl aD false a),.box (aM.cl aD false b),.box [(lB false),lN]] [vp 2 0,vp 3 1,vp 4 2,vr 5 (aF .i64) true f,vr 6 (aF .i64) true g,vr 7 (aF .i64) true d,vi 8 e]) i [0,1,2] ?_;rintro⟨d,e⟩ oo h k
 rw[Ez]at h
 refine cd h (λl h=>?_) (λl h=>?_);refine bk ?_;refine dr mixed ?_;refine dp (aF .i64) true [0] ?_;refine ei true h λn h=>?_;refine bR h λo h=>?_;refine cl none [] 0 h (RW N _ _) λp h=>?_;refine cl none [] 0 h (B9 N _ _) λs h=>?_;refine dk ?_;cases h;exact bl [0,1,2];cases h;cases k _ rfl;replace h:=j;try dsimp only at h
 exact bj _ [0,1,2];intro c h;try dsimp only at h
 refine cl none [] 0 h (pW N _ _) λu h=>?_;cases h;exact rt []
theorem OV(N:Nat)(a:(List Int))(b:(List Int))(r:((List Int)×(List Int)))(h:yK N a b=some r):Cn Tryz.prog 97 [sR (aF .i64) false a,sR (aF .i64) false b] [] [sR (aF .i64) true r.1,sR (aF .i64) true r.2]:=by
 unfold yK at h;refine fn tb en97 Tryz.func97 λX w H ν=>?_;refine ie (aF .i64) h λx2 h=>?_;refine jI (aF .i64) ?_;refine jn (λx=>x) (λ⟨f,g⟩=>aZ 1 [.row (aF .i64) true f] [vo 6 0,vr 7 (aF .i64) true g]) h (λa4 o p=>?_) ?_;refine bk ?_;refine lp (λ⟨i,j,c⟩=>aZ 1 [.row (aF .i64) true i] [vr 0 (aF .i64) false a,vr 1 (aF .i64) false b,vo 6 0,vr 7 (aF .i64) true j,vi 8 c]) o [0] ?_;rintro⟨i,j,c⟩ oo h s
 rw[Eo]at h
 refine cd h (λu h=>?_) (λu h=>?_);refine bk ?_;refine jn (λx=>x) (λ⟨k,l⟩=>aZ 1 [.row (aF .i64) true k] [vr 0 (aF .i64) false a,vr 1 (aF .i64) false b,vo 6 0,vr 7 (aF .i64) true l,vi 8 c]) h (λa5 v y=>?_) ?_;refine bk ?_;refine lp (λ⟨d,m,e⟩=>aZ 1 [.row (aF .i64) true d] [vr 0 (aF .i64) false a,vr 1 (aF .i64) false b,vo 6 0,vr 7 (aF .i64) true m,vi 8 c,vi 9 e]) v [0] ?_;rintro⟨d,m,e⟩ oo h a0
 rw[zT]at h
 refine cd h (λa1 h=>?_) (λa1 h=>?_);refine bk ?_;refine cl none [] 0 h (B9 N _ _) λa6 h=>?_;refine bR h λa7 h=>?_;refine quB h λa8 h=>?_;refine reL ?_;refine jn (λx=>x) (λn=>aZ 1 [.row (aF .i64) true d] [vr 0 (aF .i64) false a,vr 1 (aF .i64) false b,vo 6 0,vr 7 (aF .i64) true n,vi 8 c,vi 9 e]) h (λa9 h aa=>?_) ?_;refine cd h (λa2 h=>?_) (λa2 h=>?_);refine dp (aF .i64) true [1] ?_;refine cl none [] 0 h (B9 N _ _) λab h=>?_;cases h;exact bj _ [0];cases h;exact bj _ [0];intro n h;try dsimp only at h
 refine cl none [] 0 h (Dy N _ _) λac h=>?_;refine cd h (λa3 h=>?_) (λa3 h=>?_);refine cl none [] 0 h (Fq N _ _) λad h=>?_;refine cK h λae h=>?_;refine dX ?_;refine cK h λaf h=>?_;refine eH true h λag h=>?_;refine um ?_;cases h;exact bl [0];refine um ?_;cases h;exact bl [0];cases h;cases a0 _ rfl;replace h:=y;try dsimp only at h
 exact bj _ [0];rintro⟨k,l⟩ h;try dsimp only at h
 cases h;exact bl [0];cases h;cases s _ rfl;replace h:=p;try dsimp only at h
 exact bj _ [0];rintro⟨f,g⟩ h;try dsimp only at h
 refine po (jR 0 [6,53] []) ?_;refine cl (some true) [] 0 h (vA N _) λah h=>?_;cases h;exact rt []
theorem mH(N:Nat)(n:Int)(r:aC)(h:jX N n=some r):Cn Tryz.prog 18 [sI .i64 n] [] [sA aD true r]:=by
 unfold jX at h;refine fn tb en18 Tryz.func18 λX w H ν=>?_;refine jn (λx=>x) (λu8=>aZ 1 [.box [(lB false),lN]] [vi 0 n,vp 2 0,vk 3 .u64 u8]) h (λs9 h j=>?_) ?_;refine cd h (λd h=>?_) (λd h=>?_);cases h;exact bj _ [0];cases h;exact bj _ [0];intro u8 h;try dsimp only at h
 refine jI (aF .i64) ?_;refine jn (λx=>x) (λb=>aZ 2 [.box [(lB false),lN],.row (aF .i64) true b] [vi 0 n,vp 2 0,vo 4 1]) h (λk e f=>?_) ?_;refine bk ?_;refine lp (λ⟨a,c⟩=>aZ 2 [.box [(lB false),lN],.row (aF .i64) true c] [vi 0 n,vp 2 0,vk 3 .u64 a,vo 4 1]) e [0,1] ?_;rintro⟨a,c⟩ oo h g
 rw[F8]at h
 refine cd h (λi h=>?_) (λi h=>?_);refine bk ?_;refine reL ?_;refine dp (aF .i64) true [(iw (Int.tmod a 65536))] ?_;refine ei true h λl h=>?_;refine um ?_;cases h;exact bl [0,3];cases h;cases g _ rfl;replace h:=f;try dsimp only at h
 exact bj _ [0,1];intro b h;try dsimp only at h
 refine cl none [] 0 h (pW N _ _) λm h=>?_;cases h;exact rt []
theorem I2(N:Nat)(a:aC)(b:aC)(r:(aC×aC×Bool))(h:uK N a b=some r):Cn Tryz.prog 68 [sA aD false a,sA aD false b] [] [sA aD true r.1,sA aD true r.2.1,sB r.2.2]:=by
 unfold uK at h;refine fn tb en68 Tryz.func68 λX w H ν=>?_;refine cl none [] 0 h (mD N _) λl h=>?_;refine cd h (λf h=>?_) (λf h=>?_);cases h;exact rt [];refine dr mixed ?_;refine cl none [] 0 h (mJ N _) λm h=>?_;refine cl none [] 0 h (mJ N _) λn h=>?_;refine cl none [] 0 h (OV N _ _) λo h=>?_;refine dk ?_;refine cl none [] 0 h (pW N _ _) λg h=>?_;refine cl none [] 0 h (pW N _ _) λi h=>?_;refine jn (λx=>x) (λc=>aZ 5 [.box (aM.cl aD false b),.box [(lB false),lN],.box [(lB false),lN],.box (aM.cl aD true g),.box (aM.cl aD true i)] [vp 3 0,vp 4 1,vp 5 2,vp 9 3,vp 10 4,vb 44 c]) h (λp h s=>?_) ?_;refine dr mixed ?_;refine cl none [] 0 h (mD N _) λu h=>?_;refine gd h (λj h=>?_) (λj h=>?_);refine cl none [] 0 h (mD N _) λv h=>?_;refine cl none [] 0 h (mD N _) λy h=>?_;refine dk ?_;cases h;exact bj _ [1,2,3,4,5];refine dk ?_;cases h;exact bj _ [1,2,3,4,5];intro c h;try dsimp only at h
 refine jn (λx=>x) (λ⟨d,e⟩=>aZ 4 [.box [(lB false),lN],.box [(lB false),lN],.box (aM.cl aD true d),.box (aM.cl aD true e)] [vp 4 0,vp 5 1,vp 9 2,vp 10 3]) h (λa0 h a1=>?_) ?_;refine cd h (λk h=>?_) (λk h=>?_);refine dr mixed ?_;refine cl none [] 0 h (mH N _) λa2 h=>?_;refine cl none [] 0 h (KC N _ _) λa3 h=>?_;refine cl none [] 0 h (yr N _ _) λa4 h=>?_;refine dk ?_;cases h;exact bj _ [1,2,3,4];cases h;exact bj _ [1,2,3,4];rintro⟨d,e⟩ h;try dsimp only at h
 refine dr mixed ?_;refine dk ?_;cases h;exact rt []
theorem TK(N:Nat)(x:aC)(r:(Int×Bool))(h:xz N x=some r):Cn Tryz.prog 20 [sA aD false x] [] [sI .i64 r.1,sB r.2]:=by
 unfold xz at h;refine fn tb en20 Tryz.func20 λX w H ν=>?_;refine jn (λx=>x) (λa=>aZ 1 [.box (aM.cl aD false x)] [vp 1 0,vb 16 a]) h (λn h o=>?_) ?_;refine dr mixed ?_;refine cl none [] 0 h (mH N _) λp h=>?_;refine cl none [] 0 h (MM N _ _) λs h=>?_;refine gd h (λe h=>?_) (λe h=>?_);refine dk ?_;cases h;exact bj _ [0];refine cl none [] 0 h (mH N _) λu h=>?_;refine cl none [] 0 h (MM N _ _) λv h=>?_;refine dk ?_;cases h;exact bj _ [0];intro a h;try dsimp only at h
 refine cd h (λf h=>?_) (λf h=>?_);cases h;exact rt [];refine cl none [] 0 h (mJ N _) λg h=>?_;refine jn (λx=>x) (λb=>aZ 0 [] [vi 5 b]) h (λy i j=>?_) ?_;refine bk ?_;refine lp (λ⟨c,d⟩=>aZ 1 [.box (aM.cl aD false x)] [vp 1 0,vr 4 (aF .i64) true g,vi 5 c,vi 6 d]) i [0] ?_;rintro⟨c,d⟩ oo h k
 rw[GR]at h
 refine cd h (λl h=>?_) (λl h=>?_);refine bk ?_;refine cd h (λm h=>?_) (λm h=>?_);refine bR h λa0 h=>?_;cases h;exact bl [0];refine bR h λa1 h=>?_;cases h;exact bl [0];cases h;cases k _ rfl;replace h:=j;try dsimp only at h
 exact bj _ [];intro b h;try dsimp only at h
 cases h;exact rt []
theorem B2(N:Nat)(a:aC)(b:aC)(r:Bool)(h:qh N a b=some r):Cn Tryz.prog 17 [sA aD false a,sA aD false b] [] [sB r]:=by
 unfold qh at h;refine fn tb en17 Tryz.func17 λX w H ν=>?_;refine jn (λx=>x) (λc=>aZ 2 [.box (aM.cl aD false a),.box (aM.cl aD false b)] [vp 2 0,vp 3 1,vb 19 c]) h (λm h n=>?_) ?_;refine rg ?_;refine gd h (λg h=>?_) (λg h=>?_);cases h;exact bj _ [0,1];cases h;exact bj _ [0,1];intro c h;try dsimp only at h
 refine cd h (λi h=>?_) (λi h=>?_);cases h;exact rt [];refine jn (λx=>(Sum.inl x)) (λ(_:Unit)=>aZ 0 [] []) h (λo j d=>?_) ?_;refine bk ?_;refine lp (λe=>aZ 2 [.box (aM.cl aD false a),.box (aM.cl aD false b)] [vp 2 0,vp 3 1,vi 5 e]) j [0,1] ?_;rintro e oo h f
 rw[Dz]at h
 refine cd h (λk h=>?_) (λk h=>?_);refine bk ?_;refine dr mixed ?_;refine bR h λp h=>?_;refine bR h λs h=>?_;refine dk ?_;refine cd h (λl h=>?_) (λl h=>?_);cases h;cases f _ rfl;replace h:=d;try dsimp only at h
 cases h;exact rt [];cases h;exact bl [0,1];cases h;cases f _ rfl;replace h:=d;try dsimp only at h
 exact bj _ [];intro _ h;try dsimp only at h
 cases h;exact rt []
end Go.Proofs.YtipdkfmhfakbnaaGreatDoor.SR

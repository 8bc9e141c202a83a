/- Walks of the symbolic machine, written by a program of mine (wip/tool). -/
import Derived.Test.YtipdkfmhfakbnaaGreatDoorSA
set_option linter.unusedVariables false
set_option linter.unusedSimpArgs false
set_option maxRecDepth 100000
set_option maxHeartbeats 4000000
namespace Go.Proofs.YtipdkfmhfakbnaaGreatDoor.SB
open Go Go.RowKit Go.X Go.Q Go.D Go.Proofs.YtipdkfmhfakbnaaGreatDoor.TB Go.Proofs.YtipdkfmhfakbnaaGreatDoor.FS Go.Proofs.YtipdkfmhfakbnaaGreatDoor.SA
theorem XE(N:Nat)(x:Int)(r:Int)(h:yF N x=some r):Cn aL 147 [sI .u32 x] [] [sI .i64 r]:=by
 unfold yF at h;refine fn tb en147 Tryz.func147 λX w H ν=>?_;refine jn (λx=>x) (λ⟨x2,n3⟩=>aX 0 [] [vk 0 .u32 x2,vi 2 n3]) h (λs4 h g5=>?_) ?_;refine cd h (λhc6 h=>?_) (λhc6 h=>?_);refine ou ?_;cases h;exact bj _ [];cases h;exact bj _ [];rintro⟨x2,n3⟩ h;try dsimp only at h
 refine jn (λx=>x) (λ⟨a,b⟩=>aX 0 [] [vk 0 .u32 a,vi 2 b]) h (λd h e=>?_) ?_;refine cd h (λc h=>?_) (λc h=>?_);refine ou ?_;cases h;exact bj _ [];cases h;exact bj _ [];rintro⟨a,b⟩ h;try dsimp only at h
 refine ixS h λf h=>?_;cases h;exact rt []
theorem VL(N:Nat)(x:Int)(r:Int)(h:zy N x=some r):Cn aL 112 [sI .u32 x] [] [sI .i64 r]:=by
 unfold zy at h;refine fn tb en112 Tryz.func112 λX w H ν=>?_;refine cl none [] 0 h (XE N _) λr1 h=>?_;cases h;exact rt []
theorem Uv(N:Nat)(pa:(List Int))(pa_lo:Int)(pa_hi:Int)(pb:(List Int))(n:Int)(r:(Bool×(List Int)))(h:Ch N pa pa_lo pa_hi pb n=some r):Cx aL 114 [.lf (.sg 0 1 pa_lo pa_hi),sR bM false pb,sI .u64 n] [.row bM true pa] [(0,some (.row bM true r.2))] [sB r.1]:=by
 unfold Ch at h;refine fn tb en114 Tryz.func114 λX w H ν=>?_;refine jn (λx=>x) (λ⟨a,b⟩=>aX 1 [.row bM true a] [vl 0 (.sg 0 1 pa_lo pa_hi),vk 8 .u64 b]) h (λl g i=>?_) ?_;refine bk ?_;refine lp (λ⟨c,d,e,f⟩=>aX 1 [.row bM true c] [vl 0 (.sg 0 1 pa_lo pa_hi),vr 1 bM false pb,vk 2 .u64 n,vk 7 .u64 d,vk 8 .u64 e,vi 12 (pa_hi-pa_lo),vi 13 f]) g [0] ?_;rintro⟨c,d,e,f⟩ oo h j
 rw[BU]at h
 refine cd h (λk h=>?_) (λk h=>?_);refine bk ?_;refine cl none [] 0 h (DB N _ _) λm h=>?_;refine ixG h λo h=>?_;refine du ?_;refine ixG h λp h=>?_;refine ej true h λs h=>?_;refine ou ?_;refine ou ?_;cases h;exact bl [0];cases h;cases j _ rfl;replace h:=i;try dsimp only at h
 exact bj _ [0];rintro⟨a,b⟩ h;try dsimp only at h
 cases h;exact rt [0]
theorem MR(N:Nat)(a:(List Int))(b:(List Int))(r:((List Int)×(List Int)))(h:wz N a b=some r):Cn aL 79 [sR bM false a,sR bM false b] [.row bM true r.1,.row bM true r.2] [sO 0,sO 1]:=by
 unfold wz at h;refine fn tb en79 Tryz.func79 λX w H ν=>?_;refine cl none [] 0 h (AN N _ _) λr1 h=>?_;refine cd h (λhc8 h=>?_) (λhc8 h=>?_);refine cl none [] 1 h (qv N _) λr9 h=>?_;refine pr (nl 4 bM) ?_;cases h;exact rt [1,0];refine cd h (λa6 h=>?_) (λa6 h=>?_);refine bP h λar h=>?_;refine cl none [] 1 h (Me N _ _) λa7 h=>?_;refine cl none [] 1 h (qv N _) λav h=>?_;refine dA bM true [a7.2] ?_;refine cl none [] 1 h (qv N _) λaw h=>?_;cases h;exact rt [1,3];refine bP h λax h=>?_;refine cl none [] 0 h (VL N _) λc h=>?_;refine dr mixed ?_;refine cl none [] 1 h (Jt N _ _) λay h=>?_;refine cl none [] 1 h (Jt N _ _) λaz h=>?_;refine Dz h λd h=>?_;refine dk ?_;refine gM bM h λb0 h=>?_;refine jn (λx=>x) (λ⟨k,i⟩=>aX 2 [.row bM true k,.row bM true i] [vk 8 .u64 (uw c),vo 9 0,vi 11 (List.length b:Int),vo 12 1]) h (λb1 a8 a9=>?_) ?_;refine bk ?_;refine lp (λ⟨g,e,f⟩=>aX 3 [.row bM true g,.row bM true d,.row bM true e] [vk 8 .u64 (uw c),vo 9 0,vo 10 1,vi 11 (List.length b:Int),vo 12 2,vi 13 f]) a8 [0,2,3] ?_;rintro⟨g,e,f⟩ oo h aa
 rw[AY]at h
 refine cd h (λab h=>?_) (λab h=>?_);refine bk ?_;refine dr mixed ?_;refine cC h λb2 h=>?_;refine du ?_;refine slL ?_;refine cC h λb3 h=>?_;refine du ?_;refine dk ?_;refine cC h λb4 h=>?_;refine du ?_;refine quB h λb5 h=>?_;refine cC h λb6 h=>?_;refine du ?_;refine reB h λb7 h=>?_;refine jn (λx=>x) (λj=>aX 3 [.row bM true g,.row bM true d,.row bM true e] [vk 8 .u64 (uw c),vo 9 0,vo 10 1,vi 11 (List.length b:Int),vo 12 2,vi 13 f,vk 15 .u64 j]) h (λb8 ac n=>?_) ?_;refine bk ?_;refine lp (λ⟨l,m⟩=>aX 3 [.row bM true g,.row bM true d,.row bM true e] [vk 8 .u64 (uw c),vo 9 0,vo 10 1,vi 11 (List.length b:Int),vo 12 2,vi 13 f,vk 15 .u64 l,vk 16 .u64 m]) ac [0,1,2] ?_;rintro⟨l,m⟩ oo h o
 rw[C9]at h
 refine jn (λx=>x) (λp=>aX 3 [.row bM true g,.row bM true d,.row bM true e] [vk 8 .u64 (uw c),vo 9 0,vo 10 1,vi 11 (List.length b:Int),vo 12 2,vi 13 f,vk 15 .u64 l,vk 16 .u64 m,vb 130 p]) h (λb9 h ba=>?_) ?_;refine dr mixed ?_;refine gd h (λad h=>?_) (λad h=>?_);refine dk ?_;cases h;exact bj _ [0,1,2];refine cC h λbb h=>?_;refine du ?_;refine slL ?_;refine cC h λbc h=>?_;refine du ?_;refine dk ?_;cases h;exact bj _ [0,1,2];intro p h;try dsimp only at h
 refine cd h (λae h=>?_) (λae h=>?_);refine bk ?_;refine cC h λbd h=>?_;refine du ?_;refine cd h (λaf h=>?_) (λaf h=>?_);cases h;cases o _ rfl;replace h:=n;try dsimp only at h
 exact bj _ [0,1,2];cases h;exact bl [0,1,2];cases h;cases o _ rfl;replace h:=n;try dsimp only at h
 exact bj _ [0,1,2];intro j h;try dsimp only at h
 refine HZ h λ_ h=>?_;refine cl none [0] 0 h (Uv N _ _ _ _ _) (λbe h=>?_);refine jn (λx=>x) (λ⟨s,u⟩=>aX 3 [.row bM true s,.row bM true d,.row bM true e] [vk 8 .u64 (uw c),vo 9 0,vo 10 1,vi 11 (List.length b:Int),vo 12 2,vi 13 f,vk 15 .u64 u]) h (λbf h bg=>?_) ?_;refine cd h (λag h=>?_) (λag h=>?_);refine jn (λx=>x) (λ⟨v,y⟩=>aX 3 [.row bM true v,.row bM true d,.row bM true e] [vk 8 .u64 (uw c),vo 9 0,vo 10 1,vi 11 (List.length b:Int),vo 12 2,vi 13 f,vk 15 .u64 (uw (j-1)),vk 17 .u64 y]) h (λbh ah ai=>?_) ?_;refine bk ?_;refine lp (λ⟨a0,a1,a2⟩=>aX 3 [.row bM true a0,.row bM true d,.row bM true e] [vk 8 .u64 (uw c),vo 9 0,vo 10 1,vi 11 (List.length b:Int),vo 12 2,vi 13 f,vk 15 .u64 (uw (j-1)),vk 17 .u64 a1,vi 156 (List.length d:Int),vi 157 a2]) ah [0,1,2] ?_;rintro⟨a0,a1,a2⟩ oo h aj
 rw[Dj]at h
 refine cd h (λak h=>?_) (λak h=>?_);refine bk ?_;refine dr mixed ?_;refine cC h λbi h=>?_;refine du ?_;refine cC h λbm h=>?_;refine du ?_;refine dk ?_;refine cC h λbn h=>?_;refine ej true h λbo h=>?_;refine ou ?_;cases h;exact bl [0,1,2];cases h;cases aj _ rfl;replace h:=ai;try dsimp only at h
 exact bj _ [0,1,2];rintro⟨v,y⟩ h;try dsimp only at h
 refine cC h λbp h=>?_;refine du ?_;refine cC h λbr h=>?_;refine ej true h λbs h=>?_;cases h;exact bj _ [0,1,2];cases h;exact bj _ [0,1,2];rintro⟨s,u⟩ h;try dsimp only at h
 refine cC h λbt h=>?_;refine ej true h λbu h=>?_;cases h;exact bl [0,1,2];cases h;cases aa _ rfl;replace h:=a9;try dsimp only at h
 exact bj _ [0,2];rintro⟨k,i⟩ h;try dsimp only at h
 refine gM bM h λal h=>?_;refine jn (λx=>x) (λa3=>aX 2 [.row bM true i,.row bM true a3] [vo 12 0,vo 19 1]) h (λbw am an=>?_) ?_;refine bk ?_;refine lp (λ⟨a4,a5⟩=>aX 3 [.row bM true k,.row bM true i,.row bM true a4] [vk 8 .u64 (uw c),vo 9 0,vo 12 1,vo 19 2,vi 203 (List.length al:Int),vi 204 a5]) am [0,1,2] ?_;rintro⟨a4,a5⟩ oo h ao
 rw[Dw]at h
 refine cd h (λaq h=>?_) (λaq h=>?_);refine bk ?_;refine dr mixed ?_;refine cC h λbx h=>?_;refine du ?_;refine slL ?_;refine cC h λbz h=>?_;refine du ?_;refine srB h λc0 h=>?_;refine cC h λc1 h=>?_;refine ej true h λc2 h=>?_;refine dk ?_;cases h;exact bl [0,1,2];cases h;cases ao _ rfl;replace h:=an;try dsimp only at h
 exact bj _ [1,2];intro a3 h;try dsimp only at h
 refine cl none [] 1 h (qv N _) λc3 h=>?_;refine cl none [] 1 h (qv N _) λc4 h=>?_;cases h;exact rt [2,3]
theorem ic(N:Nat)(n:Int)(r:aC)(h:gF N n=some r):Cn aL 42 [sI .i64 n] [] [sA aE true r]:=by
 unfold gF at h;refine fn tb en42 Tryz.func42 λX w H ν=>?_;refine jn (λx=>x) (λu8=>aX 1 [.box [(lB false),lN]] [vi 0 n,vp 2 0,vk 3 .u64 u8]) h (λs9 h b=>?_) ?_;refine cd h (λa h=>?_) (λa h=>?_);cases h;exact bj _ [0];cases h;exact bj _ [0];intro u8 h;try dsimp only at h
 refine ou ?_;refine dA bM true [(eL u8),(eL (gj .u64 u8 32))] ?_;refine cl none [] 0 h (nu N _ _) λc h=>?_;cases h;exact rt []
theorem p7(N:Nat)(x:aC)(r:aC)(h:mM N x=some r):Cn aL 78 [sA aE false x] [] [sA aE true r]:=by
 unfold mM at h;refine fn tb en78 Tryz.func78 λX w H ν=>?_;refine cl none [] 0 h (nu N _ _) λa h=>?_;cases h;exact rt []
theorem iW(N:Nat)(x:aC)(r:Int)(h:im N x=some r):Cn aL 56 [sA aE false x] [] [sI .i64 r]:=by
 unfold im at h;refine fn tb en56 Tryz.func56 λX w H ν=>?_;refine cl none [] 0 h (p7 N _) λr6 h=>?_;refine bk ?_;refine cd h (λa h=>?_) (λa h=>?_);cases h;exact rt [];refine cd h (λb h=>?_) (λb h=>?_);cases h;exact rt [];cases h;exact rt []
theorem jY(N:Nat)(a:aC)(b:aC)(r:Int)(h:jx N a b=some r):Cn aL 46 [sA aE false a,sA aE false b] [] [sI .i64 r]:=by
 unfold jx at h;refine fn tb en46 Tryz.func46 λX w H ν=>?_;refine dr mixed ?_;refine cl none [] 0 h (p7 N _) λd h=>?_;refine cl none [] 0 h (p7 N _) λe h=>?_;refine dk ?_;refine bk ?_;refine jn (λx=>x) (λc=>aX 2 [.box (aO.cl aE true d),.box (aO.cl aE true e)] [vp 2 0,vp 3 1,vb 9 c]) h (λk h l=>?_) ?_;refine rg ?_;refine gd h (λf h=>?_) (λf h=>?_);cases h;exact bj _ [0,1];cases h;exact bj _ [0,1];intro c h;try dsimp only at h
 refine cd h (λg h=>?_) (λg h=>?_);cases h;exact rt [];refine cd h (λi h=>?_) (λi h=>?_);cases h;exact rt [];refine cd h (λj h=>?_) (λj h=>?_);refine cl none [] 0 h (AN N _ _) λm h=>?_;cases h;exact rt [];refine cl none [] 0 h (AN N _ _) λn h=>?_;cases h;exact rt []
theorem mC(N:Nat)(x:aC)(r:aC)(h:jZ N x=some r):Cn aL 77 [sA aE false x] [] [sA aE true r]:=by
 unfold jZ at h;refine fn tb en77 Tryz.func77 λX w H ν=>?_;refine cl none [] 0 h (nu N _ _) λa h=>?_;cases h;exact rt []
theorem kA(N:Nat)(a:aC)(b:aC)(r:aC)(h:jK N a b=some r):Cn aL 45 [sA aE false a,sA aE false b] [] [sA aE true r]:=by
 unfold jK at h;refine fn tb en45 Tryz.func45 λX w H ν=>?_;refine dr mixed ?_;refine cl none [] 0 h (p7 N _) λe h=>?_;refine cl none [] 0 h (p7 N _) λf h=>?_;refine dk ?_;refine cd h (λc h=>?_) (λc h=>?_);refine dr mixed ?_;refine cl none [] 1 h (JU N _ _) λg h=>?_;refine cl none [] 0 h (nu N _ _) λi h=>?_;refine dk ?_;cases h;exact rt [];refine cl none [] 0 h (AN N _ _) λj h=>?_;refine cd h (λd h=>?_) (λd h=>?_);refine dr mixed ?_;refine cl none [] 1 h (G0 N _ _) λk h=>?_;refine cl none [] 0 h (nu N _ _) λl h=>?_;refine dk ?_;cases h;exact rt [];refine dr mixed ?_;refine cl none [] 1 h (G0 N _ _) λm h=>?_;refine cl none [] 0 h (nu N _ _) λn h=>?_;refine dk ?_;cases h;exact rt []
theorem l5(N:Nat)(a:aC)(b:aC)(r:aC)(h:jL N a b=some r):Cn aL 43 [sA aE false a,sA aE false b] [] [sA aE true r]:=by
 unfold jL at h;refine fn tb en43 Tryz.func43 λX w H ν=>?_;refine dr mixed ?_;refine cl none [] 0 h (mC N _) λc h=>?_;refine cl none [] 0 h (kA N _ _) λd h=>?_;refine dk ?_;cases h;exact rt []
theorem mj(N:Nat)(a:aC)(b:aC)(r:aC)(h:lj N a b=some r):Cn aL 55 [sA aE false a,sA aE false b] [] [sA aE true r]:=by
 unfold lj at h;refine fn tb en55 Tryz.func55 λX w H ν=>?_;refine dr mixed ?_;refine cl none [] 1 h (Ri N _ _) λc h=>?_;refine cl none [] 0 h (nu N _ _) λd h=>?_;refine dk ?_;cases h;exact rt []
theorem mV(N:Nat)(a:aC)(b:aC)(r:(aC×aC×Bool))(h:lO N a b=some r):Cn aL 44 [sA aE false a,sA aE false b] [] [sA aE true r.1,sA aE true r.2.1,sB r.2.2]:=by
 unfold lO at h;refine fn tb en44 Tryz.func44 λX w H ν=>?_;refine dr mixed ?_;refine cl none [] 0 h (p7 N _) λj h=>?_;refine cl none [] 0 h (p7 N _) λe h=>?_;refine dk ?_;refine cd h (λf h=>?_) (λf h=>?_);cases h;exact rt [];refine cl none [] 2 h (MR N _ _) λk h=>?_;refine cd h (λg h=>?_) (λg h=>?_);refine jn (λx=>x) (λ⟨c,d⟩=>aX 5 [.box (aO.cl aE true e),.box [(lB false),lN],.box [(lB false),lN],.row bM true c,.row bM true d] [vp 3 0,vp 4 1,vp 5 2,vo 7 3,vo 8 4]) h (λl h m=>?_) ?_;refine cd h (λi h=>?_) (λi h=>?_);refine dA bM true [1] ?_;refine cl none [] 1 h (JU N _ _) λn h=>?_;refine cl none [] 1 h (G0 N _ _) λo h=>?_;cases h;exact bj _ [1,2,3,7,8];cases h;exact bj _ [1,2,3,4,5];rintro⟨c,d⟩ h;try dsimp only at h
 refine dr mixed ?_;refine cl none [] 0 h (nu N _ _) λp h=>?_;refine cl none [] 0 h (nu N _ _) λs h=>?_;refine dk ?_;cases h;exact rt [];refine dr mixed ?_;refine cl none [] 0 h (nu N _ _) λu h=>?_;refine cl none [] 0 h (nu N _ _) λv h=>?_;refine dk ?_;cases h;exact rt []
theorem WH(N:Nat)(a:aC)(b:aC)(r:aC)(h:vJ N a b=some r):Cn aL 171 [sA aE false a,sA aE false b] [] [sA aE true r]:=by
 unfold vJ at h;refine fn tb en171 Tryz.func171 λX w H ν=>?_;refine dr mixed ?_;refine cl none [] 1 h (qv N _) λk h=>?_;refine cl none [] 1 h (qv N _) λl h=>?_;refine dk ?_;refine jn (λx=>x) (λc=>aX 2 [.box [(lB false),lN],.row bM true c] [vp 4 0,vo 5 1]) h (λm f g=>?_) ?_;refine bk ?_;refine lp (λ⟨d,e⟩=>aX 3 [.box [(lB false),lN],.row bM true d,.row bM true e] [vp 4 0,vo 5 1,vo 6 2]) f [2,3,4] ?_;rintro⟨d,e⟩ oo h i
 rw[Fl]at h
 refine cd h (λj h=>?_) (λj h=>?_);refine bk ?_;refine cl none [] 2 h (MR N _ _) λn h=>?_;cases h;exact bl [0,2,4];cases h;cases i _ rfl;replace h:=g;try dsimp only at h
 exact bj _ [0,1];intro c h;try dsimp only at h
 refine cl none [] 0 h (nu N _ _) λo h=>?_;cases h;exact rt []
theorem Qs(N:Nat)(x:aC)(r:(List UInt8))(h:wB N x=some r):Cn aL 121 [sA aE false x] [] [sT r]:=by
 unfold wB at h;refine fn tb en121 Tryz.func121 λX w H ν=>?_;refine cl none [] 0 h (p7 N _) λr6 h=>?_;refine cd h (λf h=>?_) (λf h=>?_);cases h;exact rt [];refine jn (λx=>x) (λc=>aX 2 [.box (aO.cl aE true r6),.row iy true c] [vp 1 0,vo 3 1]) h (λo g i=>?_) ?_;refine bk ?_;refine ps (nl 3 iy) ?_;refine lp (λ⟨a,d⟩=>aX 2 [.box (aO.cl aE true r6),.row iy true a] [vp 1 0,vo 3 1,vr 4 bM true d]) g [0,1] ?_;rintro⟨a,d⟩ oo h j
 rw[E4]at h
 refine cd h (λk h=>?_) (λk h=>?_);refine bk ?_;refine cl none [] 1 h (Me N _ _) λp h=>?_;refine cl none [] 1 h (qv N _) λl h=>?_;refine cl none [] 0 h (R8 N _ _) λs h=>?_;refine jn (λx=>x) (λb=>aX 3 [.box (aO.cl aE true r6),.row iy true a,.row bM true l] [vp 1 0,vo 3 1,vo 4 2,vt 7 b]) h (λu h v=>?_) ?_;refine cd h (λm h=>?_) (λm h=>?_);refine cl none [] 0 h (XK N _ _) λy h=>?_;refine sdB h λ_ h=>?_;cases h;exact bj _ [0,1,3];cases h;exact bj _ [0,1,3];intro b h;try dsimp only at h
 refine dA iy true [b] ?_;refine ei true h λa0 h=>?_;cases h;exact bl [0,4];cases h;cases j _ rfl;replace h:=i;try dsimp only at h
 exact bj _ [0,1];intro c h;try dsimp only at h
 refine jn (λx=>x) (λe=>aX 1 [.row iy true e] [vo 3 0]) h (λa1 h a2=>?_) ?_;refine cd h (λn h=>?_) (λn h=>?_);refine dA iy true [([45]:List UInt8)] ?_;refine ei true h λa3 h=>?_;cases h;exact bj _ [3];cases h;exact bj _ [1];intro e h;try dsimp only at h
 refine cl none [0] 0 h (UE N _) (λa4 h=>?_);refine cl none [] 0 h (O3 N _ _) λa5 h=>?_;cases h;exact rt []
end Go.Proofs.YtipdkfmhfakbnaaGreatDoor.SB

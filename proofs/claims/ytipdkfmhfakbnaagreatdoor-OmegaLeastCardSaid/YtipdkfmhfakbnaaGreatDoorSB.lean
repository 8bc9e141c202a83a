/- Walks of the symbolic machine, written by a program of mine (wip/tool). -/
import Derived.Test.YtipdkfmhfakbnaaGreatDoorTB
import Derived.Test.YtipdkfmhfakbnaaGreatDoorAg
import Derived.Test.YtipdkfmhfakbnaaGreatDoorAd
import Derived.Test.YtipdkfmhfakbnaaGreatDoorSA
set_option linter.unusedVariables false
set_option linter.unusedSimpArgs false
set_option linter.unusedSectionVars false
set_option maxRecDepth 100000
set_option maxHeartbeats 4000000
namespace Go.Proofs.YtipdkfmhfakbnaaGreatDoor.SB
open Go Go.RowKit Go.X Go.Q Go.D Go.Proofs.YtipdkfmhfakbnaaGreatDoor.TB Go.Proofs.YtipdkfmhfakbnaaGreatDoor.FS Go.Proofs.YtipdkfmhfakbnaaGreatDoor.SA
theorem VM(N:Nat)(x:Int)(r:Int)(h:yn N x=some r):Cn Tryz.prog 147 [sI .u32 x] [] [sI .i64 r]:=by
 unfold yn at h;refine fn tb en147 Tryz.func147 λX w H ν=>?_;refine jn (λx=>x) (λ⟨x2,n3⟩=>aZ 0 [] [vk 0 .u32 x2,vi 2 n3]) h (λs4 h g5=>?_) ?_;refine cd h (λhc6 h=>?_) (λhc6 h=>?_);refine nP ?_;cases h;exact bj _ [];cases h;exact bj _ [];rintro⟨x2,n3⟩ h;try dsimp only at h
 refine jn (λx=>x) (λ⟨a,b⟩=>aZ 0 [] [vk 0 .u32 a,vi 2 b]) h (λd h e=>?_) ?_;refine cd h (λc h=>?_) (λc h=>?_);refine nP ?_;cases h;exact bj _ [];cases h;exact bj _ [];rintro⟨a,b⟩ h;try dsimp only at h
 refine ixS h λf h=>?_;cases h;exact rt []
theorem VH(N:Nat)(x:Int)(r:Int)(h:y9 N x=some r):Cn Tryz.prog 112 [sI .u32 x] [] [sI .i64 r]:=by
 unfold y9 at h;refine fn tb en112 Tryz.func112 λX w H ν=>?_;refine cl none [] 0 h (VM N _) λr1 h=>?_;cases h;exact rt []
theorem Ry(N:Nat)(pa:(List Int))(pa_lo:Int)(pa_hi:Int)(pb:(List Int))(n:Int)(r:(Bool×(List Int)))(h:Ci N pa pa_lo pa_hi pb n=some r):Cx Tryz.prog 114 [.lf (.sg 0 1 pa_lo pa_hi),sR (aF .u32) false pb,sI .u64 n] [.row (aF .u32) true pa] [(0,some (.row (aF .u32) true r.2))] [sB r.1]:=by
 unfold Ci at h;refine fn tb en114 Tryz.func114 λX w H ν=>?_;refine jn (λx=>x) (λ⟨a,b⟩=>aZ 1 [.row (aF .u32) true a] [vl 0 (.sg 0 1 pa_lo pa_hi),vk 8 .u64 b]) h (λl g i=>?_) ?_;refine bk ?_;refine lp (λ⟨c,d,e,f⟩=>aZ 1 [.row (aF .u32) true c] [vl 0 (.sg 0 1 pa_lo pa_hi),vr 1 (aF .u32) false pb,vk 2 .u64 n,vk 7 .u64 d,vk 8 .u64 e,vi 12 (pa_hi-pa_lo),vi 13 f]) g [0] ?_;rintro⟨c,d,e,f⟩ oo h j
 rw[BO]at h
 refine cd h (λk h=>?_) (λk h=>?_);refine bk ?_;refine cl none [] 0 h (AY N _ _) λm h=>?_;refine ixG h λo h=>?_;refine dX ?_;refine ixG h λp h=>?_;refine eH true h λs h=>?_;refine nP ?_;refine nP ?_;cases h;exact bl [0];cases h;cases j _ rfl;replace h:=i;try dsimp only at h
 exact bj _ [0];rintro⟨a,b⟩ h;try dsimp only at h
 cases h;exact rt [0]
theorem Kc(N:Nat)(a:(List Int))(b:(List Int))(r:((List Int)×(List Int)))(h:vW N a b=some r):Cn Tryz.prog 79 [sR (aF .u32) false a,sR (aF .u32) false b] [.row (aF .u32) true r.1,.row (aF .u32) true r.2] [sO 0,sO 1]:=by
 unfold vW at h;refine fn tb en79 Tryz.func79 λX w H ν=>?_;refine cl none [] 0 h (zW N _ _) λr1 h=>?_;refine cd h (λhc8 h=>?_) (λhc8 h=>?_);refine cl none [] 1 h (qb N _) λr9 h=>?_;refine pr (nl 4 (aF .u32)) ?_;cases h;exact rt [1,0];refine cd h (λa6 h=>?_) (λa6 h=>?_);refine bR h λar h=>?_;refine cl none [] 1 h (Kn N _ _) λa7 h=>?_;refine cl none [] 1 h (qb N _) λav h=>?_;refine dp (aF .u32) true [a7.2] ?_;refine cl none [] 1 h (qb N _) λaw h=>?_;cases h;exact rt [1,3];refine bR h λax h=>?_;refine cl none [] 0 h (VH N _) λc h=>?_;refine dr mixed ?_;refine cl none [] 1 h (M7 N _ _) λay h=>?_;refine cl none [] 1 h (M7 N _ _) λaz h=>?_;refine EH h λd h=>?_;refine dk ?_;refine ie (aF .u32) h λb0 h=>?_;refine jn (λx=>x) (λ⟨k,i⟩=>aZ 2 [.row (aF .u32) true k,.row (aF .u32) true i] [vk 8 .u64 (uw c),vo 9 0,vi 11 (List.length b:Int),vo 12 1]) h (λb1 a8 a9=>?_) ?_;refine bk ?_;refine lp (λ⟨g,e,f⟩=>aZ 3 [.row (aF .u32) true g,.row (aF .u32) true d,.row (aF .u32) true e] [vk 8 .u64 (uw c),vo 9 0,vo 10 1,vi 11 (List.length b:Int),vo 12 2,vi 13 f]) a8 [0,2,3] ?_;rintro⟨g,e,f⟩ oo h aa
 rw[AZ]at h
 refine cd h (λab h=>?_) (λab h=>?_);refine bk ?_;refine dr mixed ?_;refine cK h λb2 h=>?_;refine dX ?_;refine slL ?_;refine cK h λb3 h=>?_;refine dX ?_;refine dk ?_;refine cK h λb4 h=>?_;refine dX ?_;refine quB h λb5 h=>?_;refine cK h λb6 h=>?_;refine dX ?_;refine reB h λb7 h=>?_;refine jn (λx=>x) (λj=>aZ 3 [.row (aF .u32) true g,.row (aF .u32) true d,.row (aF .u32) true e] [vk 8 .u64 (uw c),vo 9 0,vo 10 1,vi 11 (List.length b:Int),vo 12 2,vi 13 f,vk 15 .u64 j]) h (λb8 ac n=>?_) ?_;refine bk ?_;refine lp (λ⟨l,m⟩=>aZ 3 [.row (aF .u32) true g,.row (aF .u32) true d,.row (aF .u32) true e] [vk 8 .u64 (uw c),vo 9 0,vo 10 1,vi 11 (List.length b:Int),vo 12 2,vi 13 f,vk 15 .u64 l,vk 16 .u64 m]) ac [0,1,2] ?_;rintro⟨l,m⟩ oo h o
 rw[AV]at h
 refine jn (λx=>x) (λp=>aZ 3 [.row (aF .u32) true g,.row (aF .u32) true d,.row (aF .u32) true e] [vk 8 .u64 (uw c),vo 9 0,vo 10 1,vi 11 (List.length b:Int),vo 12 2,vi 13 f,vk 15 .u64 l,vk 16 .u64 m,vb 130 p]) h (λb9 h ba=>?_) ?_;refine dr mixed ?_;refine gd h (λad h=>?_) (λad h=>?_);refine dk ?_;cases h;exact bj _ [0,1,2];refine cK h λbb h=>?_;refine dX ?_;refine slL ?_;refine cK h λbc h=>?_;refine dX ?_;refine dk ?_;cases h;exact bj _ [0,1,2];intro p h;try dsimp only at h
 refine cd h (λae h=>?_) (λae h=>?_);refine bk ?_;refine cK h λbd h=>?_;refine dX ?_;refine cd h (λaf h=>?_) (λaf h=>?_);cases h;cases o _ rfl;replace h:=n;try dsimp only at h
 exact bj _ [0,1,2];cases h;exact bl [0,1,2];cases h;cases o _ rfl;replace h:=n;try dsimp only at h
 exact bj _ [0,1,2];intro j h;try dsimp only at h
 refine cutG h λ_ h=>?_;refine cl none [0] 0 h (Ry N _ _ _ _ _) (λbe h=>?_);refine jn (λx=>x) (λ⟨s,u⟩=>aZ 3 [.row (aF .u32) true s,.row (aF .u32) true d,.row (aF .u32) true e] [vk 8 .u64 (uw c),vo 9 0,vo 10 1,vi 11 (List.length b:Int),vo 12 2,vi 13 f,vk 15 .u64 u]) h (λbf h bg=>?_) ?_;refine cd h (λag h=>?_) (λag h=>?_);refine jn (λx=>x) (λ⟨v,y⟩=>aZ 3 [.row (aF .u32) true v,.row (aF .u32) true d,.row (aF .u32) true e] [vk 8 .u64 (uw c),vo 9 0,vo 10 1,vi 11 (List.length b:Int),vo 12 2,vi 13 f,vk 15 .u64 (uw (j-1)),vk 17 .u64 y]) h (λbh ah ai=>?_) ?_;refine bk ?_;refine lp (λ⟨a0,a1,a2⟩=>aZ 3 [.row (aF .u32) true a0,.row (aF .u32) true d,.row (aF .u32) true e] [vk 8 .u64 (uw c),vo 9 0,vo 10 1,vi 11 (List.length b:Int),vo 12 2,vi 13 f,vk 15 .u64 (uw (j-1)),vk 17 .u64 a1,vi 156 (List.length d:Int),vi 157 a2]) ah [0,1,2] ?_;rintro⟨a0,a1,a2⟩ oo h aj
 rw[zN]at h
 refine cd h (λak h=>?_) (λak h=>?_);refine bk ?_;refine dr mixed ?_;refine cK h λbi h=>?_;refine dX ?_;refine cK h λbm h=>?_;refine dX ?_;refine dk ?_;refine cK h λbn h=>?_;refine eH true h λbo h=>?_;refine nP ?_;cases h;exact bl [0,1,2];cases h;cases aj _ rfl;replace h:=ai;try dsimp only at h
 exact bj _ [0,1,2];rintro⟨v,y⟩ h;try dsimp only at h
 refine cK h λbp h=>?_;refine dX ?_;refine cK h λbr h=>?_;refine eH true h λbs h=>?_;cases h;exact bj _ [0,1,2];cases h;exact bj _ [0,1,2];rintro⟨s,u⟩ h;try dsimp only at h
 refine cK h λbt h=>?_;refine eH true h λbu h=>?_;cases h;exact bl [0,1,2];cases h;cases aa _ rfl;replace h:=a9;try dsimp only at h
 exact bj _ [0,2];rintro⟨k,i⟩ h;try dsimp only at h
 refine ie (aF .u32) h λal h=>?_;refine jn (λx=>x) (λa3=>aZ 2 [.row (aF .u32) true i,.row (aF .u32) true a3] [vo 12 0,vo 19 1]) h (λbw am an=>?_) ?_;refine bk ?_;refine lp (λ⟨a4,a5⟩=>aZ 3 [.row (aF .u32) true k,.row (aF .u32) true i,.row (aF .u32) true a4] [vk 8 .u64 (uw c),vo 9 0,vo 12 1,vo 19 2,vi 203 (List.length al:Int),vi 204 a5]) am [0,1,2] ?_;rintro⟨a4,a5⟩ oo h ao
 rw[Bq]at h
 refine cd h (λaq h=>?_) (λaq h=>?_);refine bk ?_;refine dr mixed ?_;refine cK h λbx h=>?_;refine dX ?_;refine slL ?_;refine cK h λbz h=>?_;refine dX ?_;refine srB h λc0 h=>?_;refine cK h λc1 h=>?_;refine eH true h λc2 h=>?_;refine dk ?_;cases h;exact bl [0,1,2];cases h;cases ao _ rfl;replace h:=an;try dsimp only at h
 exact bj _ [1,2];intro a3 h;try dsimp only at h
 refine cl none [] 1 h (qb N _) λc3 h=>?_;refine cl none [] 1 h (qb N _) λc4 h=>?_;cases h;exact rt [2,3]
theorem gK(N:Nat)(n:Int)(r:aC)(h:gj N n=some r):Cn Tryz.prog 42 [sI .i64 n] [] [sA aD true r]:=by
 unfold gj at h;refine fn tb en42 Tryz.func42 λX w H ν=>?_;refine jn (λx=>x) (λu8=>aZ 1 [.box [(lB false),lN]] [vi 0 n,vp 2 0,vk 3 .u64 u8]) h (λs9 h b=>?_) ?_;refine cd h (λa h=>?_) (λa h=>?_);cases h;exact bj _ [0];cases h;exact bj _ [0];intro u8 h;try dsimp only at h
 refine nP ?_;refine dp (aF .u32) true [(eu u8),(eu (fL .u64 u8 32))] ?_;refine cl none [] 0 h (mN N _ _) λc h=>?_;cases h;exact rt []
theorem p9(N:Nat)(x:aC)(r:aC)(h:lQ N x=some r):Cn Tryz.prog 78 [sA aD false x] [] [sA aD true r]:=by
 unfold lQ at h;refine fn tb en78 Tryz.func78 λX w H ν=>?_;refine cl none [] 0 h (mN N _ _) λa h=>?_;cases h;exact rt []
theorem iC(N:Nat)(x:aC)(r:Int)(h:gV N x=some r):Cn Tryz.prog 56 [sA aD false x] [] [sI .i64 r]:=by
 unfold gV at h;refine fn tb en56 Tryz.func56 λX w H ν=>?_;refine cl none [] 0 h (p9 N _) λr6 h=>?_;refine bk ?_;refine cd h (λa h=>?_) (λa h=>?_);cases h;exact rt [];refine cd h (λb h=>?_) (λb h=>?_);cases h;exact rt [];cases h;exact rt []
theorem jF(N:Nat)(a:aC)(b:aC)(r:Int)(h:iY N a b=some r):Cn Tryz.prog 46 [sA aD false a,sA aD false b] [] [sI .i64 r]:=by
 unfold iY at h;refine fn tb en46 Tryz.func46 λX w H ν=>?_;refine dr mixed ?_;refine cl none [] 0 h (p9 N _) λd h=>?_;refine cl none [] 0 h (p9 N _) λe h=>?_;refine dk ?_;refine bk ?_;refine jn (λx=>x) (λc=>aZ 2 [.box (aM.cl aD true d),.box (aM.cl aD true e)] [vp 2 0,vp 3 1,vb 9 c]) h (λk h l=>?_) ?_;refine rg ?_;refine gd h (λf h=>?_) (λf h=>?_);cases h;exact bj _ [0,1];cases h;exact bj _ [0,1];intro c h;try dsimp only at h
 refine cd h (λg h=>?_) (λg h=>?_);cases h;exact rt [];refine cd h (λi h=>?_) (λi h=>?_);cases h;exact rt [];refine cd h (λj h=>?_) (λj h=>?_);refine cl none [] 0 h (zW N _ _) λm h=>?_;cases h;exact rt [];refine cl none [] 0 h (zW N _ _) λn h=>?_;cases h;exact rt []
theorem lY(N:Nat)(x:aC)(r:aC)(h:jA N x=some r):Cn Tryz.prog 77 [sA aD false x] [] [sA aD true r]:=by
 unfold jA at h;refine fn tb en77 Tryz.func77 λX w H ν=>?_;refine cl none [] 0 h (mN N _ _) λa h=>?_;cases h;exact rt []
theorem kr(N:Nat)(a:aC)(b:aC)(r:aC)(h:js N a b=some r):Cn Tryz.prog 45 [sA aD false a,sA aD false b] [] [sA aD true r]:=by
 unfold js at h;refine fn tb en45 Tryz.func45 λX w H ν=>?_;refine dr mixed ?_;refine cl none [] 0 h (p9 N _) λe h=>?_;refine cl none [] 0 h (p9 N _) λf h=>?_;refine dk ?_;refine cd h (λc h=>?_) (λc h=>?_);refine dr mixed ?_;refine cl none [] 1 h (Mr N _ _) λg h=>?_;refine cl none [] 0 h (mN N _ _) λi h=>?_;refine dk ?_;cases h;exact rt [];refine cl none [] 0 h (zW N _ _) λj h=>?_;refine cd h (λd h=>?_) (λd h=>?_);refine dr mixed ?_;refine cl none [] 1 h (E4 N _ _) λk h=>?_;refine cl none [] 0 h (mN N _ _) λl h=>?_;refine dk ?_;cases h;exact rt [];refine dr mixed ?_;refine cl none [] 1 h (E4 N _ _) λm h=>?_;refine cl none [] 0 h (mN N _ _) λn h=>?_;refine dk ?_;cases h;exact rt []
theorem kZ(N:Nat)(a:aC)(b:aC)(r:aC)(h:jk N a b=some r):Cn Tryz.prog 43 [sA aD false a,sA aD false b] [] [sA aD true r]:=by
 unfold jk at h;refine fn tb en43 Tryz.func43 λX w H ν=>?_;refine dr mixed ?_;refine cl none [] 0 h (lY N _) λc h=>?_;refine cl none [] 0 h (kr N _ _) λd h=>?_;refine dk ?_;cases h;exact rt []
theorem mA(N:Nat)(a:aC)(b:aC)(r:aC)(h:kB N a b=some r):Cn Tryz.prog 55 [sA aD false a,sA aD false b] [] [sA aD true r]:=by
 unfold kB at h;refine fn tb en55 Tryz.func55 λX w H ν=>?_;refine dr mixed ?_;refine cl none [] 1 h (Vc N _ _) λc h=>?_;refine cl none [] 0 h (mN N _ _) λd h=>?_;refine dk ?_;cases h;exact rt []
theorem mR(N:Nat)(a:aC)(b:aC)(r:(aC×aC×Bool))(h:kS N a b=some r):Cn Tryz.prog 44 [sA aD false a,sA aD false b] [] [sA aD true r.1,sA aD true r.2.1,sB r.2.2]:=by
 unfold kS at h;refine fn tb en44 Tryz.func44 λX w H ν=>?_;refine dr mixed ?_;refine cl none [] 0 h (p9 N _) λj h=>?_;refine cl none [] 0 h (p9 N _) λe h=>?_;refine dk ?_;refine cd h (λf h=>?_) (λf h=>?_);cases h;exact rt [];refine cl none [] 2 h (Kc N _ _) λk h=>?_;refine cd h (λg h=>?_) (λg h=>?_);refine jn (λx=>x) (λ⟨c,d⟩=>aZ 5 [.box (aM.cl aD true e),.box [(lB false),lN],.box [(lB false),lN],.row (aF .u32) true c,.row (aF .u32) true d] [vp 3 0,vp 4 1,vp 5 2,vo 7 3,vo 8 4]) h (λl h m=>?_) ?_;refine cd h (λi h=>?_) (λi h=>?_);refine dp (aF .u32) true [1] ?_;refine cl none [] 1 h (Mr N _ _) λn h=>?_;refine cl none [] 1 h (E4 N _ _) λo h=>?_;cases h;exact bj _ [1,2,3,7,8];cases h;exact bj _ [1,2,3,4,5];rintro⟨c,d⟩ h;try dsimp only at h
 refine dr mixed ?_;refine cl none [] 0 h (mN N _ _) λp h=>?_;refine cl none [] 0 h (mN N _ _) λs h=>?_;refine dk ?_;cases h;exact rt [];refine dr mixed ?_;refine cl none [] 0 h (mN N _ _) λu h=>?_;refine cl none [] 0 h (mN N _ _) λv h=>?_;refine dk ?_;cases h;exact rt []
theorem Vx(N:Nat)(a:aC)(b:aC)(r:aC)(h:uE N a b=some r):Cn Tryz.prog 171 [sA aD false a,sA aD false b] [] [sA aD true r]:=by
 unfold uE at h;refine fn tb en171 Tryz.func171 λX w H ν=>?_;refine dr mixed ?_;refine cl none [] 1 h (qb N _) λk h=>?_;refine cl none [] 1 h (qb N _) λl h=>?_;refine dk ?_;refine jn (λx=>x) (λc=>aZ 2 [.box [(lB false),lN],.row (aF .u32) true c] [vp 4 0,vo 5 1]) h (λm f g=>?_) ?_;refine bk ?_;refine lp (λ⟨d,e⟩=>aZ 3 [.box [(lB false),lN],.row (aF .u32) true d,.row (aF .u32) true e] [vp 4 0,vo 5 1,vo 6 2]) f [2,3,4] ?_;rintro⟨d,e⟩ oo h i
 rw[DG]at h
 refine cd h (λj h=>?_) (λj h=>?_);refine bk ?_;refine cl none [] 2 h (Kc N _ _) λn h=>?_;cases h;exact bl [0,2,4];cases h;cases i _ rfl;replace h:=g;try dsimp only at h
 exact bj _ [0,1];intro c h;try dsimp only at h
 refine cl none [] 0 h (mN N _ _) λo h=>?_;cases h;exact rt []
theorem QG(N:Nat)(x:aC)(r:(List UInt8))(h:wB N x=some r):Cn Tryz.prog 121 [sA aD false x] [] [sT r]:=by
 unfold wB at h;refine fn tb en121 Tryz.func121 λX w H ν=>?_;refine cl none [] 0 h (p9 N _) λr6 h=>?_;refine cd h (λf h=>?_) (λf h=>?_);cases h;exact rt [];refine jn (λx=>x) (λc=>aZ 2 [.box (aM.cl aD true r6),.row gX true c] [vp 1 0,vo 3 1]) h (λo g i=>?_) ?_;refine bk ?_;refine ps (nl 3 gX) ?_;refine lp (λ⟨a,d⟩=>aZ 2 [.box (aM.cl aD true r6),.row gX true a] [vp 1 0,vo 3 1,vr 4 (aF .u32) true d]) g [0,1] ?_;rintro⟨a,d⟩ oo h j
 rw[EW]at h
 refine cd h (λk h=>?_) (λk h=>?_);refine bk ?_;refine cl none [] 1 h (Kn N _ _) λp h=>?_;refine cl none [] 1 h (qb N _) λl h=>?_;refine cl none [] 0 h (Vl N _ _) λs h=>?_;refine jn (λx=>x) (λb=>aZ 3 [.box (aM.cl aD true r6),.row gX true a,.row (aF .u32) true l] [vp 1 0,vo 3 1,vo 4 2,vt 7 b]) h (λu h v=>?_) ?_;refine cd h (λm h=>?_) (λm h=>?_);refine cl none [] 0 h (Ts N _ _) λy h=>?_;refine sdB h λ_ h=>?_;cases h;exact bj _ [0,1,3];cases h;exact bj _ [0,1,3];intro b h;try dsimp only at h
 refine dp gX true [b] ?_;refine ei true h λa0 h=>?_;cases h;exact bl [0,4];cases h;cases j _ rfl;replace h:=i;try dsimp only at h
 exact bj _ [0,1];intro c h;try dsimp only at h
 refine jn (λx=>x) (λe=>aZ 1 [.row gX true e] [vo 3 0]) h (λa1 h a2=>?_) ?_;refine cd h (λn h=>?_) (λn h=>?_);refine dp gX true [([45]:List UInt8)] ?_;refine ei true h λa3 h=>?_;cases h;exact bj _ [3];cases h;exact bj _ [1];intro e h;try dsimp only at h
 refine cl none [0] 0 h (Ov N _) (λa4 h=>?_);refine cl none [] 0 h (LF N _ _) λa5 h=>?_;cases h;exact rt []
end Go.Proofs.YtipdkfmhfakbnaaGreatDoor.SB

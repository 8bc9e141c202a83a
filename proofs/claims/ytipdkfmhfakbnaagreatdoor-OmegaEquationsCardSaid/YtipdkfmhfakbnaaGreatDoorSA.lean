/- Walks of the symbolic machine, written by a program of mine (wip/tool). -/
import Derived.Test.YtipdkfmhfakbnaaGreatDoorTB
import Derived.Test.YtipdkfmhfakbnaaGreatDoorAg
set_option linter.unusedVariables false
set_option linter.unusedSimpArgs false
set_option maxRecDepth 100000
set_option maxHeartbeats 4000000
namespace Go.Proofs.YtipdkfmhfakbnaaGreatDoor.SA
open Go Go.RowKit Go.X Go.Q Go.D Go.Proofs.YtipdkfmhfakbnaaGreatDoor.TB Go.Proofs.YtipdkfmhfakbnaaGreatDoor.FS 
theorem XC(N:Nat)(s:(List Int))(r:(List Int))(h:xW N s=some r):Cn aL 146 [sR bM false s] [.row bM true r] [sO 0]:=by
 unfold xW at h;refine fn tb en146 Tryz.func146 λX w H ν=>?_;refine uk ?_;refine cn (λhnil=>?_) ?_;replace h:some []=some r:=by rw[hnil]at h;simpa[cY]using h
 refine pr (nl 2 bM) ?_;cases h;exact rt [0];refine jN bM ?_;refine ei true h λa h=>?_;cases h;exact rt [1]
theorem DB(N:Nat)(d:(List Int))(i:Int)(r:Int)(h:digit N d i=some r):Cn aL 115 [sR bM false d,sI .i64 i] [] [sI .u64 r]:=by
 unfold digit at h;refine fn tb en115 Tryz.func115 λX w H ν=>?_;refine cd h (λhc1 h=>?_) (λhc1 h=>?_);refine bP h λx2 h=>?_;cases h;exact rt [];cases h;exact rt []
theorem Xq(N:Nat)(n:Int)(r:Int)(h:AZ N n=some r):Cn aL 116 [sI .i64 n] [] [sI .i64 r]:=by
 unfold AZ at h;refine fn tb en116 Tryz.func116 λX w H ν=>?_;cases h;exact rt []
theorem qv(N:Nat)(d:(List Int))(r:(List Int))(h:mH N d=some r):Cn aL 110 [sR bM false d] [.row bM true r] [sO 0]:=by
 unfold mH at h;refine fn tb en110 Tryz.func110 λX w H ν=>?_;refine jn (λx=>x) (λb=>aX 0 [] [vr 0 bM false d,vi 3 b]) h (λk e f=>?_) ?_;refine bk ?_;refine lp (λa=>aX 0 [] [vr 0 bM false d,vi 3 a]) e [] ?_;rintro a oo h g
 rw[HM]at h
 refine jn (λx=>x) (λc=>aX 0 [] [vr 0 bM false d,vi 3 a,vb 15 c]) h (λl h m=>?_) ?_;refine rg ?_;refine gd h (λi h=>?_) (λi h=>?_);refine bP h λn h=>?_;cases h;exact bj _ [];cases h;exact bj _ [];intro c h;try dsimp only at h
 refine cd h (λj h=>?_) (λj h=>?_);refine bk ?_;cases h;exact bl [];cases h;cases g _ rfl;replace h:=f;try dsimp only at h
 exact bj _ [];intro b h;try dsimp only at h
 refine BF h λo h=>?_;refine cl none [] 1 h (XC N _) λp h=>?_;cases h;exact rt [0]
theorem nu(N:Nat)(negative:Bool)(d:(List Int))(r:aC)(h:kS N negative d=some r):Cn aL 76 [sB negative,sR bM false d] [] [sA aE true r]:=by
 unfold kS at h;refine fn tb en76 Tryz.func76 λX w H ν=>?_;refine cl none [] 1 h (qv N _) λr6 h=>?_;refine cd h (λa h=>?_) (λa h=>?_);cases h;exact rt [];cases h;exact rt []
theorem AN(N:Nat)(a:(List Int))(b:(List Int))(r:Int)(h:rk N a b=some r):Cn aL 82 [sR bM false a,sR bM false b] [] [sI .i64 r]:=by
 unfold rk at h;refine fn tb en82 Tryz.func82 λX w H ν=>?_;refine cd h (λhc1 h=>?_) (λhc1 h=>?_);refine cl none [] 0 h (Xq N _) λr2 h=>?_;cases h;exact rt [];refine jn (λx=>(Sum.inl x)) (λ(_:Unit)=>aX 0 [] []) h (λk f c=>?_) ?_;refine bk ?_;refine lp (λe=>aX 0 [] [vr 0 bM false a,vr 1 bM false b,vi 5 e]) f [] ?_;rintro e oo h d
 rw[G1]at h
 refine cd h (λg h=>?_) (λg h=>?_);refine bk ?_;refine dr mixed ?_;refine bP h λl h=>?_;refine bP h λm h=>?_;refine dk ?_;refine cd h (λi h=>?_) (λi h=>?_);cases h;cases d _ rfl;replace h:=c;try dsimp only at h
 cases h;exact rt [];refine dr mixed ?_;refine bP h λn h=>?_;refine bP h λo h=>?_;refine dk ?_;refine cd h (λj h=>?_) (λj h=>?_);cases h;cases d _ rfl;replace h:=c;try dsimp only at h
 cases h;exact rt [];cases h;exact bl [];cases h;cases d _ rfl;replace h:=c;try dsimp only at h
 exact bj _ [];intro _ h;try dsimp only at h
 cases h;exact rt []
theorem JU(N:Nat)(a:(List Int))(b:(List Int))(r:(List Int))(h:xa N a b=some r):Cn aL 80 [sR bM false a,sR bM false b] [.row bM true r] [sO 0]:=by
 unfold xa at h;refine fn tb en80 Tryz.func80 λX w H ν=>?_;refine gM bM h λx2 h=>?_;refine jn (λx=>x) (λc=>aX 1 [.row bM true c] [vo 5 0]) h (λl g i=>?_) ?_;refine bk ?_;refine lp (λ⟨d,e,f⟩=>aX 1 [.row bM true d] [vr 0 bM false a,vr 1 bM false b,vo 5 0,vk 6 .u64 e,vi 16 (List.length x2:Int),vi 17 f]) g [0] ?_;rintro⟨d,e,f⟩ oo h j
 rw[E1]at h
 refine cd h (λk h=>?_) (λk h=>?_);refine bk ?_;refine cl none [] 0 h (DB N _ _) λm h=>?_;refine cl none [] 0 h (DB N _ _) λn h=>?_;refine cC h λo h=>?_;refine ej true h λp h=>?_;refine ou ?_;cases h;exact bl [0];cases h;cases j _ rfl;replace h:=i;try dsimp only at h
 exact bj _ [0];intro c h;try dsimp only at h
 cases h;exact rt [0]
theorem G0(N:Nat)(a:(List Int))(b:(List Int))(r:(List Int))(h:tw N a b=some r):Cn aL 81 [sR bM false a,sR bM false b] [.row bM true r] [sO 0]:=by
 unfold tw at h;refine fn tb en81 Tryz.func81 λX w H ν=>?_;refine gM bM h λx2 h=>?_;refine jn (λx=>x) (λc=>aX 1 [.row bM true c] [vo 5 0]) h (λl g i=>?_) ?_;refine bk ?_;refine lp (λ⟨d,e,f⟩=>aX 1 [.row bM true d] [vr 0 bM false a,vr 1 bM false b,vo 5 0,vk 6 .u64 e,vi 13 (List.length a:Int),vi 14 f]) g [0] ?_;rintro⟨d,e,f⟩ oo h j
 rw[HD]at h
 refine cd h (λk h=>?_) (λk h=>?_);refine bk ?_;refine dr mixed ?_;refine bP h λm h=>?_;refine cl none [] 0 h (DB N _ _) λn h=>?_;refine dk ?_;refine cC h λo h=>?_;refine ej true h λp h=>?_;refine ou ?_;cases h;exact bl [0];cases h;cases j _ rfl;replace h:=i;try dsimp only at h
 exact bj _ [0];intro c h;try dsimp only at h
 cases h;exact rt [0]
theorem Ri(N:Nat)(a:(List Int))(b:(List Int))(r:(List Int))(h:xR N a b=some r):Cn aL 86 [sR bM false a,sR bM false b] [.row bM true r] [sO 0]:=by
 unfold xR at h;refine fn tb en86 Tryz.func86 λX w H ν=>?_;refine gM bM h λx2 h=>?_;refine jn (λx=>x) (λd=>aX 1 [.row bM true d] [vo 5 0]) h (λa0 l m=>?_) ?_;refine bk ?_;refine lp (λ⟨e,c⟩=>aX 1 [.row bM true e] [vr 1 bM false b,vo 5 0,vr 17 bM false a,vi 18 (List.length a:Int),vi 19 c]) l [0] ?_;rintro⟨e,c⟩ oo h n
 rw[EA]at h
 refine cd h (λo h=>?_) (λo h=>?_);refine bk ?_;refine bP h λp h=>?_;refine jn (λx=>x) (λ⟨f,g⟩=>aX 1 [.row bM true f] [vr 1 bM false b,vo 5 0,vi 6 c,vk 8 .u64 g,vr 17 bM false a,vi 18 (List.length a:Int),vi 19 c]) h (λa1 s u=>?_) ?_;refine bk ?_;refine lp (λ⟨i,j,k⟩=>aX 1 [.row bM true i] [vr 1 bM false b,vo 5 0,vi 6 c,vk 7 .u32 p,vk 8 .u64 j,vr 17 bM false a,vi 18 (List.length a:Int),vi 19 c,vr 24 bM false b,vi 25 (List.length b:Int),vi 26 k]) s [0] ?_;rintro⟨i,j,k⟩ oo h v
 rw[E5]at h
 refine cd h (λy h=>?_) (λy h=>?_);refine bk ?_;refine bP h λa2 h=>?_;refine cC h λa3 h=>?_;refine du ?_;refine cC h λa4 h=>?_;refine ej true h λa5 h=>?_;refine ou ?_;cases h;exact bl [0];cases h;cases v _ rfl;replace h:=u;try dsimp only at h
 exact bj _ [0];rintro⟨f,g⟩ h;try dsimp only at h
 refine cC h λa6 h=>?_;refine ej true h λa7 h=>?_;cases h;exact bl [0];cases h;cases n _ rfl;replace h:=m;try dsimp only at h
 exact bj _ [0];intro d h;try dsimp only at h
 cases h;exact rt [0]
theorem Me(N:Nat)(a:(List Int))(pb:Int)(r:((List Int)×Int))(h:xh N a pb=some r):Cn aL 111 [sR bM false a,sI .u32 pb] [.row bM true r.1] [sO 0,sI .u32 r.2]:=by
 unfold xh at h;refine fn tb en111 Tryz.func111 λX w H ν=>?_;refine gM bM h λx2 h=>?_;refine jn (λx=>x) (λ⟨b,c⟩=>aX 1 [.row bM true b] [vo 6 0,vk 7 .u64 c]) h (λl g i=>?_) ?_;refine bk ?_;refine lp (λ⟨d,e,f⟩=>aX 1 [.row bM true d] [vr 0 bM false a,vk 1 .u32 pb,vo 6 0,vk 7 .u64 e,vi 8 f]) g [0] ?_;rintro⟨d,e,f⟩ oo h j
 rw[GI]at h
 refine cd h (λk h=>?_) (λk h=>?_);refine bk ?_;refine slL ?_;refine bP h λm h=>?_;refine quB h λn h=>?_;refine cC h λo h=>?_;refine ej true h λp h=>?_;refine reB h λs h=>?_;cases h;exact bl [0];cases h;cases j _ rfl;replace h:=i;try dsimp only at h
 exact bj _ [0];rintro⟨b,c⟩ h;try dsimp only at h
 cases h;exact rt [0]
theorem Jt(N:Nat)(a:(List Int))(n:Int)(r:(List Int))(h:wx N a n=some r):Cn aL 113 [sR bM false a,sI .u64 n] [.row bM true r] [sO 0]:=by
 unfold wx at h;refine fn tb en113 Tryz.func113 λX w H ν=>?_;refine gM bM h λx2 h=>?_;refine jn (λx=>x) (λb=>aX 1 [.row bM true b] [vo 5 0]) h (λj e f=>?_) ?_;refine bk ?_;refine lp (λ⟨c,d⟩=>aX 1 [.row bM true c] [vk 1 .u64 n,vo 5 0,vr 13 bM false a,vi 14 (List.length a:Int),vi 15 d]) e [0] ?_;rintro⟨c,d⟩ oo h g
 rw[ES]at h
 refine cd h (λi h=>?_) (λi h=>?_);refine bk ?_;refine bP h λk h=>?_;refine slB h λl h=>?_;refine cC h λm h=>?_;refine du ?_;refine cC h λo h=>?_;refine ej true h λp h=>?_;refine ou ?_;refine cC h λs h=>?_;refine ej true h λu h=>?_;cases h;exact bl [0];cases h;cases g _ rfl;replace h:=f;try dsimp only at h
 exact bj _ [0];intro b h;try dsimp only at h
 cases h;exact rt [0]
end Go.Proofs.YtipdkfmhfakbnaaGreatDoor.SA

/- Walks of the symbolic machine, written by a program of mine (wip/tool). -/
import Derived.Test.YtipdkfmhfakbnaaGreatDoorTB
import Derived.Test.YtipdkfmhfakbnaaGreatDoorAg
import Derived.Test.YtipdkfmhfakbnaaGreatDoorAd
set_option linter.unusedVariables false
set_option linter.unusedSimpArgs false
set_option linter.unusedSectionVars false
set_option maxRecDepth 100000
set_option maxHeartbeats 4000000
namespace Go.Proofs.YtipdkfmhfakbnaaGreatDoor.SA
open Go Go.RowKit Go.X Go.Q Go.D Go.Proofs.YtipdkfmhfakbnaaGreatDoor.TB Go.Proofs.YtipdkfmhfakbnaaGreatDoor.FS 
theorem Th(N:Nat)(s:(List Int))(r:(List Int))(h:y7 N s=some r):Cn Tryz.prog 146 [sR (aF .u32) false s] [.row (aF .u32) true r] [sO 0]:=by
 unfold y7 at h;refine fn tb en146 Tryz.func146 λX w H ν=>?_;refine uO ?_;refine cn (λhnil=>?_) ?_;replace h:some []=some r:=by rw[hnil]at h;simpa[cZ]using h
 refine pr (nl 2 (aF .u32)) ?_;cases h;exact rt [0];refine jI (aF .u32) ?_;refine ei true h λa h=>?_;cases h;exact rt [1]
theorem AY(N:Nat)(d:(List Int))(i:Int)(r:Int)(h:digit N d i=some r):Cn Tryz.prog 115 [sR (aF .u32) false d,sI .i64 i] [] [sI .u64 r]:=by
 unfold digit at h;refine fn tb en115 Tryz.func115 λX w H ν=>?_;refine cd h (λhc1 h=>?_) (λhc1 h=>?_);refine bR h λx2 h=>?_;cases h;exact rt [];cases h;exact rt []
theorem Ud(N:Nat)(n:Int)(r:Int)(h:Bk N n=some r):Cn Tryz.prog 116 [sI .i64 n] [] [sI .i64 r]:=by
 unfold Bk at h;refine fn tb en116 Tryz.func116 λX w H ν=>?_;cases h;exact rt []
theorem qb(N:Nat)(d:(List Int))(r:(List Int))(h:l9 N d=some r):Cn Tryz.prog 110 [sR (aF .u32) false d] [.row (aF .u32) true r] [sO 0]:=by
 unfold l9 at h;refine fn tb en110 Tryz.func110 λX w H ν=>?_;refine jn (λx=>x) (λb=>aZ 0 [] [vr 0 (aF .u32) false d,vi 3 b]) h (λk e f=>?_) ?_;refine bk ?_;refine lp (λa=>aZ 0 [] [vr 0 (aF .u32) false d,vi 3 a]) e [] ?_;rintro a oo h g
 rw[Ea]at h
 refine jn (λx=>x) (λc=>aZ 0 [] [vr 0 (aF .u32) false d,vi 3 a,vb 15 c]) h (λl h m=>?_) ?_;refine rg ?_;refine gd h (λi h=>?_) (λi h=>?_);refine bR h λn h=>?_;cases h;exact bj _ [];cases h;exact bj _ [];intro c h;try dsimp only at h
 refine cd h (λj h=>?_) (λj h=>?_);refine bk ?_;cases h;exact bl [];cases h;cases g _ rfl;replace h:=f;try dsimp only at h
 exact bj _ [];intro b h;try dsimp only at h
 refine zV h λo h=>?_;refine cl none [] 1 h (Th N _) λp h=>?_;cases h;exact rt [0]
theorem mN(N:Nat)(negative:Bool)(d:(List Int))(r:aC)(h:kp N negative d=some r):Cn Tryz.prog 76 [sB negative,sR (aF .u32) false d] [] [sA aD true r]:=by
 unfold kp at h;refine fn tb en76 Tryz.func76 λX w H ν=>?_;refine cl none [] 1 h (qb N _) λr6 h=>?_;refine cd h (λa h=>?_) (λa h=>?_);cases h;exact rt [];cases h;exact rt []
theorem zW(N:Nat)(a:(List Int))(b:(List Int))(r:Int)(h:qZ N a b=some r):Cn Tryz.prog 82 [sR (aF .u32) false a,sR (aF .u32) false b] [] [sI .i64 r]:=by
 unfold qZ at h;refine fn tb en82 Tryz.func82 λX w H ν=>?_;refine cd h (λhc1 h=>?_) (λhc1 h=>?_);refine cl none [] 0 h (Ud N _) λr2 h=>?_;cases h;exact rt [];refine jn (λx=>(Sum.inl x)) (λ(_:Unit)=>aZ 0 [] []) h (λk f c=>?_) ?_;refine bk ?_;refine lp (λe=>aZ 0 [] [vr 0 (aF .u32) false a,vr 1 (aF .u32) false b,vi 5 e]) f [] ?_;rintro e oo h d
 rw[Fy]at h
 refine cd h (λg h=>?_) (λg h=>?_);refine bk ?_;refine dr mixed ?_;refine bR h λl h=>?_;refine bR h λm h=>?_;refine dk ?_;refine cd h (λi h=>?_) (λi h=>?_);cases h;cases d _ rfl;replace h:=c;try dsimp only at h
 cases h;exact rt [];refine dr mixed ?_;refine bR h λn h=>?_;refine bR h λo h=>?_;refine dk ?_;refine cd h (λj h=>?_) (λj h=>?_);cases h;cases d _ rfl;replace h:=c;try dsimp only at h
 cases h;exact rt [];cases h;exact bl [];cases h;cases d _ rfl;replace h:=c;try dsimp only at h
 exact bj _ [];intro _ h;try dsimp only at h
 cases h;exact rt []
theorem Mr(N:Nat)(a:(List Int))(b:(List Int))(r:(List Int))(h:wb N a b=some r):Cn Tryz.prog 80 [sR (aF .u32) false a,sR (aF .u32) false b] [.row (aF .u32) true r] [sO 0]:=by
 unfold wb at h;refine fn tb en80 Tryz.func80 λX w H ν=>?_;refine ie (aF .u32) h λx2 h=>?_;refine jn (λx=>x) (λc=>aZ 1 [.row (aF .u32) true c] [vo 5 0]) h (λl g i=>?_) ?_;refine bk ?_;refine lp (λ⟨d,e,f⟩=>aZ 1 [.row (aF .u32) true d] [vr 0 (aF .u32) false a,vr 1 (aF .u32) false b,vo 5 0,vk 6 .u64 e,vi 16 (List.length x2:Int),vi 17 f]) g [0] ?_;rintro⟨d,e,f⟩ oo h j
 rw[E2]at h
 refine cd h (λk h=>?_) (λk h=>?_);refine bk ?_;refine cl none [] 0 h (AY N _ _) λm h=>?_;refine cl none [] 0 h (AY N _ _) λn h=>?_;refine cK h λo h=>?_;refine eH true h λp h=>?_;refine nP ?_;cases h;exact bl [0];cases h;cases j _ rfl;replace h:=i;try dsimp only at h
 exact bj _ [0];intro c h;try dsimp only at h
 cases h;exact rt [0]
theorem E4(N:Nat)(a:(List Int))(b:(List Int))(r:(List Int))(h:tv N a b=some r):Cn Tryz.prog 81 [sR (aF .u32) false a,sR (aF .u32) false b] [.row (aF .u32) true r] [sO 0]:=by
 unfold tv at h;refine fn tb en81 Tryz.func81 λX w H ν=>?_;refine ie (aF .u32) h λx2 h=>?_;refine jn (λx=>x) (λc=>aZ 1 [.row (aF .u32) true c] [vo 5 0]) h (λl g i=>?_) ?_;refine bk ?_;refine lp (λ⟨d,e,f⟩=>aZ 1 [.row (aF .u32) true d] [vr 0 (aF .u32) false a,vr 1 (aF .u32) false b,vo 5 0,vk 6 .u64 e,vi 13 (List.length a:Int),vi 14 f]) g [0] ?_;rintro⟨d,e,f⟩ oo h j
 rw[EK]at h
 refine cd h (λk h=>?_) (λk h=>?_);refine bk ?_;refine dr mixed ?_;refine bR h λm h=>?_;refine cl none [] 0 h (AY N _ _) λn h=>?_;refine dk ?_;refine cK h λo h=>?_;refine eH true h λp h=>?_;refine nP ?_;cases h;exact bl [0];cases h;cases j _ rfl;replace h:=i;try dsimp only at h
 exact bj _ [0];intro c h;try dsimp only at h
 cases h;exact rt [0]
theorem Vc(N:Nat)(a:(List Int))(b:(List Int))(r:(List Int))(h:yQ N a b=some r):Cn Tryz.prog 86 [sR (aF .u32) false a,sR (aF .u32) false b] [.row (aF .u32) true r] [sO 0]:=by
 unfold yQ at h;refine fn tb en86 Tryz.func86 λX w H ν=>?_;refine ie (aF .u32) h λx2 h=>?_;refine jn (λx=>x) (λd=>aZ 1 [.row (aF .u32) true d] [vo 5 0]) h (λa0 l m=>?_) ?_;refine bk ?_;refine lp (λ⟨e,c⟩=>aZ 1 [.row (aF .u32) true e] [vr 1 (aF .u32) false b,vo 5 0,vr 17 (aF .u32) false a,vi 18 (List.length a:Int),vi 19 c]) l [0] ?_;rintro⟨e,c⟩ oo h n
 rw[DJ]at h
 refine cd h (λo h=>?_) (λo h=>?_);refine bk ?_;refine bR h λp h=>?_;refine jn (λx=>x) (λ⟨f,g⟩=>aZ 1 [.row (aF .u32) true f] [vr 1 (aF .u32) false b,vo 5 0,vi 6 c,vk 8 .u64 g,vr 17 (aF .u32) false a,vi 18 (List.length a:Int),vi 19 c]) h (λa1 s u=>?_) ?_;refine bk ?_;refine lp (λ⟨i,j,k⟩=>aZ 1 [.row (aF .u32) true i] [vr 1 (aF .u32) false b,vo 5 0,vi 6 c,vk 7 .u32 p,vk 8 .u64 j,vr 17 (aF .u32) false a,vi 18 (List.length a:Int),vi 19 c,vr 24 (aF .u32) false b,vi 25 (List.length b:Int),vi 26 k]) s [0] ?_;rintro⟨i,j,k⟩ oo h v
 rw[Dp]at h
 refine cd h (λy h=>?_) (λy h=>?_);refine bk ?_;refine bR h λa2 h=>?_;refine cK h λa3 h=>?_;refine dX ?_;refine cK h λa4 h=>?_;refine eH true h λa5 h=>?_;refine nP ?_;cases h;exact bl [0];cases h;cases v _ rfl;replace h:=u;try dsimp only at h
 exact bj _ [0];rintro⟨f,g⟩ h;try dsimp only at h
 refine cK h λa6 h=>?_;refine eH true h λa7 h=>?_;cases h;exact bl [0];cases h;cases n _ rfl;replace h:=m;try dsimp only at h
 exact bj _ [0];intro d h;try dsimp only at h
 cases h;exact rt [0]
theorem Kn(N:Nat)(a:(List Int))(pb:Int)(r:((List Int)×Int))(h:uZ N a pb=some r):Cn Tryz.prog 111 [sR (aF .u32) false a,sI .u32 pb] [.row (aF .u32) true r.1] [sO 0,sI .u32 r.2]:=by
 unfold uZ at h;refine fn tb en111 Tryz.func111 λX w H ν=>?_;refine ie (aF .u32) h λx2 h=>?_;refine jn (λx=>x) (λ⟨b,c⟩=>aZ 1 [.row (aF .u32) true b] [vo 6 0,vk 7 .u64 c]) h (λl g i=>?_) ?_;refine bk ?_;refine lp (λ⟨d,e,f⟩=>aZ 1 [.row (aF .u32) true d] [vr 0 (aF .u32) false a,vk 1 .u32 pb,vo 6 0,vk 7 .u64 e,vi 8 f]) g [0] ?_;rintro⟨d,e,f⟩ oo h j
 rw[GG]at h
 refine cd h (λk h=>?_) (λk h=>?_);refine bk ?_;refine slL ?_;refine bR h λm h=>?_;refine quB h λn h=>?_;refine cK h λo h=>?_;refine eH true h λp h=>?_;refine reB h λs h=>?_;cases h;exact bl [0];cases h;cases j _ rfl;replace h:=i;try dsimp only at h
 exact bj _ [0];rintro⟨b,c⟩ h;try dsimp only at h
 cases h;exact rt [0]
theorem M7(N:Nat)(a:(List Int))(n:Int)(r:(List Int))(h:vT N a n=some r):Cn Tryz.prog 113 [sR (aF .u32) false a,sI .u64 n] [.row (aF .u32) true r] [sO 0]:=by
 unfold vT at h;refine fn tb en113 Tryz.func113 λX w H ν=>?_;refine ie (aF .u32) h λx2 h=>?_;refine jn (λx=>x) (λb=>aZ 1 [.row (aF .u32) true b] [vo 5 0]) h (λj e f=>?_) ?_;refine bk ?_;refine lp (λ⟨c,d⟩=>aZ 1 [.row (aF .u32) true c] [vk 1 .u64 n,vo 5 0,vr 13 (aF .u32) false a,vi 14 (List.length a:Int),vi 15 d]) e [0] ?_;rintro⟨c,d⟩ oo h g
 rw[GV]at h
 refine cd h (λi h=>?_) (λi h=>?_);refine bk ?_;refine bR h λk h=>?_;refine slB h λl h=>?_;refine cK h λm h=>?_;refine dX ?_;refine cK h λo h=>?_;refine eH true h λp h=>?_;refine nP ?_;refine cK h λs h=>?_;refine eH true h λu h=>?_;cases h;exact bl [0];cases h;cases g _ rfl;replace h:=f;try dsimp only at h
 exact bj _ [0];intro b h;try dsimp only at h
 cases h;exact rt [0]
end Go.Proofs.YtipdkfmhfakbnaaGreatDoor.SA

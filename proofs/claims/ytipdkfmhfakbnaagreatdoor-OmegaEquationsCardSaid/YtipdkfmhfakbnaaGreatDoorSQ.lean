/- Walks of the symbolic machine, written by a program of mine (wip/tool). -/
import Derived.Test.YtipdkfmhfakbnaaGreatDoorSB
import Derived.Test.YtipdkfmhfakbnaaGreatDoorSP
set_option linter.unusedVariables false
set_option linter.unusedSimpArgs false
set_option maxRecDepth 100000
set_option maxHeartbeats 4000000
namespace Go.Proofs.YtipdkfmhfakbnaaGreatDoor.SQ
open Go Go.RowKit Go.X Go.Q Go.D Go.Proofs.YtipdkfmhfakbnaaGreatDoor.TB Go.Proofs.YtipdkfmhfakbnaaGreatDoor.FS Go.Proofs.YtipdkfmhfakbnaaGreatDoor.SB Go.Proofs.YtipdkfmhfakbnaaGreatDoor.SP
theorem Kn(N:Nat)(l:(List aC))(r:aC)(h:yX N l=some r):Cn aL 148 [sR aE false l] [] [sA aE true r]:=by
 unfold yX at h;refine fn tb en148 Tryz.func148 λX w H ν=>?_;refine jn (λx=>x) (λ⟨a,b⟩=>aX 2 [.box [(lB false),lN],.box [(lB a),(.ro bM true b)]] [vp 2 0,vp 3 1]) h (λk f g=>?_) ?_;refine bk ?_;refine lp (λ⟨c,d,e⟩=>aX 2 [.box [(lB false),lN],.box [(lB c),(.ro bM true d)]] [vp 2 0,vp 3 1,vr 6 aE false l,vi 7 (List.length l:Int),vi 8 e]) f [0,1] ?_;rintro⟨c,d,e⟩ oo h i
 rw[EV]at h
 refine cd h (λj h=>?_) (λj h=>?_);refine bk ?_;refine bP h λm h=>?_;refine cl none [] 0 h (WH N _ _) λn h=>?_;cases h;exact bl [0,1];cases h;cases i _ rfl;replace h:=g;try dsimp only at h
 exact bj _ [0,1];rintro⟨a,b⟩ h;try dsimp only at h
 cases h;exact rt []
theorem tZ(N:Nat)(l:(List aC))(r:(List aC))(h:nY N l=some r):Cn aL 93 [sR aE false l] [.row aE true r] [sO 0]:=by
 unfold nY at h;refine fn tb en93 Tryz.func93 λX w H ν=>?_;refine gM aE h λx2 h=>?_;refine jn (λx=>x) (λa=>aX 1 [.row aE true a] [vo 3 0]) h (λi d e=>?_) ?_;refine bk ?_;refine lp (λ⟨b,c⟩=>aX 1 [.row aE true b] [vr 0 aE false l,vo 3 0,vi 9 (List.length l:Int),vi 10 c]) d [0] ?_;rintro⟨b,c⟩ oo h f
 rw[Cu]at h
 refine cd h (λg h=>?_) (λg h=>?_);refine bk ?_;refine bP h λj h=>?_;refine cl none [] 0 h (mC N _) λk h=>?_;refine kh h λm n h=>?_;refine ej true h λo h=>?_;cases h;exact bl [0];cases h;cases f _ rfl;replace h:=e;try dsimp only at h
 exact bj _ [0];intro a h;try dsimp only at h
 cases h;exact rt [0]
theorem Ot(N:Nat)(g:(List aC))(r:(List UInt8))(h:vg N g=some r):Cn aL 92 [sR aE false g] [] [sT r]:=by
 unfold vg at h;refine fn tb en92 Tryz.func92 λX w H ν=>?_;refine jn (λx=>x) (λa=>aX 1 [.row iy true a] [vo 3 0]) h (λk d e=>?_) ?_;refine bk ?_;refine ps (nl 3 iy) ?_;refine lp (λ⟨b,c⟩=>aX 1 [.row iy true b] [vo 3 0,vr 6 aE false g,vi 7 (List.length g:Int),vi 8 c]) d [0] ?_;rintro⟨b,c⟩ oo h f
 rw[Fz]at h
 refine cd h (λi h=>?_) (λi h=>?_);refine bk ?_;refine bP h λl h=>?_;refine cl none [] 0 h (Qs N _) λj h=>?_;refine dA iy true [j] ?_;refine ei true h λm h=>?_;cases h;exact bl [3];cases h;cases f _ rfl;replace h:=e;try dsimp only at h
 exact bj _ [0];intro a h;try dsimp only at h
 refine cl none [] 0 h (O3 N _ _) λn h=>?_;cases h;exact rt []
theorem zf(N:Nat)(pa:Int)(low:bD)(cw:(List bD))(r:aC)(h:qg N pa low cw=some r):Cn aL 136 [sI .i64 pa,sA aP false low,sR aP false cw] [] [sA aE true r]:=by
 unfold qg at h;refine fn tb en136 Tryz.func136 λX w H ν=>?_;refine bP h λj h=>?_;refine bP h λk h=>?_;refine jn (λx=>x) (λa=>aX 3 [.box (aO.cl aP false low),.box [(lB false),lN],.box (aO.cl aE false a)] [vi 0 pa,vp 4 0,vp 6 1,vp 7 2]) h (λl d e=>?_) ?_;refine bk ?_;refine lp (λ⟨b,c⟩=>aX 3 [.box (aO.cl aP false low),.box [(lB false),lN],.box (aO.cl aE false b)] [vi 0 pa,vp 4 0,vp 6 1,vp 7 2,vr 21 aP false cw,vi 22 (List.length cw:Int),vi 23 c]) d [0,1,2] ?_;rintro⟨b,c⟩ oo h f
 rw[H4]at h
 refine cd h (λg h=>?_) (λg h=>?_);refine bk ?_;refine bP h λm h=>?_;refine dr mixed ?_;refine bP h λn h=>?_;refine cl none [] 0 h (jY N _ _) λo h=>?_;refine dk ?_;refine cd h (λi h=>?_) (λi h=>?_);refine bP h λp h=>?_;cases h;exact bl [0,1,2];cases h;exact bl [0,1,2];cases h;cases f _ rfl;replace h:=e;try dsimp only at h
 exact bj _ [0,1,2];intro a h;try dsimp only at h
 refine bP h λs h=>?_;refine cl none [] 0 h (mC N _) λu h=>?_;refine dr mixed ?_;refine cl none [] 0 h (mj N _ _) λv h=>?_;refine cl none [] 0 h (l5 N _ _) λy h=>?_;refine cl none [] 0 h (l5 N _ _) λa0 h=>?_;refine cl none [] 0 h (mV N _ _) λa1 h=>?_;refine dk ?_;cases h;exact rt []
theorem LH(N:Nat)(x:bD)(r:(Int×Bool))(h:wS N x=some r):Cn aL 161 [sA aP false x] [] [sI .i64 r.1,sB r.2]:=by
 unfold wS at h;refine fn tb en161 Tryz.func161 λX w H ν=>?_;refine jn (λx=>x) (λ⟨a,b⟩=>aX 0 [] [vi 4 a,vi 5 b]) h (λm f i=>?_) ?_;refine bk ?_;refine lp (λ⟨c,d,e⟩=>aX 1 [.box (aO.cl aP false x)] [vp 1 0,vi 4 c,vi 5 d,vi 9 (List.length x.g:Int),vi 10 e]) f [0] ?_;rintro⟨c,d,e⟩ oo h j
 rw[FY]at h
 refine cd h (λk h=>?_) (λk h=>?_);refine bk ?_;refine bP h λn h=>?_;refine cl none [] 0 h (iW N _) λo h=>?_;refine cd h (λl h=>?_) (λl h=>?_);cases h;exact bl [0];cases h;exact bl [0];cases h;cases j _ rfl;replace h:=i;try dsimp only at h
 exact bj _ [];rintro⟨a,b⟩ h;try dsimp only at h
 cases h;exact rt []
theorem Pj(N:Nat)(l:(List bD))(pb:Int)(pc:Int)(r:(List bD))(h:wv N l pb pc=some r):Cn aL 169 [sR aP false l,sI .i64 pb,sI .i64 pc] [.row aP false r] [sO 0]:=by
 unfold wv at h;refine fn tb en169 Tryz.func169 λX w H ν=>?_;refine cl (some false) [] 1 h (GQ N _) λr1 h=>?_;refine jn (λx=>x) (λa=>aX 1 [.row aP false a] [vo 0 0]) h (λj d e=>?_) ?_;refine bk ?_;refine lp (λ⟨b,c⟩=>aX 1 [.row aP false b] [vo 0 0,vi 1 pb,vi 2 pc,vi 11 (List.length r1:Int),vi 12 c]) d [0] ?_;rintro⟨b,c⟩ oo h f
 rw[C6]at h
 refine cd h (λg h=>?_) (λg h=>?_);refine bk ?_;refine kh h λk m h=>?_;refine du ?_;refine cd h (λi h=>?_) (λi h=>?_);refine kh h λn o h=>?_;refine stP h (λp h=>?_) (by assumption);cases h;exact bl [0];cases h;exact bl [0];cases h;cases f _ rfl;replace h:=e;try dsimp only at h
 exact bj _ [0];intro a h;try dsimp only at h
 cases h;exact rt [0]
theorem Kt(N:Nat)(n:Int)(pb:Int)(sign:Int)(bound:aC)(r:bI)(h:CY N n pb sign bound=some r):Cn aL 48 [sI .i64 n,sI .i64 pb,sI .i64 sign,sA aE false bound] [] [sA aT false r]:=by
 unfold CY at h;refine fn tb en48 Tryz.func48 λX w H ν=>?_;refine dr mixed ?_;refine gM aE h λa h=>?_;refine dk ?_;refine dr mixed ?_;refine cl none [] 0 h (ic N _) λb h=>?_;refine kh h λc d h=>?_;refine ej true h λe h=>?_;refine dk ?_;cases h;exact rt []
theorem Ll(N:Nat)(a:aC)(b:aC)(r:Bool)(h:rb N a b=some r):Cn aL 127 [sA aE false a,sA aE false b] [] [sB r]:=by
 unfold rb at h;refine fn tb FZ Tryz.func127 λX w H ν=>?_;refine cl none [] 0 h (jY N _ _) λc h=>?_;cases h;exact rt []
theorem Oy(N:Nat)(x:aC)(r:aC)(h:rU N x=some r):Cn aL 123 [sA aE false x] [] [sA aE false r]:=by
 unfold rU at h;refine fn tb EP Tryz.func123 λX w H ν=>?_;cases h;exact rt []
theorem RH(N:Nat)(x:bD)(ca:Int)(cb:(List bD))(r:Bool)(h:wP N x ca cb=some r):Cx aL 135 [sA aP false x,.lf (.pd (qp false [lI .i64 ca])),.lf (.pd (qp false [.ro aP false cb]))] [] [] [sB r]:=by
 unfold wP at h;refine iZ tb (.comp (tA 1) (tA 2)) Nc Tryz.func135 λX w H ν=>?_;refine cl none [] 0 h (zf N _ _ _) λr8 h=>?_;refine cl none [] 0 h (iW N _) λa h=>?_;cases h;exact rt []
theorem TW(N:Nat)(x:bD)(ca:Int)(r:Bool)(h:wi N x ca=some r):Cx aL 145 [sA aP false x,.lf (.pd (qp false [lI .i64 ca]))] [] [] [sB r]:=by
 unfold wi at h;refine iZ tb (tA 1) Kv Tryz.func145 λX w H ν=>?_;refine bP h λx7 h=>?_;refine cl none [] 0 h (iW N _) λa h=>?_;cases h;exact rt []
end Go.Proofs.YtipdkfmhfakbnaaGreatDoor.SQ

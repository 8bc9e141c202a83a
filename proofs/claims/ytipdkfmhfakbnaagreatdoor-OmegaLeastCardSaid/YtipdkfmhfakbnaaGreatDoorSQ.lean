/- Walks of the symbolic machine, written by a program of mine (wip/tool). -/
import Derived.Test.YtipdkfmhfakbnaaGreatDoorTB
import Derived.Test.YtipdkfmhfakbnaaGreatDoorAg
import Derived.Test.YtipdkfmhfakbnaaGreatDoorAe
import Derived.Test.YtipdkfmhfakbnaaGreatDoorSB
import Derived.Test.YtipdkfmhfakbnaaGreatDoorSP
set_option linter.unusedVariables false
set_option linter.unusedSimpArgs false
set_option linter.unusedSectionVars false
set_option maxRecDepth 100000
set_option maxHeartbeats 4000000
namespace Go.Proofs.YtipdkfmhfakbnaaGreatDoor.SQ
open Go Go.RowKit Go.X Go.Q Go.D Go.Proofs.YtipdkfmhfakbnaaGreatDoor.TB Go.Proofs.YtipdkfmhfakbnaaGreatDoor.FS Go.Proofs.YtipdkfmhfakbnaaGreatDoor.SB Go.Proofs.YtipdkfmhfakbnaaGreatDoor.SP
theorem J1(N:Nat)(l:(List aC))(r:aC)(h:xm N l=some r):Cn Tryz.prog 148 [sR aD false l] [] [sA aD true r]:=by
 unfold xm at h;refine fn tb en148 Tryz.func148 λX w H ν=>?_;refine jn (λx=>x) (λ⟨a,b⟩=>aZ 2 [.box [(lB false),lN],.box [(lB a),(.ro (aF .u32) true b)]] [vp 2 0,vp 3 1]) h (λk f g=>?_) ?_;refine bk ?_;refine lp (λ⟨c,d,e⟩=>aZ 2 [.box [(lB false),lN],.box [(lB c),(.ro (aF .u32) true d)]] [vp 2 0,vp 3 1,vr 6 aD false l,vi 7 (List.length l:Int),vi 8 e]) f [0,1] ?_;rintro⟨c,d,e⟩ oo h i
 rw[Dr]at h
 refine cd h (λj h=>?_) (λj h=>?_);refine bk ?_;refine bR h λm h=>?_;refine cl none [] 0 h (Vx N _ _) λn h=>?_;cases h;exact bl [0,1];cases h;cases i _ rfl;replace h:=g;try dsimp only at h
 exact bj _ [0,1];rintro⟨a,b⟩ h;try dsimp only at h
 cases h;exact rt []
theorem tQ(N:Nat)(l:(List aC))(r:(List aC))(h:ns N l=some r):Cn Tryz.prog 93 [sR aD false l] [.row aD true r] [sO 0]:=by
 unfold ns at h;refine fn tb en93 Tryz.func93 λX w H ν=>?_;refine ie aD h λx2 h=>?_;refine jn (λx=>x) (λa=>aZ 1 [.row aD true a] [vo 3 0]) h (λi d e=>?_) ?_;refine bk ?_;refine lp (λ⟨b,c⟩=>aZ 1 [.row aD true b] [vr 0 aD false l,vo 3 0,vi 9 (List.length l:Int),vi 10 c]) d [0] ?_;rintro⟨b,c⟩ oo h f
 rw[BP]at h
 refine cd h (λg h=>?_) (λg h=>?_);refine bk ?_;refine bR h λj h=>?_;refine cl none [] 0 h (lY N _) λk h=>?_;refine jS h λm n h=>?_;refine eH true h λo h=>?_;cases h;exact bl [0];cases h;cases f _ rfl;replace h:=e;try dsimp only at h
 exact bj _ [0];intro a h;try dsimp only at h
 cases h;exact rt [0]
theorem Jc(N:Nat)(g:(List aC))(r:(List UInt8))(h:vI N g=some r):Cn Tryz.prog 92 [sR aD false g] [] [sT r]:=by
 unfold vI at h;refine fn tb en92 Tryz.func92 λX w H ν=>?_;refine jn (λx=>x) (λa=>aZ 1 [.row gX true a] [vo 3 0]) h (λk d e=>?_) ?_;refine bk ?_;refine ps (nl 3 gX) ?_;refine lp (λ⟨b,c⟩=>aZ 1 [.row gX true b] [vo 3 0,vr 6 aD false g,vi 7 (List.length g:Int),vi 8 c]) d [0] ?_;rintro⟨b,c⟩ oo h f
 rw[DL]at h
 refine cd h (λi h=>?_) (λi h=>?_);refine bk ?_;refine bR h λl h=>?_;refine cl none [] 0 h (QG N _) λj h=>?_;refine dp gX true [j] ?_;refine ei true h λm h=>?_;cases h;exact bl [3];cases h;cases f _ rfl;replace h:=e;try dsimp only at h
 exact bj _ [0];intro a h;try dsimp only at h
 refine cl none [] 0 h (LF N _ _) λn h=>?_;cases h;exact rt []
theorem xj(N:Nat)(pa:Int)(low:bB)(cr:(List bB))(r:aC)(h:pB N pa low cr=some r):Cn Tryz.prog 136 [sI .i64 pa,sA aP false low,sR aP false cr] [] [sA aD true r]:=by
 unfold pB at h;refine fn tb en136 Tryz.func136 λX w H ν=>?_;refine bR h λj h=>?_;refine bR h λk h=>?_;refine jn (λx=>x) (λa=>aZ 3 [.box (aM.cl aP false low),.box [(lB false),lN],.box (aM.cl aD false a)] [vi 0 pa,vp 4 0,vp 6 1,vp 7 2]) h (λl d e=>?_) ?_;refine bk ?_;refine lp (λ⟨b,c⟩=>aZ 3 [.box (aM.cl aP false low),.box [(lB false),lN],.box (aM.cl aD false b)] [vi 0 pa,vp 4 0,vp 6 1,vp 7 2,vr 21 aP false cr,vi 22 (List.length cr:Int),vi 23 c]) d [0,1,2] ?_;rintro⟨b,c⟩ oo h f
 rw[G5]at h
 refine cd h (λg h=>?_) (λg h=>?_);refine bk ?_;refine bR h λm h=>?_;refine dr mixed ?_;refine bR h λn h=>?_;refine cl none [] 0 h (jF N _ _) λo h=>?_;refine dk ?_;refine cd h (λi h=>?_) (λi h=>?_);refine bR h λp h=>?_;cases h;exact bl [0,1,2];cases h;exact bl [0,1,2];cases h;cases f _ rfl;replace h:=e;try dsimp only at h
 exact bj _ [0,1,2];intro a h;try dsimp only at h
 refine bR h λs h=>?_;refine cl none [] 0 h (lY N _) λu h=>?_;refine dr mixed ?_;refine cl none [] 0 h (mA N _ _) λv h=>?_;refine cl none [] 0 h (kZ N _ _) λy h=>?_;refine cl none [] 0 h (kZ N _ _) λa0 h=>?_;refine cl none [] 0 h (mR N _ _) λa1 h=>?_;refine dk ?_;cases h;exact rt []
theorem IN(N:Nat)(x:bB)(r:(Int×Bool))(h:uq N x=some r):Cn Tryz.prog 161 [sA aP false x] [] [sI .i64 r.1,sB r.2]:=by
 unfold uq at h;refine fn tb en161 Tryz.func161 λX w H ν=>?_;refine jn (λx=>x) (λ⟨a,b⟩=>aZ 0 [] [vi 4 a,vi 5 b]) h (λm f i=>?_) ?_;refine bk ?_;refine lp (λ⟨c,d,e⟩=>aZ 1 [.box (aM.cl aP false x)] [vp 1 0,vi 4 c,vi 5 d,vi 9 (List.length x.g:Int),vi 10 e]) f [0] ?_;rintro⟨c,d,e⟩ oo h j
 rw[FP]at h
 refine cd h (λk h=>?_) (λk h=>?_);refine bk ?_;refine bR h λn h=>?_;refine cl none [] 0 h (iC N _) λo h=>?_;refine cd h (λl h=>?_) (λl h=>?_);cases h;exact bl [0];cases h;exact bl [0];cases h;cases j _ rfl;replace h:=i;try dsimp only at h
 exact bj _ [];rintro⟨a,b⟩ h;try dsimp only at h
 cases h;exact rt []
theorem Me(N:Nat)(l:(List bB))(pb:Int)(pc:Int)(r:(List bB))(h:wg N l pb pc=some r):Cn Tryz.prog 169 [sR aP false l,sI .i64 pb,sI .i64 pc] [.row aP false r] [sO 0]:=by
 unfold wg at h;refine fn tb en169 Tryz.func169 λX w H ν=>?_;refine cl (some false) [] 1 h (F3 N _) λr1 h=>?_;refine jn (λx=>x) (λa=>aZ 1 [.row aP false a] [vo 0 0]) h (λj d e=>?_) ?_;refine bk ?_;refine lp (λ⟨b,c⟩=>aZ 1 [.row aP false b] [vo 0 0,vi 1 pb,vi 2 pc,vi 11 (List.length r1:Int),vi 12 c]) d [0] ?_;rintro⟨b,c⟩ oo h f
 rw[Cd]at h
 refine cd h (λg h=>?_) (λg h=>?_);refine bk ?_;refine jS h λk m h=>?_;refine dX ?_;refine cd h (λi h=>?_) (λi h=>?_);refine jS h λn o h=>?_;refine stP h (λp h=>?_) (by assumption);cases h;exact bl [0];cases h;exact bl [0];cases h;cases f _ rfl;replace h:=e;try dsimp only at h
 exact bj _ [0];intro a h;try dsimp only at h
 cases h;exact rt [0]
theorem HY(N:Nat)(n:Int)(pb:Int)(sign:Int)(bound:aC)(r:bG)(h:wA N n pb sign bound=some r):Cn Tryz.prog 48 [sI .i64 n,sI .i64 pb,sI .i64 sign,sA aD false bound] [] [sA aR false r]:=by
 unfold wA at h;refine fn tb en48 Tryz.func48 λX w H ν=>?_;refine dr mixed ?_;refine ie aD h λa h=>?_;refine dk ?_;refine dr mixed ?_;refine cl none [] 0 h (gK N _) λb h=>?_;refine jS h λc d h=>?_;refine eH true h λe h=>?_;refine dk ?_;cases h;exact rt []
theorem Jb(N:Nat)(a:aC)(b:aC)(r:Bool)(h:qT N a b=some r):Cn Tryz.prog 127 [sA aD false a,sA aD false b] [] [sB r]:=by
 unfold qT at h;refine fn tb DH Tryz.func127 λX w H ν=>?_;refine cl none [] 0 h (jF N _ _) λc h=>?_;cases h;exact rt []
theorem MJ(N:Nat)(x:aC)(r:aC)(h:ru N x=some r):Cn Tryz.prog 123 [sA aD false x] [] [sA aD false r]:=by
 unfold ru at h;refine fn tb FV Tryz.func123 λX w H ν=>?_;cases h;exact rt []
theorem P2(N:Nat)(x:bB)(ca:Int)(cb:(List bB))(r:Bool)(h:uC N x ca cb=some r):Cx Tryz.prog 135 [sA aP false x,.lf (.pd (pU false [lI .i64 ca])),.lf (.pd (pU false [.ro aP false cb]))] [] [] [sB r]:=by
 unfold uC at h;refine iP tb (.comp (si 1) (si 2)) MR Tryz.func135 λX w H ν=>?_;refine cl none [] 0 h (xj N _ _ _) λr8 h=>?_;refine cl none [] 0 h (iC N _) λa h=>?_;cases h;exact rt []
theorem TP(N:Nat)(x:bB)(ca:Int)(r:Bool)(h:uz N x ca=some r):Cx Tryz.prog 145 [sA aP false x,.lf (.pd (pU false [lI .i64 ca]))] [] [] [sB r]:=by
 unfold uz at h;refine iP tb (si 1) LU Tryz.func145 λX w H ν=>?_;refine bR h λx7 h=>?_;refine cl none [] 0 h (iC N _) λa h=>?_;cases h;exact rt []
end Go.Proofs.YtipdkfmhfakbnaaGreatDoor.SQ

/- Walks of the symbolic machine, written by a program of mine (wip/tool). -/
import Derived.Test.YtipdkfmhfakbnaaGreatDoorSB
set_option linter.unusedVariables false
set_option linter.unusedSimpArgs false
set_option maxRecDepth 100000
set_option maxHeartbeats 4000000
namespace Go.Proofs.YtipdkfmhfakbnaaGreatDoor.SC
open Go Go.RowKit Go.X Go.Q Go.D Go.Proofs.YtipdkfmhfakbnaaGreatDoor.TB Go.Proofs.YtipdkfmhfakbnaaGreatDoor.FS Go.Proofs.YtipdkfmhfakbnaaGreatDoor.SB
theorem MZ(N:Nat)(c:Constraint)(n:Int)(r:Bool)(h:wE N c n=some r):Cn aL 72 [sA cK false c,sI .i64 n] [] [sB r]:=by
 unfold wE at h;refine fn tb en72 Tryz.func72 λX w H ν=>?_;refine jn (λx=>(Sum.inl x)) (λ(_:Unit)=>aX 0 [] [vi 1 n]) h (λo g b=>?_) ?_;refine bk ?_;refine lp (λ⟨d,a⟩=>aX 0 [] [vi 1 n,vi 5 d,vr 10 jo false c.Linear.bG,vi 11 (List.length c.Linear.bG:Int),vi 12 a]) g [] ?_;rintro⟨d,a⟩ oo h e
 rw[Ff]at h
 refine cd h (λi h=>?_) (λi h=>?_);refine bk ?_;refine bP h λj h=>?_;refine jn (λx=>x) (λf=>aX 1 [.box (aO.cl jo true j)] [vi 1 n,vp 7 0,vr 10 jo false c.Linear.bG,vi 11 (List.length c.Linear.bG:Int),vi 12 a,vb 25 f]) h (λp h s=>?_) ?_;refine rg ?_;refine gd h (λk h=>?_) (λk h=>?_);cases h;exact bj _ [0];cases h;exact bj _ [0];intro f h;try dsimp only at h
 refine cd h (λl h=>?_) (λl h=>?_);cases h;cases e _ rfl;replace h:=b;try dsimp only at h
 cases h;exact rt [];cases h;exact bl [];cases h;cases e _ rfl;replace h:=b;try dsimp only at h
 exact bj _ [];intro _ h;try dsimp only at h
 refine rg ?_;refine gd h (λm h=>?_) (λm h=>?_);cases h;exact rt [];cases h;exact rt []
theorem Tb(N:Nat)(l:(List aC))(bound:aC)(r:bI)(h:zC N l bound=some r):Cn aL 104 [sR aE false l,sA aE false bound] [] [sA aT true r]:=by
 unfold zC at h;refine fn tb en104 Tryz.func104 λX w H ν=>?_;refine cl none [] 0 h (p7 N _) λa h=>?_;refine jn (λx=>x) (λb=>aX 3 [.box [lN,(lB false),lN],.box [(.own 2),(lB a.bR),(.ro bM true a.aR)],.row aE true b] [vp 4 0,vp 5 1]) h (λk e f=>?_) ?_;refine bk ?_;refine ps (nb 2 0 aE) ?_;refine lp (λ⟨c,d⟩=>aX 3 [.box [lN,(lB false),lN],.box [(.own 2),(lB a.bR),(.ro bM true a.aR)],.row aE true c] [vp 4 0,vp 5 1,vr 11 aE false l,vi 12 (List.length l:Int),vi 13 d]) e [1,2,3] ?_;rintro⟨c,d⟩ oo h g
 rw[EG]at h
 refine cd h (λi h=>?_) (λi h=>?_);refine bk ?_;refine bP h λm h=>?_;refine dr mixed ?_;refine cl none [] 0 h (mC N _) λj h=>?_;refine dA aE true [j] ?_;refine ei true h λn h=>?_;refine dk ?_;cases h;exact bl [0,1,5];cases h;cases g _ rfl;replace h:=f;try dsimp only at h
 exact bj _ [0,1,2];intro b h;try dsimp only at h
 cases h;exact rt []
theorem cOf_c(N:Nat)(c:Constraint)(n:Int)(r:(List bI))(h:cOf N c n=some r):Cn aL 73 [sA cK false c,sI .i64 n] [.row aT true r] [sO 0]:=by
 unfold cOf at h;refine fn tb en73 Tryz.func73 λX w H ν=>?_;refine cl none [] 0 h (MZ N _ _) λr6 h=>?_;refine cd h (λf h=>?_) (λf h=>?_);refine pr (nl 4 aT) ?_;cases h;exact rt [1];refine dr mixed ?_;refine gM aE h λo h=>?_;refine cl none [] 0 h (ic N _) λp h=>?_;refine cl none [] 0 h (mC N _) λa h=>?_;refine dk ?_;refine jn (λx=>x) (λb=>aX 3 [.box (aO.cl cK false c),.box [(.own 2),(lB a.bR),(.ro bM true a.aR)],.row aE true b] [vp 2 0,vp 5 1]) h (λs g i=>?_) ?_;refine bk ?_;refine lp (λ⟨d,e⟩=>aX 3 [.box (aO.cl cK false c),.box [(.own 2),(lB a.bR),(.ro bM true a.aR)],.row aE true d] [vp 2 0,vp 5 1,vr 22 jo false c.Linear.bG,vi 23 (List.length c.Linear.bG:Int),vi 24 e]) g [0,2,1] ?_;rintro⟨d,e⟩ oo h j
 rw[FT]at h
 refine cd h (λk h=>?_) (λk h=>?_);refine bk ?_;refine bP h λu h=>?_;refine dr mixed ?_;refine cl none [] 0 h (ic N _) λv h=>?_;refine kh h λy a0 h=>?_;refine ej true h λa1 h=>?_;refine dk ?_;cases h;exact bl [0,1,2];cases h;cases j _ rfl;replace h:=i;try dsimp only at h
 exact bj _ [0,1,2];intro b h;try dsimp only at h
 refine cd h (λl h=>?_) (λl h=>?_);refine po (jG 2 [40] [1]) ?_;refine dA aT true [(bI.mk b a)] ?_;cases h;exact rt [3];refine dr mixed ?_;refine cl none [] 0 h (ic N _) λa2 h=>?_;refine cl none [] 0 h (Tb N _ _) λm h=>?_;refine po (jG 2 [42,44] [1]) ?_;refine dA aT true [(bI.mk b a),m] ?_;refine dk ?_;cases h;exact rt [3]
theorem E6(N:Nat)(l:(List Constraint))(n:Int)(r:(List bI))(h:uH N l n=some r):Cn aL 39 [sR cK false l,sI .i64 n] [.row aT true r] [sO 0]:=by
 unfold uH at h;refine fn tb en39 Tryz.func39 λX w H ν=>?_;refine jn (λx=>(Sum.inl x)) (λa=>aX 1 [.row aT true a] [vo 5 0]) h (λj f b=>?_) ?_;refine bk ?_;refine ps (nl 5 aT) ?_;refine lp (λ⟨c,d⟩=>aX 1 [.row aT true c] [vi 1 n,vo 5 0,vr 8 cK false l,vi 9 (List.length l:Int),vi 10 d]) f [0] ?_;rintro⟨c,d⟩ oo h e
 rw[E7]at h
 refine cd h (λg h=>?_) (λg h=>?_);refine bk ?_;refine bP h λk h=>?_;refine cl none [] 0 h (MZ N _ _) λm h=>?_;refine cd h (λi h=>?_) (λi h=>?_);refine pr (nl 4 aT) ?_;cases h;cases e _ rfl;replace h:=b;try dsimp only at h
 cases h;exact rt [2];refine cl none [] 1 h (cOf_c N _ _) λo h=>?_;refine ei true h λp h=>?_;cases h;exact bl [3];cases h;cases e _ rfl;replace h:=b;try dsimp only at h
 exact bj _ [0];intro a h;try dsimp only at h
 cases h;exact rt [0]
theorem Uc(N:Nat)(s:(List bI))(r:(List bI))(h:DC N s=some r):Cn aL 89 [sR aT false s] [.row aT false r] [sO 0]:=by
 unfold DC at h;refine fn tb en89 Tryz.func89 λX w H ν=>?_;refine uk ?_;refine cn (λhnil=>?_) ?_;replace h:some []=some r:=by rw[hnil]at h;simpa[cY]using h
 refine pr (nl 2 aT) ?_;cases h;exact rt [0];refine jN aT ?_;refine ei false h λa h=>?_;cases h;exact rt [1]
theorem Kr(N:Nat)(s:(List bI))(r:(List bI))(h:Bd N s=some r):Cx aL 47 [sR aT false s] [] [] [.lf (.cp aT false r)]:=by
 unfold Bd at h;refine fn tb en47 Tryz.func47 λX w H ν=>?_;refine clR ?_;cases h;exact rt []
end Go.Proofs.YtipdkfmhfakbnaaGreatDoor.SC

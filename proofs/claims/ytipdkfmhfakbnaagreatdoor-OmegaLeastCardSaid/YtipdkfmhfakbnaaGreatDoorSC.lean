/- Walks of the symbolic machine, written by a program of mine (wip/tool). -/
import Derived.Test.YtipdkfmhfakbnaaGreatDoorTB
import Derived.Test.YtipdkfmhfakbnaaGreatDoorAg
import Derived.Test.YtipdkfmhfakbnaaGreatDoorAd
import Derived.Test.YtipdkfmhfakbnaaGreatDoorSB
set_option linter.unusedVariables false
set_option linter.unusedSimpArgs false
set_option linter.unusedSectionVars false
set_option maxRecDepth 100000
set_option maxHeartbeats 4000000
namespace Go.Proofs.YtipdkfmhfakbnaaGreatDoor.SC
open Go Go.RowKit Go.X Go.Q Go.D Go.Proofs.YtipdkfmhfakbnaaGreatDoor.TB Go.Proofs.YtipdkfmhfakbnaaGreatDoor.FS Go.Proofs.YtipdkfmhfakbnaaGreatDoor.SB
theorem Im(N:Nat)(c:Constraint)(n:Int)(r:Bool)(h:wi N c n=some r):Cn Tryz.prog 72 [sA dG false c,sI .i64 n] [] [sB r]:=by
 unfold wi at h;refine fn tb en72 Tryz.func72 λX w H ν=>?_;refine jn (λx=>(Sum.inl x)) (λ(_:Unit)=>aZ 0 [] [vi 1 n]) h (λo g b=>?_) ?_;refine bk ?_;refine lp (λ⟨d,a⟩=>aZ 0 [] [vi 1 n,vi 5 d,vr 10 iu false c.Linear.bE,vi 11 (List.length c.Linear.bE:Int),vi 12 a]) g [] ?_;rintro⟨d,a⟩ oo h e
 rw[EE]at h
 refine cd h (λi h=>?_) (λi h=>?_);refine bk ?_;refine bR h λj h=>?_;refine jn (λx=>x) (λf=>aZ 1 [.box (aM.cl iu true j)] [vi 1 n,vp 7 0,vr 10 iu false c.Linear.bE,vi 11 (List.length c.Linear.bE:Int),vi 12 a,vb 25 f]) h (λp h s=>?_) ?_;refine rg ?_;refine gd h (λk h=>?_) (λk h=>?_);cases h;exact bj _ [0];cases h;exact bj _ [0];intro f h;try dsimp only at h
 refine cd h (λl h=>?_) (λl h=>?_);cases h;cases e _ rfl;replace h:=b;try dsimp only at h
 cases h;exact rt [];cases h;exact bl [];cases h;cases e _ rfl;replace h:=b;try dsimp only at h
 exact bj _ [];intro _ h;try dsimp only at h
 refine rg ?_;refine gd h (λm h=>?_) (λm h=>?_);cases h;exact rt [];cases h;exact rt []
theorem S5(N:Nat)(l:(List aC))(bound:aC)(r:bG)(h:ya N l bound=some r):Cn Tryz.prog 104 [sR aD false l,sA aD false bound] [] [sA aR true r]:=by
 unfold ya at h;refine fn tb en104 Tryz.func104 λX w H ν=>?_;refine cl none [] 0 h (p9 N _) λa h=>?_;refine jn (λx=>x) (λb=>aZ 3 [.box [lN,(lB false),lN],.box [(.own 2),(lB a.bM),(.ro (aF .u32) true a.aQ)],.row aD true b] [vp 4 0,vp 5 1]) h (λk e f=>?_) ?_;refine bk ?_;refine ps (nb 2 0 aD) ?_;refine lp (λ⟨c,d⟩=>aZ 3 [.box [lN,(lB false),lN],.box [(.own 2),(lB a.bM),(.ro (aF .u32) true a.aQ)],.row aD true c] [vp 4 0,vp 5 1,vr 11 aD false l,vi 12 (List.length l:Int),vi 13 d]) e [1,2,3] ?_;rintro⟨c,d⟩ oo h g
 rw[Eb]at h
 refine cd h (λi h=>?_) (λi h=>?_);refine bk ?_;refine bR h λm h=>?_;refine dr mixed ?_;refine cl none [] 0 h (lY N _) λj h=>?_;refine dp aD true [j] ?_;refine ei true h λn h=>?_;refine dk ?_;cases h;exact bl [0,1,5];cases h;cases g _ rfl;replace h:=f;try dsimp only at h
 exact bj _ [0,1,2];intro b h;try dsimp only at h
 cases h;exact rt []
theorem cOf_c(N:Nat)(c:Constraint)(n:Int)(r:(List bG))(h:cOf N c n=some r):Cn Tryz.prog 73 [sA dG false c,sI .i64 n] [.row aR true r] [sO 0]:=by
 unfold cOf at h;refine fn tb en73 Tryz.func73 λX w H ν=>?_;refine cl none [] 0 h (Im N _ _) λr6 h=>?_;refine cd h (λf h=>?_) (λf h=>?_);refine pr (nl 4 aR) ?_;cases h;exact rt [1];refine dr mixed ?_;refine ie aD h λo h=>?_;refine cl none [] 0 h (gK N _) λp h=>?_;refine cl none [] 0 h (lY N _) λa h=>?_;refine dk ?_;refine jn (λx=>x) (λb=>aZ 3 [.box (aM.cl dG false c),.box [(.own 2),(lB a.bM),(.ro (aF .u32) true a.aQ)],.row aD true b] [vp 2 0,vp 5 1]) h (λs g i=>?_) ?_;refine bk ?_;refine lp (λ⟨d,e⟩=>aZ 3 [.box (aM.cl dG false c),.box [(.own 2),(lB a.bM),(.ro (aF .u32) true a.aQ)],.row aD true d] [vp 2 0,vp 5 1,vr 22 iu false c.Linear.bE,vi 23 (List.length c.Linear.bE:Int),vi 24 e]) g [0,2,1] ?_;rintro⟨d,e⟩ oo h j
 rw[DW]at h
 refine cd h (λk h=>?_) (λk h=>?_);refine bk ?_;refine bR h λu h=>?_;refine dr mixed ?_;refine cl none [] 0 h (gK N _) λv h=>?_;refine jS h λy a0 h=>?_;refine eH true h λa1 h=>?_;refine dk ?_;cases h;exact bl [0,1,2];cases h;cases j _ rfl;replace h:=i;try dsimp only at h
 exact bj _ [0,1,2];intro b h;try dsimp only at h
 refine cd h (λl h=>?_) (λl h=>?_);refine po (jR 2 [40] [1]) ?_;refine dp aR true [(bG.mk b a)] ?_;cases h;exact rt [3];refine dr mixed ?_;refine cl none [] 0 h (gK N _) λa2 h=>?_;refine cl none [] 0 h (S5 N _ _) λm h=>?_;refine po (jR 2 [42,44] [1]) ?_;refine dp aR true [(bG.mk b a),m] ?_;refine dk ?_;cases h;exact rt [3]
theorem Mg(N:Nat)(l:(List Constraint))(n:Int)(r:(List bG))(h:uT N l n=some r):Cn Tryz.prog 39 [sR dG false l,sI .i64 n] [.row aR true r] [sO 0]:=by
 unfold uT at h;refine fn tb en39 Tryz.func39 λX w H ν=>?_;refine jn (λx=>(Sum.inl x)) (λa=>aZ 1 [.row aR true a] [vo 5 0]) h (λj f b=>?_) ?_;refine bk ?_;refine ps (nl 5 aR) ?_;refine lp (λ⟨c,d⟩=>aZ 1 [.row aR true c] [vi 1 n,vo 5 0,vr 8 dG false l,vi 9 (List.length l:Int),vi 10 d]) f [0] ?_;rintro⟨c,d⟩ oo h e
 rw[Fb]at h
 refine cd h (λg h=>?_) (λg h=>?_);refine bk ?_;refine bR h λk h=>?_;refine cl none [] 0 h (Im N _ _) λm h=>?_;refine cd h (λi h=>?_) (λi h=>?_);refine pr (nl 4 aR) ?_;cases h;cases e _ rfl;replace h:=b;try dsimp only at h
 cases h;exact rt [2];refine cl none [] 1 h (cOf_c N _ _) λo h=>?_;refine ei true h λp h=>?_;cases h;exact bl [3];cases h;cases e _ rfl;replace h:=b;try dsimp only at h
 exact bj _ [0];intro a h;try dsimp only at h
 cases h;exact rt [0]
theorem QI(N:Nat)(s:(List bG))(r:(List bG))(h:Ay N s=some r):Cn Tryz.prog 89 [sR aR false s] [.row aR false r] [sO 0]:=by
 unfold Ay at h;refine fn tb en89 Tryz.func89 λX w H ν=>?_;refine uO ?_;refine cn (λhnil=>?_) ?_;replace h:some []=some r:=by rw[hnil]at h;simpa[cZ]using h
 refine pr (nl 2 aR) ?_;cases h;exact rt [0];refine jI aR ?_;refine ei false h λa h=>?_;cases h;exact rt [1]
theorem JC(N:Nat)(s:(List bG))(r:(List bG))(h:CQ N s=some r):Cx Tryz.prog 47 [sR aR false s] [] [] [.lf (.cp aR false r)]:=by
 unfold CQ at h;refine fn tb en47 Tryz.func47 λX w H ν=>?_;refine clR ?_;cases h;exact rt []
end Go.Proofs.YtipdkfmhfakbnaaGreatDoor.SC

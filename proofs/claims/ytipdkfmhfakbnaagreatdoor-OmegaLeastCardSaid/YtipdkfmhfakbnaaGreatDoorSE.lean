/- Walks of the symbolic machine, written by a program of mine (wip/tool). -/
import Derived.Test.YtipdkfmhfakbnaaGreatDoorTB
import Derived.Test.YtipdkfmhfakbnaaGreatDoorAg
import Derived.Test.YtipdkfmhfakbnaaGreatDoorAd
import Derived.Test.YtipdkfmhfakbnaaGreatDoorSR
import Derived.Test.YtipdkfmhfakbnaaGreatDoorSD
set_option linter.unusedVariables false
set_option linter.unusedSimpArgs false
set_option linter.unusedSectionVars false
set_option maxRecDepth 100000
set_option maxHeartbeats 4000000
namespace Go.Proofs.YtipdkfmhfakbnaaGreatDoor.SE
open Go Go.RowKit Go.X Go.Q Go.D Go.Proofs.YtipdkfmhfakbnaaGreatDoor.TB Go.Proofs.YtipdkfmhfakbnaaGreatDoor.FS Go.Proofs.YtipdkfmhfakbnaaGreatDoor.SR Go.Proofs.YtipdkfmhfakbnaaGreatDoor.SD
theorem JS(N:Nat)(pa:Int)(c:Int)(r:Constraint)(h:sG N pa c=some r):Cn Tryz.prog 19 [sI .i64 pa,sI .i64 c] [] [sA dG true r]:=by
 unfold sG at h;refine fn tb en19 Tryz.func19 λX w H ν=>?_;refine dp iu true [(iE.mk pa 1)] ?_;cases h;exact rt []
theorem oIs_c(N:Nat)(pa:Int)(c:Int)(r:Constraint)(h:oIs N pa c=some r):Cn Tryz.prog 21 [sI .i64 pa,sI .i64 c] [] [sA dG true r]:=by
 unfold oIs at h;refine fn tb en21 Tryz.func21 λX w H ν=>?_;refine dp iu true [(iE.mk pa 1)] ?_;cases h;exact rt []
theorem Uq(N:Nat)(f:Linear)(x:(List aC))(r:aC)(h:xa N f x=some r):Cn Tryz.prog 58 [sA oU false f,sR aD false x] [] [sA aD true r]:=by
 unfold xa at h;refine fn tb en58 Tryz.func58 λX w H ν=>?_;refine cl none [] 0 h (mH N _) λj h=>?_;refine jn (λx=>x) (λa=>aZ 2 [.box [(lB false),lN],.box (aM.cl aD true a)] [vp 4 0,vp 5 1]) h (λk d e=>?_) ?_;refine bk ?_;refine lp (λ⟨b,c⟩=>aZ 3 [.box (aM.cl oU false f),.box [(lB false),lN],.box (aM.cl aD true b)] [vr 1 aD false x,vp 2 0,vp 4 1,vp 5 2,vi 6 c]) d [0,1,2] ?_;rintro⟨b,c⟩ oo h g
 rw[FM]at h
 refine cd h (λi h=>?_) (λi h=>?_);refine bk ?_;refine dr mixed ?_;refine bR h λl h=>?_;refine cl none [] 0 h (mH N _) λm h=>?_;refine bR h λn h=>?_;refine bR h λo h=>?_;refine cl none [] 0 h (Et N _ _) λp h=>?_;refine cl none [] 0 h (yr N _ _) λs h=>?_;refine dk ?_;cases h;exact bl [0,1,2];cases h;cases g _ rfl;replace h:=e;try dsimp only at h
 exact bj _ [1,2];intro a h;try dsimp only at h
 cases h;exact rt []
theorem Uv(N:Nat)(l:(List Constraint))(x:(List aC))(r:Bool)(h:uv N l x=some r):Cn Tryz.prog 28 [sR dG false l,sR aD false x] [] [sB r]:=by
 unfold uv at h;refine fn tb en28 Tryz.func28 λX w H ν=>?_;refine jn (λx=>(Sum.inl x)) (λ(_:Unit)=>aZ 0 [] []) h (λk e b=>?_) ?_;refine bk ?_;refine lp (λa=>aZ 0 [] [vr 0 dG false l,vr 1 aD false x,vi 5 a]) e [] ?_;rintro a oo h c
 rw[xP]at h
 refine cd h (λf h=>?_) (λf h=>?_);refine bk ?_;refine bR h λm h=>?_;refine cl none [] 0 h (Uq N _ _) λn h=>?_;refine cl none [] 0 h (mD N _) λo h=>?_;refine jn (λx=>x) (λd=>aZ 0 [] [vr 0 dG false l,vr 1 aD false x,vi 5 a,vb 33 d]) h (λp h s=>?_) ?_;refine rg ?_;refine gd h (λg h=>?_) (λg h=>?_);cases h;exact bj _ [];refine gd h (λi h=>?_) (λi h=>?_);refine bR h λu h=>?_;cases h;exact bj _ [];cases h;exact bj _ [];intro d h;try dsimp only at h
 refine cd h (λj h=>?_) (λj h=>?_);cases h;cases c _ rfl;replace h:=b;try dsimp only at h
 cases h;exact rt [];cases h;exact bl [];cases h;cases c _ rfl;replace h:=b;try dsimp only at h
 exact bj _ [];intro _ h;try dsimp only at h
 cases h;exact rt []
theorem VK(N:Nat)(n:Int)(l:(List Constraint))(r:Bool)(h:xN N n l=some r):Cn Tryz.prog 25 [sI .i64 n,sR dG false l] [] [sB r]:=by
 unfold xN at h;refine fn tb en25 Tryz.func25 λX w H ν=>?_;refine jn (λx=>(Sum.inl x)) (λ(_:Unit)=>aZ 0 [] [vi 0 n]) h (λi d a=>?_) ?_;refine bk ?_;refine lp (λb=>aZ 0 [] [vi 0 n,vr 1 dG false l,vi 5 b]) d [] ?_;rintro b oo h c
 rw[xH]at h
 refine cd h (λe h=>?_) (λe h=>?_);refine bk ?_;refine bR h λj h=>?_;refine cl none [] 0 h (Fs N _ _) λk h=>?_;refine cd h (λf h=>?_) (λf h=>?_);cases h;cases c _ rfl;replace h:=a;try dsimp only at h
 cases h;exact rt [];cases h;exact bl [];cases h;cases c _ rfl;replace h:=a;try dsimp only at h
 exact bj _ [];intro _ h;try dsimp only at h
 refine rg ?_;refine gd h (λg h=>?_) (λg h=>?_);cases h;exact rt [];cases h;exact rt []
theorem Ue(N:Nat)(n:Int)(l:(List Constraint))(most:Int)(r:Bool)(h:xb N n l most=some r):Cn Tryz.prog 11 [sI .i64 n,sR dG false l,sI .i64 most] [] [sB r]:=by
 unfold xb at h;refine fn tb en11 Tryz.func11 λX w H ν=>?_;refine jn (λx=>(Sum.inl x)) (λ(_:Unit)=>aZ 0 [] [vi 0 n,vr 1 dG false l]) h (λa2 k b=>?_) ?_;refine bk ?_;refine lp (λa=>aZ 0 [] [vi 0 n,vr 1 dG false l,vi 2 most,vi 7 a]) k [] ?_;rintro a oo h c
 rw[ym]at h
 refine cd h (λm h=>?_) (λm h=>?_);refine bk ?_;refine bR h λd h=>?_;refine jn (λx=>x) (λf=>aZ 1 [.box (aM.cl oU false d.Linear)] [vi 0 n,vr 1 dG false l,vi 2 most,vi 7 a,vp 8 0,vb 28 f]) h (λa3 h a4=>?_) ?_;refine rg ?_;refine gd h (λo h=>?_) (λo h=>?_);cases h;exact bj _ [0];cases h;exact bj _ [0];intro f h;try dsimp only at h
 refine cd h (λp h=>?_) (λp h=>?_);cases h;cases c _ rfl;replace h:=b;try dsimp only at h
 cases h;exact rt [];refine jn (λx=>(Sum.inl x)) (λ(_:Unit)=>aZ 0 [] [vi 0 n,vr 1 dG false l,vi 2 most,vi 7 a]) h (λa5 s g=>?_) ?_;refine bk ?_;refine lp (λe=>aZ 1 [.box (aM.cl oU false d.Linear)] [vi 0 n,vr 1 dG false l,vi 2 most,vi 7 a,vp 8 0,vi 9 e]) s [0] ?_;rintro e oo h i
 rw[xn]at h
 refine cd h (λu h=>?_) (λu h=>?_);refine bk ?_;refine jn (λx=>x) (λj=>aZ 1 [.box (aM.cl oU false d.Linear)] [vi 0 n,vr 1 dG false l,vi 2 most,vi 7 a,vp 8 0,vi 9 e,vb 54 j]) h (λa6 h a7=>?_) ?_;refine rg ?_;refine bR h λa8 h=>?_;refine gd h (λv h=>?_) (λv h=>?_);cases h;exact bj _ [0];refine bR h λa9 h=>?_;cases h;exact bj _ [0];intro j h;try dsimp only at h
 refine cd h (λy h=>?_) (λy h=>?_);cases h;cases i _ rfl;replace h:=g;try dsimp only at h
 cases h;cases c _ rfl;replace h:=b;try dsimp only at h
 cases h;exact rt [];cases h;exact bl [0];cases h;cases i _ rfl;replace h:=g;try dsimp only at h
 exact bj _ [];intro _ h;try dsimp only at h
 cases h;exact bl [];cases h;cases c _ rfl;replace h:=b;try dsimp only at h
 exact bj _ [];intro _ h;try dsimp only at h
 refine rg ?_;refine gd h (λa0 h=>?_) (λa0 h=>?_);refine gd h (λa1 h=>?_) (λa1 h=>?_);refine cl none [] 0 h (VK N _ _) λaa h=>?_;cases h;exact rt [];cases h;exact rt [];cases h;exact rt []
theorem Gm(N:Nat)(n:Int)(l:(List Constraint))(p:Proof)(r:Bool)(h:sh N n l p=some r):Cn Tryz.prog 37 [sI .i64 n,sR dG false l,sA jo false p] [] [sB r]:=by
 unfold sh at h;refine fn tb en37 Tryz.func37 λX w H ν=>?_;refine dr mixed ?_;refine cl none [] 1 h (TU N _ _) λr6 h=>?_;refine cl none [] 0 h (Vi N _ _) λa h=>?_;refine dk ?_;cases h;exact rt []
end Go.Proofs.YtipdkfmhfakbnaaGreatDoor.SE

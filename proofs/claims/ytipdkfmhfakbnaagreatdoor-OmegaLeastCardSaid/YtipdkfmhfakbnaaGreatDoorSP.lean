/- Walks of the symbolic machine, written by a program of mine (wip/tool). -/
import Derived.Test.YtipdkfmhfakbnaaGreatDoorTB
import Derived.Test.YtipdkfmhfakbnaaGreatDoorAg
import Derived.Test.YtipdkfmhfakbnaaGreatDoorAd
set_option linter.unusedVariables false
set_option linter.unusedSimpArgs false
set_option linter.unusedSectionVars false
set_option maxRecDepth 100000
set_option maxHeartbeats 4000000
namespace Go.Proofs.YtipdkfmhfakbnaaGreatDoor.SP
open Go Go.RowKit Go.X Go.Q Go.D Go.Proofs.YtipdkfmhfakbnaaGreatDoor.TB Go.Proofs.YtipdkfmhfakbnaaGreatDoor.FS 
theorem yj(N:Nat)(s:(List aC))(r:(List aC))(h:oP N s=some r):Cn Tryz.prog 90 [sR aD false s] [.row aD false r] [sO 0]:=by
 unfold oP at h;refine fn tb en90 Tryz.func90 λX w H ν=>?_;refine uO ?_;refine cn (λhnil=>?_) ?_;replace h:some []=some r:=by rw[hnil]at h;simpa[cZ]using h
 refine pr (nl 2 aD) ?_;cases h;exact rt [0];refine jI aD ?_;refine ei false h λa h=>?_;cases h;exact rt [1]
theorem F3(N:Nat)(s:(List bB))(r:(List bB))(h:rE N s=some r):Cn Tryz.prog 144 [sR aP false s] [.row aP false r] [sO 0]:=by
 unfold rE at h;refine fn tb en144 Tryz.func144 λX w H ν=>?_;refine uO ?_;refine cn (λhnil=>?_) ?_;replace h:some []=some r:=by rw[hnil]at h;simpa[cZ]using h
 refine pr (nl 2 aP) ?_;cases h;exact rt [0];refine jI aP ?_;refine ei false h λa h=>?_;cases h;exact rt [1]
theorem TJ(N:Nat)(s:(List (List aC)))(r:(List (List aC)))(h:zU N s=some r):Cn Tryz.prog 165 [sR (bN aD) false s] [.row (bN aD) false r] [sO 0]:=by
 unfold zU at h;refine fn tb en165 Tryz.func165 λX w H ν=>?_;refine uO ?_;refine cn (λhnil=>?_) ?_;replace h:some []=some r:=by rw[hnil]at h;simpa[cZ]using h
 refine pr (nl 2 (bN aD)) ?_;cases h;exact rt [0];refine jI (bN aD) ?_;refine ei false h λa h=>?_;cases h;exact rt [1]
theorem Q4(N:Nat)(s:(List Int))(r:(List Int))(h:By N s=some r):Cn Tryz.prog 166 [sR (aF .i64) false s] [.row (aF .i64) true r] [sO 0]:=by
 unfold By at h;refine fn tb en166 Tryz.func166 λX w H ν=>?_;refine uO ?_;refine cn (λhnil=>?_) ?_;replace h:some []=some r:=by rw[hnil]at h;simpa[cZ]using h
 refine pr (nl 2 (aF .i64)) ?_;cases h;exact rt [0];refine jI (aF .i64) ?_;refine ei true h λa h=>?_;cases h;exact rt [1]
theorem Vv(N:Nat)(s:(List Step))(r:(List Step))(h:E7 N s=some r):Cx Tryz.prog 164 [sR bC false s] [] [] [.lf (.cp bC false r)]:=by
 unfold E7 at h;refine fn tb en164 Tryz.func164 λX w H ν=>?_;refine clR ?_;cases h;exact rt []
theorem PA(N:Nat)(s:(List dW))(r:(List dW))(h:El N s=some r):Cx Tryz.prog 167 [sR bH false s] [] [] [.lf (.cp bH false r)]:=by
 unfold El at h;refine fn tb en167 Tryz.func167 λX w H ν=>?_;refine clR ?_;cases h;exact rt []
theorem JR(N:Nat)(s:(List bB))(f:(bB->Option Bool))(r:Int)(h:uL N s f=some r):Cx Tryz.prog 160 [sR aP false s,.lf (.pd (iR Tryz.prog (λx:bB=>[sA aP false x]) (λr:Bool=>[sB r]) f))] [] [] [sI .i64 r]:=by
 unfold uL at h;refine fn tb en160 Tryz.func160 λX w H ν=>?_;refine jn (λx=>(Sum.inl x)) (λ(_:Unit)=>aZ 0 [] []) h (λk d a=>?_) ?_;refine bk ?_;refine lp (λb=>aZ 0 [] [vr 0 aP false s,vl 1 (.pd (iR Tryz.prog (λx:bB=>[sA aP false x]) (λr:Bool=>[sB r]) f)),vi 7 (List.length s:Int),vi 8 b]) d [] ?_;rintro b oo h c
 rw[yL]at h
 refine cd h (λe h=>?_) (λe h=>?_);refine bk ?_;refine bR h λi h=>?_;refine cvl (g:=f) i h λl h=>?_;refine cd h (λj h=>?_) (λj h=>?_);cases h;cases c _ rfl;replace h:=a;try dsimp only at h
 cases h;exact rt [];cases h;exact bl [];cases h;cases c _ rfl;replace h:=a;try dsimp only at h
 exact bj _ [];intro _ h;try dsimp only at h
 cases h;exact rt []
theorem T0(N:Nat)(s:(List bB))(f:(bB->Option Bool))(r:Bool)(h:AL N s f=some r):Cx Tryz.prog 134 [sR aP false s,.lf (.pd (iR Tryz.prog (λx:bB=>[sA aP false x]) (λr:Bool=>[sB r]) f))] [] [] [sB r]:=by
 unfold AL at h;refine fn tb en134 Tryz.func134 λX w H ν=>?_;refine cl none [] 0 h (JR N _ _) λr1 h=>?_;cases h;exact rt []
theorem LJ(N:Nat)(s:(List aC))(pb:(List aC))(eq:(aC->aC->Option Bool))(r:Bool)(h:w8 N s pb eq=some r):Cx Tryz.prog 126 [sR aD false s,sR aD false pb,.lf (.pd (iR Tryz.prog (λx:aC×aC=>[sA aD false x.1,sA aD false x.2]) (λr:Bool=>[sB r]) (λx:aC×aC=>eq x.1 x.2)))] [] [] [sB r]:=by
 unfold w8 at h;refine fn tb en126 Tryz.func126 λX w H ν=>?_;refine cd h (λhc1 h=>?_) (λhc1 h=>?_);cases h;exact rt [];refine jn (λx=>(Sum.inl x)) (λ(_:Unit)=>aZ 0 [] []) h (λk d a=>?_) ?_;refine bk ?_;refine lp (λb=>aZ 0 [] [vr 1 aD false pb,vl 2 (.pd (iR Tryz.prog (λx:aC×aC=>[sA aD false x.1,sA aD false x.2]) (λr:Bool=>[sB r]) (λx:aC×aC=>eq x.1 x.2))),vr 15 aD false s,vi 16 (List.length s:Int),vi 17 b]) d [] ?_;rintro b oo h c
 rw[xf]at h
 refine cd h (λe h=>?_) (λe h=>?_);refine bk ?_;refine bR h λf h=>?_;refine bR h λi h=>?_;refine cvl (g:=(λx:aC×aC=>eq x.1 x.2)) (f,i) h λl h=>?_;refine cd h (λj h=>?_) (λj h=>?_);cases h;cases c _ rfl;replace h:=a;try dsimp only at h
 cases h;exact rt [];cases h;exact bl [];cases h;cases c _ rfl;replace h:=a;try dsimp only at h
 exact bj _ [];intro _ h;try dsimp only at h
 cases h;exact rt []
theorem SX(N:Nat)(s:(List bB))(del:(bB->Option Bool))(r:(List bB))(h:xC N s del=some r):Cx Tryz.prog 143 [sO 0,.lf (.pd (iR Tryz.prog (λx:bB=>[sA aP false x]) (λr:Bool=>[sB r]) del))] [.row aP false s] [(1,some (.row aP false r))] [sO 1]:=by
 unfold xC at h;refine iP (m:=1) tb (mvs 0 0) en143 Tryz.func143 λX w H ν=>?_;refine cl none [] 0 h (JR N _ _) λr1 h=>?_;refine cd h (λhc4 h=>?_) (λhc4 h=>?_);cases h;exact rt [0,1];refine jn (λx=>x) (λ⟨b,c⟩=>cW 2 [none,some (.row aP false b)] [vo 0 1,vi 5 c]) h (λu j v=>?_) ?_;refine bk ?_;refine lp (λ⟨d,e,a⟩=>cW 2 [none,some (.row aP false d)] [vo 0 1,vl 1 (.pd (iR Tryz.prog (λx:bB=>[sA aP false x]) (λr:Bool=>[sB r]) del)),vi 5 e,vi 6 a]) j [0,1] ?_;rintro⟨d,e,a⟩ oo h k
 rw[Fo]at h
 refine cd h (λl h=>?_) (λl h=>?_);refine jn (λx=>x) (λ⟨f,i⟩=>cW 2 [none,some (.row aP false f)] [vo 0 1,vl 1 (.pd (iR Tryz.prog (λx:bB=>[sA aP false x]) (λr:Bool=>[sB r]) del)),vi 5 i,vi 6 a]) h (λy h a0=>?_) ?_;refine bk ?_;refine cK h λn h=>?_;refine dX ?_;refine cvl (g:=del) n h λa1 h=>?_;refine cd h (λo h=>?_) (λo h=>?_);refine cK h λa2 h=>?_;refine eH false h λa3 h=>?_;cases h;exact bj _ [0,1];cases h;exact bj _ [0,1];rintro⟨f,i⟩ h;try dsimp only at h
 cases h;exact bl [0,1];cases h;exact bj _ [0,1] (hx:=k _ rfl);rintro⟨b,c⟩ h;try dsimp only at h
 have p:=segf h;refine cutG h λa4 h=>?_;refine clG ((bB.mk 0 ([]:(List aC))):bB) p ?_;refine EH h λa5 h=>?_;cases h;exact rt [0,2]
theorem Uc(N:Nat)(n:Int)(r:(List bB))(h:BM N n=some r):Cx Tryz.prog 168 [.lf lN,sI .i64 n] [] [(0,some (.row aP true r))] [sO 0]:=by
 unfold BM at h;refine fn tb en168 Tryz.func168 λX w H ν=>?_;refine cd h (λhc3 h=>?_) (λhc3 h=>?_);cases h;refine capN ?_;refine jn (λx=>x) (λs8=>aZ 1 [.row aP true s8] [vo 0 0]) h (λs9 h b=>?_) ?_;refine cd h (λa h=>?_) (λa h=>?_);refine capN ?_;refine slN ?_;refine apZ (rp:=aP) (z:=((bB.mk 0 ([]:(List aC))):bB)) h (by assumption) λc h=>?_;refine EH h λd h=>?_;cases h;exact bj _ [1];refine pk (nl 0 aP) ?_;cases h;exact bj _ [0];intro s8 h;try dsimp only at h
 cases h;exact rt [0]
theorem Ma(N:Nat)(slices:(List (List bB)))(r:(List bB))(h:vz N slices=some r):Cx Tryz.prog 141 [sR (bN aP) false slices] [] [] [sR aP false r]:=by
 unfold vz at h;refine fn tb en141 Tryz.func141 λX w H ν=>?_;refine jn (λx=>x) (λa=>aZ 0 [] [vr 0 (bN aP) false slices,vi 3 a]) h (λo g p=>?_) ?_;refine bk ?_;refine lp (λ⟨b,c⟩=>aZ 0 [] [vr 0 (bN aP) false slices,vi 3 b,vr 9 (bN aP) false slices,vi 10 (List.length slices:Int),vi 11 c]) g [] ?_;rintro⟨b,c⟩ oo h i
 rw[yZ]at h
 refine cd h (λj h=>?_) (λj h=>?_);refine bk ?_;refine bR h λs h=>?_;refine cd h (λk h=>?_) (λk h=>?_);cases h;cases h;exact bl [];cases h;exact bj _ [] (hx:=i _ rfl);intro a h;try dsimp only at h
 refine cl none [] 1 h (Uc N _) λu h=>?_;refine jn (λx=>x) (λd=>aZ 1 [.row aP false d] [vo 6 0]) h (λv l y=>?_) ?_;refine bk ?_;refine lp (λ⟨e,f⟩=>aZ 1 [.row aP false e] [vo 6 0,vr 25 (bN aP) false slices,vi 26 (List.length slices:Int),vi 27 f]) l [0] ?_;rintro⟨e,f⟩ oo h m
 rw[yH]at h
 refine cd h (λn h=>?_) (λn h=>?_);refine bk ?_;refine bR h λa0 h=>?_;refine ei false h λa1 h=>?_;cases h;exact bl [1];cases h;exact bj _ [0] (hx:=m _ rfl);intro d h;try dsimp only at h
 cases h;exact rt []
end Go.Proofs.YtipdkfmhfakbnaaGreatDoor.SP

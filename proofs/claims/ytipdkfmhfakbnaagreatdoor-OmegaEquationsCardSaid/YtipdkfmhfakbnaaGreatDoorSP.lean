/- Walks of the symbolic machine, written by a program of mine (wip/tool). -/
import Derived.Test.YtipdkfmhfakbnaaGreatDoorTB
import Derived.Test.YtipdkfmhfakbnaaGreatDoorAg
set_option linter.unusedVariables false
set_option linter.unusedSimpArgs false
set_option maxRecDepth 100000
set_option maxHeartbeats 4000000
namespace Go.Proofs.YtipdkfmhfakbnaaGreatDoor.SP
open Go Go.RowKit Go.X Go.Q Go.D Go.Proofs.YtipdkfmhfakbnaaGreatDoor.TB Go.Proofs.YtipdkfmhfakbnaaGreatDoor.FS 
theorem yW(N:Nat)(s:(List aC))(r:(List aC))(h:pI N s=some r):Cn aL 90 [sR aE false s] [.row aE false r] [sO 0]:=by
 unfold pI at h;refine fn tb en90 Tryz.func90 λX w H ν=>?_;refine uk ?_;refine cn (λhnil=>?_) ?_;replace h:some []=some r:=by rw[hnil]at h;simpa[cY]using h
 refine pr (nl 2 aE) ?_;cases h;exact rt [0];refine jN aE ?_;refine ei false h λa h=>?_;cases h;exact rt [1]
theorem Vu(N:Nat)(s:(List Constraint))(r:(List Constraint))(h:C5 N s=some r):Cn aL 60 [sR cK false s] [.row cK false r] [sO 0]:=by
 unfold C5 at h;refine fn tb en60 Tryz.func60 λX w H ν=>?_;refine uk ?_;refine cn (λhnil=>?_) ?_;replace h:some []=some r:=by rw[hnil]at h;simpa[cY]using h
 refine pr (nl 2 cK) ?_;cases h;exact rt [0];refine jN cK ?_;refine ei false h λa h=>?_;cases h;exact rt [1]
theorem GQ(N:Nat)(s:(List bD))(r:(List bD))(h:sf N s=some r):Cn aL 144 [sR aP false s] [.row aP false r] [sO 0]:=by
 unfold sf at h;refine fn tb en144 Tryz.func144 λX w H ν=>?_;refine uk ?_;refine cn (λhnil=>?_) ?_;replace h:some []=some r:=by rw[hnil]at h;simpa[cY]using h
 refine pr (nl 2 aP) ?_;cases h;exact rt [0];refine jN aP ?_;refine ei false h λa h=>?_;cases h;exact rt [1]
theorem XG(N:Nat)(s:(List (List aC)))(r:(List (List aC)))(h:A9 N s=some r):Cn aL 165 [sR bN false s] [.row bN false r] [sO 0]:=by
 unfold A9 at h;refine fn tb en165 Tryz.func165 λX w H ν=>?_;refine uk ?_;refine cn (λhnil=>?_) ?_;replace h:some []=some r:=by rw[hnil]at h;simpa[cY]using h
 refine pr (nl 2 bN) ?_;cases h;exact rt [0];refine jN bN ?_;refine ei false h λa h=>?_;cases h;exact rt [1]
theorem WV(N:Nat)(s:(List Int))(r:(List Int))(h:BT N s=some r):Cn aL 166 [sR aY false s] [.row aY true r] [sO 0]:=by
 unfold BT at h;refine fn tb en166 Tryz.func166 λX w H ν=>?_;refine uk ?_;refine cn (λhnil=>?_) ?_;replace h:some []=some r:=by rw[hnil]at h;simpa[cY]using h
 refine pr (nl 2 aY) ?_;cases h;exact rt [0];refine jN aY ?_;refine ei true h λa h=>?_;cases h;exact rt [1]
theorem WW(N:Nat)(s:(List Step))(r:(List Step))(h:G5 N s=some r):Cx aL 164 [sR bF false s] [] [] [.lf (.cp bF false r)]:=by
 unfold G5 at h;refine fn tb en164 Tryz.func164 λX w H ν=>?_;refine clR ?_;cases h;exact rt []
theorem Vq(N:Nat)(s:(List dW))(r:(List dW))(h:E8 N s=some r):Cx aL 167 [sR bH false s] [] [] [.lf (.cp bH false r)]:=by
 unfold E8 at h;refine fn tb en167 Tryz.func167 λX w H ν=>?_;refine clR ?_;cases h;exact rt []
theorem RE(N:Nat)(s:(List Constraint))(f:(Constraint->Option Bool))(r:Int)(h:Ad N s f=some r):Cx aL 85 [sR cK false s,.lf (.pd (gW aL (λx:Constraint=>[sA cK false x]) (λr:Bool=>[sB r]) f))] [] [] [sI .i64 r]:=by
 unfold Ad at h;refine fn tb en85 Tryz.func85 λX w H ν=>?_;refine jn (λx=>(Sum.inl x)) (λ(_:Unit)=>aX 0 [] []) h (λk d a=>?_) ?_;refine bk ?_;refine lp (λb=>aX 0 [] [vr 0 cK false s,vl 1 (.pd (gW aL (λx:Constraint=>[sA cK false x]) (λr:Bool=>[sB r]) f)),vi 7 (List.length s:Int),vi 8 b]) d [] ?_;rintro b oo h c
 rw[yN]at h
 refine cd h (λe h=>?_) (λe h=>?_);refine bk ?_;refine bP h λi h=>?_;refine cvl (g:=f) i h λl h=>?_;refine cd h (λj h=>?_) (λj h=>?_);cases h;cases c _ rfl;replace h:=a;try dsimp only at h
 cases h;exact rt [];cases h;exact bl [];cases h;cases c _ rfl;replace h:=a;try dsimp only at h
 exact bj _ [];intro _ h;try dsimp only at h
 cases h;exact rt []
theorem Mb(N:Nat)(s:(List bD))(f:(bD->Option Bool))(r:Int)(h:wM N s f=some r):Cx aL 160 [sR aP false s,.lf (.pd (gW aL (λx:bD=>[sA aP false x]) (λr:Bool=>[sB r]) f))] [] [] [sI .i64 r]:=by
 unfold wM at h;refine fn tb en160 Tryz.func160 λX w H ν=>?_;refine jn (λx=>(Sum.inl x)) (λ(_:Unit)=>aX 0 [] []) h (λk d a=>?_) ?_;refine bk ?_;refine lp (λb=>aX 0 [] [vr 0 aP false s,vl 1 (.pd (gW aL (λx:bD=>[sA aP false x]) (λr:Bool=>[sB r]) f)),vi 7 (List.length s:Int),vi 8 b]) d [] ?_;rintro b oo h c
 rw[xM]at h
 refine cd h (λe h=>?_) (λe h=>?_);refine bk ?_;refine bP h λi h=>?_;refine cvl (g:=f) i h λl h=>?_;refine cd h (λj h=>?_) (λj h=>?_);cases h;cases c _ rfl;replace h:=a;try dsimp only at h
 cases h;exact rt [];cases h;exact bl [];cases h;cases c _ rfl;replace h:=a;try dsimp only at h
 exact bj _ [];intro _ h;try dsimp only at h
 cases h;exact rt []
theorem RD(N:Nat)(s:(List bD))(f:(bD->Option Bool))(r:Bool)(h:AO N s f=some r):Cx aL 134 [sR aP false s,.lf (.pd (gW aL (λx:bD=>[sA aP false x]) (λr:Bool=>[sB r]) f))] [] [] [sB r]:=by
 unfold AO at h;refine fn tb en134 Tryz.func134 λX w H ν=>?_;refine cl none [] 0 h (Mb N _ _) λr1 h=>?_;cases h;exact rt []
theorem OH(N:Nat)(s:(List aC))(pb:(List aC))(eq:(aC->aC->Option Bool))(r:Bool)(h:zT N s pb eq=some r):Cx aL 126 [sR aE false s,sR aE false pb,.lf (.pd (gW aL (λx:aC×aC=>[sA aE false x.1,sA aE false x.2]) (λr:Bool=>[sB r]) (λx:aC×aC=>eq x.1 x.2)))] [] [] [sB r]:=by
 unfold zT at h;refine fn tb en126 Tryz.func126 λX w H ν=>?_;refine cd h (λhc1 h=>?_) (λhc1 h=>?_);cases h;exact rt [];refine jn (λx=>(Sum.inl x)) (λ(_:Unit)=>aX 0 [] []) h (λk d a=>?_) ?_;refine bk ?_;refine lp (λb=>aX 0 [] [vr 1 aE false pb,vl 2 (.pd (gW aL (λx:aC×aC=>[sA aE false x.1,sA aE false x.2]) (λr:Bool=>[sB r]) (λx:aC×aC=>eq x.1 x.2))),vr 15 aE false s,vi 16 (List.length s:Int),vi 17 b]) d [] ?_;rintro b oo h c
 rw[xL]at h
 refine cd h (λe h=>?_) (λe h=>?_);refine bk ?_;refine bP h λf h=>?_;refine bP h λi h=>?_;refine cvl (g:=(λx:aC×aC=>eq x.1 x.2)) (f,i) h λl h=>?_;refine cd h (λj h=>?_) (λj h=>?_);cases h;cases c _ rfl;replace h:=a;try dsimp only at h
 cases h;exact rt [];cases h;exact bl [];cases h;cases c _ rfl;replace h:=a;try dsimp only at h
 exact bj _ [];intro _ h;try dsimp only at h
 cases h;exact rt []
theorem V2(N:Nat)(s:(List Constraint))(del:(Constraint->Option Bool))(r:(List Constraint))(h:xE N s del=some r):Cx aL 59 [sO 0,.lf (.pd (gW aL (λx:Constraint=>[sA cK false x]) (λr:Bool=>[sB r]) del))] [.row cK false s] [(1,some (.row cK false r))] [sO 1]:=by
 unfold xE at h;refine iZ (m:=1) tb (mvs 0 0) en59 Tryz.func59 λX w H ν=>?_;refine cl none [] 0 h (RE N _ _) λr1 h=>?_;refine cd h (λhc4 h=>?_) (λhc4 h=>?_);cases h;exact rt [0,1];refine jn (λx=>x) (λ⟨b,c⟩=>cW 2 [none,some (.row cK false b)] [vo 0 1,vi 5 c]) h (λu j v=>?_) ?_;refine bk ?_;refine lp (λ⟨d,e,a⟩=>cW 2 [none,some (.row cK false d)] [vo 0 1,vl 1 (.pd (gW aL (λx:Constraint=>[sA cK false x]) (λr:Bool=>[sB r]) del)),vi 5 e,vi 6 a]) j [0,1] ?_;rintro⟨d,e,a⟩ oo h k
 rw[ER]at h
 refine cd h (λl h=>?_) (λl h=>?_);refine jn (λx=>x) (λ⟨f,i⟩=>cW 2 [none,some (.row cK false f)] [vo 0 1,vl 1 (.pd (gW aL (λx:Constraint=>[sA cK false x]) (λr:Bool=>[sB r]) del)),vi 5 i,vi 6 a]) h (λy h a0=>?_) ?_;refine bk ?_;refine cC h λn h=>?_;refine du ?_;refine cvl (g:=del) n h λa1 h=>?_;refine cd h (λo h=>?_) (λo h=>?_);refine cC h λa2 h=>?_;refine ej false h λa3 h=>?_;cases h;exact bj _ [0,1];cases h;exact bj _ [0,1];rintro⟨f,i⟩ h;try dsimp only at h
 cases h;exact bl [0,1];cases h;exact bj _ [0,1] (hx:=k _ rfl);rintro⟨b,c⟩ h;try dsimp only at h
 have p:=segf h;refine HZ h λa4 h=>?_;refine clG ((Constraint.mk (Linear.mk 0 ([]:(List jt))) false):Constraint) p ?_;refine Dz h λa5 h=>?_;cases h;exact rt [0,2]
theorem RO(N:Nat)(s:(List bD))(del:(bD->Option Bool))(r:(List bD))(h:yP N s del=some r):Cx aL 143 [sO 0,.lf (.pd (gW aL (λx:bD=>[sA aP false x]) (λr:Bool=>[sB r]) del))] [.row aP false s] [(1,some (.row aP false r))] [sO 1]:=by
 unfold yP at h;refine iZ (m:=1) tb (mvs 0 0) en143 Tryz.func143 λX w H ν=>?_;refine cl none [] 0 h (Mb N _ _) λr1 h=>?_;refine cd h (λhc4 h=>?_) (λhc4 h=>?_);cases h;exact rt [0,1];refine jn (λx=>x) (λ⟨b,c⟩=>cW 2 [none,some (.row aP false b)] [vo 0 1,vi 5 c]) h (λu j v=>?_) ?_;refine bk ?_;refine lp (λ⟨d,e,a⟩=>cW 2 [none,some (.row aP false d)] [vo 0 1,vl 1 (.pd (gW aL (λx:bD=>[sA aP false x]) (λr:Bool=>[sB r]) del)),vi 5 e,vi 6 a]) j [0,1] ?_;rintro⟨d,e,a⟩ oo h k
 rw[GL]at h
 refine cd h (λl h=>?_) (λl h=>?_);refine jn (λx=>x) (λ⟨f,i⟩=>cW 2 [none,some (.row aP false f)] [vo 0 1,vl 1 (.pd (gW aL (λx:bD=>[sA aP false x]) (λr:Bool=>[sB r]) del)),vi 5 i,vi 6 a]) h (λy h a0=>?_) ?_;refine bk ?_;refine cC h λn h=>?_;refine du ?_;refine cvl (g:=del) n h λa1 h=>?_;refine cd h (λo h=>?_) (λo h=>?_);refine cC h λa2 h=>?_;refine ej false h λa3 h=>?_;cases h;exact bj _ [0,1];cases h;exact bj _ [0,1];rintro⟨f,i⟩ h;try dsimp only at h
 cases h;exact bl [0,1];cases h;exact bj _ [0,1] (hx:=k _ rfl);rintro⟨b,c⟩ h;try dsimp only at h
 have p:=segf h;refine HZ h λa4 h=>?_;refine clG ((bD.mk 0 ([]:(List aC))):bD) p ?_;refine Dz h λa5 h=>?_;cases h;exact rt [0,2]
theorem U8(N:Nat)(n:Int)(r:(List bD))(h:Az N n=some r):Cx aL 168 [.lf lN,sI .i64 n] [] [(0,some (.row aP true r))] [sO 0]:=by
 unfold Az at h;refine fn tb en168 Tryz.func168 λX w H ν=>?_;refine cd h (λhc3 h=>?_) (λhc3 h=>?_);cases h;refine capN ?_;refine jn (λx=>x) (λs8=>aX 1 [.row aP true s8] [vo 0 0]) h (λs9 h b=>?_) ?_;refine cd h (λa h=>?_) (λa h=>?_);refine capN ?_;refine slN ?_;refine apZ (rp:=aP) (z:=((bD.mk 0 ([]:(List aC))):bD)) h (by assumption) λc h=>?_;refine Dz h λd h=>?_;cases h;exact bj _ [1];refine pk (nl 0 aP) ?_;cases h;exact bj _ [0];intro s8 h;try dsimp only at h
 cases h;exact rt [0]
theorem JI(N:Nat)(slices:(List (List bD)))(r:(List bD))(h:vZ N slices=some r):Cx aL 141 [sR (kL aP) false slices] [] [] [sR aP false r]:=by
 unfold vZ at h;refine fn tb en141 Tryz.func141 λX w H ν=>?_;refine jn (λx=>x) (λa=>aX 0 [] [vr 0 (kL aP) false slices,vi 3 a]) h (λo g p=>?_) ?_;refine bk ?_;refine lp (λ⟨b,c⟩=>aX 0 [] [vr 0 (kL aP) false slices,vi 3 b,vr 9 (kL aP) false slices,vi 10 (List.length slices:Int),vi 11 c]) g [] ?_;rintro⟨b,c⟩ oo h i
 rw[zz]at h
 refine cd h (λj h=>?_) (λj h=>?_);refine bk ?_;refine bP h λs h=>?_;refine cd h (λk h=>?_) (λk h=>?_);cases h;cases h;exact bl [];cases h;exact bj _ [] (hx:=i _ rfl);intro a h;try dsimp only at h
 refine cl none [] 1 h (U8 N _) λu h=>?_;refine jn (λx=>x) (λd=>aX 1 [.row aP false d] [vo 6 0]) h (λv l y=>?_) ?_;refine bk ?_;refine lp (λ⟨e,f⟩=>aX 1 [.row aP false e] [vo 6 0,vr 25 (kL aP) false slices,vi 26 (List.length slices:Int),vi 27 f]) l [0] ?_;rintro⟨e,f⟩ oo h m
 rw[yM]at h
 refine cd h (λn h=>?_) (λn h=>?_);refine bk ?_;refine bP h λa0 h=>?_;refine ei false h λa1 h=>?_;cases h;exact bl [1];cases h;exact bj _ [0] (hx:=m _ rfl);intro d h;try dsimp only at h
 cases h;exact rt []
end Go.Proofs.YtipdkfmhfakbnaaGreatDoor.SP

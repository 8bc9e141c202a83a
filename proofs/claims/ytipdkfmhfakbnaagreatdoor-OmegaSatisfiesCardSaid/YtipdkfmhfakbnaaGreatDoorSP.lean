/- Walks of the symbolic machine, written by a program of mine (wip/tool). -/
import Derived.Test.YtipdkfmhfakbnaaGreatDoorTB
import Derived.Test.YtipdkfmhfakbnaaGreatDoorAd
set_option linter.unusedVariables false
set_option linter.unusedSimpArgs false
set_option linter.unusedSectionVars false
set_option maxRecDepth 100000
set_option maxHeartbeats 4000000
namespace Go.Proofs.YtipdkfmhfakbnaaGreatDoor.SP
open Go Go.RowKit Go.X Go.Q Go.D Go.Proofs.YtipdkfmhfakbnaaGreatDoor.TB Go.Proofs.YtipdkfmhfakbnaaGreatDoor.FS 
theorem cloneBig_c(N:Nat)(s:(List Big))(r:(List Big))(h:cloneBig N s=some r):Cn Tryz.prog 90 [sR rBig false s] [.row rBig false r] [sO 0]:=by
 unfold cloneBig at h
 refine fn tb en90 Tryz.func90 fun X w H ν=>?_
 refine eqn ?_
 refine cn (fun hnil=>?_) ?_
 replace h:some []=some r:=by rw[hnil]at h;simpa[apnd]using h
 refine pr (nl 2 rBig) ?_
 cases h
 exact rt [0]
 refine litZ rBig ?_
 refine apO false h fun a h=>?_
 cases h
 exact rt [1]
theorem cloneItem_c(N:Nat)(s:(List OItem))(r:(List OItem))(h:cloneItem N s=some r):Cn Tryz.prog 144 [sR rOItem false s] [.row rOItem false r] [sO 0]:=by
 unfold cloneItem at h
 refine fn tb en144 Tryz.func144 fun X w H ν=>?_
 refine eqn ?_
 refine cn (fun hnil=>?_) ?_
 replace h:some []=some r:=by rw[hnil]at h;simpa[apnd]using h
 refine pr (nl 2 rOItem) ?_
 cases h
 exact rt [0]
 refine litZ rOItem ?_
 refine apO false h fun a h=>?_
 cases h
 exact rt [1]
theorem cloneRows_c(N:Nat)(s:(List (List Big)))(r:(List (List Big)))(h:cloneRows N s=some r):Cn Tryz.prog 165 [sR (rSl rBig) false s] [.row (rSl rBig) false r] [sO 0]:=by
 unfold cloneRows at h
 refine fn tb en165 Tryz.func165 fun X w H ν=>?_
 refine eqn ?_
 refine cn (fun hnil=>?_) ?_
 replace h:some []=some r:=by rw[hnil]at h;simpa[apnd]using h
 refine pr (nl 2 (rSl rBig)) ?_
 cases h
 exact rt [0]
 refine litZ (rSl rBig) ?_
 refine apO false h fun a h=>?_
 cases h
 exact rt [1]
theorem cloneInt_c(N:Nat)(s:(List Int))(r:(List Int))(h:cloneInt N s=some r):Cn Tryz.prog 166 [sR (rInt .i64) false s] [.row (rInt .i64) true r] [sO 0]:=by
 unfold cloneInt at h
 refine fn tb en166 Tryz.func166 fun X w H ν=>?_
 refine eqn ?_
 refine cn (fun hnil=>?_) ?_
 replace h:some []=some r:=by rw[hnil]at h;simpa[apnd]using h
 refine pr (nl 2 (rInt .i64)) ?_
 cases h
 exact rt [0]
 refine litZ (rInt .i64) ?_
 refine apO true h fun a h=>?_
 cases h
 exact rt [1]
theorem clipStep_c(N:Nat)(s:(List Step))(r:(List Step))(h:clipStep N s=some r):Cx Tryz.prog 164 [sR rStep false s] [] [] [.lf (.cp rStep false r)]:=by
 unfold clipStep at h
 refine fn tb en164 Tryz.func164 fun X w H ν=>?_
 refine clR ?_
 cases h
 exact rt []
theorem clipElim_c(N:Nat)(s:(List OElim))(r:(List OElim))(h:clipElim N s=some r):Cx Tryz.prog 167 [sR rOElim false s] [] [] [.lf (.cp rOElim false r)]:=by
 unfold clipElim at h
 refine fn tb en167 Tryz.func167 fun X w H ν=>?_
 refine clR ?_
 cases h
 exact rt []
theorem indexCons_c(N:Nat)(s:(List Constraint))(f:(Constraint→Option Bool))(r:Int)(h:indexCons N s f=some r):Cx Tryz.prog 85 [sR rConstraint false s,.lf (.pd (fnPd Tryz.prog (fun x:Constraint=>[sA rConstraint false x]) (fun r:Bool=>[sB r]) f))] [] [] [sI .i64 r]:=by
 unfold indexCons at h
 refine fn tb en85 Tryz.func85 fun X w H ν=>?_
 refine jn (fun x=>(Sum.inl x)) (fun(_:Unit)=>mkS 0 [] []) h (fun k d a=>?_) ?_
 refine bk ?_
 refine lp (fun b=>mkS 0 [] [vr 0 rConstraint false s,vl 1 (.pd (fnPd Tryz.prog (fun x:Constraint=>[sA rConstraint false x]) (fun r:Bool=>[sB r]) f)),vi 7 (List.length s:Int),vi 8 b]) d [] ?_
 rintro b oo h c
 rw[indexCons_b1]at h
 refine cd h (fun e h=>?_) (fun e h=>?_)
 refine bk ?_
 refine ixR h fun i h=>?_
 refine cvl (g:=f) i h fun l h=>?_
 refine cd h (fun j h=>?_) (fun j h=>?_)
 cases h
 cases c _ rfl
 replace h:=a
 try dsimp only at h
 cases h
 exact rt []
 cases h
 exact bl []
 cases h
 cases c _ rfl
 replace h:=a
 try dsimp only at h
 exact bj _ []
 intro _ h
 try dsimp only at h
 cases h
 exact rt []
theorem containsCons_c(N:Nat)(s:(List Constraint))(f:(Constraint→Option Bool))(r:Bool)(h:containsCons N s f=some r):Cx Tryz.prog 53 [sR rConstraint false s,.lf (.pd (fnPd Tryz.prog (fun x:Constraint=>[sA rConstraint false x]) (fun r:Bool=>[sB r]) f))] [] [] [sB r]:=by
 unfold containsCons at h
 refine fn tb en53 Tryz.func53 fun X w H ν=>?_
 refine cl none [] 0 h (indexCons_c N _ _) fun r1 h=>?_
 cases h
 exact rt []
theorem indexItem_c(N:Nat)(s:(List OItem))(f:(OItem→Option Bool))(r:Int)(h:indexItem N s f=some r):Cx Tryz.prog 160 [sR rOItem false s,.lf (.pd (fnPd Tryz.prog (fun x:OItem=>[sA rOItem false x]) (fun r:Bool=>[sB r]) f))] [] [] [sI .i64 r]:=by
 unfold indexItem at h
 refine fn tb en160 Tryz.func160 fun X w H ν=>?_
 refine jn (fun x=>(Sum.inl x)) (fun(_:Unit)=>mkS 0 [] []) h (fun k d a=>?_) ?_
 refine bk ?_
 refine lp (fun b=>mkS 0 [] [vr 0 rOItem false s,vl 1 (.pd (fnPd Tryz.prog (fun x:OItem=>[sA rOItem false x]) (fun r:Bool=>[sB r]) f)),vi 7 (List.length s:Int),vi 8 b]) d [] ?_
 rintro b oo h c
 rw[indexItem_b1]at h
 refine cd h (fun e h=>?_) (fun e h=>?_)
 refine bk ?_
 refine ixR h fun i h=>?_
 refine cvl (g:=f) i h fun l h=>?_
 refine cd h (fun j h=>?_) (fun j h=>?_)
 cases h
 cases c _ rfl
 replace h:=a
 try dsimp only at h
 cases h
 exact rt []
 cases h
 exact bl []
 cases h
 cases c _ rfl
 replace h:=a
 try dsimp only at h
 exact bj _ []
 intro _ h
 try dsimp only at h
 cases h
 exact rt []
theorem containsItem_c(N:Nat)(s:(List OItem))(f:(OItem→Option Bool))(r:Bool)(h:containsItem N s f=some r):Cx Tryz.prog 134 [sR rOItem false s,.lf (.pd (fnPd Tryz.prog (fun x:OItem=>[sA rOItem false x]) (fun r:Bool=>[sB r]) f))] [] [] [sB r]:=by
 unfold containsItem at h
 refine fn tb en134 Tryz.func134 fun X w H ν=>?_
 refine cl none [] 0 h (indexItem_c N _ _) fun r1 h=>?_
 cases h
 exact rt []
theorem equalBig_c(N:Nat)(s:(List Big))(pb:(List Big))(eq:(Big→Big→Option Bool))(r:Bool)(h:equalBig N s pb eq=some r):Cx Tryz.prog 126 [sR rBig false s,sR rBig false pb,.lf (.pd (fnPd Tryz.prog (fun x:Big×Big=>[sA rBig false x.1,sA rBig false x.2]) (fun r:Bool=>[sB r]) (fun x:Big×Big=>eq x.1 x.2)))] [] [] [sB r]:=by
 unfold equalBig at h
 refine fn tb en126 Tryz.func126 fun X w H ν=>?_
 refine cd h (fun hc1 h=>?_) (fun hc1 h=>?_)
 cases h
 exact rt []
 refine jn (fun x=>(Sum.inl x)) (fun(_:Unit)=>mkS 0 [] []) h (fun k d a=>?_) ?_
 refine bk ?_
 refine lp (fun b=>mkS 0 [] [vr 1 rBig false pb,vl 2 (.pd (fnPd Tryz.prog (fun x:Big×Big=>[sA rBig false x.1,sA rBig false x.2]) (fun r:Bool=>[sB r]) (fun x:Big×Big=>eq x.1 x.2))),vr 15 rBig false s,vi 16 (List.length s:Int),vi 17 b]) d [] ?_
 rintro b oo h c
 rw[equalBig_b1]at h
 refine cd h (fun e h=>?_) (fun e h=>?_)
 refine bk ?_
 refine ixR h fun f h=>?_
 refine ixR h fun i h=>?_
 refine cvl (g:=(fun x:Big×Big=>eq x.1 x.2)) (f,i) h fun l h=>?_
 refine cd h (fun j h=>?_) (fun j h=>?_)
 cases h
 cases c _ rfl
 replace h:=a
 try dsimp only at h
 cases h
 exact rt []
 cases h
 exact bl []
 cases h
 cases c _ rfl
 replace h:=a
 try dsimp only at h
 exact bj _ []
 intro _ h
 try dsimp only at h
 cases h
 exact rt []
theorem deleteItem_c(N:Nat)(s:(List OItem))(del:(OItem→Option Bool))(r:(List OItem))(h:deleteItem N s del=some r):Cx Tryz.prog 143 [sO 0,.lf (.pd (fnPd Tryz.prog (fun x:OItem=>[sA rOItem false x]) (fun r:Bool=>[sB r]) del))] [.row rOItem false s] [(1,some (.row rOItem false r))] [sO 1]:=by
 unfold deleteItem at h
 refine fnv (m:=1) tb (mvs 0 0) en143 Tryz.func143 fun X w H ν=>?_
 refine cl none [] 0 h (indexItem_c N _ _) fun r1 h=>?_
 refine cd h (fun hc4 h=>?_) (fun hc4 h=>?_)
 cases h
 exact rt [0,1]
 refine jn (fun x=>x) (fun⟨b,c⟩=>mkG 2 [none,some (.row rOItem false b)] [vo 0 1,vi 5 c]) h (fun q j u=>?_) ?_
 refine bk ?_
 refine lp (fun⟨d,e,a⟩=>mkG 2 [none,some (.row rOItem false d)] [vo 0 1,vl 1 (.pd (fnPd Tryz.prog (fun x:OItem=>[sA rOItem false x]) (fun r:Bool=>[sB r]) del)),vi 5 e,vi 6 a]) j [0,1] ?_
 rintro⟨d,e,a⟩ oo h k
 rw[deleteItem_b1]at h
 refine cd h (fun l h=>?_) (fun l h=>?_)
 refine jn (fun x=>x) (fun⟨f,i⟩=>mkG 2 [none,some (.row rOItem false f)] [vo 0 1,vl 1 (.pd (fnPd Tryz.prog (fun x:OItem=>[sA rOItem false x]) (fun r:Bool=>[sB r]) del)),vi 5 i,vi 6 a]) h (fun v h y=>?_) ?_
 refine bk ?_
 refine ixO h fun n h=>?_
 refine ldO ?_
 refine cvl (g:=del) n h fun a0 h=>?_
 refine cd h (fun o h=>?_) (fun o h=>?_)
 refine ixO h fun a1 h=>?_
 refine stO false h fun a2 h=>?_
 cases h
 exact bj _ [0,1]
 cases h
 exact bj _ [0,1]
 rintro⟨f,i⟩ h
 try dsimp only at h
 cases h
 exact bl [0,1]
 cases h
 exact bj _ [0,1] (hx:=k _ rfl)
 rintro⟨b,c⟩ h
 try dsimp only at h
 have p:=segf h
 refine cutG h fun a3 h=>?_
 refine clG ((OItem.mk 0 ([]:(List Big))):OItem) p ?_
 refine cutO h fun a4 h=>?_
 cases h
 exact rt [0,2]
theorem growItem_c(N:Nat)(n:Int)(r:(List OItem))(h:growItem N n=some r):Cx Tryz.prog 168 [.lf lN,sI .i64 n] [] [(0,some (.row rOItem true r))] [sO 0]:=by
 unfold growItem at h
 refine fn tb en168 Tryz.func168 fun X w H ν=>?_
 refine cd h (fun hc3 h=>?_) (fun hc3 h=>?_)
 cases h
 refine capN ?_
 refine jn (fun x=>x) (fun s8=>mkS 1 [.row rOItem true s8] [vo 0 0]) h (fun s9 h b=>?_) ?_
 refine cd h (fun a h=>?_) (fun a h=>?_)
 refine capN ?_
 refine slN ?_
 refine apZ (rp:=rOItem) (z:=((OItem.mk 0 ([]:(List Big))):OItem)) h (by assumption) fun c h=>?_
 refine cutO h fun d h=>?_
 cases h
 exact bj _ [1]
 refine pk (nl 0 rOItem) ?_
 cases h
 exact bj _ [0]
 intro s8 h
 try dsimp only at h
 cases h
 exact rt [0]
theorem concatItem_c(N:Nat)(slices:(List (List OItem)))(r:(List OItem))(h:concatItem N slices=some r):Cx Tryz.prog 141 [sR (rSl rOItem) false slices] [] [] [sR rOItem false r]:=by
 unfold concatItem at h
 refine fn tb en141 Tryz.func141 fun X w H ν=>?_
 refine jn (fun x=>x) (fun a=>mkS 0 [] [vr 0 (rSl rOItem) false slices,vi 3 a]) h (fun o g p=>?_) ?_
 refine bk ?_
 refine lp (fun⟨b,c⟩=>mkS 0 [] [vr 0 (rSl rOItem) false slices,vi 3 b,vr 9 (rSl rOItem) false slices,vi 10 (List.length slices:Int),vi 11 c]) g [] ?_
 rintro⟨b,c⟩ oo h i
 rw[concatItem_b1]at h
 refine cd h (fun j h=>?_) (fun j h=>?_)
 refine bk ?_
 refine ixR h fun q h=>?_
 refine cd h (fun k h=>?_) (fun k h=>?_)
 cases h
 cases h
 exact bl []
 cases h
 exact bj _ [] (hx:=i _ rfl)
 intro a h
 try dsimp only at h
 refine cl none [] 1 h (growItem_c N _) fun s h=>?_
 refine jn (fun x=>x) (fun d=>mkS 1 [.row rOItem false d] [vo 6 0]) h (fun u l v=>?_) ?_
 refine bk ?_
 refine lp (fun⟨e,f⟩=>mkS 1 [.row rOItem false e] [vo 6 0,vr 25 (rSl rOItem) false slices,vi 26 (List.length slices:Int),vi 27 f]) l [0] ?_
 rintro⟨e,f⟩ oo h m
 rw[concatItem_b2]at h
 refine cd h (fun n h=>?_) (fun n h=>?_)
 refine bk ?_
 refine ixR h fun y h=>?_
 refine apO false h fun a0 h=>?_
 cases h
 exact bl [1]
 cases h
 exact bj _ [0] (hx:=m _ rfl)
 intro d h
 try dsimp only at h
 cases h
 exact rt []
end Go.Proofs.YtipdkfmhfakbnaaGreatDoor.SP

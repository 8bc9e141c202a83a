/- Walks of the symbolic machine, written by a program of mine (wip/tool). -/
import Derived.Test.YtipdkfmhfakbnaaGreatDoorTB
import Derived.Test.YtipdkfmhfakbnaaGreatDoorAg
import Derived.Test.YtipdkfmhfakbnaaGreatDoorAd
set_option linter.unusedVariables false
set_option linter.unusedSimpArgs false
set_option linter.unusedSectionVars false
set_option maxRecDepth 100000
set_option maxHeartbeats 4000000
namespace Go.Proofs.YtipdkfmhfakbnaaGreatDoor.SP
open Go Go.RowKit Go.X Go.Q Go.D Go.Proofs.YtipdkfmhfakbnaaGreatDoor.TB Go.Proofs.YtipdkfmhfakbnaaGreatDoor.FS 
theorem xn(N:Nat)(s:(List aB))(r:(List aB))(h:nT N s=some r):Cn Tryz.prog 90 [sR aA false s] [.row aA false r] [sO 0]:=by
 unfold nT at h
 refine fn tb en90 Tryz.func90 fun X w H ν=>?_
 refine vA ?_
 refine cn (fun hnil=>?_) ?_
 replace h:some []=some r:=by rw[hnil]at h;simpa[cM]using h
 refine pr (nl 2 aA) ?_
 cases h
 exact rt [0]
 refine ji aA ?_
 refine dQ false h fun a h=>?_
 cases h
 exact rt [1]
theorem EJ(N:Nat)(s:(List aY))(r:(List aY))(h:qI N s=some r):Cn Tryz.prog 144 [sR aH false s] [.row aH false r] [sO 0]:=by
 unfold qI at h
 refine fn tb en144 Tryz.func144 fun X w H ν=>?_
 refine vA ?_
 refine cn (fun hnil=>?_) ?_
 replace h:some []=some r:=by rw[hnil]at h;simpa[cM]using h
 refine pr (nl 2 aH) ?_
 cases h
 exact rt [0]
 refine ji aH ?_
 refine dQ false h fun a h=>?_
 cases h
 exact rt [1]
theorem O0(N:Nat)(s:(List (List aB)))(r:(List (List aB)))(h:AO N s=some r):Cn Tryz.prog 165 [sR (aV aA) false s] [.row (aV aA) false r] [sO 0]:=by
 unfold AO at h
 refine fn tb en165 Tryz.func165 fun X w H ν=>?_
 refine vA ?_
 refine cn (fun hnil=>?_) ?_
 replace h:some []=some r:=by rw[hnil]at h;simpa[cM]using h
 refine pr (nl 2 (aV aA)) ?_
 cases h
 exact rt [0]
 refine ji (aV aA) ?_
 refine dQ false h fun a h=>?_
 cases h
 exact rt [1]
theorem P1(N:Nat)(s:(List Int))(r:(List Int))(h:zU N s=some r):Cn Tryz.prog 166 [sR (aD .i64) false s] [.row (aD .i64) true r] [sO 0]:=by
 unfold zU at h
 refine fn tb en166 Tryz.func166 fun X w H ν=>?_
 refine vA ?_
 refine cn (fun hnil=>?_) ?_
 replace h:some []=some r:=by rw[hnil]at h;simpa[cM]using h
 refine pr (nl 2 (aD .i64)) ?_
 cases h
 exact rt [0]
 refine ji (aD .i64) ?_
 refine dQ true h fun a h=>?_
 cases h
 exact rt [1]
theorem QZ(N:Nat)(s:(List Step))(r:(List Step))(h:DY N s=some r):Cx Tryz.prog 164 [sR aJ false s] [] [] [.lf (.cp aJ false r)]:=by
 unfold DY at h
 refine fn tb en164 Tryz.func164 fun X w H ν=>?_
 refine clR ?_
 cases h
 exact rt []
theorem Rb(N:Nat)(s:(List dK))(r:(List dK))(h:Fq N s=some r):Cx Tryz.prog 167 [sR aM false s] [] [] [.lf (.cp aM false r)]:=by
 unfold Fq at h
 refine fn tb en167 Tryz.func167 fun X w H ν=>?_
 refine clR ?_
 cases h
 exact rt []
theorem KE(N:Nat)(s:(List aY))(f:(aY->Option Bool))(r:Int)(h:vD N s f=some r):Cx Tryz.prog 160 [sR aH false s,.lf (.pd (iF Tryz.prog (fun x:aY=>[sA aH false x]) (fun r:Bool=>[sB r]) f))] [] [] [sI .i64 r]:=by
 unfold vD at h
 refine fn tb en160 Tryz.func160 fun X w H ν=>?_
 refine jn (fun x=>(Sum.inl x)) (fun(_:Unit)=>aW 0 [] []) h (fun k d a=>?_) ?_
 refine bk ?_
 refine lp (fun b=>aW 0 [] [vr 0 aH false s,vl 1 (.pd (iF Tryz.prog (fun x:aY=>[sA aH false x]) (fun r:Bool=>[sB r]) f)),vi 7 (List.length s:Int),vi 8 b]) d [] ?_
 rintro b oo h c
 rw[xL]at h
 refine cd h (fun e h=>?_) (fun e h=>?_)
 refine bk ?_
 refine bF h fun i h=>?_
 refine cvl (g:=f) i h fun l h=>?_
 refine cd h (fun j h=>?_) (fun j h=>?_)
 cases h
 cases c _ rfl
 replace h:=a
 try dsimp only at h
 cases h
 exact rt []
 cases h
 exact bl []
 cases h
 cases c _ rfl
 replace h:=a
 try dsimp only at h
 exact bj _ []
 intro _ h
 try dsimp only at h
 cases h
 exact rt []
theorem Qc(N:Nat)(s:(List aY))(f:(aY->Option Bool))(r:Bool)(h:BQ N s f=some r):Cx Tryz.prog 134 [sR aH false s,.lf (.pd (iF Tryz.prog (fun x:aY=>[sA aH false x]) (fun r:Bool=>[sB r]) f))] [] [] [sB r]:=by
 unfold BQ at h
 refine fn tb en134 Tryz.func134 fun X w H ν=>?_
 refine cl none [] 0 h (KE N _ _) fun r1 h=>?_
 cases h
 exact rt []
theorem I7(N:Nat)(s:(List aB))(pb:(List aB))(eq:(aB->aB->Option Bool))(r:Bool)(h:xS N s pb eq=some r):Cx Tryz.prog 126 [sR aA false s,sR aA false pb,.lf (.pd (iF Tryz.prog (fun x:aB×aB=>[sA aA false x.1,sA aA false x.2]) (fun r:Bool=>[sB r]) (fun x:aB×aB=>eq x.1 x.2)))] [] [] [sB r]:=by
 unfold xS at h
 refine fn tb en126 Tryz.func126 fun X w H ν=>?_
 refine cd h (fun hc1 h=>?_) (fun hc1 h=>?_)
 cases h
 exact rt []
 refine jn (fun x=>(Sum.inl x)) (fun(_:Unit)=>aW 0 [] []) h (fun k d a=>?_) ?_
 refine bk ?_
 refine lp (fun b=>aW 0 [] [vr 1 aA false pb,vl 2 (.pd (iF Tryz.prog (fun x:aB×aB=>[sA aA false x.1,sA aA false x.2]) (fun r:Bool=>[sB r]) (fun x:aB×aB=>eq x.1 x.2))),vr 15 aA false s,vi 16 (List.length s:Int),vi 17 b]) d [] ?_
 rintro b oo h c
 rw[wN]at h
 refine cd h (fun e h=>?_) (fun e h=>?_)
 refine bk ?_
 refine bF h fun f h=>?_
 refine bF h fun i h=>?_
 refine cvl (g:=(fun x:aB×aB=>eq x.1 x.2)) (f,i) h fun l h=>?_
 refine cd h (fun j h=>?_) (fun j h=>?_)
 cases h
 cases c _ rfl
 replace h:=a
 try dsimp only at h
 cases h
 exact rt []
 cases h
 exact bl []
 cases h
 cases c _ rfl
 replace h:=a
 try dsimp only at h
 exact bj _ []
 intro _ h
 try dsimp only at h
 cases h
 exact rt []
theorem Rf(N:Nat)(s:(List aY))(del:(aY->Option Bool))(r:(List aY))(h:yi N s del=some r):Cx Tryz.prog 143 [sO 0,.lf (.pd (iF Tryz.prog (fun x:aY=>[sA aH false x]) (fun r:Bool=>[sB r]) del))] [.row aH false s] [(1,some (.row aH false r))] [sO 1]:=by
 unfold yi at h
 refine iA (m:=1) tb (mvs 0 0) en143 Tryz.func143 fun X w H ν=>?_
 refine cl none [] 0 h (KE N _ _) fun r1 h=>?_
 refine cd h (fun hc4 h=>?_) (fun hc4 h=>?_)
 cases h
 exact rt [0,1]
 refine jn (fun x=>x) (fun⟨b,c⟩=>cH 2 [none,some (.row aH false b)] [vo 0 1,vi 5 c]) h (fun u j v=>?_) ?_
 refine bk ?_
 refine lp (fun⟨d,e,a⟩=>cH 2 [none,some (.row aH false d)] [vo 0 1,vl 1 (.pd (iF Tryz.prog (fun x:aY=>[sA aH false x]) (fun r:Bool=>[sB r]) del)),vi 5 e,vi 6 a]) j [0,1] ?_
 rintro⟨d,e,a⟩ oo h k
 rw[CP]at h
 refine cd h (fun l h=>?_) (fun l h=>?_)
 refine jn (fun x=>x) (fun⟨f,i⟩=>cH 2 [none,some (.row aH false f)] [vo 0 1,vl 1 (.pd (iF Tryz.prog (fun x:aY=>[sA aH false x]) (fun r:Bool=>[sB r]) del)),vi 5 i,vi 6 a]) h (fun y h a0=>?_) ?_
 refine bk ?_
 refine cy h fun n h=>?_
 refine dL ?_
 refine cvl (g:=del) n h fun a1 h=>?_
 refine cd h (fun o h=>?_) (fun o h=>?_)
 refine cy h fun a2 h=>?_
 refine dW false h fun a3 h=>?_
 cases h
 exact bj _ [0,1]
 cases h
 exact bj _ [0,1]
 rintro⟨f,i⟩ h
 try dsimp only at h
 cases h
 exact bl [0,1]
 cases h
 exact bj _ [0,1] (hx:=k _ rfl)
 rintro⟨b,c⟩ h
 try dsimp only at h
 have p:=segf h
 refine cutG h fun a4 h=>?_
 refine clG ((aY.mk 0 ([]:(List aB))):aY) p ?_
 refine EP h fun a5 h=>?_
 cases h
 exact rt [0,2]
theorem NC(N:Nat)(n:Int)(r:(List aY))(h:Bc N n=some r):Cx Tryz.prog 168 [.lf lN,sI .i64 n] [] [(0,some (.row aH true r))] [sO 0]:=by
 unfold Bc at h
 refine fn tb en168 Tryz.func168 fun X w H ν=>?_
 refine cd h (fun hc3 h=>?_) (fun hc3 h=>?_)
 cases h
 refine capN ?_
 refine jn (fun x=>x) (fun s8=>aW 1 [.row aH true s8] [vo 0 0]) h (fun s9 h b=>?_) ?_
 refine cd h (fun a h=>?_) (fun a h=>?_)
 refine capN ?_
 refine slN ?_
 refine apZ (rp:=aH) (z:=((aY.mk 0 ([]:(List aB))):aY)) h (by assumption) fun c h=>?_
 refine EP h fun d h=>?_
 cases h
 exact bj _ [1]
 refine pk (nl 0 aH) ?_
 cases h
 exact bj _ [0]
 intro s8 h
 try dsimp only at h
 cases h
 exact rt [0]
theorem Hq(N:Nat)(slices:(List (List aY)))(r:(List aY))(h:tU N slices=some r):Cx Tryz.prog 141 [sR (aV aH) false slices] [] [] [sR aH false r]:=by
 unfold tU at h
 refine fn tb en141 Tryz.func141 fun X w H ν=>?_
 refine jn (fun x=>x) (fun a=>aW 0 [] [vr 0 (aV aH) false slices,vi 3 a]) h (fun o g p=>?_) ?_
 refine bk ?_
 refine lp (fun⟨b,c⟩=>aW 0 [] [vr 0 (aV aH) false slices,vi 3 b,vr 9 (aV aH) false slices,vi 10 (List.length slices:Int),vi 11 c]) g [] ?_
 rintro⟨b,c⟩ oo h i
 rw[ya]at h
 refine cd h (fun j h=>?_) (fun j h=>?_)
 refine bk ?_
 refine bF h fun s h=>?_
 refine cd h (fun k h=>?_) (fun k h=>?_)
 cases h
 cases h
 exact bl []
 cases h
 exact bj _ [] (hx:=i _ rfl)
 intro a h
 try dsimp only at h
 refine cl none [] 1 h (NC N _) fun u h=>?_
 refine jn (fun x=>x) (fun d=>aW 1 [.row aH false d] [vo 6 0]) h (fun v l y=>?_) ?_
 refine bk ?_
 refine lp (fun⟨e,f⟩=>aW 1 [.row aH false e] [vo 6 0,vr 25 (aV aH) false slices,vi 26 (List.length slices:Int),vi 27 f]) l [0] ?_
 rintro⟨e,f⟩ oo h m
 rw[wq]at h
 refine cd h (fun n h=>?_) (fun n h=>?_)
 refine bk ?_
 refine bF h fun a0 h=>?_
 refine dQ false h fun a1 h=>?_
 cases h
 exact bl [1]
 cases h
 exact bj _ [0] (hx:=m _ rfl)
 intro d h
 try dsimp only at h
 cases h
 exact rt []
end Go.Proofs.YtipdkfmhfakbnaaGreatDoor.SP

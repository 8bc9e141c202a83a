/- Walks of the symbolic machine, written by a program of mine (wip/tool). -/
import Derived.Test.YtipdkfmhfakbnaaGreatDoorTB
import Derived.Test.YtipdkfmhfakbnaaGreatDoorAf
import Derived.Test.YtipdkfmhfakbnaaGreatDoorAd
set_option linter.unusedVariables false
set_option linter.unusedSimpArgs false
set_option linter.unusedSectionVars false
set_option maxRecDepth 100000
set_option maxHeartbeats 4000000
namespace Go.Proofs.YtipdkfmhfakbnaaGreatDoor.SP
open Go Go.RowKit Go.X Go.Q Go.D Go.Proofs.YtipdkfmhfakbnaaGreatDoor.TB Go.Proofs.YtipdkfmhfakbnaaGreatDoor.FS 
theorem xv(N:Nat)(s:(List aB))(r:(List aB))(h:nF N s=some r):Cn Tryz.prog 90 [sR aA false s] [.row aA false r] [sO 0]:=by
 unfold nF at h
 refine fn tb en90 Tryz.func90 fun X w H ν=>?_
 refine tU ?_
 refine cn (fun hnil=>?_) ?_
 replace h:some []=some r:=by rw[hnil]at h;simpa[cN]using h
 refine pr (nl 2 aA) ?_
 cases h
 exact rt [0]
 refine iZ aA ?_
 refine dR false h fun a h=>?_
 cases h
 exact rt [1]
theorem FY(N:Nat)(s:(List aX))(r:(List aX))(h:pV N s=some r):Cn Tryz.prog 144 [sR aH false s] [.row aH false r] [sO 0]:=by
 unfold pV at h
 refine fn tb en144 Tryz.func144 fun X w H ν=>?_
 refine tU ?_
 refine cn (fun hnil=>?_) ?_
 replace h:some []=some r:=by rw[hnil]at h;simpa[cN]using h
 refine pr (nl 2 aH) ?_
 cases h
 exact rt [0]
 refine iZ aH ?_
 refine dR false h fun a h=>?_
 cases h
 exact rt [1]
theorem Qq(N:Nat)(s:(List (List aB)))(r:(List (List aB)))(h:AM N s=some r):Cn Tryz.prog 165 [sR (aU aA) false s] [.row (aU aA) false r] [sO 0]:=by
 unfold AM at h
 refine fn tb en165 Tryz.func165 fun X w H ν=>?_
 refine tU ?_
 refine cn (fun hnil=>?_) ?_
 replace h:some []=some r:=by rw[hnil]at h;simpa[cN]using h
 refine pr (nl 2 (aU aA)) ?_
 cases h
 exact rt [0]
 refine iZ (aU aA) ?_
 refine dR false h fun a h=>?_
 cases h
 exact rt [1]
theorem N8(N:Nat)(s:(List Int))(r:(List Int))(h:A6 N s=some r):Cn Tryz.prog 166 [sR (aD .i64) false s] [.row (aD .i64) true r] [sO 0]:=by
 unfold A6 at h
 refine fn tb en166 Tryz.func166 fun X w H ν=>?_
 refine tU ?_
 refine cn (fun hnil=>?_) ?_
 replace h:some []=some r:=by rw[hnil]at h;simpa[cN]using h
 refine pr (nl 2 (aD .i64)) ?_
 cases h
 exact rt [0]
 refine iZ (aD .i64) ?_
 refine dR true h fun a h=>?_
 cases h
 exact rt [1]
theorem NG(N:Nat)(s:(List Step))(r:(List Step))(h:CJ N s=some r):Cx Tryz.prog 164 [sR aJ false s] [] [] [.lf (.cp aJ false r)]:=by
 unfold CJ at h
 refine fn tb en164 Tryz.func164 fun X w H ν=>?_
 refine clR ?_
 cases h
 exact rt []
theorem UY(N:Nat)(s:(List dJ))(r:(List dJ))(h:Dw N s=some r):Cx Tryz.prog 167 [sR aM false s] [] [] [.lf (.cp aM false r)]:=by
 unfold Dw at h
 refine fn tb en167 Tryz.func167 fun X w H ν=>?_
 refine clR ?_
 cases h
 exact rt []
theorem Kv(N:Nat)(s:(List aX))(f:(aX->Option Bool))(r:Int)(h:uQ N s f=some r):Cx Tryz.prog 160 [sR aH false s,.lf (.pd (iM Tryz.prog (fun x:aX=>[sA aH false x]) (fun r:Bool=>[sB r]) f))] [] [] [sI .i64 r]:=by
 unfold uQ at h
 refine fn tb en160 Tryz.func160 fun X w H ν=>?_
 refine jn (fun x=>(Sum.inl x)) (fun(_:Unit)=>aV 0 [] []) h (fun k d a=>?_) ?_
 refine bk ?_
 refine lp (fun b=>aV 0 [] [vr 0 aH false s,vl 1 (.pd (iM Tryz.prog (fun x:aX=>[sA aH false x]) (fun r:Bool=>[sB r]) f)),vi 7 (List.length s:Int),vi 8 b]) d [] ?_
 rintro b oo h c
 rw[yq]at h
 refine cd h (fun e h=>?_) (fun e h=>?_)
 refine bk ?_
 refine bI h fun i h=>?_
 refine cvl (g:=f) i h fun l h=>?_
 refine cd h (fun j h=>?_) (fun j h=>?_)
 cases h
 cases c _ rfl
 replace h:=a
 try dsimp only at h
 cases h
 exact rt []
 cases h
 exact bl []
 cases h
 cases c _ rfl
 replace h:=a
 try dsimp only at h
 exact bj _ []
 intro _ h
 try dsimp only at h
 cases h
 exact rt []
theorem Sg(N:Nat)(s:(List aX))(f:(aX->Option Bool))(r:Bool)(h:yX N s f=some r):Cx Tryz.prog 134 [sR aH false s,.lf (.pd (iM Tryz.prog (fun x:aX=>[sA aH false x]) (fun r:Bool=>[sB r]) f))] [] [] [sB r]:=by
 unfold yX at h
 refine fn tb en134 Tryz.func134 fun X w H ν=>?_
 refine cl none [] 0 h (Kv N _ _) fun r1 h=>?_
 cases h
 exact rt []
theorem Iw(N:Nat)(s:(List aB))(pb:(List aB))(eq:(aB->aB->Option Bool))(r:Bool)(h:xi N s pb eq=some r):Cx Tryz.prog 126 [sR aA false s,sR aA false pb,.lf (.pd (iM Tryz.prog (fun x:aB×aB=>[sA aA false x.1,sA aA false x.2]) (fun r:Bool=>[sB r]) (fun x:aB×aB=>eq x.1 x.2)))] [] [] [sB r]:=by
 unfold xi at h
 refine fn tb en126 Tryz.func126 fun X w H ν=>?_
 refine cd h (fun hc1 h=>?_) (fun hc1 h=>?_)
 cases h
 exact rt []
 refine jn (fun x=>(Sum.inl x)) (fun(_:Unit)=>aV 0 [] []) h (fun k d a=>?_) ?_
 refine bk ?_
 refine lp (fun b=>aV 0 [] [vr 1 aA false pb,vl 2 (.pd (iM Tryz.prog (fun x:aB×aB=>[sA aA false x.1,sA aA false x.2]) (fun r:Bool=>[sB r]) (fun x:aB×aB=>eq x.1 x.2))),vr 15 aA false s,vi 16 (List.length s:Int),vi 17 b]) d [] ?_
 rintro b oo h c
 rw[xp]at h
 refine cd h (fun e h=>?_) (fun e h=>?_)
 refine bk ?_
 refine bI h fun f h=>?_
 refine bI h fun i h=>?_
 refine cvl (g:=(fun x:aB×aB=>eq x.1 x.2)) (f,i) h fun l h=>?_
 refine cd h (fun j h=>?_) (fun j h=>?_)
 cases h
 cases c _ rfl
 replace h:=a
 try dsimp only at h
 cases h
 exact rt []
 cases h
 exact bl []
 cases h
 cases c _ rfl
 replace h:=a
 try dsimp only at h
 exact bj _ []
 intro _ h
 try dsimp only at h
 cases h
 exact rt []
theorem R0(N:Nat)(s:(List aX))(del:(aX->Option Bool))(r:(List aX))(h:yg N s del=some r):Cx Tryz.prog 143 [sO 0,.lf (.pd (iM Tryz.prog (fun x:aX=>[sA aH false x]) (fun r:Bool=>[sB r]) del))] [.row aH false s] [(1,some (.row aH false r))] [sO 1]:=by
 unfold yg at h
 refine iH (m:=1) tb (mvs 0 0) en143 Tryz.func143 fun X w H ν=>?_
 refine cl none [] 0 h (Kv N _ _) fun r1 h=>?_
 refine cd h (fun hc4 h=>?_) (fun hc4 h=>?_)
 cases h
 exact rt [0,1]
 refine jn (fun x=>x) (fun⟨b,c⟩=>cD 2 [none,some (.row aH false b)] [vo 0 1,vi 5 c]) h (fun u j v=>?_) ?_
 refine bk ?_
 refine lp (fun⟨d,e,a⟩=>cD 2 [none,some (.row aH false d)] [vo 0 1,vl 1 (.pd (iM Tryz.prog (fun x:aX=>[sA aH false x]) (fun r:Bool=>[sB r]) del)),vi 5 e,vi 6 a]) j [0,1] ?_
 rintro⟨d,e,a⟩ oo h k
 rw[DO]at h
 refine cd h (fun l h=>?_) (fun l h=>?_)
 refine jn (fun x=>x) (fun⟨f,i⟩=>cD 2 [none,some (.row aH false f)] [vo 0 1,vl 1 (.pd (iM Tryz.prog (fun x:aX=>[sA aH false x]) (fun r:Bool=>[sB r]) del)),vi 5 i,vi 6 a]) h (fun y h a0=>?_) ?_
 refine bk ?_
 refine ct h fun n h=>?_
 refine dI ?_
 refine cvl (g:=del) n h fun a1 h=>?_
 refine cd h (fun o h=>?_) (fun o h=>?_)
 refine ct h fun a2 h=>?_
 refine dS false h fun a3 h=>?_
 cases h
 exact bj _ [0,1]
 cases h
 exact bj _ [0,1]
 rintro⟨f,i⟩ h
 try dsimp only at h
 cases h
 exact bl [0,1]
 cases h
 exact bj _ [0,1] (hx:=k _ rfl)
 rintro⟨b,c⟩ h
 try dsimp only at h
 have p:=segf h
 refine cutG h fun a4 h=>?_
 refine clG ((aX.mk 0 ([]:(List aB))):aX) p ?_
 refine FQ h fun a5 h=>?_
 cases h
 exact rt [0,2]
theorem O2(N:Nat)(n:Int)(r:(List aX))(h:Ae N n=some r):Cx Tryz.prog 168 [.lf lN,sI .i64 n] [] [(0,some (.row aH true r))] [sO 0]:=by
 unfold Ae at h
 refine fn tb en168 Tryz.func168 fun X w H ν=>?_
 refine cd h (fun hc3 h=>?_) (fun hc3 h=>?_)
 cases h
 refine capN ?_
 refine jn (fun x=>x) (fun s8=>aV 1 [.row aH true s8] [vo 0 0]) h (fun s9 h b=>?_) ?_
 refine cd h (fun a h=>?_) (fun a h=>?_)
 refine capN ?_
 refine slN ?_
 refine apZ (rp:=aH) (z:=((aX.mk 0 ([]:(List aB))):aX)) h (by assumption) fun c h=>?_
 refine FQ h fun d h=>?_
 cases h
 exact bj _ [1]
 refine pk (nl 0 aH) ?_
 cases h
 exact bj _ [0]
 intro s8 h
 try dsimp only at h
 cases h
 exact rt [0]
theorem Jz(N:Nat)(slices:(List (List aX)))(r:(List aX))(h:uj N slices=some r):Cx Tryz.prog 141 [sR (aU aH) false slices] [] [] [sR aH false r]:=by
 unfold uj at h
 refine fn tb en141 Tryz.func141 fun X w H ν=>?_
 refine jn (fun x=>x) (fun a=>aV 0 [] [vr 0 (aU aH) false slices,vi 3 a]) h (fun o g p=>?_) ?_
 refine bk ?_
 refine lp (fun⟨b,c⟩=>aV 0 [] [vr 0 (aU aH) false slices,vi 3 b,vr 9 (aU aH) false slices,vi 10 (List.length slices:Int),vi 11 c]) g [] ?_
 rintro⟨b,c⟩ oo h i
 rw[wT]at h
 refine cd h (fun j h=>?_) (fun j h=>?_)
 refine bk ?_
 refine bI h fun s h=>?_
 refine cd h (fun k h=>?_) (fun k h=>?_)
 cases h
 cases h
 exact bl []
 cases h
 exact bj _ [] (hx:=i _ rfl)
 intro a h
 try dsimp only at h
 refine cl none [] 1 h (O2 N _) fun u h=>?_
 refine jn (fun x=>x) (fun d=>aV 1 [.row aH false d] [vo 6 0]) h (fun v l y=>?_) ?_
 refine bk ?_
 refine lp (fun⟨e,f⟩=>aV 1 [.row aH false e] [vo 6 0,vr 25 (aU aH) false slices,vi 26 (List.length slices:Int),vi 27 f]) l [0] ?_
 rintro⟨e,f⟩ oo h m
 rw[ye]at h
 refine cd h (fun n h=>?_) (fun n h=>?_)
 refine bk ?_
 refine bI h fun a0 h=>?_
 refine dR false h fun a1 h=>?_
 cases h
 exact bl [1]
 cases h
 exact bj _ [0] (hx:=m _ rfl)
 intro d h
 try dsimp only at h
 cases h
 exact rt []
end Go.Proofs.YtipdkfmhfakbnaaGreatDoor.SP

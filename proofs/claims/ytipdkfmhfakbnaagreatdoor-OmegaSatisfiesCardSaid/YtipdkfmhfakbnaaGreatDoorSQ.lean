/- Walks of the symbolic machine, written by a program of mine (wip/tool). -/
import Derived.Test.YtipdkfmhfakbnaaGreatDoorTB
import Derived.Test.YtipdkfmhfakbnaaGreatDoorAd
import Derived.Test.YtipdkfmhfakbnaaGreatDoorSB
import Derived.Test.YtipdkfmhfakbnaaGreatDoorSP
set_option linter.unusedVariables false
set_option linter.unusedSimpArgs false
set_option linter.unusedSectionVars false
set_option maxRecDepth 100000
set_option maxHeartbeats 4000000
namespace Go.Proofs.YtipdkfmhfakbnaaGreatDoor.SQ
open Go Go.RowKit Go.X Go.Q Go.D Go.Proofs.YtipdkfmhfakbnaaGreatDoor.TB Go.Proofs.YtipdkfmhfakbnaaGreatDoor.FS Go.Proofs.YtipdkfmhfakbnaaGreatDoor.SB Go.Proofs.YtipdkfmhfakbnaaGreatDoor.SP
theorem oValid_c(N:Nat)(n:Int)(l:(List Constraint))(r:Bool)(h:oValid N n l=some r):Cn Tryz.prog 26 [sI .i64 n,sR rConstraint false l] [] [sB r]:=by
 unfold oValid at h
 refine fn tb en26 Tryz.func26 fun X w H ν=>?_
 refine jn (fun x=>x) (fun x2=>mkS 0 [] [vi 0 n,vr 1 rConstraint false l,vb 15 x2]) h (fun s3 h g4=>?_) ?_
 refine rg ?_
 refine gd h (fun hc5 h=>?_) (fun hc5 h=>?_)
 cases h
 exact bj _ []
 cases h
 exact bj _ []
 intro x2 h
 try dsimp only at h
 refine cd h (fun hc9 h=>?_) (fun hc9 h=>?_)
 cases h
 exact rt []
 refine jn (fun x=>(Sum.inl x)) (fun(_:Unit)=>mkS 0 [] []) h (fun v k d=>?_) ?_
 refine bk ?_
 refine lp (fun a=>mkS 0 [] [vi 0 n,vr 16 rConstraint false l,vi 17 (List.length l:Int),vi 18 a]) k [] ?_
 rintro a oo h e
 rw[oValid_b1]at h
 refine cd h (fun m h=>?_) (fun m h=>?_)
 refine bk ?_
 refine ixR h fun b h=>?_
 refine jn (fun x=>(Sum.inl x)) (fun(_:Unit)=>mkS 0 [] [vi 0 n,vr 16 rConstraint false l,vi 17 (List.length l:Int),vi 18 a]) h (fun y o f=>?_) ?_
 refine bk ?_
 refine lp (fun⟨g,c⟩=>mkS 0 [] [vi 0 n,vi 7 g,vr 16 rConstraint false l,vi 17 (List.length l:Int),vi 18 a,vr 24 rCoef false b.Linear.Coefs,vi 25 (List.length b.Linear.Coefs:Int),vi 26 c]) o [] ?_
 rintro⟨g,c⟩ oo h i
 rw[oValid_b2]at h
 refine cd h (fun p h=>?_) (fun p h=>?_)
 refine bk ?_
 refine ixR h fun q h=>?_
 refine jn (fun x=>x) (fun j=>mkS 1 [.box (Opn.cl rCoef true q)] [vi 0 n,vp 9 0,vr 16 rConstraint false l,vi 17 (List.length l:Int),vi 18 a,vr 24 rCoef false b.Linear.Coefs,vi 25 (List.length b.Linear.Coefs:Int),vi 26 c,vb 39 j]) h (fun a0 h a1=>?_) ?_
 refine rg ?_
 refine gd h (fun s h=>?_) (fun s h=>?_)
 cases h
 exact bj _ [0]
 cases h
 exact bj _ [0]
 intro j h
 try dsimp only at h
 refine cd h (fun u h=>?_) (fun u h=>?_)
 cases h
 cases i _ rfl
 replace h:=f
 try dsimp only at h
 cases h
 cases e _ rfl
 replace h:=d
 try dsimp only at h
 cases h
 exact rt []
 cases h
 exact bl []
 cases h
 cases i _ rfl
 replace h:=f
 try dsimp only at h
 exact bj _ []
 intro _ h
 try dsimp only at h
 cases h
 exact bl []
 cases h
 cases e _ rfl
 replace h:=d
 try dsimp only at h
 exact bj _ []
 intro _ h
 try dsimp only at h
 cases h
 exact rt []
theorem oSat1_c(N:Nat)(c:Constraint)(c0:(List Big))(r:Bool)(h:oSat1 N c c0=some r):Cx Tryz.prog 54 [sA rConstraint false c,.lf (.pd (ppPd false [(.ro rBig false c0)]))] [] [] [sB r]:=by
 unfold oSat1 at h
 refine fnv (m:=0) tb (vpp 1) en54 Tryz.func54 fun X w H ν=>?_
 refine cl none [] 0 h (bOf_c N _) fun r1 h=>?_
 refine jn (fun x=>x) (fun a=>mkS 2 [.box (Opn.cl rConstraint false c),.box (Opn.cl rBig true a)] [vp 2 0,vp 4 1]) h (fun k e l=>?_) ?_
 refine bk ?_
 refine lp (fun⟨b,d⟩=>mkS 2 [.box (Opn.cl rConstraint false c),.box (Opn.cl rBig true b)] [(1,some (.pr false [(.ro rBig false c0)] 0)),vp 2 0,vp 4 1,vr 14 rCoef false c.Linear.Coefs,vi 15 (List.length c.Linear.Coefs:Int),vi 16 d]) e [0,1] ?_
 rintro⟨b,d⟩ oo h f
 rw[oSat1_b1]at h
 refine cd h (fun g h=>?_) (fun g h=>?_)
 refine bk ?_
 refine ixR h fun n h=>?_
 refine dr mixed ?_
 refine cl none [] 0 h (bOf_c N _) fun o h=>?_
 refine ixR h fun p h=>?_
 refine cl none [] 0 h (bMul_c N _ _) fun q h=>?_
 refine cl none [] 0 h (bAdd_c N _ _) fun s h=>?_
 refine dk ?_
 cases h
 exact bl [0,1]
 cases h
 exact bj _ [0,1] (hx:=f _ rfl)
 intro a h
 try dsimp only at h
 refine cl none [] 0 h (bSign_c N _) fun u h=>?_
 refine rg ?_
 refine gd h (fun i h=>?_) (fun i h=>?_)
 cases h
 exact rt []
 refine gd h (fun j h=>?_) (fun j h=>?_)
 cases h
 exact rt []
 cases h
 exact rt []
theorem omSatisfies_c(N:Nat)(l:(List Constraint))(x:(List Big))(r:Bool)(h:omSatisfies N l x=some r):Cx Tryz.prog 27 [sR rConstraint false l,sR rBig false x] [] [] [sB r]:=by
 unfold omSatisfies at h
 refine fn tb en27 Tryz.func27 fun X w H ν=>?_
 refine po (fzb 0 3) ?_
 refine mkF (fun x:Constraint=>[sA rConstraint false x]) (fun r:Bool=>[sB r]) (fun xx=>oSat1 N xx x) (fun xx r h=>oSat1_c N xx x r h) en54 ?_
 refine cl none [] 0 h (containsCons_c N _ _) fun r1 h=>?_
 cases h
 exact rt []
theorem ogcd_c(N:Nat)(l:(List Big))(r:Big)(h:ogcd N l=some r):Cn Tryz.prog 148 [sR rBig false l] [] [sA rBig true r]:=by
 unfold ogcd at h
 refine fn tb en148 Tryz.func148 fun X w H ν=>?_
 refine jn (fun x=>x) (fun⟨a,b⟩=>mkS 2 [.box [(lB false),lN],.box [(lB a),(.ro (rInt .u32) true b)]] [vp 2 0,vp 3 1]) h (fun k f g=>?_) ?_
 refine bk ?_
 refine lp (fun⟨c,d,e⟩=>mkS 2 [.box [(lB false),lN],.box [(lB c),(.ro (rInt .u32) true d)]] [vp 2 0,vp 3 1,vr 6 rBig false l,vi 7 (List.length l:Int),vi 8 e]) f [0,1] ?_
 rintro⟨c,d,e⟩ oo h i
 rw[ogcd_b1]at h
 refine cd h (fun j h=>?_) (fun j h=>?_)
 refine bk ?_
 refine ixR h fun m h=>?_
 refine cl none [] 0 h (bGCD_c N _ _) fun n h=>?_
 cases h
 exact bl [0,1]
 cases h
 cases i _ rfl
 replace h:=g
 try dsimp only at h
 exact bj _ [0,1]
 rintro⟨a,b⟩ h
 try dsimp only at h
 cases h
 exact rt []
theorem onegative_c(N:Nat)(l:(List Big))(r:(List Big))(h:onegative N l=some r):Cn Tryz.prog 93 [sR rBig false l] [.row rBig true r] [sO 0]:=by
 unfold onegative at h
 refine fn tb en93 Tryz.func93 fun X w H ν=>?_
 refine mkO rBig h fun x2 h=>?_
 refine jn (fun x=>x) (fun a=>mkS 1 [.row rBig true a] [vo 3 0]) h (fun i d e=>?_) ?_
 refine bk ?_
 refine lp (fun⟨b,c⟩=>mkS 1 [.row rBig true b] [vr 0 rBig false l,vo 3 0,vi 9 (List.length l:Int),vi 10 c]) d [0] ?_
 rintro⟨b,c⟩ oo h f
 rw[onegative_b1]at h
 refine cd h (fun g h=>?_) (fun g h=>?_)
 refine bk ?_
 refine ixR h fun j h=>?_
 refine cl none [] 0 h (bNeg_c N _) fun k h=>?_
 refine ixQ h fun m n h=>?_
 refine stO true h fun o h=>?_
 cases h
 exact bl [0]
 cases h
 cases f _ rfl
 replace h:=e
 try dsimp only at h
 exact bj _ [0]
 intro a h
 try dsimp only at h
 cases h
 exact rt [0]
theorem okey_c(N:Nat)(g:(List Big))(r:(List UInt8))(h:okey N g=some r):Cn Tryz.prog 92 [sR rBig false g] [] [sT r]:=by
 unfold okey at h
 refine fn tb en92 Tryz.func92 fun X w H ν=>?_
 refine jn (fun x=>x) (fun a=>mkS 1 [.row rStr true a] [vo 3 0]) h (fun k d e=>?_) ?_
 refine bk ?_
 refine ps (nl 3 rStr) ?_
 refine lp (fun⟨b,c⟩=>mkS 1 [.row rStr true b] [vo 3 0,vr 6 rBig false g,vi 7 (List.length g:Int),vi 8 c]) d [0] ?_
 rintro⟨b,c⟩ oo h f
 rw[okey_b1]at h
 refine cd h (fun i h=>?_) (fun i h=>?_)
 refine bk ?_
 refine ixR h fun l h=>?_
 refine cl none [] 0 h (bFormat_c N _) fun j h=>?_
 refine litO rStr true [j] ?_
 refine apO true h fun m h=>?_
 cases h
 exact bl [3]
 cases h
 cases f _ rfl
 replace h:=e
 try dsimp only at h
 exact bj _ [0]
 intro a h
 try dsimp only at h
 refine cl none [] 0 h (joinStr_c N _ _) fun n h=>?_
 cases h
 exact rt []
theorem oslack_c(N:Nat)(pa:Int)(low:OItem)(ups:(List OItem))(r:Big)(h:oslack N pa low ups=some r):Cn Tryz.prog 136 [sI .i64 pa,sA rOItem false low,sR rOItem false ups] [] [sA rBig true r]:=by
 unfold oslack at h
 refine fn tb en136 Tryz.func136 fun X w H ν=>?_
 refine ixR h fun j h=>?_
 refine ixR h fun k h=>?_
 refine jn (fun x=>x) (fun a=>mkS 3 [.box (Opn.cl rOItem false low),.box [(lB false),lN],.box (Opn.cl rBig false a)] [vi 0 pa,vp 4 0,vp 6 1,vp 7 2]) h (fun l d e=>?_) ?_
 refine bk ?_
 refine lp (fun⟨b,c⟩=>mkS 3 [.box (Opn.cl rOItem false low),.box [(lB false),lN],.box (Opn.cl rBig false b)] [vi 0 pa,vp 4 0,vp 6 1,vp 7 2,vr 21 rOItem false ups,vi 22 (List.length ups:Int),vi 23 c]) d [0,1,2] ?_
 rintro⟨b,c⟩ oo h f
 rw[oslack_b1]at h
 refine cd h (fun g h=>?_) (fun g h=>?_)
 refine bk ?_
 refine ixR h fun m h=>?_
 refine dr mixed ?_
 refine ixR h fun n h=>?_
 refine cl none [] 0 h (bCompare_c N _ _) fun o h=>?_
 refine dk ?_
 refine cd h (fun i h=>?_) (fun i h=>?_)
 refine ixR h fun p h=>?_
 cases h
 exact bl [0,1,2]
 cases h
 exact bl [0,1,2]
 cases h
 cases f _ rfl
 replace h:=e
 try dsimp only at h
 exact bj _ [0,1,2]
 intro a h
 try dsimp only at h
 refine ixR h fun q h=>?_
 refine cl none [] 0 h (bNeg_c N _) fun s h=>?_
 refine dr mixed ?_
 refine cl none [] 0 h (bMul_c N _ _) fun u h=>?_
 refine cl none [] 0 h (bSub_c N _ _) fun v h=>?_
 refine cl none [] 0 h (bSub_c N _ _) fun y h=>?_
 refine cl none [] 0 h (bDivFloor_c N _ _) fun a0 h=>?_
 refine dk ?_
 cases h
 exact rt []
theorem osingle_c(N:Nat)(x:OItem)(r:(Int×Bool))(h:osingle N x=some r):Cn Tryz.prog 161 [sA rOItem false x] [] [sI .i64 r.1,sB r.2]:=by
 unfold osingle at h
 refine fn tb en161 Tryz.func161 fun X w H ν=>?_
 refine jn (fun x=>x) (fun⟨a,b⟩=>mkS 0 [] [vi 4 a,vi 5 b]) h (fun m f i=>?_) ?_
 refine bk ?_
 refine lp (fun⟨c,d,e⟩=>mkS 1 [.box (Opn.cl rOItem false x)] [vp 1 0,vi 4 c,vi 5 d,vi 9 (List.length x.g:Int),vi 10 e]) f [0] ?_
 rintro⟨c,d,e⟩ oo h j
 rw[osingle_b1]at h
 refine cd h (fun k h=>?_) (fun k h=>?_)
 refine bk ?_
 refine ixR h fun n h=>?_
 refine cl none [] 0 h (bSign_c N _) fun o h=>?_
 refine cd h (fun l h=>?_) (fun l h=>?_)
 cases h
 exact bl [0]
 cases h
 exact bl [0]
 cases h
 cases j _ rfl
 replace h:=i
 try dsimp only at h
 exact bj _ []
 rintro⟨a,b⟩ h
 try dsimp only at h
 cases h
 exact rt []
theorem oreplaced_c(N:Nat)(l:(List OItem))(pb:Int)(pc:Int)(r:(List OItem))(h:oreplaced N l pb pc=some r):Cn Tryz.prog 169 [sR rOItem false l,sI .i64 pb,sI .i64 pc] [.row rOItem false r] [sO 0]:=by
 unfold oreplaced at h
 refine fn tb en169 Tryz.func169 fun X w H ν=>?_
 refine cl (some false) [] 1 h (cloneItem_c N _) fun r1 h=>?_
 refine jn (fun x=>x) (fun a=>mkS 1 [.row rOItem false a] [vo 0 0]) h (fun j d e=>?_) ?_
 refine bk ?_
 refine lp (fun⟨b,c⟩=>mkS 1 [.row rOItem false b] [vo 0 0,vi 1 pb,vi 2 pc,vi 11 (List.length r1:Int),vi 12 c]) d [0] ?_
 rintro⟨b,c⟩ oo h f
 rw[oreplaced_b1]at h
 refine cd h (fun g h=>?_) (fun g h=>?_)
 refine bk ?_
 refine ixQ h fun k m h=>?_
 refine ldO ?_
 refine cd h (fun i h=>?_) (fun i h=>?_)
 refine ixQ h fun n o h=>?_
 refine stP h (fun p h=>?_) (by assumption)
 cases h
 exact bl [0]
 cases h
 exact bl [0]
 cases h
 cases f _ rfl
 replace h:=e
 try dsimp only at h
 exact bj _ [0]
 intro a h
 try dsimp only at h
 cases h
 exact rt [0]
theorem ounit_c(N:Nat)(n:Int)(pb:Int)(sign:Int)(bound:Big)(r:Ineq)(h:ounit N n pb sign bound=some r):Cn Tryz.prog 48 [sI .i64 n,sI .i64 pb,sI .i64 sign,sA rBig false bound] [] [sA rIneq false r]:=by
 unfold ounit at h
 refine fn tb en48 Tryz.func48 fun X w H ν=>?_
 refine dr mixed ?_
 refine mkO rBig h fun a h=>?_
 refine dk ?_
 refine dr mixed ?_
 refine cl none [] 0 h (bOf_c N _) fun b h=>?_
 refine ixQ h fun c d h=>?_
 refine stO true h fun e h=>?_
 refine dk ?_
 cases h
 exact rt []
theorem oadd1_c(N:Nat)(a:Big)(b:Big)(r:Bool)(h:oadd1 N a b=some r):Cn Tryz.prog 127 [sA rBig false a,sA rBig false b] [] [sB r]:=by
 unfold oadd1 at h
 refine fn tb en127 Tryz.func127 fun X w H ν=>?_
 refine cl none [] 0 h (bCompare_c N _ _) fun c h=>?_
 cases h
 exact rt []
theorem oisolate1_c(N:Nat)(x:Big)(r:Big)(h:oisolate1 N x=some r):Cn Tryz.prog 123 [sA rBig false x] [] [sA rBig false r]:=by
 unfold oisolate1 at h
 refine fn tb en123 Tryz.func123 fun X w H ν=>?_
 cases h
 exact rt []
theorem oexact1_c(N:Nat)(x:OItem)(ca:Int)(cb:(List OItem))(r:Bool)(h:oexact1 N x ca cb=some r):Cx Tryz.prog 135 [sA rOItem false x,.lf (.pd (ppPd false [lI .i64 ca])),.lf (.pd (ppPd false [.ro rOItem false cb]))] [] [] [sB r]:=by
 unfold oexact1 at h
 refine fnv tb (.comp (vpp 1) (vpp 2)) en135 Tryz.func135 fun X w H ν=>?_
 refine cl none [] 0 h (oslack_c N _ _ _) fun r8 h=>?_
 refine cl none [] 0 h (bSign_c N _) fun a h=>?_
 cases h
 exact rt []
theorem odrop1_c(N:Nat)(x:OItem)(ca:Int)(r:Bool)(h:odrop1 N x ca=some r):Cx Tryz.prog 145 [sA rOItem false x,.lf (.pd (ppPd false [lI .i64 ca]))] [] [] [sB r]:=by
 unfold odrop1 at h
 refine fnv tb (vpp 1) en145 Tryz.func145 fun X w H ν=>?_
 refine ixR h fun x7 h=>?_
 refine cl none [] 0 h (bSign_c N _) fun a h=>?_
 cases h
 exact rt []
end Go.Proofs.YtipdkfmhfakbnaaGreatDoor.SQ

/- Walks of the symbolic machine, written by a program of mine (wip/tool). -/
import Derived.Test.YtipdkfmhfakbnaaGreatDoorTB
import Derived.Test.YtipdkfmhfakbnaaGreatDoorAf
import Derived.Test.YtipdkfmhfakbnaaGreatDoorAe
import Derived.Test.YtipdkfmhfakbnaaGreatDoorSB
import Derived.Test.YtipdkfmhfakbnaaGreatDoorSP
set_option linter.unusedVariables false
set_option linter.unusedSimpArgs false
set_option linter.unusedSectionVars false
set_option maxRecDepth 100000
set_option maxHeartbeats 4000000
namespace Go.Proofs.YtipdkfmhfakbnaaGreatDoor.SQ
open Go Go.RowKit Go.X Go.Q Go.D Go.Proofs.YtipdkfmhfakbnaaGreatDoor.TB Go.Proofs.YtipdkfmhfakbnaaGreatDoor.FS Go.Proofs.YtipdkfmhfakbnaaGreatDoor.SB Go.Proofs.YtipdkfmhfakbnaaGreatDoor.SP
theorem GX(N:Nat)(l:(List aB))(r:aB)(h:xw N l=some r):Cn Tryz.prog 148 [sR aA false l] [] [sA aA true r]:=by
 unfold xw at h
 refine fn tb en148 Tryz.func148 fun X w H ν=>?_
 refine jn (fun x=>x) (fun⟨a,b⟩=>aV 2 [.box [(lB false),lN],.box [(lB a),(.ro (aD .u32) true b)]] [vp 2 0,vp 3 1]) h (fun k f g=>?_) ?_
 refine bk ?_
 refine lp (fun⟨c,d,e⟩=>aV 2 [.box [(lB false),lN],.box [(lB c),(.ro (aD .u32) true d)]] [vp 2 0,vp 3 1,vr 6 aA false l,vi 7 (List.length l:Int),vi 8 e]) f [0,1] ?_
 rintro⟨c,d,e⟩ oo h i
 rw[CG]at h
 refine cd h (fun j h=>?_) (fun j h=>?_)
 refine bk ?_
 refine bI h fun m h=>?_
 refine cl none [] 0 h (Sp N _ _) fun n h=>?_
 cases h
 exact bl [0,1]
 cases h
 cases i _ rfl
 replace h:=g
 try dsimp only at h
 exact bj _ [0,1]
 rintro⟨a,b⟩ h
 try dsimp only at h
 cases h
 exact rt []
theorem rC(N:Nat)(l:(List aB))(r:(List aB))(h:mM N l=some r):Cn Tryz.prog 93 [sR aA false l] [.row aA true r] [sO 0]:=by
 unfold mM at h
 refine fn tb en93 Tryz.func93 fun X w H ν=>?_
 refine gx aA h fun x2 h=>?_
 refine jn (fun x=>x) (fun a=>aV 1 [.row aA true a] [vo 3 0]) h (fun i d e=>?_) ?_
 refine bk ?_
 refine lp (fun⟨b,c⟩=>aV 1 [.row aA true b] [vr 0 aA false l,vo 3 0,vi 9 (List.length l:Int),vi 10 c]) d [0] ?_
 rintro⟨b,c⟩ oo h f
 rw[zK]at h
 refine cd h (fun g h=>?_) (fun g h=>?_)
 refine bk ?_
 refine bI h fun j h=>?_
 refine cl none [] 0 h (kZ N _) fun k h=>?_
 refine jA h fun m n h=>?_
 refine dS true h fun o h=>?_
 cases h
 exact bl [0]
 cases h
 cases f _ rfl
 replace h:=e
 try dsimp only at h
 exact bj _ [0]
 intro a h
 try dsimp only at h
 cases h
 exact rt [0]
theorem Me(N:Nat)(g:(List aB))(r:(List UInt8))(h:tY N g=some r):Cn Tryz.prog 92 [sR aA false g] [] [sT r]:=by
 unfold tY at h
 refine fn tb en92 Tryz.func92 fun X w H ν=>?_
 refine jn (fun x=>x) (fun a=>aV 1 [.row gH true a] [vo 3 0]) h (fun k d e=>?_) ?_
 refine bk ?_
 refine ps (nl 3 gH) ?_
 refine lp (fun⟨b,c⟩=>aV 1 [.row gH true b] [vo 3 0,vr 6 aA false g,vi 7 (List.length g:Int),vi 8 c]) d [0] ?_
 rintro⟨b,c⟩ oo h f
 rw[DK]at h
 refine cd h (fun i h=>?_) (fun i h=>?_)
 refine bk ?_
 refine bI h fun l h=>?_
 refine cl none [] 0 h (RV N _) fun j h=>?_
 refine dc gH true [j] ?_
 refine dR true h fun m h=>?_
 cases h
 exact bl [3]
 cases h
 cases f _ rfl
 replace h:=e
 try dsimp only at h
 exact bj _ [0]
 intro a h
 try dsimp only at h
 refine cl none [] 0 h (JC N _ _) fun n h=>?_
 cases h
 exact rt []
theorem xD(N:Nat)(pa:Int)(low:aX)(bR:(List aX))(r:aB)(h:o5 N pa low bR=some r):Cn Tryz.prog 136 [sI .i64 pa,sA aH false low,sR aH false bR] [] [sA aA true r]:=by
 unfold o5 at h
 refine fn tb en136 Tryz.func136 fun X w H ν=>?_
 refine bI h fun j h=>?_
 refine bI h fun k h=>?_
 refine jn (fun x=>x) (fun a=>aV 3 [.box (aO.cl aH false low),.box [(lB false),lN],.box (aO.cl aA false a)] [vi 0 pa,vp 4 0,vp 6 1,vp 7 2]) h (fun l d e=>?_) ?_
 refine bk ?_
 refine lp (fun⟨b,c⟩=>aV 3 [.box (aO.cl aH false low),.box [(lB false),lN],.box (aO.cl aA false b)] [vi 0 pa,vp 4 0,vp 6 1,vp 7 2,vr 21 aH false bR,vi 22 (List.length bR:Int),vi 23 c]) d [0,1,2] ?_
 rintro⟨b,c⟩ oo h f
 rw[Cs]at h
 refine cd h (fun g h=>?_) (fun g h=>?_)
 refine bk ?_
 refine bI h fun m h=>?_
 refine dr mixed ?_
 refine bI h fun n h=>?_
 refine cl none [] 0 h (jo N _ _) fun o h=>?_
 refine dk ?_
 refine cd h (fun i h=>?_) (fun i h=>?_)
 refine bI h fun p h=>?_
 cases h
 exact bl [0,1,2]
 cases h
 exact bl [0,1,2]
 cases h
 cases f _ rfl
 replace h:=e
 try dsimp only at h
 exact bj _ [0,1,2]
 intro a h
 try dsimp only at h
 refine bI h fun s h=>?_
 refine cl none [] 0 h (kZ N _) fun u h=>?_
 refine dr mixed ?_
 refine cl none [] 0 h (lP N _ _) fun v h=>?_
 refine cl none [] 0 h (kv N _ _) fun y h=>?_
 refine cl none [] 0 h (kv N _ _) fun a0 h=>?_
 refine cl none [] 0 h (lT N _ _) fun a1 h=>?_
 refine dk ?_
 cases h
 exact rt []
theorem KT(N:Nat)(x:aX)(r:(Int×Bool))(h:uH N x=some r):Cn Tryz.prog 161 [sA aH false x] [] [sI .i64 r.1,sB r.2]:=by
 unfold uH at h
 refine fn tb en161 Tryz.func161 fun X w H ν=>?_
 refine jn (fun x=>x) (fun⟨a,b⟩=>aV 0 [] [vi 4 a,vi 5 b]) h (fun m f i=>?_) ?_
 refine bk ?_
 refine lp (fun⟨c,d,e⟩=>aV 1 [.box (aO.cl aH false x)] [vp 1 0,vi 4 c,vi 5 d,vi 9 (List.length x.g:Int),vi 10 e]) f [0] ?_
 rintro⟨c,d,e⟩ oo h j
 rw[Fb]at h
 refine cd h (fun k h=>?_) (fun k h=>?_)
 refine bk ?_
 refine bI h fun n h=>?_
 refine cl none [] 0 h (ia N _) fun o h=>?_
 refine cd h (fun l h=>?_) (fun l h=>?_)
 cases h
 exact bl [0]
 cases h
 exact bl [0]
 cases h
 cases j _ rfl
 replace h:=i
 try dsimp only at h
 exact bj _ []
 rintro⟨a,b⟩ h
 try dsimp only at h
 cases h
 exact rt []
theorem MH(N:Nat)(l:(List aX))(pb:Int)(pc:Int)(r:(List aX))(h:tM N l pb pc=some r):Cn Tryz.prog 169 [sR aH false l,sI .i64 pb,sI .i64 pc] [.row aH false r] [sO 0]:=by
 unfold tM at h
 refine fn tb en169 Tryz.func169 fun X w H ν=>?_
 refine cl (some false) [] 1 h (FY N _) fun r1 h=>?_
 refine jn (fun x=>x) (fun a=>aV 1 [.row aH false a] [vo 0 0]) h (fun j d e=>?_) ?_
 refine bk ?_
 refine lp (fun⟨b,c⟩=>aV 1 [.row aH false b] [vo 0 0,vi 1 pb,vi 2 pc,vi 11 (List.length r1:Int),vi 12 c]) d [0] ?_
 rintro⟨b,c⟩ oo h f
 rw[Bu]at h
 refine cd h (fun g h=>?_) (fun g h=>?_)
 refine bk ?_
 refine jA h fun k m h=>?_
 refine dI ?_
 refine cd h (fun i h=>?_) (fun i h=>?_)
 refine jA h fun n o h=>?_
 refine stP h (fun p h=>?_) (by assumption)
 cases h
 exact bl [0]
 cases h
 exact bl [0]
 cases h
 cases f _ rfl
 replace h:=e
 try dsimp only at h
 exact bj _ [0]
 intro a h
 try dsimp only at h
 cases h
 exact rt [0]
theorem LL(N:Nat)(n:Int)(pb:Int)(sign:Int)(bound:aB)(r:bA)(h:Bp N n pb sign bound=some r):Cn Tryz.prog 48 [sI .i64 n,sI .i64 pb,sI .i64 sign,sA aA false bound] [] [sA aE false r]:=by
 unfold Bp at h
 refine fn tb en48 Tryz.func48 fun X w H ν=>?_
 refine dr mixed ?_
 refine gx aA h fun a h=>?_
 refine dk ?_
 refine dr mixed ?_
 refine cl none [] 0 h (gr N _) fun b h=>?_
 refine jA h fun c d h=>?_
 refine dS true h fun e h=>?_
 refine dk ?_
 cases h
 exact rt []
theorem Ju(N:Nat)(a:aB)(b:aB)(r:Bool)(h:qB N a b=some r):Cn Tryz.prog 127 [sA aA false a,sA aA false b] [] [sB r]:=by
 unfold qB at h
 refine fn tb Eu Tryz.func127 fun X w H ν=>?_
 refine cl none [] 0 h (jo N _ _) fun c h=>?_
 cases h
 exact rt []
theorem J0(N:Nat)(x:aB)(r:aB)(h:p5 N x=some r):Cn Tryz.prog 123 [sA aA false x] [] [sA aA false r]:=by
 unfold p5 at h
 refine fn tb Fo Tryz.func123 fun X w H ν=>?_
 cases h
 exact rt []
theorem Ot(N:Nat)(x:aX)(ca:Int)(cb:(List aX))(r:Bool)(h:uF N x ca cb=some r):Cx Tryz.prog 135 [sA aH false x,.lf (.pd (oR false [lI .i64 ca])),.lf (.pd (oR false [.ro aH false cb]))] [] [] [sB r]:=by
 unfold uF at h
 refine iH tb (.comp (ru 1) (ru 2)) KM Tryz.func135 fun X w H ν=>?_
 refine cl none [] 0 h (xD N _ _ _) fun r8 h=>?_
 refine cl none [] 0 h (ia N _) fun a h=>?_
 cases h
 exact rt []
theorem Py(N:Nat)(x:aX)(ca:Int)(r:Bool)(h:uA N x ca=some r):Cx Tryz.prog 145 [sA aH false x,.lf (.pd (oR false [lI .i64 ca]))] [] [] [sB r]:=by
 unfold uA at h
 refine iH tb (ru 1) Lb Tryz.func145 fun X w H ν=>?_
 refine bI h fun x7 h=>?_
 refine cl none [] 0 h (ia N _) fun a h=>?_
 cases h
 exact rt []
end Go.Proofs.YtipdkfmhfakbnaaGreatDoor.SQ

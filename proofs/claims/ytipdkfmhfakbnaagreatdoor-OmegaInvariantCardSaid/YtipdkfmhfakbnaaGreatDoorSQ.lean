/- Walks of the symbolic machine, written by a program of mine (wip/tool). -/
import Derived.Test.YtipdkfmhfakbnaaGreatDoorTB
import Derived.Test.YtipdkfmhfakbnaaGreatDoorAg
import Derived.Test.YtipdkfmhfakbnaaGreatDoorAe
import Derived.Test.YtipdkfmhfakbnaaGreatDoorSB
import Derived.Test.YtipdkfmhfakbnaaGreatDoorSP
set_option linter.unusedVariables false
set_option linter.unusedSimpArgs false
set_option linter.unusedSectionVars false
set_option maxRecDepth 100000
set_option maxHeartbeats 4000000
namespace Go.Proofs.YtipdkfmhfakbnaaGreatDoor.SQ
open Go Go.RowKit Go.X Go.Q Go.D Go.Proofs.YtipdkfmhfakbnaaGreatDoor.TB Go.Proofs.YtipdkfmhfakbnaaGreatDoor.FS Go.Proofs.YtipdkfmhfakbnaaGreatDoor.SB Go.Proofs.YtipdkfmhfakbnaaGreatDoor.SP
theorem IC(N:Nat)(l:(List aB))(r:aB)(h:xQ N l=some r):Cn Tryz.prog 148 [sR aA false l] [] [sA aA true r]:=by
 unfold xQ at h
 refine fn tb en148 Tryz.func148 fun X w H ν=>?_
 refine jn (fun x=>x) (fun⟨a,b⟩=>aW 2 [.box [(lB false),lN],.box [(lB a),(.ro (aD .u32) true b)]] [vp 2 0,vp 3 1]) h (fun k f g=>?_) ?_
 refine bk ?_
 refine lp (fun⟨c,d,e⟩=>aW 2 [.box [(lB false),lN],.box [(lB c),(.ro (aD .u32) true d)]] [vp 2 0,vp 3 1,vr 6 aA false l,vi 7 (List.length l:Int),vi 8 e]) f [0,1] ?_
 rintro⟨c,d,e⟩ oo h i
 rw[FL]at h
 refine cd h (fun j h=>?_) (fun j h=>?_)
 refine bk ?_
 refine bF h fun m h=>?_
 refine cl none [] 0 h (OM N _ _) fun n h=>?_
 cases h
 exact bl [0,1]
 cases h
 cases i _ rfl
 replace h:=g
 try dsimp only at h
 exact bj _ [0,1]
 rintro⟨a,b⟩ h
 try dsimp only at h
 cases h
 exact rt []
theorem rD(N:Nat)(l:(List aB))(r:(List aB))(h:mu N l=some r):Cn Tryz.prog 93 [sR aA false l] [.row aA true r] [sO 0]:=by
 unfold mu at h
 refine fn tb en93 Tryz.func93 fun X w H ν=>?_
 refine gP aA h fun x2 h=>?_
 refine jn (fun x=>x) (fun a=>aW 1 [.row aA true a] [vo 3 0]) h (fun i d e=>?_) ?_
 refine bk ?_
 refine lp (fun⟨b,c⟩=>aW 1 [.row aA true b] [vr 0 aA false l,vo 3 0,vi 9 (List.length l:Int),vi 10 c]) d [0] ?_
 rintro⟨b,c⟩ oo h f
 rw[zp]at h
 refine cd h (fun g h=>?_) (fun g h=>?_)
 refine bk ?_
 refine bF h fun j h=>?_
 refine cl none [] 0 h (ld N _) fun k h=>?_
 refine jC h fun m n h=>?_
 refine dW true h fun o h=>?_
 cases h
 exact bl [0]
 cases h
 cases f _ rfl
 replace h:=e
 try dsimp only at h
 exact bj _ [0]
 intro a h
 try dsimp only at h
 cases h
 exact rt [0]
theorem LZ(N:Nat)(g:(List aB))(r:(List UInt8))(h:tT N g=some r):Cn Tryz.prog 92 [sR aA false g] [] [sT r]:=by
 unfold tT at h
 refine fn tb en92 Tryz.func92 fun X w H ν=>?_
 refine jn (fun x=>x) (fun a=>aW 1 [.row gI true a] [vo 3 0]) h (fun k d e=>?_) ?_
 refine bk ?_
 refine ps (nl 3 gI) ?_
 refine lp (fun⟨b,c⟩=>aW 1 [.row gI true b] [vo 3 0,vr 6 aA false g,vi 7 (List.length g:Int),vi 8 c]) d [0] ?_
 rintro⟨b,c⟩ oo h f
 rw[Eh]at h
 refine cd h (fun i h=>?_) (fun i h=>?_)
 refine bk ?_
 refine bF h fun l h=>?_
 refine cl none [] 0 h (NB N _) fun j h=>?_
 refine de gI true [j] ?_
 refine dQ true h fun m h=>?_
 cases h
 exact bl [3]
 cases h
 cases f _ rfl
 replace h:=e
 try dsimp only at h
 exact bj _ [0]
 intro a h
 try dsimp only at h
 refine cl none [] 0 h (Jr N _ _) fun n h=>?_
 cases h
 exact rt []
theorem xb(N:Nat)(pa:Int)(low:aY)(bR:(List aY))(r:aB)(h:ox N pa low bR=some r):Cn Tryz.prog 136 [sI .i64 pa,sA aH false low,sR aH false bR] [] [sA aA true r]:=by
 unfold ox at h
 refine fn tb en136 Tryz.func136 fun X w H ν=>?_
 refine bF h fun j h=>?_
 refine bF h fun k h=>?_
 refine jn (fun x=>x) (fun a=>aW 3 [.box (aO.cl aH false low),.box [(lB false),lN],.box (aO.cl aA false a)] [vi 0 pa,vp 4 0,vp 6 1,vp 7 2]) h (fun l d e=>?_) ?_
 refine bk ?_
 refine lp (fun⟨b,c⟩=>aW 3 [.box (aO.cl aH false low),.box [(lB false),lN],.box (aO.cl aA false b)] [vi 0 pa,vp 4 0,vp 6 1,vp 7 2,vr 21 aH false bR,vi 22 (List.length bR:Int),vi 23 c]) d [0,1,2] ?_
 rintro⟨b,c⟩ oo h f
 rw[Ej]at h
 refine cd h (fun g h=>?_) (fun g h=>?_)
 refine bk ?_
 refine bF h fun m h=>?_
 refine dr mixed ?_
 refine bF h fun n h=>?_
 refine cl none [] 0 h (jm N _ _) fun o h=>?_
 refine dk ?_
 refine cd h (fun i h=>?_) (fun i h=>?_)
 refine bF h fun p h=>?_
 cases h
 exact bl [0,1,2]
 cases h
 exact bl [0,1,2]
 cases h
 cases f _ rfl
 replace h:=e
 try dsimp only at h
 exact bj _ [0,1,2]
 intro a h
 try dsimp only at h
 refine bF h fun s h=>?_
 refine cl none [] 0 h (ld N _) fun u h=>?_
 refine dr mixed ?_
 refine cl none [] 0 h (l6 N _ _) fun v h=>?_
 refine cl none [] 0 h (kN N _ _) fun y h=>?_
 refine cl none [] 0 h (kN N _ _) fun a0 h=>?_
 refine cl none [] 0 h (lS N _ _) fun a1 h=>?_
 refine dk ?_
 cases h
 exact rt []
theorem HL(N:Nat)(x:aY)(r:(Int×Bool))(h:uH N x=some r):Cn Tryz.prog 161 [sA aH false x] [] [sI .i64 r.1,sB r.2]:=by
 unfold uH at h
 refine fn tb en161 Tryz.func161 fun X w H ν=>?_
 refine jn (fun x=>x) (fun⟨a,b⟩=>aW 0 [] [vi 4 a,vi 5 b]) h (fun m f i=>?_) ?_
 refine bk ?_
 refine lp (fun⟨c,d,e⟩=>aW 1 [.box (aO.cl aH false x)] [vp 1 0,vi 4 c,vi 5 d,vi 9 (List.length x.g:Int),vi 10 e]) f [0] ?_
 rintro⟨c,d,e⟩ oo h j
 rw[Da]at h
 refine cd h (fun k h=>?_) (fun k h=>?_)
 refine bk ?_
 refine bF h fun n h=>?_
 refine cl none [] 0 h (ic N _) fun o h=>?_
 refine cd h (fun l h=>?_) (fun l h=>?_)
 cases h
 exact bl [0]
 cases h
 exact bl [0]
 cases h
 cases j _ rfl
 replace h:=i
 try dsimp only at h
 exact bj _ []
 rintro⟨a,b⟩ h
 try dsimp only at h
 cases h
 exact rt []
theorem LU(N:Nat)(l:(List aY))(pb:Int)(pc:Int)(r:(List aY))(h:vg N l pb pc=some r):Cn Tryz.prog 169 [sR aH false l,sI .i64 pb,sI .i64 pc] [.row aH false r] [sO 0]:=by
 unfold vg at h
 refine fn tb en169 Tryz.func169 fun X w H ν=>?_
 refine cl (some false) [] 1 h (EJ N _) fun r1 h=>?_
 refine jn (fun x=>x) (fun a=>aW 1 [.row aH false a] [vo 0 0]) h (fun j d e=>?_) ?_
 refine bk ?_
 refine lp (fun⟨b,c⟩=>aW 1 [.row aH false b] [vo 0 0,vi 1 pb,vi 2 pc,vi 11 (List.length r1:Int),vi 12 c]) d [0] ?_
 rintro⟨b,c⟩ oo h f
 rw[BE]at h
 refine cd h (fun g h=>?_) (fun g h=>?_)
 refine bk ?_
 refine jC h fun k m h=>?_
 refine dL ?_
 refine cd h (fun i h=>?_) (fun i h=>?_)
 refine jC h fun n o h=>?_
 refine stP h (fun p h=>?_) (by assumption)
 cases h
 exact bl [0]
 cases h
 exact bl [0]
 cases h
 cases f _ rfl
 replace h:=e
 try dsimp only at h
 exact bj _ [0]
 intro a h
 try dsimp only at h
 cases h
 exact rt [0]
theorem JA(N:Nat)(n:Int)(pb:Int)(sign:Int)(bound:aB)(r:bB)(h:Bj N n pb sign bound=some r):Cn Tryz.prog 48 [sI .i64 n,sI .i64 pb,sI .i64 sign,sA aA false bound] [] [sA aE false r]:=by
 unfold Bj at h
 refine fn tb en48 Tryz.func48 fun X w H ν=>?_
 refine dr mixed ?_
 refine gP aA h fun a h=>?_
 refine dk ?_
 refine dr mixed ?_
 refine cl none [] 0 h (gw N _) fun b h=>?_
 refine jC h fun c d h=>?_
 refine dW true h fun e h=>?_
 refine dk ?_
 cases h
 exact rt []
theorem HY(N:Nat)(a:aB)(b:aB)(r:Bool)(h:qn N a b=some r):Cn Tryz.prog 127 [sA aA false a,sA aA false b] [] [sB r]:=by
 unfold qn at h
 refine fn tb Fg Tryz.func127 fun X w H ν=>?_
 refine cl none [] 0 h (jm N _ _) fun c h=>?_
 cases h
 exact rt []
theorem IS(N:Nat)(x:aB)(r:aB)(h:qh N x=some r):Cn Tryz.prog 123 [sA aA false x] [] [sA aA false r]:=by
 unfold qh at h
 refine fn tb ES Tryz.func123 fun X w H ν=>?_
 cases h
 exact rt []
theorem NH(N:Nat)(x:aY)(ca:Int)(cb:(List aY))(r:Bool)(h:uO N x ca cb=some r):Cx Tryz.prog 135 [sA aH false x,.lf (.pd (oC false [lI .i64 ca])),.lf (.pd (oC false [.ro aH false cb]))] [] [] [sB r]:=by
 unfold uO at h
 refine iA tb (.comp (rq 1) (rq 2)) Mt Tryz.func135 fun X w H ν=>?_
 refine cl none [] 0 h (xb N _ _ _) fun r8 h=>?_
 refine cl none [] 0 h (ic N _) fun a h=>?_
 cases h
 exact rt []
theorem Qq(N:Nat)(x:aY)(ca:Int)(r:Bool)(h:vu N x ca=some r):Cx Tryz.prog 145 [sA aH false x,.lf (.pd (oC false [lI .i64 ca]))] [] [] [sB r]:=by
 unfold vu at h
 refine iA tb (rq 1) KP Tryz.func145 fun X w H ν=>?_
 refine bF h fun x7 h=>?_
 refine cl none [] 0 h (ic N _) fun a h=>?_
 cases h
 exact rt []
end Go.Proofs.YtipdkfmhfakbnaaGreatDoor.SQ

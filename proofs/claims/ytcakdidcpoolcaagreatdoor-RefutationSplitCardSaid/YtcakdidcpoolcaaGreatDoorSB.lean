/- Walks of the symbolic machine, written by a program of mine (wip/tool). -/
import Derived.Test.YtcakdidcpoolcaaGreatDoorTB
import Derived.Test.YtcakdidcpoolcaaGreatDoorAd
import Derived.Test.YtcakdidcpoolcaaGreatDoorSA
set_option linter.unusedVariables false
set_option linter.unusedSimpArgs false
set_option linter.unusedSectionVars false
set_option maxRecDepth 100000
set_option maxHeartbeats 4000000
namespace Go.Proofs.YtcakdidcpoolcaaGreatDoor.SB
open Go Go.RowKit Go.X Go.Q Go.D Go.Proofs.YtcakdidcpoolcaaGreatDoor.TB Go.Proofs.YtcakdidcpoolcaaGreatDoor.SA
theorem bdivide_c(N:Nat)(a:(List Int))(b:(List Int))(r:((List Int)×(List Int)))(h:bdivide N a b=some r):Cn Tryz.prog 174 [sR (rInt .u32) false a,sR (rInt .u32) false b] [.row (rInt .u32) true r.1,.row (rInt .u32) true r.2] [sO 0,sO 1]:=by
 unfold bdivide at h
 refine fn tb en174 Tryz.func174 fun X w H ν=>?_
 refine cl none [] 0 h (bcompare_c N _ _) fun r1 h=>?_
 refine cd h (fun hc8 h=>?_) (fun hc8 h=>?_)
 ·
  refine cl none [] 1 h (btrim_c N _) fun r9 h=>?_
  refine pr (nl 4 (rInt .u32)) ?_
  cases h
  exact rt [1,0]
 refine cd h (fun c h=>?_) (fun c h=>?_)
 ·
  refine ixR h fun e h=>?_
  refine cl none [] 1 h (bshort_c N _ _) fun d h=>?_
  refine cl none [] 1 h (btrim_c N _) fun f h=>?_
  refine litO (rInt .u32) true [d.2] ?_
  refine cl none [] 1 h (btrim_c N _) fun g h=>?_
  cases h
  exact rt [1,3]
 refine ixR h fun i h=>?_
 cases h
theorem bOf_c(N:Nat)(n:Int)(r:Big)(h:bOf N n=some r):Cn Tryz.prog 135 [sI .i64 n] [] [sA rBig true r]:=by
 unfold bOf at h
 refine fn tb en135 Tryz.func135 fun X w H ν=>?_
 refine jn (fun x=>x) (fun u8=>mkS 1 [.box [(lB false),lN]] [vi 0 n,vp 2 0,vk 3 .u64 u8]) h (fun s9 h b=>?_) ?_
 ·
  refine cd h (fun a h=>?_) (fun a h=>?_)
  ·
   cases h
   exact bj _ [0]
  cases h
  exact bj _ [0]
 intro u8 h
 try dsimp only at h
 refine srL ?_
 refine litO (rInt .u32) true [(uw32 u8),(uw32 (bshr .u64 u8 32))] ?_
 refine cl none [] 0 h (bnormal_c N _ _) fun c h=>?_
 cases h
 exact rt []
theorem bNormal_c(N:Nat)(x:Big)(r:Big)(h:bNormal N x=some r):Cn Tryz.prog 159 [sA rBig false x] [] [sA rBig true r]:=by
 unfold bNormal at h
 refine fn tb en159 Tryz.func159 fun X w H ν=>?_
 refine cl none [] 0 h (bnormal_c N _ _) fun a h=>?_
 cases h
 exact rt []
theorem bSign_c(N:Nat)(x:Big)(r:Int)(h:bSign N x=some r):Cn Tryz.prog 154 [sA rBig false x] [] [sI .i64 r]:=by
 unfold bSign at h
 refine fn tb en154 Tryz.func154 fun X w H ν=>?_
 refine cl none [] 0 h (bNormal_c N _) fun r6 h=>?_
 refine bk ?_
 refine cd h (fun a h=>?_) (fun a h=>?_)
 ·
  cases h
  exact rt []
 refine cd h (fun b h=>?_) (fun b h=>?_)
 ·
  cases h
  exact rt []
 cases h
 exact rt []
theorem bNeg_c(N:Nat)(x:Big)(r:Big)(h:bNeg N x=some r):Cn Tryz.prog 134 [sA rBig false x] [] [sA rBig true r]:=by
 unfold bNeg at h
 refine fn tb en134 Tryz.func134 fun X w H ν=>?_
 refine cl none [] 0 h (bnormal_c N _ _) fun a h=>?_
 cases h
 exact rt []
theorem bAdd_c(N:Nat)(a:Big)(b:Big)(r:Big)(h:bAdd N a b=some r):Cn Tryz.prog 155 [sA rBig false a,sA rBig false b] [] [sA rBig true r]:=by
 unfold bAdd at h
 refine fn tb en155 Tryz.func155 fun X w H ν=>?_
 refine dr mixed ?_
 refine cl none [] 0 h (bNormal_c N _) fun e h=>?_
 refine cl none [] 0 h (bNormal_c N _) fun f h=>?_
 refine dk ?_
 refine cd h (fun c h=>?_) (fun c h=>?_)
 ·
  refine dr mixed ?_
  refine cl none [] 1 h (bplus_c N _ _) fun g h=>?_
  refine cl none [] 0 h (bnormal_c N _ _) fun i h=>?_
  refine dk ?_
  cases h
  exact rt []
 refine cl none [] 0 h (bcompare_c N _ _) fun j h=>?_
 refine cd h (fun d h=>?_) (fun d h=>?_)
 ·
  refine dr mixed ?_
  refine cl none [] 1 h (bminus_c N _ _) fun k h=>?_
  refine cl none [] 0 h (bnormal_c N _ _) fun l h=>?_
  refine dk ?_
  cases h
  exact rt []
 refine dr mixed ?_
 refine cl none [] 1 h (bminus_c N _ _) fun m h=>?_
 refine cl none [] 0 h (bnormal_c N _ _) fun n h=>?_
 refine dk ?_
 cases h
 exact rt []
theorem bSub_c(N:Nat)(a:Big)(b:Big)(r:Big)(h:bSub N a b=some r):Cn Tryz.prog 133 [sA rBig false a,sA rBig false b] [] [sA rBig true r]:=by
 unfold bSub at h
 refine fn tb en133 Tryz.func133 fun X w H ν=>?_
 refine dr mixed ?_
 refine cl none [] 0 h (bNeg_c N _) fun c h=>?_
 refine cl none [] 0 h (bAdd_c N _ _) fun d h=>?_
 refine dk ?_
 cases h
 exact rt []
theorem bMul_c(N:Nat)(a:Big)(b:Big)(r:Big)(h:bMul N a b=some r):Cn Tryz.prog 156 [sA rBig false a,sA rBig false b] [] [sA rBig true r]:=by
 unfold bMul at h
 refine fn tb en156 Tryz.func156 fun X w H ν=>?_
 refine dr mixed ?_
 refine cl none [] 1 h (btimes_c N _ _) fun c h=>?_
 refine cl none [] 0 h (bnormal_c N _ _) fun d h=>?_
 refine dk ?_
 cases h
 exact rt []
theorem bDivFloor_c(N:Nat)(a:Big)(b:Big)(r:(Big×Big×Bool))(h:bDivFloor N a b=some r):Cn Tryz.prog 157 [sA rBig false a,sA rBig false b] [] [sA rBig true r.1,sA rBig true r.2.1,sB r.2.2]:=by
 unfold bDivFloor at h
 refine fn tb en157 Tryz.func157 fun X w H ν=>?_
 refine dr mixed ?_
 refine cl none [] 0 h (bNormal_c N _) fun j h=>?_
 refine cl none [] 0 h (bNormal_c N _) fun e h=>?_
 refine dk ?_
 refine cd h (fun f h=>?_) (fun f h=>?_)
 ·
  cases h
  exact rt []
 refine cl none [] 2 h (bdivide_c N _ _) fun k h=>?_
 refine cd h (fun g h=>?_) (fun g h=>?_)
 ·
  refine jn (fun x=>x) (fun⟨c,d⟩=>mkS 5 [.box (Opn.cl rBig true e),.box [(lB false),lN],.box [(lB false),lN],.row (rInt .u32) true c,.row (rInt .u32) true d] [vp 3 0,vp 4 1,vp 5 2,vo 7 3,vo 8 4]) h (fun l h m=>?_) ?_
  ·
   refine cd h (fun i h=>?_) (fun i h=>?_)
   ·
    refine litO (rInt .u32) true [1] ?_
    refine cl none [] 1 h (bplus_c N _ _) fun n h=>?_
    refine cl none [] 1 h (bminus_c N _ _) fun o h=>?_
    cases h
    exact bj _ [1,2,3,7,8]
   cases h
   exact bj _ [1,2,3,4,5]
  rintro⟨c,d⟩ h
  try dsimp only at h
  refine dr mixed ?_
  refine cl none [] 0 h (bnormal_c N _ _) fun p h=>?_
  refine cl none [] 0 h (bnormal_c N _ _) fun q h=>?_
  refine dk ?_
  cases h
  exact rt []
 refine dr mixed ?_
 refine cl none [] 0 h (bnormal_c N _ _) fun s h=>?_
 refine cl none [] 0 h (bnormal_c N _ _) fun u h=>?_
 refine dk ?_
 cases h
 exact rt []
end Go.Proofs.YtcakdidcpoolcaaGreatDoor.SB

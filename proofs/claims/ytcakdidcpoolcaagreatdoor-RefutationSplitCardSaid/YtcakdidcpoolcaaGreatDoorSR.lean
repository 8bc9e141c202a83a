/- Walks of the symbolic machine, written by a program of mine (wip/tool). -/
import Derived.Test.YtcakdidcpoolcaaGreatDoorTB
import Derived.Test.YtcakdidcpoolcaaGreatDoorAd
set_option linter.unusedVariables false
set_option linter.unusedSimpArgs false
set_option linter.unusedSectionVars false
set_option maxRecDepth 100000
set_option maxHeartbeats 4000000
namespace Go.Proofs.YtcakdidcpoolcaaGreatDoor.SR
open Go Go.RowKit Go.X Go.Q Go.D Go.Proofs.YtcakdidcpoolcaaGreatDoor.TB 
theorem rtrim_c(N:Nat)(l:(List Int))(r:(List Int))(h:rtrim N l=some r):Cn Tryz.prog 110 [sR (rInt .i64) false l] [] [sR (rInt .i64) false r]:=by
 unfold rtrim at h
 refine fn tb en110 Tryz.func110 fun X w H ν=>?_
 refine jn (fun x=>x) (fun b=>mkS 0 [] [vr 0 (rInt .i64) false b]) h (fun j d e=>?_) ?_
 ·
  refine bk ?_
  refine lp (fun a=>mkS 0 [] [vr 0 (rInt .i64) false a]) d [] ?_
  rintro a oo h f
  rw[rtrim_b1]at h
  refine jn (fun x=>x) (fun c=>mkS 0 [] [vr 0 (rInt .i64) false a,vb 14 c]) h (fun k h m=>?_) ?_
  ·
   refine rg ?_
   refine gd h (fun g h=>?_) (fun g h=>?_)
   ·
    refine ixR h fun n h=>?_
    cases h
    exact bj _ []
   cases h
   exact bj _ []
  intro c h
  try dsimp only at h
  refine cd h (fun i h=>?_) (fun i h=>?_)
  ·
   refine bk ?_
   refine cutR h fun o h=>?_
   cases h
   exact bl []
  cases h
  cases f _ rfl
  replace h:=e
  try dsimp only at h
  exact bj _ []
 intro b h
 try dsimp only at h
 cases h
 exact rt []
theorem rbig_c(N:Nat)(negative:Bool)(l:(List Int))(r:Big)(h:rbig N negative l=some r):Cn Tryz.prog 80 [sB negative,sR (rInt .i64) false l] [] [sA rBig true r]:=by
 unfold rbig at h
 refine fn tb en80 Tryz.func80 fun X w H ν=>?_
 refine cl (some false) [] 0 h (rtrim_c N _) fun r6 h=>?_
 refine jn (fun x=>x) (fun a=>mkS 2 [.box [(lB false),lN],.box [(lB a),lN]] [vr 1 (rInt .i64) false r6,vp 4 0,vp 5 1]) h (fun n h o=>?_) ?_
 ·
  refine rg ?_
  refine gd h (fun f h=>?_) (fun f h=>?_)
  ·
   cases h
   exact bj _ [0,1]
  cases h
  exact bj _ [0,1]
 intro a h
 try dsimp only at h
 refine jn (fun x=>x) (fun e=>mkS 3 [.box [(lB false),lN],.box [(lB a),(.own 2)],.row (rInt .u32) true e] [vp 4 0,vp 5 1]) h (fun p g i=>?_) ?_
 ·
  refine bk ?_
  refine ps (nb 1 1 (rInt .u32)) ?_
  refine lp (fun⟨b,c⟩=>mkS 3 [.box [(lB false),lN],.box [(lB a),(.own 2)],.row (rInt .u32) true b] [vr 1 (rInt .i64) false r6,vp 4 0,vp 5 1,vi 6 c]) g [0,1,2] ?_
  rintro⟨b,c⟩ oo h j
  rw[rbig_b1]at h
  refine cd h (fun k h=>?_) (fun k h=>?_)
  ·
   refine bk ?_
   refine ixR h fun q h=>?_
   refine jn (fun x=>x) (fun d=>mkS 3 [.box [(lB false),lN],.box [(lB a),(.own 2)],.row (rInt .u32) true b] [vr 1 (rInt .i64) false r6,vp 4 0,vp 5 1,vi 6 c,vk 7 .u32 d]) h (fun s h u=>?_) ?_
   ·
    refine cd h (fun m h=>?_) (fun m h=>?_)
    ·
     refine ixR h fun v h=>?_
     cases h
     exact bj _ [0,1,2]
    cases h
    exact bj _ [0,1,2]
   intro d h
   try dsimp only at h
   refine litO (rInt .u32) true [d] ?_
   refine apO true h fun y h=>?_
   cases h
   exact bl [0,1,4]
  cases h
  cases j _ rfl
  replace h:=i
  try dsimp only at h
  exact bj _ [0,1,2]
 intro e h
 try dsimp only at h
 cases h
 exact rt []
theorem rOf_c(N:Nat)(n:Int)(r:Big)(h:rOf N n=some r):Cn Tryz.prog 52 [sI .i64 n] [] [sA rBig true r]:=by
 unfold rOf at h
 refine fn tb en52 Tryz.func52 fun X w H ν=>?_
 refine jn (fun x=>x) (fun u8=>mkS 1 [.box [(lB false),lN]] [vi 0 n,vp 2 0,vk 3 .u64 u8]) h (fun s9 h j=>?_) ?_
 ·
  refine cd h (fun d h=>?_) (fun d h=>?_)
  ·
   cases h
   exact bj _ [0]
  cases h
  exact bj _ [0]
 intro u8 h
 try dsimp only at h
 refine litZ (rInt .i64) ?_
 refine jn (fun x=>x) (fun b=>mkS 2 [.box [(lB false),lN],.row (rInt .i64) true b] [vi 0 n,vp 2 0,vo 4 1]) h (fun k e f=>?_) ?_
 ·
  refine bk ?_
  refine lp (fun⟨a,c⟩=>mkS 2 [.box [(lB false),lN],.row (rInt .i64) true c] [vi 0 n,vp 2 0,vk 3 .u64 a,vo 4 1]) e [0,1] ?_
  rintro⟨a,c⟩ oo h g
  rw[rOf_b1]at h
  refine cd h (fun i h=>?_) (fun i h=>?_)
  ·
   refine bk ?_
   refine reL ?_
   refine litO (rInt .i64) true [(iw (Int.tmod a 65536))] ?_
   refine apO true h fun l h=>?_
   refine quL ?_
   cases h
   exact bl [0,3]
  cases h
  cases g _ rfl
  replace h:=f
  try dsimp only at h
  exact bj _ [0,1]
 intro b h
 try dsimp only at h
 refine cl none [] 0 h (rbig_c N _ _) fun m h=>?_
 cases h
 exact rt []
end Go.Proofs.YtcakdidcpoolcaaGreatDoor.SR

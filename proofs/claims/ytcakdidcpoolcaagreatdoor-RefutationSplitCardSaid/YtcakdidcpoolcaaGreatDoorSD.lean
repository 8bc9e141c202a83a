/- Walks of the symbolic machine, written by a program of mine (wip/tool). -/
import Derived.Test.YtcakdidcpoolcaaGreatDoorTB
import Derived.Test.YtcakdidcpoolcaaGreatDoorAd
set_option linter.unusedVariables false
set_option linter.unusedSimpArgs false
set_option linter.unusedSectionVars false
set_option maxRecDepth 100000
set_option maxHeartbeats 4000000
namespace Go.Proofs.YtcakdidcpoolcaaGreatDoor.SD
open Go Go.RowKit Go.X Go.Q Go.D Go.Proofs.YtcakdidcpoolcaaGreatDoor.TB 
theorem rbigs_c(N:Nat)(l:(List Big))(r:Bool)(h:rbigs N l=some r):Cn Tryz.prog 145 [sR rBig false l] [] [sB r]:=by
 unfold rbigs at h
 refine fn tb en145 Tryz.func145 fun X w H ν=>?_
 refine jn (fun x=>(Sum.inl x)) (fun(_:Unit)=>mkS 0 [] [vr 0 rBig false l]) h (fun g d a=>?_) ?_
 ·
  refine bk ?_
  refine lp (fun b=>mkS 0 [] [vr 0 rBig false l,vi 3 b]) d [] ?_
  rintro b oo h c
  rw[rbigs_b1]at h
  refine cd h (fun e h=>?_) (fun e h=>?_)
  ·
   refine bk ?_
   refine ixR h fun i h=>?_
   refine cd h (fun f h=>?_) (fun f h=>?_)
   ·
    cases h
    cases c _ rfl
    replace h:=a
    try dsimp only at h
    cases h
    exact rt []
   cases h
   exact bl []
  cases h
  cases c _ rfl
  replace h:=a
  try dsimp only at h
  exact bj _ []
 intro _ h
 try dsimp only at h
 cases h
 exact rt []
theorem rSmallStep_c(N:Nat)(s:Step)(r:Bool)(h:rSmallStep N s=some r):Cn Tryz.prog 146 [sA rStep false s] [] [sB r]:=by
 unfold rSmallStep at h
 refine fn tb en146 Tryz.func146 fun X w H ν=>?_
 refine jn (fun x=>(Sum.inl x)) (fun(_:Unit)=>mkS 1 [.box (Opn.cl rStep false s)] [vp 1 0]) h (fun i d a=>?_) ?_
 ·
  refine bk ?_
  refine lp (fun b=>mkS 1 [.box (Opn.cl rStep false s)] [vp 1 0,vi 3 b]) d [0] ?_
  rintro b oo h c
  rw[rSmallStep_b1]at h
  refine cd h (fun e h=>?_) (fun e h=>?_)
  ·
   refine bk ?_
   refine ixR h fun j h=>?_
   refine cd h (fun f h=>?_) (fun f h=>?_)
   ·
    cases h
    cases c _ rfl
    replace h:=a
    try dsimp only at h
    cases h
    exact rt []
   cases h
   exact bl [0]
  cases h
  cases c _ rfl
  replace h:=a
  try dsimp only at h
  exact bj _ [0]
 intro _ h
 try dsimp only at h
 refine rg ?_
 refine gd h (fun g h=>?_) (fun g h=>?_)
 ·
  cases h
  exact rt []
 cases h
 exact rt []
theorem rweight_c(N:Nat):∀(p:Proof) (r:Int) (h:rweight N p=some r),Cn Tryz.prog 119 [sA rProof false p] [] [sI .i64 r]:=by
 induction N with
 |zero=>intro p r h;cases h
 |succ N ih=>
  intro p r h
  replace h:rweight_step N (rweight N) p=some r:=h
  unfold rweight_step at h
  refine fn tb en119 Tryz.func119 fun X w H ν=>?_
  refine jn (fun x=>x) (fun d=>mkS 1 [.box (Opn.cl rProof false p)] [vp 1 0,vi 3 (iw (1+(List.length p.Steps:Int))),vb 20 d]) h (fun a1 h a2=>?_) ?_
  ·
   refine rg ?_
   refine cl none [] 0 h (rbigs_c N _) fun a3 h=>?_
   refine gd h (fun k h=>?_) (fun k h=>?_)
   ·
    cases h
    exact bj _ [0]
   cases h
   exact bj _ [0]
  intro d h
  try dsimp only at h
  refine cd h (fun l h=>?_) (fun l h=>?_)
  ·
   cases h
   exact rt []
  refine jn (fun x=>(Sum.inl x)) (fun(_:Unit)=>mkS 1 [.box (Opn.cl rProof false p)] [vp 1 0,vi 3 (iw (1+(List.length p.Steps:Int)))]) h (fun a4 m e=>?_) ?_
  ·
   refine bk ?_
   refine lp (fun a=>mkS 1 [.box (Opn.cl rProof false p)] [vp 1 0,vi 3 (iw (1+(List.length p.Steps:Int))),vi 4 a]) m [0] ?_
   rintro a oo h f
   rw[rweight_b1]at h
   refine jn (fun x=>x) (fun g=>mkS 1 [.box (Opn.cl rProof false p)] [vp 1 0,vi 3 (iw (1+(List.length p.Steps:Int))),vi 4 a,vb 29 g]) h (fun a5 h a6=>?_) ?_
   ·
    refine rg ?_
    refine gd h (fun n h=>?_) (fun n h=>?_)
    ·
     cases h
     exact bj _ [0]
    cases h
    exact bj _ [0]
   intro g h
   try dsimp only at h
   refine cd h (fun o h=>?_) (fun o h=>?_)
   ·
    refine bk ?_
    refine ixR h fun a7 h=>?_
    refine cl none [] 0 h (rSmallStep_c N _) fun a8 h=>?_
    refine cd h (fun q h=>?_) (fun q h=>?_)
    ·
     cases h
     cases f _ rfl
     replace h:=e
     try dsimp only at h
     cases h
     exact rt []
    cases h
    exact bl [0]
   cases h
   cases f _ rfl
   replace h:=e
   try dsimp only at h
   exact bj _ [0]
  intro _ h
  try dsimp only at h
  refine jn (fun x=>x) (fun i=>mkS 0 [] [vi 3 i]) h (fun a9 s u=>?_) ?_
  ·
   refine bk ?_
   refine lp (fun⟨b,c⟩=>mkS 1 [.box (Opn.cl rProof false p)] [vp 1 0,vi 3 b,vi 5 c]) s [0] ?_
   rintro⟨b,c⟩ oo h v
   rw[rweight_b2]at h
   refine jn (fun x=>x) (fun j=>mkS 1 [.box (Opn.cl rProof false p)] [vp 1 0,vi 3 b,vi 5 c,vb 47 j]) h (fun aa h ab=>?_) ?_
   ·
    refine rg ?_
    refine gd h (fun y h=>?_) (fun y h=>?_)
    ·
     cases h
     exact bj _ [0]
    cases h
    exact bj _ [0]
   intro j h
   try dsimp only at h
   refine cd h (fun a0 h=>?_) (fun a0 h=>?_)
   ·
    refine bk ?_
    refine ixR h fun ac h=>?_
    refine cl none [] 0 h (ih _) fun ad h=>?_
    cases h
    exact bl [0]
   cases h
   cases v _ rfl
   replace h:=u
   try dsimp only at h
   exact bj _ []
  intro i h
  try dsimp only at h
  cases h
  exact rt []
theorem rSmallProof_c(N:Nat)(p:Proof)(r:Bool)(h:rSmallProof N p=some r):Cn Tryz.prog 90 [sA rProof false p] [] [sB r]:=by
 unfold rSmallProof at h
 refine fn tb en90 Tryz.func90 fun X w H ν=>?_
 refine cl none [] 0 h (rweight_c N _) fun r6 h=>?_
 cases h
 exact rt []
end Go.Proofs.YtcakdidcpoolcaaGreatDoor.SD

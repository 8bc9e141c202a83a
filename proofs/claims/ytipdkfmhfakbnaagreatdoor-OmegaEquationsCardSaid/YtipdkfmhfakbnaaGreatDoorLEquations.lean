/- Proved here: the statement of OmegaEquations: for every input the law returns true, and its arguments read afterwards as before. Condition: the listed package-level variables hold at the start what the program lays in them (the card ties that to the text); the program is a pruned copy of the repository. -/
import Derived.Test.YtipdkfmhfakbnaaGreatDoorQ24
import Derived.Test.YtipdkfmhfakbnaaGreatDoorSL
import Derived.Test.YtipdkfmhfakbnaaGreatDoorCards
import Derived.Test.YtipdkfmhfakbnaaGreatDoorTie
set_option linter.unusedVariables false
set_option linter.unusedSimpArgs false
open Go
open Go.X Go.ChangeShapes Go.WideShapes Go.ChangeAt Go.RowKit Go.D
set_option maxRecDepth 100000
namespace Go.Proofs.YtipdkfmhfakbnaaGreatDoor.omegaEquations
open Q24 SL Go.Q
theorem own:ownKnob Tryz.prog.godebug=none:=by kernel_rfl
theorem laidOut:laidOutB Tryz.prog=true:=by kernel_rfl
theorem Wx(H:Type)(enc:TypeId×Value->H)(W:World)(base:Nat)(args:Array Value)(ds gs:List (DataW H))(before:List MemPlace)
 (hval:∀(j:Nat) t v,Tryz.f9.params[j]?=some t->args[j]?=some v->Value.okWide Tryz.prog W .any base t v)
 (hW:DataW.Whole enc Tryz.prog Tryz.f9.params.toList Rows.omegaEquationsSpec.vars Rows.omegaEquationsRow.apart W args.toList ds gs before)(hL:laidMet Tryz.prog Rows.omegaEquationsRow.laid W):
 Calls Tryz.prog 9 args W λe W'=>∃v,e=.returned v/\Rows.omegaEquationsSpec.post enc Tryz.prog Tryz.f9 Rows.omegaEquationsRow.apart true false false W args v W':=by
 have hW':=hW;obtain⟨p,q,hA0,hV,rfl,hfz,hnd⟩:=hW;have hA:DataW.TrodAll enc Tryz.prog W 0 (λ_=>true) true Tryz.f9.params.toList args.toList ds p:=hA0;rw[Tryz.params9]at hA hval;obtain⟨v0,vs0,d0,ds0,p0,q0,ha0,rfl,rfl,h0,r0⟩:=trodAll_cons hA;obtain⟨v1,vs1,d1,ds1,p1,q1,ha1,rfl,rfl,h1,r1⟩:=trodAll_cons r0;obtain⟨v2,vs2,d2,ds2,p2,q2,ha2,rfl,rfl,h2,r2⟩:=trodAll_cons r1;obtain⟨rfl,rfl,rfl⟩:=trodAll_nil r2;subst ha2;subst ha1;obtain rfl:args=#[v0,v1,v2]:=by cases args;simp_all
 obtain⟨rfl,rfl⟩:=trodVars_none hV;obtain⟨x0,rfl,-,-,g0⟩:=open_int Tryz.underlying3 (hval 0 3 v0 rfl rfl) h0;obtain⟨x1,k1,g1,t1⟩:=Ms Tryz.underlying22 oCons (hval 1 22 v1 rfl rfl) h1;obtain⟨x2,k2,g2,t2⟩:=Ms Tryz.underlying47 oInts (hval 2 47 v2 rfl rfl) h2;clear hA0;obtain⟨N,r,hr,hr1⟩:=(Vk (n:=x0) (l:=x1) (x:=x2) g1.1 (λc hc=>R4 (g1.2 c hc)) g2.1 (λv hv=>bounds_i64 (g2.2 v hv))).get;subst hr1;refine(XM (Wn N x0 x1 x2 true hr) ⟨_,_,rfl,⟨rfl,rfl⟩,_,_,rfl,k1,_,_,rfl,k2,rfl⟩ (Te hL)).mono λe W' ⟨v,he,hE,hv,_⟩=>?_;subst he;subst hv;exact⟨_,rfl,QY laidOut (by rw[Tryz.params9];exact jf (by kernel_rfl)) rfl (by kernel_rfl) Tryz.underlying4 hW' rfl hE⟩
noncomputable def world(os:Os):World:=J4 (World.holding Tryz.prog os ⟨#[],#[],[]⟩) [(2,Rows.laid_math_bits_deBruijn32tab),(3,Rows.laid_math_bits_deBruijn64tab),(0,Rows.laid_internal_strconv_uint64pow10)]
theorem UI(os:Os):laidMet Tryz.prog Rows.omegaEquationsRow.laid ((world os).forCall (λ_ _=>0) ⟨#[],#[.int .i64 0,.slice none 0 0,.slice none 0 0],[]⟩).memory:=
 laidMet_of_run' 8 (by kernel_rfl) (by kernel_rfl)
theorem reads(os:Os){H:Type}(enc:TypeId×Value->H):∃places,DataW.whole enc Tryz.prog ((world os).forCall (λ_ _=>0) ⟨#[],#[.int .i64 0,.slice none 0 0,.slice none 0 0],[]⟩).memory Tryz.f9.params.toList Rows.omegaEquationsSpec.vars Rows.omegaEquationsRow.apart (#[.int .i64 0,.slice none 0 0,.slice none 0 0]:Array Value).toList 8=some ([.lit (.int .i64 0),.nil,.nil],[],places):=
 ⟨[],by kernel_rfl⟩
theorem lifted(os:Os)(started:os.Started)(H:Type)(enc:TypeId×Value->H)(F:Stop.Interp):
 ReturnsInHanded {} Tryz.checked os 9 .any ((OpenSpec.ofChange Rows.omegaEquationsSpec).preRow enc Tryz.prog Tryz.f9 Rows.omegaEquationsRow.domain Rows.omegaEquationsRow.apart Rows.omegaEquationsRow.laid) (((OpenSpec.ofChange Rows.omegaEquationsSpec).at F).post enc Tryz.prog Tryz.f9 Rows.omegaEquationsRow.apart true false false):=by
 obtain⟨places,hx⟩:=reads os enc;refine returnsInHanded_of_row (C:=Tryz.checked) (s:=(OpenSpec.ofChange Rows.omegaEquationsSpec)) own started (by kernel_rfl) Tryz.func9
  (witness_row_at (enc:=enc) (C:=Tryz.checked) false (world os) #[.int .i64 0,.slice none 0 0,.slice none 0 0] rfl (by kernel_rfl) (by kernel_rfl) (by kernel_rfl)
   (OpenSpec.preRow_of_cond 8 hx (by kernel_rfl) (λk hk=>by cases hk) (by kernel_rfl) (UI os))) ?_
 intro W base args ds gs before hval hW _ hk hw hL _ _;exact Wx H enc W base args ds gs before hval hW hL
theorem said:Rows.OmegaEquationsSaid:=
 OpenClaim.holds_of_cond 9 Tryz.f9 rfl rfl rfl rfl rfl rfl rfl ⟨rfl,rfl,rfl,rfl,rfl⟩ rfl rfl rfl rfl rfl (by kernel_rfl) Tryz.func9 (by kernel_rfl)
  (jf (by kernel_rfl)) (by unfold Func.isWrapper;first|(rw[bA (by decide+kernel)];kernel_rfl)|(rw[aQ (by decide+kernel)];exact⟨rfl,rfl⟩))
  (λos started H enc _ F=>by rw[OpenClaim.pre_eq_preRow];exact lifted os started H enc F)
theorem plain(f:FuncId)(fn:Func)(hf:Tryz.pinned.checked.prog.funcNamed "disjoint/disjointlaw24.OmegaEquations"=some f)(hfn:Tryz.pinned.checked.prog.funcs[f]?=some fn):
 false=Tryz.pinned.checked.prog.looks []/\∀(j:Nat) t,fn.params[j]?=some t->Tryz.pinned.checked.prog.wantsStandIn t=false:=by
 obtain rfl:f=9:=jd ((show Tryz.prog.funcNamed "disjoint/disjointlaw24.OmegaEquations"=some 9 by kernel_rfl).symm.trans hf)|>.symm;obtain rfl:fn=Tryz.f9:=(jd (Tryz.func9.symm.trans hfn)).symm;refine⟨by kernel_rfl,λj t ht=>?_⟩;rw[Tryz.params9]at ht;have h:=Array.mem_of_getElem? ht;exact(show∀t∈(#[3,22,47]:Array TypeId),Tryz.prog.wantsStandIn t=false from jf (by kernel_rfl)) t h
theorem card:Rows.OmegaEquationsCardSaid:=
 Claim7.holds_tied_plain_at .later [] _ _ _ _ said (λ_ h=>by cases h) (by kernel_rfl) (λ_ h=>by cases h) omegaEquations_row_tie rfl ⟨rfl,rfl⟩ (by kernel_rfl) rfl plain (by kernel_rfl)
end Go.Proofs.YtipdkfmhfakbnaaGreatDoor.omegaEquations

/- Proved here: the statement of OmegaLeast: for every input the law returns true, and its arguments read afterwards as before. Condition: the listed package-level variables hold at the start what the program lays in them (the card ties that to the text); the program is a pruned copy of the repository. -/
import Derived.Test.YtipdkfmhfakbnaaGreatDoorQ24
import Derived.Test.YtipdkfmhfakbnaaGreatDoorAg
import Derived.Test.YtipdkfmhfakbnaaGreatDoorSL
import Derived.Test.YtipdkfmhfakbnaaGreatDoorRows
import Derived.Test.YtipdkfmhfakbnaaGreatDoorCards
import Derived.Test.YtipdkfmhfakbnaaGreatDoorTie
set_option linter.unusedVariables false
set_option linter.unusedSimpArgs false
set_option linter.unusedSectionVars false
open Go
open Go.X Go.ChangeShapes Go.WideShapes Go.ChangeAt Go.RowKit Go.D
set_option maxRecDepth 100000
namespace Go.Proofs.YtipdkfmhfakbnaaGreatDoor.omegaLeast
open Q24 SL Go.Q
theorem own:ownKnob Tryz.prog.godebug=none:=by kernel_rfl
theorem laidOut:laidOutB Tryz.prog=true:=by kernel_rfl
theorem Ta(H:Type)(enc:TypeId×Value->H)(W:World)(base:Nat)(args:Array Value)(ds gs:List (DataW H))(before:List MemPlace)
 (hval:∀(j:Nat) t v,Tryz.f5.params[j]?=some t->args[j]?=some v->Value.okWide Tryz.prog W .any base t v)
 (hW:DataW.Whole enc Tryz.prog Tryz.f5.params.toList Rows.omegaLeastSpec.vars Rows.omegaLeastRow.apart W args.toList ds gs before)(hL:laidMet Tryz.prog Rows.omegaLeastRow.laid W):
 Calls Tryz.prog 5 args W λe W'=>∃v,e=.returned v/\Rows.omegaLeastSpec.post enc Tryz.prog Tryz.f5 Rows.omegaLeastRow.apart true false false W args v W':=by
 have hW':=hW;obtain⟨p,q,hA0,hV,rfl,hfz,hnd⟩:=hW;have hA:DataW.TrodAll enc Tryz.prog W 0 (λ_=>true) true Tryz.f5.params.toList args.toList ds p:=hA0;rw[Tryz.params5]at hA hval;obtain⟨v0,vs0,d0,ds0,p0,q0,ha0,rfl,rfl,h0,r0⟩:=trodAll_cons hA;obtain⟨v1,vs1,d1,ds1,p1,q1,ha1,rfl,rfl,h1,r1⟩:=trodAll_cons r0;obtain⟨v2,vs2,d2,ds2,p2,q2,ha2,rfl,rfl,h2,r2⟩:=trodAll_cons r1;obtain⟨rfl,rfl,rfl⟩:=trodAll_nil r2;subst ha2;subst ha1;obtain rfl:args=#[v0,v1,v2]:=by cases args;simp_all
 obtain⟨rfl,rfl⟩:=trodVars_none hV;obtain⟨x0,rfl,-,-,g0⟩:=open_int Tryz.underlying3 (hval 0 3 v0 rfl rfl) h0;obtain⟨x1,k1,g1,t1⟩:=P9 Tryz.underlying22 oCons (hval 1 22 v1 rfl rfl) h1;obtain⟨x2,rfl,-,-,g2⟩:=open_int Tryz.underlying3 (hval 2 3 v2 rfl rfl) h2;clear hA0;obtain⟨N,r,hr,hr1⟩:=(Us (n:=x0) (l:=x1) (v:=x2) g1.1 (λc hc=>Qk (g1.2 c hc))).get;subst hr1;refine(P7 (QF N x0 x1 x2 true hr) ⟨_,_,rfl,⟨rfl,rfl⟩,_,_,rfl,k1,_,_,rfl,⟨rfl,rfl⟩,rfl⟩ (Qc hL)).mono λe W' ⟨v,he,hE,hv,_⟩=>?_;subst he;subst hv;exact⟨_,rfl,RD laidOut (by rw[Tryz.params5];exact iL (by kernel_rfl)) rfl (by kernel_rfl) Tryz.underlying4 hW' rfl hE⟩
noncomputable def world(os:Os):World:=JK (World.holding Tryz.prog os ⟨#[],#[],[]⟩) [(2,Rows.laid_math_bits_deBruijn32tab),(3,Rows.laid_math_bits_deBruijn64tab),(0,Rows.laid_internal_strconv_uint64pow10)]
theorem UZ(os:Os):laidMet Tryz.prog Rows.omegaLeastRow.laid ((world os).forCall (λ_ _=>0) ⟨#[],#[.int .i64 0,.slice none 0 0,.int .i64 0],[]⟩).memory:=
 laidMet_of_run' 8 (by kernel_rfl) (by kernel_rfl)
theorem reads(os:Os){H:Type}(enc:TypeId×Value->H):∃places,DataW.whole enc Tryz.prog ((world os).forCall (λ_ _=>0) ⟨#[],#[.int .i64 0,.slice none 0 0,.int .i64 0],[]⟩).memory Tryz.f5.params.toList Rows.omegaLeastSpec.vars Rows.omegaLeastRow.apart (#[.int .i64 0,.slice none 0 0,.int .i64 0]:Array Value).toList 8=some ([.lit (.int .i64 0),.nil,.lit (.int .i64 0)],[],places):=
 ⟨[],by kernel_rfl⟩
theorem lifted(os:Os)(started:os.Started)(H:Type)(enc:TypeId×Value->H)(F:Stop.Interp):
 ReturnsInHanded {} Tryz.checked os 5 .any ((OpenSpec.ofChange Rows.omegaLeastSpec).preRow enc Tryz.prog Tryz.f5 Rows.omegaLeastRow.domain Rows.omegaLeastRow.apart Rows.omegaLeastRow.laid) (((OpenSpec.ofChange Rows.omegaLeastSpec).at F).post enc Tryz.prog Tryz.f5 Rows.omegaLeastRow.apart true false false):=by
 obtain⟨places,hx⟩:=reads os enc;refine returnsInHanded_of_row (C:=Tryz.checked) (s:=(OpenSpec.ofChange Rows.omegaLeastSpec)) own started (by kernel_rfl) Tryz.func5
  (witness_row_at (enc:=enc) (C:=Tryz.checked) false (world os) #[.int .i64 0,.slice none 0 0,.int .i64 0] rfl (by kernel_rfl) (by kernel_rfl) (by kernel_rfl)
   (OpenSpec.preRow_of_cond 8 hx (by kernel_rfl) (λk hk=>by cases hk) (by kernel_rfl) (UZ os))) ?_
 intro W base args ds gs before hval hW _ hk hw hL _ _;exact Ta H enc W base args ds gs before hval hW hL
theorem said:Rows.OmegaLeastSaid:=
 OpenClaim.holds_of_cond 5 Tryz.f5 rfl rfl rfl rfl rfl rfl rfl ⟨rfl,rfl,rfl,rfl,rfl⟩ rfl rfl rfl rfl rfl (by kernel_rfl) Tryz.func5 (by kernel_rfl)
  (iL (by kernel_rfl)) (by unfold Func.isWrapper;first|(rw[bD (by decide+kernel)];kernel_rfl)|(rw[aY (by decide+kernel)];exact⟨rfl,rfl⟩))
  (λos started H enc _ F=>by rw[OpenClaim.pre_eq_preRow];exact lifted os started H enc F)
theorem plain(f:FuncId)(fn:Func)(hf:Tryz.pinned.checked.prog.funcNamed "disjoint/disjointlaw24.OmegaLeast"=some f)(hfn:Tryz.pinned.checked.prog.funcs[f]?=some fn):
 false=Tryz.pinned.checked.prog.looks []/\∀(j:Nat) t,fn.params[j]?=some t->Tryz.pinned.checked.prog.wantsStandIn t=false:=by
 obtain rfl:f=5:=jh ((show Tryz.prog.funcNamed "disjoint/disjointlaw24.OmegaLeast"=some 5 by kernel_rfl).symm.trans hf)|>.symm;obtain rfl:fn=Tryz.f5:=(jh (Tryz.func5.symm.trans hfn)).symm;refine⟨by kernel_rfl,λj t ht=>?_⟩;rw[Tryz.params5]at ht;have h:=Array.mem_of_getElem? ht;exact(show∀t∈(#[3,22,3]:Array TypeId),Tryz.prog.wantsStandIn t=false from iL (by kernel_rfl)) t h
theorem card:Rows.OmegaLeastCardSaid:=
 Claim7.holds_tied_plain_at .later [] _ _ _ _ said (λ_ h=>by cases h) (by kernel_rfl) (λ_ h=>by cases h) omegaLeast_row_tie rfl ⟨rfl,rfl⟩ (by kernel_rfl) rfl plain (by kernel_rfl)
end Go.Proofs.YtipdkfmhfakbnaaGreatDoor.omegaLeast

/- Proved here: the statement of OmegaInvariant: for every input the law returns true, and its arguments read afterwards as before. Condition: the listed package-level variables hold at the start what the program lays in them (the card ties that to the text); the program is a pruned copy of the repository. -/
import Derived.Test.YtipdkfmhfakbnaaGreatDoorQ24
import Derived.Test.YtipdkfmhfakbnaaGreatDoorAf
import Derived.Test.YtipdkfmhfakbnaaGreatDoorSL
import Derived.Test.YtipdkfmhfakbnaaGreatDoorRows
import Derived.Test.YtipdkfmhfakbnaaGreatDoorCards
import Derived.Test.YtipdkfmhfakbnaaGreatDoorTie
set_option linter.unusedVariables false
set_option linter.unusedSimpArgs false
set_option linter.unusedSectionVars false
open Go
open Go.X Go.ChangeShapes Go.WideShapes Go.ChangeAt Go.RowKit Go.D
set_option maxRecDepth 100000
namespace Go.Proofs.YtipdkfmhfakbnaaGreatDoor.omegaInvariant
open Q24 SL Go.Q
theorem own:ownKnob Tryz.prog.godebug=none:=by kernel_rfl
theorem laidOut:laidOutB Tryz.prog=true:=by kernel_rfl
theorem Sr(H:Type)(enc:TypeId×Value->H)(W:World)(base:Nat)(args:Array Value)(ds gs:List (DataW H))(before:List MemPlace)
 (hval:∀(j:Nat) t v,Tryz.f6.params[j]?=some t->args[j]?=some v->Value.okWide Tryz.prog W .any base t v)
 (hW:DataW.Whole enc Tryz.prog Tryz.f6.params.toList Rows.omegaInvariantSpec.vars Rows.omegaInvariantRow.apart W args.toList ds gs before)(hL:laidMet Tryz.prog Rows.omegaInvariantRow.laid W):
 Calls Tryz.prog 6 args W fun e W'=>∃v,e=.returned v/\Rows.omegaInvariantSpec.post enc Tryz.prog Tryz.f6 Rows.omegaInvariantRow.apart true false false W args v W':=by
 have hW':=hW;obtain⟨p,q,hA0,hV,rfl,hfz,hnd⟩:=hW;have hA:DataW.TrodAll enc Tryz.prog W 0 (fun _=>true) true Tryz.f6.params.toList args.toList ds p:=hA0;rw[Tryz.params6]at hA hval;obtain⟨v0,vs0,d0,ds0,p0,q0,ha0,rfl,rfl,h0,r0⟩:=trodAll_cons hA;obtain⟨v1,vs1,d1,ds1,p1,q1,ha1,rfl,rfl,h1,r1⟩:=trodAll_cons r0;obtain⟨v2,vs2,d2,ds2,p2,q2,ha2,rfl,rfl,h2,r2⟩:=trodAll_cons r1;obtain⟨v3,vs3,d3,ds3,p3,q3,ha3,rfl,rfl,h3,r3⟩:=trodAll_cons r2;obtain⟨rfl,rfl,rfl⟩:=trodAll_nil r3;subst ha3;subst ha2;subst ha1;obtain rfl:args=#[v0,v1,v2,v3]:=by cases args;simp_all
 obtain⟨rfl,rfl⟩:=trodVars_none hV;obtain⟨x0,rfl,-,-,g0⟩:=open_int Tryz.underlying3 (hval 0 3 v0 rfl rfl) h0;obtain⟨x1,k1,g1,t1⟩:=IF Tryz.underlying22 oCons (hval 1 22 v1 rfl rfl) h1;obtain⟨x2,rfl,-,-,g2⟩:=open_int Tryz.underlying5 (hval 2 5 v2 rfl rfl) h2;obtain⟨x3,k3,g3,t3⟩:=IF Tryz.underlying47 oInts (hval 3 47 v3 rfl rfl) h3;clear hA0;obtain⟨N,r,hr,hr1⟩:=(PC (n:=x0) (l:=x1) (k:=x2) (b:=x3) g1.1 (fun c hc=>Uj (g1.2 c hc)) (by have:=bounds_u8 g2;omega) g3.1).get;subst hr1;refine(NA (Uk N x0 x1 x2 x3 true hr) ⟨_,_,rfl,⟨rfl,rfl⟩,_,_,rfl,k1,_,_,rfl,⟨rfl,rfl⟩,_,_,rfl,k3,rfl⟩ (Us hL)).mono fun e W' ⟨v,he,hE,hv,_⟩=>?_;subst he;subst hv;exact⟨_,rfl,RA laidOut (by rw[Tryz.params6];exact of_decide_eq_true (by kernel_rfl)) rfl (by kernel_rfl) Tryz.underlying4 hW' rfl hE⟩
noncomputable def world(os:Os):World:=Jv (World.holding Tryz.prog os ⟨#[],#[],[]⟩) [(2,Rows.laid_math_bits_deBruijn32tab),(3,Rows.laid_math_bits_deBruijn64tab),(0,Rows.laid_internal_strconv_uint64pow10)]
theorem Qe(os:Os):laidMet Tryz.prog Rows.omegaInvariantRow.laid ((world os).forCall (fun _ _=>0) ⟨#[],#[.int .i64 0,.slice none 0 0,.int .u8 0,.slice none 0 0],[]⟩).memory:=
 laidMet_of_run' 8 (by kernel_rfl) (by kernel_rfl)
theorem reads(os:Os){H:Type}(enc:TypeId×Value->H):∃places,DataW.whole enc Tryz.prog ((world os).forCall (fun _ _=>0) ⟨#[],#[.int .i64 0,.slice none 0 0,.int .u8 0,.slice none 0 0],[]⟩).memory Tryz.f6.params.toList Rows.omegaInvariantSpec.vars Rows.omegaInvariantRow.apart (#[.int .i64 0,.slice none 0 0,.int .u8 0,.slice none 0 0]:Array Value).toList 8=some ([.lit (.int .i64 0),.nil,.lit (.int .u8 0),.nil],[],places):=
 ⟨[],by kernel_rfl⟩
theorem lifted(os:Os)(started:os.Started)(H:Type)(enc:TypeId×Value->H)(F:Stop.Interp):
 ReturnsInHanded {} Tryz.checked os 6 .any ((OpenSpec.ofChange Rows.omegaInvariantSpec).preRow enc Tryz.prog Tryz.f6 Rows.omegaInvariantRow.domain Rows.omegaInvariantRow.apart Rows.omegaInvariantRow.laid) (((OpenSpec.ofChange Rows.omegaInvariantSpec).at F).post enc Tryz.prog Tryz.f6 Rows.omegaInvariantRow.apart true false false):=by
 obtain⟨places,hx⟩:=reads os enc;refine returnsInHanded_of_row (C:=Tryz.checked) (s:=(OpenSpec.ofChange Rows.omegaInvariantSpec)) own started (by kernel_rfl) Tryz.func6
  (witness_row_at (enc:=enc) (C:=Tryz.checked) false (world os) #[.int .i64 0,.slice none 0 0,.int .u8 0,.slice none 0 0] rfl (by kernel_rfl) (by kernel_rfl) (by kernel_rfl)
   (OpenSpec.preRow_of_cond 8 hx (by kernel_rfl) (fun k hk=>by cases hk) (by kernel_rfl) (Qe os))) ?_
 intro W base args ds gs before hval hW _ hk hw hL _ _;exact Sr H enc W base args ds gs before hval hW hL
theorem said:Rows.OmegaInvariantSaid:=
 OpenClaim.holds_of_cond 6 Tryz.f6 rfl rfl rfl rfl rfl rfl rfl ⟨rfl,rfl,rfl,rfl,rfl⟩ rfl rfl rfl rfl rfl (by kernel_rfl) Tryz.func6 (by kernel_rfl)
  (of_decide_eq_true (by kernel_rfl)) (by unfold Func.isWrapper;first|(rw[if_pos (by decide+kernel)];kernel_rfl)|(rw[if_neg (by decide+kernel)];exact⟨rfl,rfl⟩))
  (fun os started H enc _ F=>by rw[OpenClaim.pre_eq_preRow];exact lifted os started H enc F)
theorem plain(f:FuncId)(fn:Func)(hf:Tryz.pinned.checked.prog.funcNamed "disjoint/disjointlaw24.OmegaInvariant"=some f)(hfn:Tryz.pinned.checked.prog.funcs[f]?=some fn):
 false=Tryz.pinned.checked.prog.looks []/\∀(j:Nat) t,fn.params[j]?=some t->Tryz.pinned.checked.prog.wantsStandIn t=false:=by
 obtain rfl:f=6:=iR ((show Tryz.prog.funcNamed "disjoint/disjointlaw24.OmegaInvariant"=some 6 by kernel_rfl).symm.trans hf)|>.symm;obtain rfl:fn=Tryz.f6:=(iR (Tryz.func6.symm.trans hfn)).symm;refine⟨by kernel_rfl,fun j t ht=>?_⟩;rw[Tryz.params6]at ht;have h:=Array.mem_of_getElem? ht;exact(show∀t∈(#[3,22,5,47]:Array TypeId),Tryz.prog.wantsStandIn t=false from of_decide_eq_true (by kernel_rfl)) t h
theorem card:Rows.OmegaInvariantCardSaid:=
 Claim7.holds_tied_plain_at .later [] _ _ _ _ said (fun _ h=>by cases h) (by kernel_rfl) (fun _ h=>by cases h) omegaInvariant_row_tie rfl ⟨rfl,rfl⟩ (by kernel_rfl) rfl plain (by kernel_rfl)
end Go.Proofs.YtipdkfmhfakbnaaGreatDoor.omegaInvariant

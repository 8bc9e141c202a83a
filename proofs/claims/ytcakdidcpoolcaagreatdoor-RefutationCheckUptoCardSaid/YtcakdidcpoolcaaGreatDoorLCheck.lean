/- Proved here: the statement of RefutationCheck: for every input the law returns true, and its arguments read afterwards as before. Condition: the listed package-level variables hold at the start what the program lays in them (the card ties that to the text); the program is a pruned copy of the repository. -/
import Derived.Test.YtcakdidcpoolcaaGreatDoorAf
import Derived.Test.YtcakdidcpoolcaaGreatDoorSL
import Derived.Test.YtcakdidcpoolcaaGreatDoorRows
import Derived.Test.YtcakdidcpoolcaaGreatDoorCards
import Derived.Test.YtcakdidcpoolcaaGreatDoorTie
set_option linter.unusedVariables false
set_option linter.unusedSimpArgs false
set_option linter.unusedSectionVars false
open Go
open Go.X Go.ChangeShapes Go.WideShapes Go.ChangeAt Go.RowKit Go.D
set_option maxRecDepth 100000
namespace Go.Proofs.YtcakdidcpoolcaaGreatDoor.refutationCheck
open Q25 SL Go.Q
theorem own:ownKnob Tryz.prog.godebug=none:=by kernel_rfl
theorem laidOut:laidOutB Tryz.prog=true:=by kernel_rfl
theorem contract(H:Type)(enc:TypeId×Value→H)(W:World)(base:Nat)(args:Array Value)(ds gs:List (DataW H))(before:List MemPlace)
 (hval:∀(j:Nat) t v,Tryz.f6.params[j]?=some t→args[j]?=some v→Value.okWide Tryz.prog W .any base t v)
 (hW:DataW.Whole enc Tryz.prog Tryz.f6.params.toList Rows.refutationCheckSpec.vars Rows.refutationCheckUptoRow.apart W args.toList ds gs before)(hL:laidMet Tryz.prog Rows.refutationCheckUptoRow.laid W)(hk:Rows.uptoSmall H (ds++gs)=true):
 Calls Tryz.prog 6 args W fun e W'=>∃v,e=.returned v∧Rows.refutationCheckSpec.post enc Tryz.prog Tryz.f6 Rows.refutationCheckUptoRow.apart true false false W args v W':=by
 have hW':=hW;obtain⟨p,q,hA0,hV,rfl,hfz,hnd⟩:=hW;have hA:DataW.TrodAll enc Tryz.prog W 0 (fun _=>true) true Tryz.f6.params.toList args.toList ds p:=hA0;rw[Tryz.params6]at hA hval;obtain⟨v0,vs0,d0,ds0,p0,q0,ha0,rfl,rfl,h0,r0⟩:=trodAll_cons hA;obtain⟨v1,vs1,d1,ds1,p1,q1,ha1,rfl,rfl,h1,r1⟩:=trodAll_cons r0;obtain⟨v2,vs2,d2,ds2,p2,q2,ha2,rfl,rfl,h2,r2⟩:=trodAll_cons r1;obtain⟨rfl,rfl,rfl⟩:=trodAll_nil r2;subst ha2;subst ha1;obtain rfl:args=#[v0,v1,v2]:=by cases args;simp_all
 obtain⟨rfl,rfl⟩:=trodVars_none hV;simp only[List.append_nil]at hk;obtain⟨x0,k0,g0,t0⟩:=open_sliceT Tryz.underlying22 oVars (hval 0 22 v0 rfl rfl) h0;obtain⟨cs1,x1,rfl,R1,g1,t1⟩:=open_structT Tryz.underlying29 oCla (hval 1 29 v1 rfl rfl) h1;have R1x:=R1;obtain⟨u1_0,u1_1,u1_2,u1_3,u1_4,u1_5,u1_6,rfl,k1_0,k1_1,k1_2,k1_3,k1_4,k1_5,k1_6,-⟩:=rRClause_open R1;obtain⟨cs2,x2,rfl,R2,g2,t2⟩:=open_structT Tryz.underlying73 oRefut (hval 2 73 v2 rfl rfl) h2;have R2x:=R2;obtain⟨u2_0,u2_1,u2_2,u2_3,u2_4,rfl,k2_0,k2_1,k2_2,k2_3,k2_4,-⟩:=rRefut_open R2;clear hA0;obtain⟨N,r,hr,hr1⟩:=(lawCheck_tm (l:=x0) (c:=x1) (r:=x2) (by have:=slT_len t0;have:=bulk_at hk (i:=0) rfl;omega) ⟨g0.1,by rw[rg0_len];exact g0.1,limc_of g1,lwc_of (bulk_at hk (i:=1) rfl) t1⟩ g2 (by have:=bulk_at hk (i:=2) rfl;have:=t2;omega)).get;subst hr1;refine(law_calls (lawCheck_c N x0 x1 x2 true hr) ⟨_,_,rfl,k0,_,_,rfl,⟨_,rfl,Opn.op R1x⟩,_,_,rfl,⟨_,rfl,Opn.op R2x⟩,rfl⟩).mono fun e W' ⟨v,he,hE,hv,_⟩=>?_;subst he;subst hv;exact⟨_,rfl,post_true laidOut (by rw[Tryz.params6];exact of_decide_eq_true (by kernel_rfl)) rfl (by kernel_rfl) Tryz.underlying4 hW' rfl hE⟩
noncomputable def world(os:Os):World:=laying (World.holding Tryz.prog os ⟨#[],#[],[]⟩) [(1,Rows.laid_math_bits_deBruijn32tab),(2,Rows.laid_math_bits_deBruijn64tab),(0,Rows.laid_internal_strconv_uint64pow10)]
theorem laid_met(os:Os):laidMet Tryz.prog Rows.refutationCheckUptoRow.laid ((world os).forCall (fun _ _=>0) ⟨#[],#[.slice none 0 0,.agg #[.slice none 0 0,.slice none 0 0,.slice none 0 0,.slice none 0 0,.slice none 0 0,.slice none 0 0,.slice none 0 0],.agg #[.int .i64 0,.int .i64 0,.int .i64 0,.slice none 0 0,.slice none 0 0,.bool false,.slice none 0 0,.slice none 0 0,.slice none 0 0]],[]⟩).memory:=
 laidMet_of_run' 8 (by kernel_rfl) (by kernel_rfl)
theorem reads(os:Os){H:Type}(enc:TypeId×Value→H):∃places,DataW.whole enc Tryz.prog ((world os).forCall (fun _ _=>0) ⟨#[],#[.slice none 0 0,.agg #[.slice none 0 0,.slice none 0 0,.slice none 0 0,.slice none 0 0,.slice none 0 0,.slice none 0 0,.slice none 0 0],.agg #[.int .i64 0,.int .i64 0,.int .i64 0,.slice none 0 0,.slice none 0 0,.bool false,.slice none 0 0,.slice none 0 0,.slice none 0 0]],[]⟩).memory Tryz.f6.params.toList Rows.refutationCheckSpec.vars Rows.refutationCheckUptoRow.apart (#[.slice none 0 0,.agg #[.slice none 0 0,.slice none 0 0,.slice none 0 0,.slice none 0 0,.slice none 0 0,.slice none 0 0,.slice none 0 0],.agg #[.int .i64 0,.int .i64 0,.int .i64 0,.slice none 0 0,.slice none 0 0,.bool false,.slice none 0 0,.slice none 0 0,.slice none 0 0]]:Array Value).toList 8=some ([.nil,.agg [.nil,.nil,.nil,.nil,.nil,.nil,.nil],.agg [.lit (.int .i64 0),.lit (.int .i64 0),.lit (.int .i64 0),.agg [.nil,.nil,.agg [.lit (.bool false),.nil],.nil],.nil]],[],places):=
 ⟨[],by kernel_rfl⟩
theorem lifted(os:Os)(started:os.Started)(H:Type)(enc:TypeId×Value→H)(F:Stop.Interp):
 ReturnsInHanded {} Tryz.checked os 6 .any ((Rows.OpenSpec.upto Rows.refutationCheckSpec).preRow enc Tryz.prog Tryz.f6 Rows.refutationCheckUptoRow.domain Rows.refutationCheckUptoRow.apart Rows.refutationCheckUptoRow.laid) (((Rows.OpenSpec.upto Rows.refutationCheckSpec).at F).post enc Tryz.prog Tryz.f6 Rows.refutationCheckUptoRow.apart true false false):=by
 obtain⟨places,hx⟩:=reads os enc;refine returnsInHanded_of_row (C:=Tryz.checked) (s:=(Rows.OpenSpec.upto Rows.refutationCheckSpec)) own started (by kernel_rfl) Tryz.func6
  (witness_row_at (enc:=enc) (C:=Tryz.checked) false (world os) #[.slice none 0 0,.agg #[.slice none 0 0,.slice none 0 0,.slice none 0 0,.slice none 0 0,.slice none 0 0,.slice none 0 0,.slice none 0 0],.agg #[.int .i64 0,.int .i64 0,.int .i64 0,.slice none 0 0,.slice none 0 0,.bool false,.slice none 0 0,.slice none 0 0,.slice none 0 0]] rfl (by kernel_rfl) (by kernel_rfl) (by kernel_rfl)
   (OpenSpec.preRow_of_cond 8 hx (by kernel_rfl) (fun k hk=>by cases hk;kernel_rfl) (by kernel_rfl) (laid_met os))) ?_
 intro W base args ds gs before hval hW _ hk hw hL _ _;exact contract H enc W base args ds gs before hval hW hL (hk _ rfl)
theorem said:Rows.RefutationCheckUptoSaid:=
 OpenClaim.holds_of_cond 6 Tryz.f6 rfl rfl rfl rfl rfl rfl rfl ⟨rfl,rfl,rfl,rfl,rfl⟩ rfl rfl rfl rfl rfl (by kernel_rfl) Tryz.func6 (by kernel_rfl)
  (of_decide_eq_true (by kernel_rfl)) (by unfold Func.isWrapper;first|(rw[if_pos (by decide+kernel)];kernel_rfl)|(rw[if_neg (by decide+kernel)];exact⟨rfl,rfl⟩))
  (fun os started H enc _ F=>by rw[OpenClaim.pre_eq_preRow];exact lifted os started H enc F)
theorem plain(f:FuncId)(fn:Func)(hf:Tryz.pinned.checked.prog.funcNamed "disjoint/disjointlaw25.RefutationCheck"=some f)(hfn:Tryz.pinned.checked.prog.funcs[f]?=some fn):
 false=Tryz.pinned.checked.prog.looks []∧∀(j:Nat) t,fn.params[j]?=some t→Tryz.pinned.checked.prog.wantsStandIn t=false:=by
 obtain rfl:f=6:=Option.some.inj ((show Tryz.prog.funcNamed "disjoint/disjointlaw25.RefutationCheck"=some 6 by kernel_rfl).symm.trans hf)|>.symm;obtain rfl:fn=Tryz.f6:=(Option.some.inj (Tryz.func6.symm.trans hfn)).symm;refine⟨by kernel_rfl,fun j t ht=>?_⟩;rw[Tryz.params6]at ht;have h:=Array.mem_of_getElem? ht;exact(show∀t∈(#[22,29,73]:Array TypeId),Tryz.prog.wantsStandIn t=false from of_decide_eq_true (by kernel_rfl)) t h
theorem card:Rows.RefutationCheckUptoCardSaid:=
 Claim7.holds_tied_plain_at .later [] _ _ _ _ said (fun _ h=>by cases h) (by kernel_rfl) (fun _ h=>by cases h) refutationCheckUpto_row_tie rfl ⟨rfl,rfl⟩ (by kernel_rfl) rfl plain (by kernel_rfl)
end Go.Proofs.YtcakdidcpoolcaaGreatDoor.refutationCheck

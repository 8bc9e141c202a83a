/- Proved here: the statement of RefutationSound: for every input the law returns true, and its arguments read afterwards as before. Condition: the listed package-level variables hold at the start what the program lays in them (the card ties that to the text); the program is a pruned copy of the repository. -/
import Derived.Test.YtcakdidcpoolcaaGreatDoorAf
import Derived.Test.YtcakdidcpoolcaaGreatDoorSL
import Derived.Test.YtcakdidcpoolcaaGreatDoorRows
import Derived.Test.YtcakdidcpoolcaaGreatDoorCards
import Derived.Test.YtcakdidcpoolcaaGreatDoorTie
set_option linter.unusedVariables false
set_option linter.unusedSimpArgs false
set_option linter.unusedSectionVars false
open Go
open Go.X Go.ChangeShapes Go.WideShapes Go.ChangeAt Go.RowKit Go.D
set_option maxRecDepth 100000
namespace Go.Proofs.YtcakdidcpoolcaaGreatDoor.refutationSound
open Q25 SL Go.Q
theorem own:ownKnob Tryz.prog.godebug=none:=by kernel_rfl
theorem laidOut:laidOutB Tryz.prog=true:=by kernel_rfl
theorem contract(H:Type)(enc:TypeId×Value→H)(W:World)(base:Nat)(args:Array Value)(ds gs:List (DataW H))(before:List MemPlace)
 (hval:∀(j:Nat) t v,Tryz.f7.params[j]?=some t→args[j]?=some v→Value.okWide Tryz.prog W .any base t v)
 (hW:DataW.Whole enc Tryz.prog Tryz.f7.params.toList Rows.refutationSoundSpec.vars Rows.refutationSoundUptoRow.apart W args.toList ds gs before)(hL:laidMet Tryz.prog Rows.refutationSoundUptoRow.laid W)(hk:Rows.uptoSmall H (ds++gs)=true):
 Calls Tryz.prog 7 args W fun e W'=>∃v,e=.returned v∧Rows.refutationSoundSpec.post enc Tryz.prog Tryz.f7 Rows.refutationSoundUptoRow.apart true false false W args v W':=by
 have hW':=hW
 obtain⟨p,q,hA0,hV,rfl,hfz,hnd⟩:=hW
 have hA:DataW.TrodAll enc Tryz.prog W 0 (fun _=>true) true Tryz.f7.params.toList args.toList ds p:=hA0
 rw[Tryz.params7]at hA hval
 obtain⟨v0,vs0,d0,ds0,p0,q0,ha0,rfl,rfl,h0,r0⟩:=trodAll_cons hA
 obtain⟨rfl,rfl,rfl⟩:=trodAll_nil r0
 obtain rfl:args=#[v0]:=by cases args;simp_all
 obtain⟨rfl,rfl⟩:=trodVars_none hV
 simp only[List.append_nil]at hk
 obtain⟨cs0,x0,rfl,R0,g0,t0⟩:=open_structT Tryz.underlying80 oClaim (hval 0 80 v0 rfl rfl) h0
 have R0x:=R0
 obtain⟨u0_0,u0_1,u0_2,u0_3,u0_4,u0_5,u0_6,u0_7,u0_8,u0_9,u0_10,u0_11,u0_12,u0_13,rfl,k0_0,k0_1,k0_2,k0_3,k0_4,k0_5,k0_6,k0_7,k0_8,k0_9,k0_10,k0_11,k0_12,k0_13,-⟩:=rRClaim_open R0
 clear hA0
 obtain⟨N,r,hr,hr1⟩:=(lawSound_tm (x:=x0) (by have:=bulk_at hk (i:=0) rfl;have:=t0.1.1;omega) ⟨g0.1.1.1,by rw[rg0_len];exact g0.1.1.1,limc_of g0.1.2,lwc_of (bulk_at hk (i:=0) rfl) t0.2⟩ g0.2.1 (by have:=bulk_at hk (i:=0) rfl;have:=t0.1.2;omega) g0.2.2.1 (fun v hv=>(g0.2.2.2 v hv).2.2.1)).get
 subst hr1
 refine(law_calls (lawSound_c N x0 true hr) ⟨_,[],rfl,⟨_,rfl,Opn.op R0x⟩,rfl⟩).mono fun e W' ⟨v,he,hE,hv,_⟩=>?_
 subst he;subst hv
 exact⟨_,rfl,post_true laidOut (by rw[Tryz.params7];exact of_decide_eq_true (by kernel_rfl)) rfl (by kernel_rfl) Tryz.underlying4 hW' rfl hE⟩
noncomputable def world(os:Os):World:=laying (World.holding Tryz.prog os ⟨#[],#[],[]⟩) [(1,Rows.laid_math_bits_deBruijn32tab),(2,Rows.laid_math_bits_deBruijn64tab),(0,Rows.laid_internal_strconv_uint64pow10)]
theorem laid_met(os:Os):laidMet Tryz.prog Rows.refutationSoundUptoRow.laid ((world os).forCall (fun _ _=>0) ⟨#[],#[.agg #[.slice none 0 0,.slice none 0 0,.slice none 0 0,.slice none 0 0,.slice none 0 0,.slice none 0 0,.slice none 0 0,.slice none 0 0,.int .i64 0,.int .i64 0,.int .i64 0,.slice none 0 0,.slice none 0 0,.bool false,.slice none 0 0,.slice none 0 0,.slice none 0 0,.slice none 0 0]],[]⟩).memory:=
 laidMet_of_run' 8 (by kernel_rfl) (by kernel_rfl)
theorem reads(os:Os){H:Type}(enc:TypeId×Value→H):∃places,DataW.whole enc Tryz.prog ((world os).forCall (fun _ _=>0) ⟨#[],#[.agg #[.slice none 0 0,.slice none 0 0,.slice none 0 0,.slice none 0 0,.slice none 0 0,.slice none 0 0,.slice none 0 0,.slice none 0 0,.int .i64 0,.int .i64 0,.int .i64 0,.slice none 0 0,.slice none 0 0,.bool false,.slice none 0 0,.slice none 0 0,.slice none 0 0,.slice none 0 0]],[]⟩).memory Tryz.f7.params.toList Rows.refutationSoundSpec.vars Rows.refutationSoundUptoRow.apart (#[.agg #[.slice none 0 0,.slice none 0 0,.slice none 0 0,.slice none 0 0,.slice none 0 0,.slice none 0 0,.slice none 0 0,.slice none 0 0,.int .i64 0,.int .i64 0,.int .i64 0,.slice none 0 0,.slice none 0 0,.bool false,.slice none 0 0,.slice none 0 0,.slice none 0 0,.slice none 0 0]]:Array Value).toList 8=some ([.agg [.nil,.agg [.nil,.nil,.nil,.nil,.nil,.nil,.nil],.agg [.lit (.int .i64 0),.lit (.int .i64 0),.lit (.int .i64 0),.agg [.nil,.nil,.agg [.lit (.bool false),.nil],.nil],.nil],.nil]],[],places):=
 ⟨[],by kernel_rfl⟩
theorem lifted(os:Os)(started:os.Started)(H:Type)(enc:TypeId×Value→H)(F:Stop.Interp):
 ReturnsInHanded {} Tryz.checked os 7 .any ((Rows.OpenSpec.upto Rows.refutationSoundSpec).preRow enc Tryz.prog Tryz.f7 Rows.refutationSoundUptoRow.domain Rows.refutationSoundUptoRow.apart Rows.refutationSoundUptoRow.laid) (((Rows.OpenSpec.upto Rows.refutationSoundSpec).at F).post enc Tryz.prog Tryz.f7 Rows.refutationSoundUptoRow.apart true false false):=by
 obtain⟨places,hx⟩:=reads os enc
 refine returnsInHanded_of_row (C:=Tryz.checked) (s:=(Rows.OpenSpec.upto Rows.refutationSoundSpec)) own started (by kernel_rfl) Tryz.func7
  (witness_row_at (enc:=enc) (C:=Tryz.checked) false (world os) #[.agg #[.slice none 0 0,.slice none 0 0,.slice none 0 0,.slice none 0 0,.slice none 0 0,.slice none 0 0,.slice none 0 0,.slice none 0 0,.int .i64 0,.int .i64 0,.int .i64 0,.slice none 0 0,.slice none 0 0,.bool false,.slice none 0 0,.slice none 0 0,.slice none 0 0,.slice none 0 0]] rfl (by kernel_rfl) (by kernel_rfl) (by kernel_rfl)
   (OpenSpec.preRow_of_cond 8 hx (by kernel_rfl) (fun k hk=>by cases hk;kernel_rfl) (by kernel_rfl) (laid_met os))) ?_
 intro W base args ds gs before hval hW _ hk hw hL _ _
 exact contract H enc W base args ds gs before hval hW hL (hk _ rfl)
theorem said:Rows.RefutationSoundUptoSaid:=
 OpenClaim.holds_of_cond 7 Tryz.f7 rfl rfl rfl rfl rfl rfl rfl ⟨rfl,rfl,rfl,rfl,rfl⟩ rfl rfl rfl rfl rfl (by kernel_rfl) Tryz.func7 (by kernel_rfl)
  (of_decide_eq_true (by kernel_rfl)) (by unfold Func.isWrapper;first|(rw[if_pos (by decide+kernel)];kernel_rfl)|(rw[if_neg (by decide+kernel)];exact⟨rfl,rfl⟩))
  (fun os started H enc _ F=>by rw[OpenClaim.pre_eq_preRow];exact lifted os started H enc F)
theorem plain(f:FuncId)(fn:Func)(hf:Tryz.pinned.checked.prog.funcNamed "disjoint/disjointlaw25.RefutationSound"=some f)(hfn:Tryz.pinned.checked.prog.funcs[f]?=some fn):
 false=Tryz.pinned.checked.prog.looks []∧∀(j:Nat) t,fn.params[j]?=some t→Tryz.pinned.checked.prog.wantsStandIn t=false:=by
 obtain rfl:f=7:=Option.some.inj ((show Tryz.prog.funcNamed "disjoint/disjointlaw25.RefutationSound"=some 7 by kernel_rfl).symm.trans hf)|>.symm
 obtain rfl:fn=Tryz.f7:=(Option.some.inj (Tryz.func7.symm.trans hfn)).symm
 refine⟨by kernel_rfl,fun j t ht=>?_⟩
 rw[Tryz.params7]at ht
 have h:=Array.mem_of_getElem? ht
 exact(show∀t∈(#[80]:Array TypeId),Tryz.prog.wantsStandIn t=false from of_decide_eq_true (by kernel_rfl)) t h
theorem card:Rows.RefutationSoundUptoCardSaid:=
 Claim7.holds_tied_plain_at .later [] _ _ _ _ said (fun _ h=>by cases h) (by kernel_rfl) (fun _ h=>by cases h) refutationSoundUpto_row_tie rfl ⟨rfl,rfl⟩ (by kernel_rfl) rfl plain (by kernel_rfl)
end Go.Proofs.YtcakdidcpoolcaaGreatDoor.refutationSound

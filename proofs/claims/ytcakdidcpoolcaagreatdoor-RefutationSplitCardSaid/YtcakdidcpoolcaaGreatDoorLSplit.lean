/- Proved here: the statement of RefutationSplit: for every input the law returns true, and its arguments read afterwards as before. Condition: the listed package-level variables hold at the start what the program lays in them (the card ties that to the text); the program is a pruned copy of the repository. -/
import Derived.Test.YtcakdidcpoolcaaGreatDoorAe
import Derived.Test.YtcakdidcpoolcaaGreatDoorSL
import Derived.Test.YtcakdidcpoolcaaGreatDoorRows
import Derived.Test.YtcakdidcpoolcaaGreatDoorCards
import Derived.Test.YtcakdidcpoolcaaGreatDoorTie
set_option linter.unusedVariables false
set_option linter.unusedSimpArgs false
set_option linter.unusedSectionVars false
open Go
open Go.X Go.ChangeShapes Go.WideShapes Go.ChangeAt Go.RowKit Go.D
set_option maxRecDepth 100000
namespace Go.Proofs.YtcakdidcpoolcaaGreatDoor.refutationSplit
open Q25 SL Go.Q
theorem own:ownKnob Tryz.prog.godebug=none:=by kernel_rfl
theorem laidOut:laidOutB Tryz.prog=true:=by kernel_rfl
theorem slice_w{t e:TypeId}{n:Nat}{α:Type}{r:Rep α}{H:Type}{enc:TypeId×Value→H}{W:World}{fuel:Nat}{cs:List Value}{x:DataW H×List MemPlace}{v:Value}{xs:List α}(ht:Tryz.prog.underlying t=some (.slice e))(hb:Tryz.prog.bytesOf e=n)(h:DataW.trod enc Tryz.prog W 0 (fun _=>true) true fuel t cs=some x)(hc:cs=[v])(hR:Rs r (HW W) v xs)(hw:(x.1.weights Tryz.prog t).all (·≤reachBytes)=true):xs.length*n≤140737488351232:=by
 rcases DataW.trod_slice ht h with⟨g1,g2⟩|⟨a,len,cap,elems,rest,m,hn,g1,g2,hbb,hl,hm,hlen,hel,hsp,hns⟩
 · have:v=.slice none 0 0:=by rw[hc]at g1;exact(List.cons.inj g1).1
   subst this
   rcases hR with⟨_,rfl⟩|⟨b,o,cap,hv,_⟩
   · simp
   · cases hv
 · have:v=.slice (some a) len cap:=by rw[hc]at g1;exact(List.cons.inj g1).1
   subst this
   have hx:xs.length≤len:=by
    rcases hR with⟨_,rfl⟩|⟨b,o,cap,hv,_⟩
    · simp
    · cases hv;exact Nat.le_refl _
   rw[g2]at hw
   unfold DataW.weights at hw
   rw[ht]at hw
   simp only[List.all_cons,Bool.and_eq_true,decide_eq_true_eq,hb]at hw
   have h1:=hw.1
   simp only[reachBytes,List.length_map]at h1
   have h2:xs.length*n≤elems.length*n:=Nat.mul_le_mul_right _ (by omega)
   have h3:elems.length*n≤(elems.length+rest.length)*n:=Nat.mul_le_mul_right _ (by omega)
   first|omega|(have:=h1;simp at this;omega)
theorem contract(H:Type)(enc:TypeId×Value→H)(W:World)(base:Nat)(args:Array Value)(ds gs:List (DataW H))(before:List MemPlace)
 (hval:∀(j:Nat) t v,Tryz.f8.params[j]?=some t→args[j]?=some v→Value.okWide Tryz.prog W .any base t v)
 (hW:DataW.Whole enc Tryz.prog Tryz.f8.params.toList Rows.refutationSplitSpec.vars Rows.refutationSplitRow.apart W args.toList ds gs before)(hL:laidMet Tryz.prog Rows.refutationSplitRow.laid W)(hw:(DataW.weightsEach Tryz.prog (Tryz.f8.params.toList++(OpenSpec.ofChange Rows.refutationSplitSpec).bare.plain.varTypes Tryz.prog) (ds++gs)).all (·≤reachBytes)=true):
 Calls Tryz.prog 8 args W fun e W'=>∃v,e=.returned v∧Rows.refutationSplitSpec.post enc Tryz.prog Tryz.f8 Rows.refutationSplitRow.apart true false false W args v W':=by
 have hW':=hW
 obtain⟨p,q,hA0,hV,rfl,hfz,hnd⟩:=hW
 have hA:DataW.TrodAll enc Tryz.prog W 0 (fun _=>true) true Tryz.f8.params.toList args.toList ds p:=hA0
 rw[Tryz.params8]at hA hval
 obtain⟨v0,vs0,d0,ds0,p0,q0,ha0,rfl,rfl,h0,r0⟩:=trodAll_cons hA
 obtain⟨v1,vs1,d1,ds1,p1,q1,ha1,rfl,rfl,h1,r1⟩:=trodAll_cons r0
 obtain⟨v2,vs2,d2,ds2,p2,q2,ha2,rfl,rfl,h2,r2⟩:=trodAll_cons r1
 obtain⟨rfl,rfl,rfl⟩:=trodAll_nil r2
 subst ha2
 subst ha1
 obtain rfl:args=#[v0,v1,v2]:=by cases args;simp_all
 obtain⟨rfl,rfl⟩:=trodVars_none hV
 obtain⟨x0,k0,g0,t0⟩:=open_sliceT Tryz.underlying22 oVars (hval 0 22 v0 rfl rfl) h0
 obtain⟨cs1,x1,rfl,R1,g1,t1⟩:=open_structT Tryz.underlying29 oCla (hval 1 29 v1 rfl rfl) h1
 have R1x:=R1
 obtain⟨u1_0,u1_1,u1_2,u1_3,u1_4,u1_5,u1_6,rfl,k1_0,k1_1,k1_2,k1_3,k1_4,k1_5,k1_6,-⟩:=rRClause_open R1
 obtain⟨cs2,x2,rfl,R2,g2,t2⟩:=open_structT Tryz.underlying73 oRefut (hval 2 73 v2 rfl rfl) h2
 have R2x:=R2
 obtain⟨u2_0,u2_1,u2_2,u2_3,u2_4,rfl,k2_0,k2_1,k2_2,k2_3,k2_4,-⟩:=rRefut_open R2
 rw[Tryz.params8]at hw
 obtain⟨hw0,hwr⟩:=weights_cons (P:=Tryz.prog) (t:=22) (ts:=[29,73]) (d:=d0) (r:=[d1,d2]) hw
 obtain⟨hw1,-⟩:=weights_cons hwr
 have hl0:x0.length*40≤140737488351232:=by
  obtain⟨fu,hf⟩:=h0
  exact slice_w (n:=40) Tryz.underlying22 (by kernel_rfl) hf (by rw[one_cells (Rs.one k0)]) k0 hw0
 have hwC:LwC x1:=by
  obtain⟨fu,hfC⟩:=h1
  obtain⟨_,mC,_,esC,e1C,e2C,e3C⟩:=trod_fieldsT Tryz.underlying29 hfC
  have e1C:d1=.agg esC:=e1C
  rw[e1C]at hw1
  match esC,e2C,e3C with
  |[yC_0,yC_1,yC_2,yC_3,yC_4,yC_5,yC_6],_,e3C=>
   unfold DataW.weights at hw1
   rw[Tryz.underlying29]at hw1
   obtain⟨wC_0,aC_0⟩:=weights_cons hw1
   obtain⟨wC_1,aC_1⟩:=weights_cons aC_0
   obtain⟨wC_2,aC_2⟩:=weights_cons aC_1
   obtain⟨wC_3,aC_3⟩:=weights_cons aC_2
   obtain⟨wC_4,aC_4⟩:=weights_cons aC_3
   obtain⟨wC_5,aC_5⟩:=weights_cons aC_4
   obtain⟨wC_6,aC_6⟩:=weights_cons aC_5
   obtain⟨zC_0,fC_0,gC_0⟩:=e3C 0 _ rfl
   have bC_0:=slice_w (n:=8) Tryz.underlying23 (by kernel_rfl) fC_0 rfl k1_0 (by have:=Option.some.inj gC_0;rw[←this];exact wC_0)
   obtain⟨zC_1,fC_1,gC_1⟩:=e3C 1 _ rfl
   have bC_1:=slice_w (n:=8) Tryz.underlying23 (by kernel_rfl) fC_1 rfl k1_1 (by have:=Option.some.inj gC_1;rw[←this];exact wC_1)
   obtain⟨zC_2,fC_2,gC_2⟩:=e3C 2 _ rfl
   have bC_2:=slice_w (n:=48) Tryz.underlying24 (by kernel_rfl) fC_2 rfl k1_2 (by have:=Option.some.inj gC_2;rw[←this];exact wC_2)
   obtain⟨zC_3,fC_3,gC_3⟩:=e3C 3 _ rfl
   have bC_3:=slice_w (n:=40) Tryz.underlying25 (by kernel_rfl) fC_3 rfl k1_3 (by have:=Option.some.inj gC_3;rw[←this];exact wC_3)
   obtain⟨zC_4,fC_4,gC_4⟩:=e3C 4 _ rfl
   have bC_4:=slice_w (n:=40) Tryz.underlying26 (by kernel_rfl) fC_4 rfl k1_4 (by have:=Option.some.inj gC_4;rw[←this];exact wC_4)
   obtain⟨zC_5,fC_5,gC_5⟩:=e3C 5 _ rfl
   have bC_5:=slice_w (n:=16) Tryz.underlying27 (by kernel_rfl) fC_5 rfl k1_5 (by have:=Option.some.inj gC_5;rw[←this];exact wC_5)
   obtain⟨zC_6,fC_6,gC_6⟩:=e3C 6 _ rfl
   have bC_6:=slice_w (n:=16) Tryz.underlying27 (by kernel_rfl) fC_6 rfl k1_6 (by have:=Option.some.inj gC_6;rw[←this];exact wC_6)
   exact⟨by omega,by omega,by omega,by omega,by omega,by omega,by omega⟩
 clear hA0
 obtain⟨N,r,hr,hr1⟩:=(lawSplit_tm (l:=x0) (c:=x1) (r:=x2) (by omega) ⟨g0.1,by rw[rg0_len];exact g0.1,limc_of g1,hwC⟩ g2).get
 subst hr1
 refine(law_calls (lawSplit_c N x0 x1 x2 true hr) ⟨_,_,rfl,k0,_,_,rfl,⟨_,rfl,Opn.op R1x⟩,_,_,rfl,⟨_,rfl,Opn.op R2x⟩,rfl⟩).mono fun e W' ⟨v,he,hE,hv,_⟩=>?_
 subst he;subst hv
 exact⟨_,rfl,post_true laidOut (by rw[Tryz.params8];exact of_decide_eq_true (by kernel_rfl)) rfl (by kernel_rfl) Tryz.underlying4 hW' rfl hE⟩
noncomputable def world(os:Os):World:=laying (World.holding Tryz.prog os ⟨#[],#[],[]⟩) [(1,Rows.laid_math_bits_deBruijn32tab),(2,Rows.laid_math_bits_deBruijn64tab),(0,Rows.laid_internal_strconv_uint64pow10)]
theorem laid_met(os:Os):laidMet Tryz.prog Rows.refutationSplitRow.laid ((world os).forCall (fun _ _=>0) ⟨#[],#[.slice none 0 0,.agg #[.slice none 0 0,.slice none 0 0,.slice none 0 0,.slice none 0 0,.slice none 0 0,.slice none 0 0,.slice none 0 0],.agg #[.int .i64 0,.int .i64 0,.int .i64 0,.slice none 0 0,.slice none 0 0,.bool false,.slice none 0 0,.slice none 0 0,.slice none 0 0]],[]⟩).memory:=
 laidMet_of_run' 8 (by kernel_rfl) (by kernel_rfl)
theorem reads(os:Os){H:Type}(enc:TypeId×Value→H):∃places,DataW.whole enc Tryz.prog ((world os).forCall (fun _ _=>0) ⟨#[],#[.slice none 0 0,.agg #[.slice none 0 0,.slice none 0 0,.slice none 0 0,.slice none 0 0,.slice none 0 0,.slice none 0 0,.slice none 0 0],.agg #[.int .i64 0,.int .i64 0,.int .i64 0,.slice none 0 0,.slice none 0 0,.bool false,.slice none 0 0,.slice none 0 0,.slice none 0 0]],[]⟩).memory Tryz.f8.params.toList Rows.refutationSplitSpec.vars Rows.refutationSplitRow.apart (#[.slice none 0 0,.agg #[.slice none 0 0,.slice none 0 0,.slice none 0 0,.slice none 0 0,.slice none 0 0,.slice none 0 0,.slice none 0 0],.agg #[.int .i64 0,.int .i64 0,.int .i64 0,.slice none 0 0,.slice none 0 0,.bool false,.slice none 0 0,.slice none 0 0,.slice none 0 0]]:Array Value).toList 8=some ([.nil,.agg [.nil,.nil,.nil,.nil,.nil,.nil,.nil],.agg [.lit (.int .i64 0),.lit (.int .i64 0),.lit (.int .i64 0),.agg [.nil,.nil,.agg [.lit (.bool false),.nil],.nil],.nil]],[],places):=
 ⟨[],by kernel_rfl⟩
theorem lifted(os:Os)(started:os.Started)(H:Type)(enc:TypeId×Value→H)(F:Stop.Interp):
 ReturnsInHanded {} Tryz.checked os 8 .any ((OpenSpec.ofChange Rows.refutationSplitSpec).preRow enc Tryz.prog Tryz.f8 Rows.refutationSplitRow.domain Rows.refutationSplitRow.apart Rows.refutationSplitRow.laid) (((OpenSpec.ofChange Rows.refutationSplitSpec).at F).post enc Tryz.prog Tryz.f8 Rows.refutationSplitRow.apart true false false):=by
 obtain⟨places,hx⟩:=reads os enc
 refine returnsInHanded_of_row (C:=Tryz.checked) (s:=(OpenSpec.ofChange Rows.refutationSplitSpec)) own started (by kernel_rfl) Tryz.func8
  (witness_row_at (enc:=enc) (C:=Tryz.checked) false (world os) #[.slice none 0 0,.agg #[.slice none 0 0,.slice none 0 0,.slice none 0 0,.slice none 0 0,.slice none 0 0,.slice none 0 0,.slice none 0 0],.agg #[.int .i64 0,.int .i64 0,.int .i64 0,.slice none 0 0,.slice none 0 0,.bool false,.slice none 0 0,.slice none 0 0,.slice none 0 0]] rfl (by kernel_rfl) (by kernel_rfl) (by kernel_rfl)
   (OpenSpec.preRow_of_cond 8 hx (by kernel_rfl) (fun k hk=>by cases hk) (by kernel_rfl) (laid_met os))) ?_
 intro W base args ds gs before hval hW _ hk hw hL _ _
 exact contract H enc W base args ds gs before hval hW hL hw
theorem said:Rows.RefutationSplitSaid:=
 OpenClaim.holds_of_cond 8 Tryz.f8 rfl rfl rfl rfl rfl rfl rfl ⟨rfl,rfl,rfl,rfl,rfl⟩ rfl rfl rfl rfl rfl (by kernel_rfl) Tryz.func8 (by kernel_rfl)
  (of_decide_eq_true (by kernel_rfl)) (by unfold Func.isWrapper;first|(rw[if_pos (by decide+kernel)];kernel_rfl)|(rw[if_neg (by decide+kernel)];exact⟨rfl,rfl⟩))
  (fun os started H enc _ F=>by rw[OpenClaim.pre_eq_preRow];exact lifted os started H enc F)
theorem plain(f:FuncId)(fn:Func)(hf:Tryz.pinned.checked.prog.funcNamed "disjoint/disjointlaw25.RefutationSplit"=some f)(hfn:Tryz.pinned.checked.prog.funcs[f]?=some fn):
 false=Tryz.pinned.checked.prog.looks []∧∀(j:Nat) t,fn.params[j]?=some t→Tryz.pinned.checked.prog.wantsStandIn t=false:=by
 obtain rfl:f=8:=Option.some.inj ((show Tryz.prog.funcNamed "disjoint/disjointlaw25.RefutationSplit"=some 8 by kernel_rfl).symm.trans hf)|>.symm
 obtain rfl:fn=Tryz.f8:=(Option.some.inj (Tryz.func8.symm.trans hfn)).symm
 refine⟨by kernel_rfl,fun j t ht=>?_⟩
 rw[Tryz.params8]at ht
 have h:=Array.mem_of_getElem? ht
 exact(show∀t∈(#[22,29,73]:Array TypeId),Tryz.prog.wantsStandIn t=false from of_decide_eq_true (by kernel_rfl)) t h
theorem card:Rows.RefutationSplitCardSaid:=
 Claim7.holds_tied_plain_at .later [] _ _ _ _ said (fun _ h=>by cases h) (by kernel_rfl) (fun _ h=>by cases h) refutationSplit_row_tie rfl ⟨rfl,rfl⟩ (by kernel_rfl) rfl plain (by kernel_rfl)
end Go.Proofs.YtcakdidcpoolcaaGreatDoor.refutationSplit

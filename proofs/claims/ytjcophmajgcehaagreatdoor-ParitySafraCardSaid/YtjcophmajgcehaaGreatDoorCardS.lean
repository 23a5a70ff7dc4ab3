/- ParitySafra: the law answers true for every input, and leaves its arguments as they were. No condition. -/
import Derived.Test.YtjcophmajgcehaaGreatDoorA5
set_option linter.all false
set_option maxHeartbeats 8000000
set_option maxRecDepth 20000
namespace Go.Proofs.YtjcophmajgcehaaGreatDoor.lawParitySafra
open Go.ChangeShapes Go.WideShapes Go.ChangeAt Go.RowKit Go.Lx
set_option maxRecDepth 20000 in
theorem M8 (H:Type) (enc:TypeId×Value→H) (W:World) [eT Tryz.prog W] (base:Nat) (args:Array Value) (ds gs:List (DataW H)) (before:List MemPlace)
  (oq: ∀(j:Nat) t v,Tryz.f3.params[j]? =some t→args[j]? =some v→Value.okWide Tryz.prog W .any base t v)
  (hW:DataW.Whole enc Tryz.prog Tryz.f3.params.toList Rows.paritySafraSpec.vars false W args.toList ds gs before)
  (aba:(DataW.weightsEach Tryz.prog (Tryz.f3.params.toList++(OpenSpec.ofChange Rows.paritySafraSpec).bare.plain.varTypes Tryz.prog) (ds++gs)).all (· ≤reachBytes)=true):
  Calls Tryz.prog 3 args W fun e W'=> ∃v,e=.returned v∧Rows.paritySafraSpec.post enc Tryz.prog Tryz.f3 false true false false W args v W':=by
 have hW':=hW
 obtain⟨p,q,hA0,hV,rfl,hfz,kO⟩:=hW
 have hA:DataW.TrodAll enc Tryz.prog W 0 (fun _=>true) true Tryz.f3.params.toList args.toList ds p:=hA0
 rw[Tryz.params3]at hA oq aba
 have sj:=fun m hm=>of_decide_eq_true (List.all_eq_true.1 aba m hm)
 obtain⟨v0,vs0,d0,ds0,p0,q0,h0s,rfl,rfl,t0,r0⟩:=trodAll_cons hA
 obtain⟨v1,vs1,d1,ds1,p1,q1,h1s,rfl,rfl,t1,r1⟩:=trodAll_cons r0
 obtain⟨rfl,rfl,rfl⟩:=trodAll_nil r1
 obtain rfl:=h1s
 obtain rfl:args= #[v0,v1]:=by cases args;simp_all
 clear hA0
 obtain⟨b0,sb0,eb0,tb0,sc0,ec0,tc0,vv0,hB0⟩:=abb (fun m hm=>sj _ (DataW.weights_mem_each (j:=0) F F m hm)) t0
 obtain rfl:=hB0.val
 obtain⟨L1,z1,hL1⟩:=abc (fun m hm=>sj _ (DataW.weights_mem_each (j:=1) F F m hm)) t1
 obtain rfl:=hL1.val
 have walk:cZ Tryz.prog W 3 [.agg (bf b0 sb0 sc0 eb0 ec0 tb0 tc0).toArray,lV L1 z1] [] fun v O'=>v=.bool true∧O'=[]:=WQ W b0 sb0 eb0 tb0 sc0 ec0 tc0 vv0 hB0.at_ hB0.pn (agq hB0.t) L1 z1 hL1.at_ hL1.p8 hL1.l8
 refine(walk W [] (Inv.refl W)).mono ?_
 rintro e W' ⟨v,O',rfl,hI,rfl,rfl⟩
 exact⟨_,F,M9 (tb:=4) laidOut (fun t ht=>by
  rw[Tryz.params3]at ht
  simp only[dU,List.not_mem_nil,or_false]at ht
  rcases ht with rfl|rfl
  ·exact⟨RE,agr⟩
  ·exact⟨RF,ags⟩) F Tryz.underlying4 F hW' F F F hI.below⟩
theorem M_ (os:Os):laidMet Tryz.prog Rows.paritySafraRow.laid ((vf os).forCall (fun _ _=>0) ⟨#[],#[.agg #[.int .i64 0,.int .i64 0,.slice none 0 0,.slice none 0 0,.slice none 0 0],.agg #[.slice none 0 0,.slice none 0 0]],[]⟩).memory:=
 laidMet_of_run' 8 (by kernel_rfl) (by kernel_rfl)
theorem reads (os:Os) {H:Type} (enc:TypeId×Value→H): ∃places,DataW.whole enc Tryz.prog ((vf os).forCall (fun _ _=>0) ⟨#[],#[.agg #[.int .i64 0,.int .i64 0,.slice none 0 0,.slice none 0 0,.slice none 0 0],.agg #[.slice none 0 0,.slice none 0 0]],[]⟩).memory Tryz.f3.params.toList Rows.paritySafraSpec.vars false (#[.agg #[.int .i64 0,.int .i64 0,.slice none 0 0,.slice none 0 0,.slice none 0 0],.agg #[.slice none 0 0,.slice none 0 0]]:Array Value).toList 8=some ([.agg [.lit (.int .i64 0),.lit (.int .i64 0),.nil,.nil,.nil],.agg [.nil,.nil]],[],places):=
 ⟨[],by kernel_rfl⟩
set_option maxRecDepth 100000 in
theorem lifted (os:Os) (started:os.Started) (H:Type) (enc:TypeId×Value→H) (aa:Stop.Interp):
  ReturnsInHanded {} Tryz.checked os 3 .any ((OpenSpec.ofChange Rows.paritySafraSpec).preRow enc Tryz.prog Tryz.f3 Rows.paritySafraRow.domain false Rows.paritySafraRow.laid) (((OpenSpec.ofChange Rows.paritySafraSpec).at aa).post enc Tryz.prog Tryz.f3 false true false false):=by
 obtain⟨places,hx⟩:=reads os enc
 refine returnsInHanded_of_row (C:=Tryz.checked) (s:=OpenSpec.ofChange Rows.paritySafraSpec) own started (by kernel_rfl) Tryz.func3
  (witness_row_at (enc:=enc) (C:=Tryz.checked) false (vf os) #[.agg #[.int .i64 0,.int .i64 0,.slice none 0 0,.slice none 0 0,.slice none 0 0],.agg #[.slice none 0 0,.slice none 0 0]] F (by kernel_rfl) (by kernel_rfl) (by kernel_rfl)
   (OpenSpec.preRow_of_cond 8 hx (by kernel_rfl) (fun k hk=>by cases hk) (by kernel_rfl) (M_ os))) ?_
 intro W base args ds gs before oq hW _ _ sj hL _ _
 haveI:=abd hL
 exact M8 H enc W base args ds gs before oq hW sj
theorem said:Rows.ParitySafraSaid:=
 OpenClaim.holds_of_cond 3 Tryz.f3 F F F F F F F ⟨F,F,F,F,F⟩ F F F F F (by kernel_rfl) Tryz.func3 (by kernel_rfl)
  (of_decide_eq_true (by kernel_rfl)) (by unfold Func.isWrapper;first|(rw[aA (by decide+kernel)];kernel_rfl)|(rw[ar (by decide+kernel)];exact⟨F,F⟩))
  (fun os started H enc _ aa=>by rw[OpenClaim.pre_eq_preRow];exact lifted os started H enc aa)
theorem plain (f:FuncId) (fn:Func) (hf:Tryz.pinned.checked.prog.funcNamed "sentinel/sentinellaw28.ParitySafra" =some f) (Kp:Tryz.pinned.checked.prog.funcs[f]? =some fn):
  false=Tryz.pinned.checked.prog.looks []∧ ∀(j:Nat) t,fn.params[j]? =some t→Tryz.pinned.checked.prog.wantsStandIn t=false:=by
 obtain rfl:f=3:=cg ((show Tryz.prog.funcNamed "sentinel/sentinellaw28.ParitySafra" =some 3 by kernel_rfl).symm.trans hf)|>.symm
 obtain rfl:fn=Tryz.f3:=(cg (Tryz.func3.symm.trans Kp)).symm
 refine⟨by kernel_rfl,fun j t ht=>?_⟩
 rw[Tryz.params3]at ht
 have hm:t∈[26,29]:=Array.mem_toList_iff.2 (Array.mem_of_getElem? ht)
 simp only[dU,List.not_mem_nil,or_false]at hm
 rcases hm with rfl|rfl
 ·exact(show Tryz.prog.wantsStandIn 26=false by kernel_rfl)
 ·exact(show Tryz.prog.wantsStandIn 29=false by kernel_rfl)
/-- THE CARD. -/
theorem card:Rows.ParitySafraCardSaid:=
 Claim7.holds_tied_plain_at .later [] _ _ _ _ said (fun _ h=>by cases h) (by kernel_rfl) (fun _ h=>by cases h) paritySafra_row_tie rfl ⟨rfl,rfl⟩ (by kernel_rfl) rfl plain (by kernel_rfl)
end Go.Proofs.YtjcophmajgcehaaGreatDoor.lawParitySafra

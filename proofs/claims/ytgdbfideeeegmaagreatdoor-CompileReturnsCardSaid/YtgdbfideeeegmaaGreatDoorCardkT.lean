/- CompileReturns: the law answers true for every input, and leaves its arguments as they were. No condition. -/
import Derived.Test.YtgdbfideeeegmaaGreatDoorA2
import Derived.Test.YtgdbfideeeegmaaGreatDoorA5
import Derived.Test.YtgdbfideeeegmaaGreatDoorB5
import Derived.Test.YtgdbfideeeegmaaGreatDoorA0
set_option linter.unusedSectionVars false
set_option linter.unusedSimpArgs false
set_option linter.unusedVariables false
set_option linter.unnecessarySimpa false
set_option maxHeartbeats 8000000
set_option maxRecDepth 20000
namespace Go.Proofs.YtgdbfideeeegmaaGreatDoor.lawCompileReturns
open Go.ChangeShapes Go.WideShapes Go.ChangeAt Go.RowKit Go.Lx

set_option maxRecDepth 20000 in
theorem IR (H:Type) (enc:TypeId×Value→H) (W:World) [dB Tryz.prog W] (base:Nat) (args:Array Value) (ds gs:List (DataW H)) (before:List MemPlace)
  (IS: ∀(j:Nat) t v,Tryz.f6.params[j]? =some t→args[j]? =some v→Value.okWide Tryz.prog W .any base t v)
  (hW:DataW.Whole enc Tryz.prog Tryz.f6.params.toList Rows.compileReturnsSpec.vars false W args.toList ds gs before)
  (Uk:(DataW.weightsEach Tryz.prog (Tryz.f6.params.toList++(OpenSpec.ofChange Rows.compileReturnsSpec).bare.plain.varTypes Tryz.prog) (ds++gs)).all (· ≤reachBytes)=true):
  Calls Tryz.prog 6 args W fun e W'=> ∃v,e=.returned v∧Rows.compileReturnsSpec.post enc Tryz.prog Tryz.f6 false true false false W args v W':=by
 have hW':=hW
 obtain⟨p,q,hA0,hV,rfl,hfz,lx⟩:=hW
 have hA:DataW.TrodAll enc Tryz.prog W 0 (fun _=>true) true Tryz.f6.params.toList args.toList ds p:=hA0
 rw[Tryz.params6]at hA IS Uk
 have sN:=fun m hm=>of_decide_eq_true (List.all_eq_true.1 Uk m hm)
 obtain⟨v0,vs0,d0,ds0,p0,q0,h0s,rfl,rfl,t0,r0⟩:=trodAll_cons hA
 obtain⟨rfl,rfl,rfl⟩:=trodAll_nil r0
 obtain rfl:args= #[v0]:=by cases args;simp_all
 clear hA0
 obtain⟨D0,nb0,fb0,nc0,fc0,vv0,hD0⟩:=Ul (fun m hm=>sN _ (DataW.weights_mem_each (j:=0) F F m hm)) t0
 obtain⟨y0,rfl,A0,B0,C0⟩:=Bs.dk hD0
 have walk:cd Tryz.prog W 6 [.agg (dC D0 y0).toArray] [] fun v O'=>v=.bool true∧O'=[]:=IT W D0 y0 A0 B0.1 B0.2.1 B0.2.2
 refine(walk W [] (Inv.refl W)).mono ?_
 rintro e W' ⟨v,O',rfl,hI,rfl,rfl⟩
 exact⟨_,F,IU (tb:=4) laidOut (fun t ht=>by
  rw[Tryz.params6]at ht
  simp only[df,List.not_mem_nil,or_false]at ht
  rcases ht with rfl
  ·exact⟨MU,YH⟩) F Tryz.underlying4 F hW' F F F hI.below⟩

theorem IV (os:Os):laidMet Tryz.prog Rows.compileReturnsRow.laid ((uc os).forCall (fun _ _=>0) ⟨#[],#[.agg #[.int .i64 0,.int .i64 0,.slice none 0 0,.slice none 0 0]],[]⟩).memory:=
 laidMet_of_run' 8 (by kernel_rfl) (by kernel_rfl)
theorem reads (os:Os) {H:Type} (enc:TypeId×Value→H): ∃places,DataW.whole enc Tryz.prog ((uc os).forCall (fun _ _=>0) ⟨#[],#[.agg #[.int .i64 0,.int .i64 0,.slice none 0 0,.slice none 0 0]],[]⟩).memory Tryz.f6.params.toList Rows.compileReturnsSpec.vars false (#[.agg #[.int .i64 0,.int .i64 0,.slice none 0 0,.slice none 0 0]]:Array Value).toList 8=some ([.agg [.lit (.int .i64 0),.lit (.int .i64 0),.nil,.nil]],[],places):=
 ⟨[],by kernel_rfl⟩

set_option maxRecDepth 100000 in
theorem lifted (os:Os) (started:os.Started) (H:Type) (enc:TypeId×Value→H) (aa:Stop.Interp):
  ReturnsInHanded {} Tryz.checked os 6 .any ((OpenSpec.ofChange Rows.compileReturnsSpec).preRow enc Tryz.prog Tryz.f6 Rows.compileReturnsRow.domain false Rows.compileReturnsRow.laid) (((OpenSpec.ofChange Rows.compileReturnsSpec).at aa).post enc Tryz.prog Tryz.f6 false true false false):=by
 obtain⟨places,hx⟩:=reads os enc
 refine returnsInHanded_of_row (C:=Tryz.checked) (s:=OpenSpec.ofChange Rows.compileReturnsSpec) own started (by kernel_rfl) Tryz.func6
  (witness_row_at (enc:=enc) (C:=Tryz.checked) false (uc os) #[.agg #[.int .i64 0,.int .i64 0,.slice none 0 0,.slice none 0 0]] F (by kernel_rfl) (by kernel_rfl) (by kernel_rfl)
   (OpenSpec.preRow_of_cond 8 hx (by kernel_rfl) (fun k hk=>by cases hk) (by kernel_rfl) (IV os))) ?_
 intro W base args ds gs before IS hW _ _ sN hL _ _
 haveI:=Um hL
 exact IR H enc W base args ds gs before IS hW sN

theorem said:Rows.CompileReturnsSaid:=
 OpenClaim.holds_of_cond 6 Tryz.f6 F F F F F F F ⟨F,F,F,F,F⟩ F F F F F (by kernel_rfl) Tryz.func6 (by kernel_rfl)
  (of_decide_eq_true (by kernel_rfl)) (by unfold Func.isWrapper;first|(rw[aR (by decide+kernel)];kernel_rfl)|(rw[ay (by decide+kernel)];exact⟨F,F⟩))
  (fun os started H enc _ aa=>by rw[OpenClaim.pre_eq_preRow];exact lifted os started H enc aa)

theorem plain (f:FuncId) (fn:Func) (hf:Tryz.pinned.checked.prog.funcNamed "sentinel/sentinellaw10.CompileReturns" =some f) (YI:Tryz.pinned.checked.prog.funcs[f]? =some fn):
  false=Tryz.pinned.checked.prog.looks []∧ ∀(j:Nat) t,fn.params[j]? =some t→Tryz.pinned.checked.prog.wantsStandIn t=false:=by
 obtain rfl:f=6:=cZ ((show Tryz.prog.funcNamed "sentinel/sentinellaw10.CompileReturns" =some 6 by kernel_rfl).symm.trans hf)|>.symm
 obtain rfl:fn=Tryz.f6:=(cZ (Tryz.func6.symm.trans YI)).symm
 refine⟨by kernel_rfl,fun j t ht=>?_⟩
 rw[Tryz.params6]at ht
 have hm:t∈[25]:=Array.mem_toList_iff.2 (Array.mem_of_getElem? ht)
 simp only[df,List.not_mem_nil,or_false]at hm
 rcases hm with rfl
 ·exact(show Tryz.prog.wantsStandIn 25=false by kernel_rfl)

/-- THE CARD. -/
theorem card:Rows.CompileReturnsCardSaid:=
 Claim7.holds_tied_plain_at .later [] _ _ _ _ said (fun _ h=>by cases h) (by kernel_rfl) (fun _ h=>by cases h) compileReturns_row_tie rfl ⟨rfl,rfl⟩ (by kernel_rfl) rfl plain (by kernel_rfl)
end Go.Proofs.YtgdbfideeeegmaaGreatDoor.lawCompileReturns


/- CompileEliminates: the law answers true for every input, and leaves its arguments as they were. No condition. -/
import Derived.Test.YtgdbfideeeegmaaGreatDoorA2
import Derived.Test.YtgdbfideeeegmaaGreatDoorA7
import Derived.Test.YtgdbfideeeegmaaGreatDoorB6
set_option linter.unusedSectionVars false
set_option linter.unusedSimpArgs false
set_option linter.unusedVariables false
set_option linter.unnecessarySimpa false
set_option maxHeartbeats 8000000
set_option maxRecDepth 20000
namespace Go.Proofs.YtgdbfideeeegmaaGreatDoor.lawCompileEliminates
open Go.ChangeShapes Go.WideShapes Go.ChangeAt Go.RowKit Go.Lx

set_option maxRecDepth 20000 in
theorem GI (H:Type) (enc:TypeId×Value→H) (W:World) [cG Tryz.prog W] (base:Nat) (args:Array Value) (ds gs:List (DataW H)) (before:List MemPlace)
  (NY: ∀(j:Nat) t v,Tryz.f3.params[j]? =some t→args[j]? =some v→Value.okWide Tryz.prog W .any base t v)
  (hW:DataW.Whole enc Tryz.prog Tryz.f3.params.toList Rows.compileEliminatesSpec.vars false W args.toList ds gs before)
  (Rv:(DataW.weightsEach Tryz.prog (Tryz.f3.params.toList++(OpenSpec.ofChange Rows.compileEliminatesSpec).bare.plain.varTypes Tryz.prog) (ds++gs)).all (· ≤reachBytes)=true):
  Calls Tryz.prog 3 args W fun e W'=> ∃v,e=.returned v∧Rows.compileEliminatesSpec.post enc Tryz.prog Tryz.f3 false true false false W args v W':=by
 have Zx:=hW
 obtain⟨p,q,X3,hV,rfl,X4,jT⟩:=hW
 have hA:DataW.TrodAll enc Tryz.prog W 0 (fun _=>true) true Tryz.f3.params.toList args.toList ds p:=X3
 rw[Tryz.params3]at hA NY Rv
 have qo:=fun m hm=>of_decide_eq_true (List.all_eq_true.1 Rv m hm)
 obtain⟨v0,vs0,d0,ds0,p0,q0,h0s,rfl,rfl,t0,r0⟩:=trodAll_cons hA
 obtain⟨rfl,rfl,rfl⟩:=trodAll_nil r0
 obtain rfl:args= #[v0]:=by cases args;simp_all
 clear X3
 obtain⟨D0,nb0,fb0,nc0,fc0,vv0,Zy⟩:=Rw (fun m hm=>qo _ (DataW.weights_mem_each (j:=0) F F m hm)) t0
 obtain⟨y0,rfl,A0,B0,C0⟩:=zP.dk Zy
 have walk:bw Tryz.prog W 3 [.agg (dC D0 y0).toArray] [] fun v O'=>v=.bool true∧O'=[]:=Ry W D0 y0 A0 B0.1 B0.2.1 B0.2.2
 refine(walk W [] (Inv.refl W)).mono ?_
 rintro e W' ⟨v,O',rfl,hI,rfl,rfl⟩
 exact⟨_,F,GJ (tb:=4) laidOut (fun t ht=>by
  rw[Tryz.params3]at ht
  simp only[List.mem_cons,List.not_mem_nil,or_false]at ht
  rcases ht with rfl
  ·exact⟨Km,V5⟩) F Tryz.underlying4 F Zx F F F hI.below⟩

theorem GK (os:Os):laidMet Tryz.prog Rows.compileEliminatesRow.laid ((sA os).forCall (fun _ _=>0) ⟨#[],#[.agg #[.int .i64 0,.int .i64 0,.slice none 0 0,.slice none 0 0]],[]⟩).memory:=
 laidMet_of_run' 8 (by kernel_rfl) (by kernel_rfl)
theorem reads (os:Os) {H:Type} (enc:TypeId×Value→H): ∃places,DataW.whole enc Tryz.prog ((sA os).forCall (fun _ _=>0) ⟨#[],#[.agg #[.int .i64 0,.int .i64 0,.slice none 0 0,.slice none 0 0]],[]⟩).memory Tryz.f3.params.toList Rows.compileEliminatesSpec.vars false (#[.agg #[.int .i64 0,.int .i64 0,.slice none 0 0,.slice none 0 0]]:Array Value).toList 8=some ([.agg [.lit (.int .i64 0),.lit (.int .i64 0),.nil,.nil]],[],places):=
 ⟨[],by kernel_rfl⟩

set_option maxRecDepth 100000 in
theorem lifted (os:Os) (started:os.Started) (H:Type) (enc:TypeId×Value→H) (aa:Stop.Interp):
  ReturnsInHanded {} Tryz.checked os 3 .any ((OpenSpec.ofChange Rows.compileEliminatesSpec).preRow enc Tryz.prog Tryz.f3 Rows.compileEliminatesRow.domain false Rows.compileEliminatesRow.laid) (((OpenSpec.ofChange Rows.compileEliminatesSpec).at aa).post enc Tryz.prog Tryz.f3 false true false false):=by
 obtain⟨places,hx⟩:=reads os enc
 refine returnsInHanded_of_row (C:=Tryz.checked) (s:=OpenSpec.ofChange Rows.compileEliminatesSpec) own started (by kernel_rfl) Tryz.func3
  (witness_row_at (enc:=enc) (C:=Tryz.checked) false (sA os) #[.agg #[.int .i64 0,.int .i64 0,.slice none 0 0,.slice none 0 0]] F (by kernel_rfl) (by kernel_rfl) (by kernel_rfl)
   (OpenSpec.preRow_of_cond 8 hx (by kernel_rfl) (fun k hk=>by cases hk) (by kernel_rfl) (GK os))) ?_
 intro W base args ds gs before NY hW _ _ qo hL _ _
 haveI:=Rz hL
 exact GI H enc W base args ds gs before NY hW qo

theorem said:Rows.CompileEliminatesSaid:=
 OpenClaim.holds_of_cond 3 Tryz.f3 F F F F F F F ⟨F,F,F,F,F⟩ F F F F F (by kernel_rfl) Tryz.func3 (by kernel_rfl)
  (of_decide_eq_true (by kernel_rfl)) (by unfold Func.isWrapper;first|(rw[if_pos (by decide+kernel)];kernel_rfl)|(rw[if_neg (by decide+kernel)];exact⟨F,F⟩))
  (fun os started H enc _ aa=>by rw[OpenClaim.pre_eq_preRow];exact lifted os started H enc aa)

theorem plain (f:FuncId) (fn:Func) (hf:Tryz.pinned.checked.prog.funcNamed "sentinel/sentinellaw10.CompileEliminates" =some f) (V6:Tryz.pinned.checked.prog.funcs[f]? =some fn):
  false=Tryz.pinned.checked.prog.looks []∧ ∀(j:Nat) t,fn.params[j]? =some t→Tryz.pinned.checked.prog.wantsStandIn t=false:=by
 obtain rfl:f=3:=Option.some.inj ((show Tryz.prog.funcNamed "sentinel/sentinellaw10.CompileEliminates" =some 3 by kernel_rfl).symm.trans hf)|>.symm
 obtain rfl:fn=Tryz.f3:=(Option.some.inj (Tryz.func3.symm.trans V6)).symm
 refine⟨by kernel_rfl,fun j t ht=>?_⟩
 rw[Tryz.params3]at ht
 have hm:t∈[25]:=Array.mem_toList_iff.2 (Array.mem_of_getElem? ht)
 simp only[List.mem_cons,List.not_mem_nil,or_false]at hm
 rcases hm with rfl
 ·exact(show Tryz.prog.wantsStandIn 25=false by kernel_rfl)

/-- THE CARD. -/
theorem card:Rows.CompileEliminatesCardSaid:=
 Claim7.holds_tied_plain_at .later [] _ _ _ _ said (fun _ h=>by cases h) (by kernel_rfl) (fun _ h=>by cases h) compileEliminates_row_tie rfl ⟨rfl,rfl⟩ (by kernel_rfl) rfl plain (by kernel_rfl)
end Go.Proofs.YtgdbfideeeegmaaGreatDoor.lawCompileEliminates


/- Contracts of functions of the program, and what they answer. Conditions: those each theorem names. -/
import Derived.Test.YtgdbfideeeegmaaGreatDoorA2
import Derived.Test.YtgdbfideeeegmaaGreatDoorA5
import Derived.Test.YtgdbfideeeegmaaGreatDoorB5
set_option linter.unusedSectionVars false
set_option linter.unusedSimpArgs false
set_option linter.unusedVariables false
set_option linter.unnecessarySimpa false
set_option maxHeartbeats 8000000
set_option maxRecDepth 20000
namespace Go.Proofs.YtgdbfideeeegmaaGreatDoor.lawCompileBudgets
open Go.ChangeShapes Go.WideShapes Go.ChangeAt Go.RowKit Go.Lx

set_option maxRecDepth 20000 in
theorem GK (H:Type) (enc:TypeId×Value→H) (W:World) [cG Tryz.prog W] (base:Nat) (args:Array Value) (ds gs:List (DataW H)) (before:List MemPlace)
  (pC: ∀(j:Nat) t v,Tryz.f4.params[j]? =some t→args[j]? =some v→Value.okWide Tryz.prog W .any base t v)
  (hW:DataW.Whole enc Tryz.prog Tryz.f4.params.toList Rows.compileBudgetsSpec.vars false W args.toList ds gs before)
  (RD:(DataW.weightsEach Tryz.prog (Tryz.f4.params.toList++(OpenSpec.ofChange Rows.compileBudgetsSpec).bare.plain.varTypes Tryz.prog) (ds++gs)).all (· ≤reachBytes)=true):
  Calls Tryz.prog 4 args W fun e W'=> ∃v,e=.returned v∧Rows.compileBudgetsSpec.post enc Tryz.prog Tryz.f4 false true false false W args v W':=by
 have Z1:=hW
 obtain⟨p,q,Yn,hV,rfl,Yo,jO⟩:=hW
 have hA:DataW.TrodAll enc Tryz.prog W 0 (fun _=>true) true Tryz.f4.params.toList args.toList ds p:=Yn
 rw[Tryz.params4]at hA pC RD
 have rZ:=fun m hm=>of_decide_eq_true (List.all_eq_true.1 RD m hm)
 obtain⟨v0,vs0,d0,ds0,p0,q0,h0s,rfl,rfl,t0,r0⟩:=trodAll_cons hA
 obtain⟨v1,Z2,d1,Z3,p1,q1,Z4,rfl,rfl,t1,r1⟩:=trodAll_cons r0
 obtain⟨v2,vs2,d2,ds2,p2,q2,Z5,rfl,rfl,t2,r2⟩:=trodAll_cons r1
 obtain⟨rfl,rfl,rfl⟩:=trodAll_nil r2
 obtain rfl:=Z4
 obtain rfl:=Z5
 obtain rfl:args= #[v0,v1,v2]:=by cases args;simp_all
 clear Yn
 obtain⟨Yp,Yq,e0,rfl,MJ,wQ,GL,Yr⟩:=Oc (pC 0 32 v0 F F) (fun m hm=>rZ _ (DataW.weights_mem_each (j:=0) F F m hm)) t0
 obtain⟨k1,rfl,rfl,rfl,w1⟩:=open_int Tryz.underlying3 (pC 1 3 v1 F F) t1
 obtain⟨k2,rfl,rfl,rfl,w2⟩:=open_int Tryz.underlying3 (pC 2 3 v2 F F) t2
 have walk:bm Tryz.prog W 4 [.slice Yp e0.length Yq,.int .i64 k1,.int .i64 k2] [] fun v O'=>v=.bool true∧O'=[]:=GM W Yp Yq e0 GL (V0 MJ) Yr k1 k2
 refine(walk W [] (Inv.refl W)).mono ?_
 rintro e W' ⟨v,O',rfl,hI,rfl,rfl⟩
 exact⟨_,F,GN (tb:=4) laidOut (fun t ht=>by
  rw[Tryz.params4]at ht
  simp only[List.mem_cons,List.not_mem_nil,or_false]at ht
  rcases ht with rfl|rfl|rfl
  ·exact⟨KA,V1⟩
  ·exact⟨GO,Ys⟩
  ·exact⟨GO,Ys⟩) F Tryz.underlying4 F Z1 F F F hI.below⟩

theorem GP (os:Os):laidMet Tryz.prog Rows.compileBudgetsRow.laid ((r5 os).forCall (fun _ _=>0) ⟨#[],#[.slice none 0 0,.int .i64 0,.int .i64 0],[]⟩).memory:=
 laidMet_of_run' 8 (by kernel_rfl) (by kernel_rfl)
theorem reads (os:Os) {H:Type} (enc:TypeId×Value→H): ∃places,DataW.whole enc Tryz.prog ((r5 os).forCall (fun _ _=>0) ⟨#[],#[.slice none 0 0,.int .i64 0,.int .i64 0],[]⟩).memory Tryz.f4.params.toList Rows.compileBudgetsSpec.vars false (#[.slice none 0 0,.int .i64 0,.int .i64 0]:Array Value).toList 8=some ([.nil,.lit (.int .i64 0),.lit (.int .i64 0)],[],places):=
 ⟨[],by kernel_rfl⟩

set_option maxRecDepth 100000 in
theorem lifted (os:Os) (started:os.Started) (H:Type) (enc:TypeId×Value→H) (aa:Stop.Interp):
  ReturnsInHanded {} Tryz.checked os 4 .any ((OpenSpec.ofChange Rows.compileBudgetsSpec).preRow enc Tryz.prog Tryz.f4 Rows.compileBudgetsRow.domain false Rows.compileBudgetsRow.laid) (((OpenSpec.ofChange Rows.compileBudgetsSpec).at aa).post enc Tryz.prog Tryz.f4 false true false false):=by
 obtain⟨places,hx⟩:=reads os enc
 refine returnsInHanded_of_row (C:=Tryz.checked) (s:=OpenSpec.ofChange Rows.compileBudgetsSpec) own started (by kernel_rfl) Tryz.func4
  (witness_row_at (enc:=enc) (C:=Tryz.checked) false (r5 os) #[.slice none 0 0,.int .i64 0,.int .i64 0] F (by kernel_rfl) (by kernel_rfl) (by kernel_rfl)
   (OpenSpec.preRow_of_cond 8 hx (by kernel_rfl) (fun k hk=>by cases hk) (by kernel_rfl) (GP os))) ?_
 intro W base args ds gs before pC hW _ _ rZ hL _ _
 haveI:=RE hL
 exact GK H enc W base args ds gs before pC hW rZ

theorem said:Rows.CompileBudgetsSaid:=
 OpenClaim.holds_of_cond 4 Tryz.f4 F F F F F F F ⟨F,F,F,F,F⟩ F F F F F (by kernel_rfl) Tryz.func4 (by kernel_rfl)
  (of_decide_eq_true (by kernel_rfl)) (by unfold Func.isWrapper;first|(rw[if_pos (by decide+kernel)];kernel_rfl)|(rw[if_neg (by decide+kernel)];exact⟨F,F⟩))
  (fun os started H enc _ aa=>by rw[OpenClaim.pre_eq_preRow];exact lifted os started H enc aa)

theorem plain (f:FuncId) (fn:Func) (hf:Tryz.pinned.checked.prog.funcNamed "sentinel/sentinellaw10.CompileBudgets" =some f) (V2:Tryz.pinned.checked.prog.funcs[f]? =some fn):
  false=Tryz.pinned.checked.prog.looks []∧ ∀(j:Nat) t,fn.params[j]? =some t→Tryz.pinned.checked.prog.wantsStandIn t=false:=by
 obtain rfl:f=4:=Option.some.inj ((show Tryz.prog.funcNamed "sentinel/sentinellaw10.CompileBudgets" =some 4 by kernel_rfl).symm.trans hf)|>.symm
 obtain rfl:fn=Tryz.f4:=(Option.some.inj (Tryz.func4.symm.trans V2)).symm
 refine⟨by kernel_rfl,fun j t ht=>?_⟩
 rw[Tryz.params4]at ht
 have hm:t∈[32,3,3]:=Array.mem_toList_iff.2 (Array.mem_of_getElem? ht)
 simp only[List.mem_cons,List.not_mem_nil,or_false]at hm
 rcases hm with rfl|rfl|rfl
 ·exact(show Tryz.prog.wantsStandIn 32=false by kernel_rfl)
 ·exact(show Tryz.prog.wantsStandIn 3=false by kernel_rfl)
 ·exact(show Tryz.prog.wantsStandIn 3=false by kernel_rfl)

/-- THE CARD. -/
theorem card:Rows.CompileBudgetsCardSaid:=
 Claim7.holds_tied_plain_at .later [] _ _ _ _ said (fun _ h=>by cases h) (by kernel_rfl) (fun _ h=>by cases h) compileBudgets_row_tie rfl ⟨rfl,rfl⟩ (by kernel_rfl) rfl plain (by kernel_rfl)
end Go.Proofs.YtgdbfideeeegmaaGreatDoor.lawCompileBudgets


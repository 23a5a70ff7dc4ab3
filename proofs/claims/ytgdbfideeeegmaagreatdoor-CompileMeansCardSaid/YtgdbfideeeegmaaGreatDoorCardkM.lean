/- CompileMeans: the law answers true for every input, and leaves its arguments as they were. No condition. -/
import Derived.Test.YtgdbfideeeegmaaGreatDoorA9
set_option linter.unusedSectionVars false
set_option linter.unusedSimpArgs false
set_option linter.unusedVariables false
set_option linter.unnecessarySimpa false
set_option maxHeartbeats 8000000
set_option maxRecDepth 20000
namespace Go.Proofs.YtgdbfideeeegmaaGreatDoor.lawCompileMeans
open Go.ChangeShapes Go.WideShapes Go.ChangeAt Go.RowKit Go.Lx

set_option maxRecDepth 20000 in
theorem KT (H:Type) (enc:TypeId×Value→H) (W:World) [dA Tryz.prog W] (base:Nat) (args:Array Value) (ds gs:List (DataW H)) (before:List MemPlace)
  (mT: ∀(j:Nat) t v,Tryz.f8.params[j]? =some t→args[j]? =some v→Value.okWide Tryz.prog W .any base t v)
  (hW:DataW.Whole enc Tryz.prog Tryz.f8.params.toList Rows.compileMeansSpec.vars false W args.toList ds gs before)
  (XA:(DataW.weightsEach Tryz.prog (Tryz.f8.params.toList++(OpenSpec.ofChange Rows.compileMeansSpec).bare.plain.varTypes Tryz.prog) (ds++gs)).all (· ≤reachBytes)=true):
  Calls Tryz.prog 8 args W fun e W'=> ∃v,e=.returned v∧Rows.compileMeansSpec.post enc Tryz.prog Tryz.f8 false true false false W args v W':=by
 have hW':=hW
 obtain⟨p,q,hA0,hV,rfl,hfz,lZ⟩:=hW
 have hA:DataW.TrodAll enc Tryz.prog W 0 (fun _=>true) true Tryz.f8.params.toList args.toList ds p:=hA0
 rw[Tryz.params8]at hA mT XA
 have rD:=fun m hm=>of_decide_eq_true (List.all_eq_true.1 XA m hm)
 obtain⟨v0,vs0,d0,ds0,p0,q0,h0s,rfl,rfl,t0,r0⟩:=trodAll_cons hA
 obtain⟨v1,vs1,d1,ds1,p1,q1,h1s,rfl,rfl,t1,r1⟩:=trodAll_cons r0
 obtain⟨v2,vs2,d2,ds2,p2,q2,h2s,rfl,rfl,t2,r2⟩:=trodAll_cons r1
 obtain⟨rfl,rfl,rfl⟩:=trodAll_nil r2
 obtain rfl:=h1s
 obtain rfl:=h2s
 obtain rfl:args= #[v0,v1,v2]:=by cases args;simp_all
 clear hA0
 obtain⟨rb0,rc0,e0,rfl,Ks,Ah,KU,hp0⟩:=Tz (mT 0 32 v0 F F) (fun m hm=>rD _ (DataW.weights_mem_each (j:=0) F F m hm)) t0
 obtain⟨k1,rfl,rfl,rfl,w1⟩:=open_int Tryz.underlying3 (mT 1 3 v1 F F) t1
 obtain⟨l2,wb2,RX,rfl,hW2,agY⟩:=XB (mT 2 43 v2 F F) (fun m hm=>rD _ (DataW.weights_mem_each (j:=2) F F m hm)) t2
 have walk:cj Tryz.prog W 8 [.slice rb0 e0.length rc0,.int .i64 k1,.slice wb2 l2.length RX] [] fun v O'=>v=.bool true∧O'=[]:=TC W rb0 rc0 e0 KU (ab8 Ks) hp0 k1 wb2 RX l2 hW2.1 hW2.2
 refine(walk W [] (Inv.refl W)).mono ?_
 rintro e W' ⟨v,O',rfl,hI,rfl,rfl⟩
 exact⟨_,F,KV (tb:=4) laidOut (fun t ht=>by
  rw[Tryz.params8]at ht
  simp only[dm,List.not_mem_nil,or_false]at ht
  rcases ht with rfl|rfl|rfl
  ·exact⟨Pw,ab9⟩
  ·exact⟨TD,lt3⟩
  ·exact⟨Px,ab_⟩) F Tryz.underlying4 F hW' F F F hI.below⟩

theorem KW (os:Os):laidMet Tryz.prog Rows.compileMeansRow.laid ((uY os).forCall (fun _ _=>0) ⟨#[],#[.slice none 0 0,.int .i64 0,.slice none 0 0],[]⟩).memory:=
 laidMet_of_run' 8 (by kernel_rfl) (by kernel_rfl)
theorem reads (os:Os) {H:Type} (enc:TypeId×Value→H): ∃places,DataW.whole enc Tryz.prog ((uY os).forCall (fun _ _=>0) ⟨#[],#[.slice none 0 0,.int .i64 0,.slice none 0 0],[]⟩).memory Tryz.f8.params.toList Rows.compileMeansSpec.vars false (#[.slice none 0 0,.int .i64 0,.slice none 0 0]:Array Value).toList 8=some ([.nil,.lit (.int .i64 0),.nil],[],places):=
 ⟨[],by kernel_rfl⟩

set_option maxRecDepth 100000 in
theorem lifted (os:Os) (started:os.Started) (H:Type) (enc:TypeId×Value→H) (ad:Stop.Interp):
  ReturnsInHanded {} Tryz.checked os 8 .any ((OpenSpec.ofChange Rows.compileMeansSpec).preRow enc Tryz.prog Tryz.f8 Rows.compileMeansRow.domain false Rows.compileMeansRow.laid) (((OpenSpec.ofChange Rows.compileMeansSpec).at ad).post enc Tryz.prog Tryz.f8 false true false false):=by
 obtain⟨places,hx⟩:=reads os enc
 refine returnsInHanded_of_row (C:=Tryz.checked) (s:=OpenSpec.ofChange Rows.compileMeansSpec) own started (by kernel_rfl) Tryz.func8
  (witness_row_at (enc:=enc) (C:=Tryz.checked) false (uY os) #[.slice none 0 0,.int .i64 0,.slice none 0 0] F (by kernel_rfl) (by kernel_rfl) (by kernel_rfl)
   (OpenSpec.preRow_of_cond 8 hx (by kernel_rfl) (fun k hk=>by cases hk) (by kernel_rfl) (KW os))) ?_
 intro W base args ds gs before mT hW _ _ rD hL _ _
 haveI:=XC hL
 exact KT H enc W base args ds gs before mT hW rD

theorem said:Rows.CompileMeansSaid:=
 OpenClaim.holds_of_cond 8 Tryz.f8 F F F F F F F ⟨F,F,F,F,F⟩ F F F F F (by kernel_rfl) Tryz.func8 (by kernel_rfl)
  (of_decide_eq_true (by kernel_rfl)) (by unfold Func.isWrapper;first|(rw[aJ (by decide+kernel)];kernel_rfl)|(rw[aA (by decide+kernel)];exact⟨F,F⟩))
  (fun os started H enc _ ad=>by rw[OpenClaim.pre_eq_preRow];exact lifted os started H enc ad)

theorem plain (f:FuncId) (fn:Func) (hf:Tryz.pinned.checked.prog.funcNamed "sentinel/sentinellaw10.CompileMeans" =some f) (hfn:Tryz.pinned.checked.prog.funcs[f]? =some fn):
  false=Tryz.pinned.checked.prog.looks []∧ ∀(j:Nat) t,fn.params[j]? =some t→Tryz.pinned.checked.prog.wantsStandIn t=false:=by
 obtain rfl:f=8:=db ((show Tryz.prog.funcNamed "sentinel/sentinellaw10.CompileMeans" =some 8 by kernel_rfl).symm.trans hf)|>.symm
 obtain rfl:fn=Tryz.f8:=(db (Tryz.func8.symm.trans hfn)).symm
 refine⟨by kernel_rfl,fun j t ht=>?_⟩
 rw[Tryz.params8]at ht
 have hm:t∈[32,3,43]:=Array.mem_toList_iff.2 (Array.mem_of_getElem? ht)
 simp only[dm,List.not_mem_nil,or_false]at hm
 rcases hm with rfl|rfl|rfl
 ·exact(show Tryz.prog.wantsStandIn 32=false by kernel_rfl)
 ·exact(show Tryz.prog.wantsStandIn 3=false by kernel_rfl)
 ·exact(show Tryz.prog.wantsStandIn 43=false by kernel_rfl)

/-- THE CARD. -/
theorem card:Rows.CompileMeansCardSaid:=
 Claim7.holds_tied_plain_at .later [] _ _ _ _ said (fun _ h=>by cases h) (by kernel_rfl) (fun _ h=>by cases h) compileMeans_row_tie rfl ⟨rfl,rfl⟩ (by kernel_rfl) rfl plain (by kernel_rfl)
end Go.Proofs.YtgdbfideeeegmaaGreatDoor.lawCompileMeans


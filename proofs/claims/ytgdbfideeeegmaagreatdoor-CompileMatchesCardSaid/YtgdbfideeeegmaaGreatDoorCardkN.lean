/- CompileMatches: the law answers true for every input, and leaves its arguments as they were. No condition. -/
import Derived.Test.YtgdbfideeeegmaaGreatDoorB2
set_option linter.unusedSectionVars false
set_option linter.unusedSimpArgs false
set_option linter.unusedVariables false
set_option linter.unnecessarySimpa false
set_option maxHeartbeats 8000000
set_option maxRecDepth 20000
namespace Go.Proofs.YtgdbfideeeegmaaGreatDoor.lawCompileMatches
open Go.ChangeShapes Go.WideShapes Go.ChangeAt Go.RowKit Go.Lx

set_option maxRecDepth 20000 in
theorem LY (H:Type) (enc:TypeId×Value→H) (W:World) [dQ Tryz.prog W] (base:Nat) (args:Array Value) (ds gs:List (DataW H)) (before:List MemPlace)
  (nm: ∀(j:Nat) t v,Tryz.f5.params[j]? =some t→args[j]? =some v→Value.okWide Tryz.prog W .any base t v)
  (hW:DataW.Whole enc Tryz.prog Tryz.f5.params.toList Rows.compileMatchesSpec.vars false W args.toList ds gs before)
  (YJ:(DataW.weightsEach Tryz.prog (Tryz.f5.params.toList++(OpenSpec.ofChange Rows.compileMatchesSpec).bare.plain.varTypes Tryz.prog) (ds++gs)).all (· ≤reachBytes)=true):
  Calls Tryz.prog 5 args W fun e W'=> ∃v,e=.returned v∧Rows.compileMatchesSpec.post enc Tryz.prog Tryz.f5 false true false false W args v W':=by
 have hW':=hW
 obtain⟨p,q,hA0,hV,rfl,hfz,my⟩:=hW
 have hA:DataW.TrodAll enc Tryz.prog W 0 (fun _=>true) true Tryz.f5.params.toList args.toList ds p:=hA0
 rw[Tryz.params5]at hA nm YJ
 have qX:=fun m hm=>of_decide_eq_true (List.all_eq_true.1 YJ m hm)
 obtain⟨v0,vs0,d0,ds0,p0,q0,h0s,rfl,rfl,t0,r0⟩:=trodAll_cons hA
 obtain⟨v1,vs1,d1,ds1,p1,q1,h1s,rfl,rfl,t1,r1⟩:=trodAll_cons r0
 obtain⟨v2,vs2,d2,ds2,p2,q2,h2s,rfl,rfl,t2,r2⟩:=trodAll_cons r1
 obtain⟨v3,vs3,d3,ds3,p3,q3,h3s,rfl,rfl,t3,r3⟩:=trodAll_cons r2
 obtain⟨rfl,rfl,rfl⟩:=trodAll_nil r3
 obtain rfl:=h1s
 obtain rfl:=h2s
 obtain rfl:=h3s
 obtain rfl:args= #[v0,v1,v2,v3]:=by cases args;simp_all
 clear hA0
 obtain⟨rb0,rc0,e0,rfl,HL,AW,LZ,hp0⟩:=UV (nm 0 32 v0 F F) (fun m hm=>qX _ (DataW.weights_mem_each (j:=0) F F m hm)) t0
 obtain⟨k1,rfl,rfl,rfl,w1⟩:=open_int Tryz.underlying3 (nm 1 3 v1 F F) t1
 obtain⟨k2,rfl,rfl,rfl,w2⟩:=open_int Tryz.underlying3 (nm 2 3 v2 F F) t2
 obtain⟨l3,wb3,wc3,rfl,hW3,aiu⟩:=YK (nm 3 43 v3 F F) (fun m hm=>qX _ (DataW.weights_mem_each (j:=3) F F m hm)) t3
 have walk:cx Tryz.prog W 5 [.slice rb0 e0.length rc0,.int .i64 k1,.int .i64 k2,.slice wb3 l3.length wc3] [] fun v O'=>v=.bool true∧O'=[]:=L0 W rb0 rc0 e0 LZ (adi HL) hp0 k1 k2 wb3 wc3 l3 hW3.1 hW3.2
 refine(walk W [] (Inv.refl W)).mono ?_
 rintro e W' ⟨v,O',rfl,hI,rfl,rfl⟩
 exact⟨_,F,L1 (tb:=4) laidOut (fun t ht=>by
  rw[Tryz.params5]at ht
  simp only[dt,List.not_mem_nil,or_false]at ht
  rcases ht with rfl|rfl|rfl|rfl
  ·exact⟨QO,adj⟩
  ·exact⟨L2,lt3⟩
  ·exact⟨L2,lt3⟩
  ·exact⟨QP,adk⟩) F Tryz.underlying4 F hW' F F F hI.below⟩

theorem L3 (os:Os):laidMet Tryz.prog Rows.compileMatchesRow.laid ((vO os).forCall (fun _ _=>0) ⟨#[],#[.slice none 0 0,.int .i64 0,.int .i64 0,.slice none 0 0],[]⟩).memory:=
 laidMet_of_run' 8 (by kernel_rfl) (by kernel_rfl)
theorem reads (os:Os) {H:Type} (enc:TypeId×Value→H): ∃places,DataW.whole enc Tryz.prog ((vO os).forCall (fun _ _=>0) ⟨#[],#[.slice none 0 0,.int .i64 0,.int .i64 0,.slice none 0 0],[]⟩).memory Tryz.f5.params.toList Rows.compileMatchesSpec.vars false (#[.slice none 0 0,.int .i64 0,.int .i64 0,.slice none 0 0]:Array Value).toList 8=some ([.nil,.lit (.int .i64 0),.lit (.int .i64 0),.nil],[],places):=
 ⟨[],by kernel_rfl⟩

set_option maxRecDepth 100000 in
theorem lifted (os:Os) (started:os.Started) (H:Type) (enc:TypeId×Value→H) (ad:Stop.Interp):
  ReturnsInHanded {} Tryz.checked os 5 .any ((OpenSpec.ofChange Rows.compileMatchesSpec).preRow enc Tryz.prog Tryz.f5 Rows.compileMatchesRow.domain false Rows.compileMatchesRow.laid) (((OpenSpec.ofChange Rows.compileMatchesSpec).at ad).post enc Tryz.prog Tryz.f5 false true false false):=by
 obtain⟨places,hx⟩:=reads os enc
 refine returnsInHanded_of_row (C:=Tryz.checked) (s:=OpenSpec.ofChange Rows.compileMatchesSpec) own started (by kernel_rfl) Tryz.func5
  (witness_row_at (enc:=enc) (C:=Tryz.checked) false (vO os) #[.slice none 0 0,.int .i64 0,.int .i64 0,.slice none 0 0] F (by kernel_rfl) (by kernel_rfl) (by kernel_rfl)
   (OpenSpec.preRow_of_cond 8 hx (by kernel_rfl) (fun k hk=>by cases hk) (by kernel_rfl) (L3 os))) ?_
 intro W base args ds gs before nm hW _ _ qX hL _ _
 haveI:=YL hL
 exact LY H enc W base args ds gs before nm hW qX

theorem said:Rows.CompileMatchesSaid:=
 OpenClaim.holds_of_cond 5 Tryz.f5 F F F F F F F ⟨F,F,F,F,F⟩ F F F F F (by kernel_rfl) Tryz.func5 (by kernel_rfl)
  (of_decide_eq_true (by kernel_rfl)) (by unfold Func.isWrapper;first|(rw[aB (by decide+kernel)];kernel_rfl)|(rw[aq (by decide+kernel)];exact⟨F,F⟩))
  (fun os started H enc _ ad=>by rw[OpenClaim.pre_eq_preRow];exact lifted os started H enc ad)

theorem plain (f:FuncId) (fn:Func) (hf:Tryz.pinned.checked.prog.funcNamed "sentinel/sentinellaw10.CompileMatches" =some f) (hfn:Tryz.pinned.checked.prog.funcs[f]? =some fn):
  false=Tryz.pinned.checked.prog.looks []∧ ∀(j:Nat) t,fn.params[j]? =some t→Tryz.pinned.checked.prog.wantsStandIn t=false:=by
 obtain rfl:f=5:=dn ((show Tryz.prog.funcNamed "sentinel/sentinellaw10.CompileMatches" =some 5 by kernel_rfl).symm.trans hf)|>.symm
 obtain rfl:fn=Tryz.f5:=(dn (Tryz.func5.symm.trans hfn)).symm
 refine⟨by kernel_rfl,fun j t ht=>?_⟩
 rw[Tryz.params5]at ht
 have hm:t∈[32,3,3,43]:=Array.mem_toList_iff.2 (Array.mem_of_getElem? ht)
 simp only[dt,List.not_mem_nil,or_false]at hm
 rcases hm with rfl|rfl|rfl|rfl
 ·exact(show Tryz.prog.wantsStandIn 32=false by kernel_rfl)
 ·exact(show Tryz.prog.wantsStandIn 3=false by kernel_rfl)
 ·exact(show Tryz.prog.wantsStandIn 3=false by kernel_rfl)
 ·exact(show Tryz.prog.wantsStandIn 43=false by kernel_rfl)

/-- THE CARD. -/
theorem card:Rows.CompileMatchesCardSaid:=
 Claim7.holds_tied_plain_at .later [] _ _ _ _ said (fun _ h=>by cases h) (by kernel_rfl) (fun _ h=>by cases h) compileMatches_row_tie rfl ⟨rfl,rfl⟩ (by kernel_rfl) rfl plain (by kernel_rfl)
end Go.Proofs.YtgdbfideeeegmaaGreatDoor.lawCompileMatches


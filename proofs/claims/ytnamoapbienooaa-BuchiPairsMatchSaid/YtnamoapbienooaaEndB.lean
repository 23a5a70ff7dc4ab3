/- Contracts of functions of the program (BAlw, BAwk, BLw0, Close, CloseB, EndB): what each call answers and that it leaves memory as it was. Conditions: those each theorem names. -/
import Derived.Test.YtnamoapbienooaaAwB
import Derived.Test.YtnamoapbienooaaLv
import Derived.Test.YtnamoapbienooaaBLive
import Derived.Test.YtnamoapbienooaaBCan
import Derived.OpenShut
import Derived.Deep.DeepHandedRow
import Derived.Deep.Matrix
import Derived.Deep.Grids
import Derived.WideKeyArgs
import Derived.SizedLaws
import Derived.Test.YtnamoapbienooaaCoreK
import Derived.Deep.Slices
import Derived.Test.YtnamoapbienooaaRows
import Derived.WalkKit
import Derived.ProofKit
import Derived.Lib.LaidTab
set_option linter.unusedSectionVars false
set_option linter.unusedSimpArgs false
set_option linter.unusedVariables false
set_option linter.unnecessarySimpa false
set_option maxRecDepth 20000
set_option maxHeartbeats 4000000
namespace Go.Proofs.Ytnamoapbienooaa
open Go.Lx Go.RowKit
set_option linter.unusedVariables false
set_option linter.unusedSimpArgs false
theorem alwaysF (w : World) :
  PureT Try.prog 44 [] w fun v N => ∃ sb eb tb qb, v = .agg (buC alwB sb 1 eb 3 tb 1).toArray ∧ N = [rowI sb 1 3 1 (ints alwB.start), rowI eb 3 54 4 (edsC alwB.edges), rowI tb 1 22 1 [.slice qb 1 1], rowI qb 1 3 1 (ints [1])] := by
 refine CallT.enter Try.func44 rfl Try.ntmps44 rfl ?_
 refine T.seq (T.rg (TO.l rfl (l_alloc inf26 rfl (fun bx1 => ?_))))
 refine TO.nil (T.seq (T.rg (TO.l rfl (l_build1 (v := .int .i64 0) Try.underlying22 inf3 rfl rfl rfl (fun bx2 => ?_)))))
 refine TO.q (q_build (cs := [.int .i64 0, .int .i64 0, (.int .u8 0), (.int .u8 0)]) plan54 inf54 (by kernel_rfl)) (TO.q (q_build (cs := [.int .i64 0, .int .i64 1, .int .u8 1, (.int .u8 0)]) plan54 inf54 (by kernel_rfl)) (TO.q (q_build (cs := [.int .i64 1, .int .i64 1, .int .u8 1, (.int .u8 0)]) plan54 inf54 (by kernel_rfl)) (TO.l rfl (l_buildSlice (m := 3) (parts := [(0, _), (1, _), (2, _)]) (cs := [.int .i64 0, .int .i64 0, (.int .u8 0), (.int .u8 0), .int .i64 0, .int .i64 1, .int .u8 1, (.int .u8 0), .int .i64 1, .int .i64 1, .int .u8 1, (.int .u8 0)]) Try.underlying23 inf54 (by decide) (by kernel_rfl) rfl (fun bx3 => ?_)))))
 refine TO.l rfl (l_build1 (v := .int .i64 1) Try.underlying22 inf3 rfl rfl rfl (fun bx4 => ?_))
 refine TO.l rfl (l_build1 (v := (.slice (aD bx4) 1 1)) Try.underlying24 inf22 rfl rfl rfl (fun bx5 => ?_))
 refine TO.q (q_build (cs := [.int .i64 1, .int .i64 2, (.slice (aD bx2) 1 1), (.slice (aD bx3) 3 3), (.slice (aD bx5) 1 1)]) plan26 inf26 (by kernel_rfl)) (TO.l rfl (l_sb (v := (.agg #[.int .i64 1, .int .i64 2, (.slice (aD bx2) 1 1), (.slice (aD bx3) 3 3), (.slice (aD bx5) 1 1)])) (vs := [.int .i64 1, .int .i64 2, (.slice (aD bx2) 1 1), (.slice (aD bx3) 3 3), (.slice (aD bx5) 1 1)]) 4 inf26 rfl rfl rfl rfl rfl rfl (by simp [putL]) ?_))
 refine TO.nil (T.ret (Res.drop ?_))
 refine Res.cell1 (i := 4) Try.results44 Try.underlying26 rfl inf26 rfl rfl rfl ?_
 exact ⟨[rowI (aD bx2) 1 3 1 [.int .i64 0], rowI (aD bx3) 3 54 4 [.int .i64 0, .int .i64 0, (.int .u8 0), (.int .u8 0), .int .i64 0, .int .i64 1, .int .u8 1, (.int .u8 0), .int .i64 1, .int .i64 1, .int .u8 1, (.int .u8 0)], rowI (aD bx5) 1 22 1 [(.slice (aD bx4) 1 1)], rowI (aD bx4) 1 3 1 [.int .i64 1]], (Sub.pick [3, 2, 0, 0] rfl), _, _, _, _, rfl, rfl⟩
theorem accAlw1 (w : World) (sb eb tb : Option Addr) (sc ec tc : Nat) (vs : List Value) (h : BuAt w alwB sb eb tb vs) (pb lb : Option Addr) (pc lc : Nat) (h2 : LaAt w la1 pb lb pc lc) :
  PureT Try.prog 17 [.agg (buC alwB sb sc eb ec tb tc).toArray, .agg (laC la1 pb pc lb lc).toArray] w fun v N => v = .tuple #[.bool true, .int .i64 0] ∧ N = [] := by
 have h9 := acceptsF w alwB sb eb tb sc ec tc vs h alwB_B la1 pb lb pc lc h2 ⟨by decide, by decide, by decide, by decide⟩ (by decide)
 rw [(accV_iff alwB_check la1_check).2 la1_acc, show accE alwB la1 = 0 from rfl] at h9
 exact h9
theorem accAlw2 (w : World) (sb eb tb : Option Addr) (sc ec tc : Nat) (vs : List Value) (h : BuAt w alwB sb eb tb vs) (pb lb : Option Addr) (pc lc : Nat) (h2 : LaAt w la2 pb lb pc lc) :
  PureT Try.prog 17 [.agg (buC alwB sb sc eb ec tb tc).toArray, .agg (laC la2 pb pc lb lc).toArray] w fun v N => v = .tuple #[.bool false, .int .i64 0] ∧ N = [] := by
 have h9 := acceptsF w alwB sb eb tb sc ec tc vs h alwB_B la2 pb lb pc lc h2 ⟨by decide, by decide, by decide, by decide⟩ (by decide)
 rw [show accV alwB la2 = false by rw [← Bool.not_eq_true]; exact fun q => la2_rej ((accV_iff alwB_check la2_check).1 q), show accE alwB la2 = 0 from rfl] at h9
 exact h9
theorem livAlw (w : World) (sb eb tb : Option Addr) (sc ec tc : Nat) (vs : List Value) (h : BuAt w alwB sb eb tb vs) :
  PureT Try.prog 19 [.agg (buC alwB sb sc eb ec tb tc).toArray] w fun v N => ∃ lb lc, v = .tuple #[.slice lb 2 lc, .int .i64 0] ∧ N = [rowI lb lc 4 1 (bools [true, true])] := by
 have h9 := livesF w alwB sb eb tb sc ec tc vs h alwB_B
 rw [alw_lives, alwB_check] at h9
 exact h9
theorem witAlw (w : World) (sb eb tb : Option Addr) (sc ec tc : Nat) (vs : List Value) (h : BuAt w alwB sb eb tb vs) :
  PureT Try.prog 27 [.agg (buC alwB sb sc eb ec tb tc).toArray] w fun v N => ∃ (c : La) (pb lb : Option Addr) (pc lc : Nat), v = .tuple #[.agg (laC c pb pc lb lc).toArray, .int .i64 0] ∧ N = [rowI pb pc 5 1 (byts c.pre), rowI lb lc 5 1 (byts c.loop)] ∧ WitOf alwB c :=
 (witnessF w alwB sb eb tb sc ec tc vs h alwB_B).mono fun v N ⟨c, pb, lb, pc, lc, e, h1, h2, h3, h4, h5⟩ => ⟨c, pb, lb, pc, lc, by rw [h1, h3, alw_wit]; rfl, h2, h5 (by rw [h3, alw_wit])⟩
theorem witAlwC (w : World) (sb eb tb : Option Addr) (sc ec tc : Nat) (vs : List Value) (h : BuAt w alwC sb eb tb vs) :
  PureT Try.prog 27 [.agg (buC alwC sb sc eb ec tb tc).toArray] w fun v N => ∃ (pb lb : Option Addr) (pc lc : Nat), v = .tuple #[.agg (laC ⟨[], []⟩ pb pc lb lc).toArray, .int .i64 9] ∧ N = [rowI pb pc 5 1 [], rowI lb lc 5 1 []] :=
 (witnessF w alwC sb eb tb sc ec tc vs h alwC_B).mono fun v N ⟨c, pb, lb, pc, lc, e, h1, h2, h3, h4, h5⟩ => by
  have he : e = 9 := by rw [h3, alwC_wit]
  have hc := h4 (by omega)
  subst he; subst hc
  exact ⟨pb, lb, pc, lc, h1, h2⟩
theorem trmAlwC (w : World) (sb eb tb : Option Addr) (sc ec tc : Nat) (vs : List Value) (h : BuAt w alwC sb eb tb vs) :
  PureT Try.prog 28 [.agg (buC alwC sb sc eb ec tb tc).toArray] w fun v N => ∃ (z0 : Int) (sb2 : Option Addr) (n1 sc2 : Nat) (eb2 : Option Addr) (n2 ec2 : Nat) (tb2 : Option Addr) (tc2 : Nat), v = .tuple #[.agg #[.int .i64 z0, .int .i64 0, .slice sb2 n1 sc2, .slice eb2 n2 ec2, .slice tb2 2 tc2], .int .i64 0] :=
 (trimF w alwC sb eb tb sc ec tc vs h alwC_B).mono fun v N ⟨sb2, eb2, tb2, sc2, ec2, tc2, qs, h1, h2, h3⟩ => ⟨(trimB alwC).vars, sb2, (trimB alwC).start.length, sc2, eb2, (trimB alwC).edges.length, ec2, tb2, tc2, by rw [h1, alwC_check]; show Value.tuple #[.agg (buC (trimB alwC) sb2 sc2 eb2 ec2 tb2 tc2).toArray, _] = _; simp only [buC, alwC_trim.1, alwC_trim.2]; rfl⟩
theorem accWit (w : World) (sb eb tb : Option Addr) (sc ec tc : Nat) (vs : List Value) (h : BuAt w alwB sb eb tb vs) (c : La) (hw : WitOf alwB c) (pb lb : Option Addr) (pc lc : Nat) (h2 : LaAt w c pb lb pc lc) :
  PureT Try.prog 17 [.agg (buC alwB sb sc eb ec tb tc).toArray, .agg (laC c pb pc lb lc).toArray] w fun v N => v = .tuple #[.bool true, .int .i64 0] ∧ N = [] := by
 have h9 := acceptsF w alwB sb eb tb sc ec tc vs h alwB_B c pb lb pc lc h2 (hw.lab alwB_B alwB_valid) (by decide)
 rw [(alw_witacc hw).1, (alw_witacc hw).2] at h9
 exact h9
end Go.Proofs.Ytnamoapbienooaa

set_option maxRecDepth 20000
set_option maxHeartbeats 4000000
namespace Go.Proofs.Ytnamoapbienooaa
open Go.Lx Go.RowKit
set_option linter.unusedVariables false
set_option linter.unusedSimpArgs false
theorem awakeF (w : World) : PureT Try.prog 14 [] w fun v N => v = .bool true ∧ N = [] := by
 refine CallT.enter Try.func14 rfl Try.ntmps14 rfl ?_
 refine T.seq (T.rg (TO.qa rfl (TO.nil (T.seq (T.rg ?_)))))
 have hk17 := fun (w1 : World) (hI : Inv w [] w1) => alwaysF w1
 refine TO.l rfl (l_call ent44 (CallT.pu hk17) rfl ?_)
 clear hk17
 rintro vr O' ⟨N, rfl, sb1, eb1, tb1, qb1, rfl, rfl⟩
 have hk18 := fun (w1 : World) (hI : Inv w [rowI sb1 1 3 1 (ints alwB.start), rowI eb1 3 54 4 (edsC alwB.edges), rowI tb1 1 22 1 [(.slice qb1 1 1)], rowI qb1 1 3 1 (ints [1])] w1) => alwaysF w1
 refine TO.l rfl (l_call ent44 (CallT.pu hk18) rfl ?_)
 clear hk18
 rintro vr O' ⟨N, rfl, sb2, eb2, tb2, qb2, rfl, rfl⟩
 refine TO.l rfl (l_alloc inf26 rfl (fun bx1 => ?_))
 refine TO.l rfl (l_alloc inf26 rfl (fun bx2 => ?_))
 refine TO.l rfl (l_sb (v := (.agg #[(.int .i64 1), (.int .i64 2), (.slice sb1 1 1), (.slice eb1 3 3), (.slice tb1 1 1)])) (vs := [(.int .i64 1), (.int .i64 2), (.slice sb1 1 1), (.slice eb1 3 3), (.slice tb1 1 1)]) 1 inf26 rfl rfl rfl rfl rfl rfl (by simp [putL]) ?_)
 refine TO.l rfl (l_sb (v := (.agg #[(.int .i64 1), (.int .i64 2), (.slice sb2 1 1), (.slice eb2 3 3), (.slice tb2 1 1)])) (vs := [(.int .i64 1), (.int .i64 2), (.slice sb2 1 1), (.slice eb2 3 3), (.slice tb2 1 1)]) 0 inf26 rfl rfl rfl rfl rfl rfl (by simp [putL]) ?_)
 refine TO.nil (T.seq (T.rg (TO.q (q_fa Try.underlying26 rfl inf24 rfl rfl) (TO.q (q_lb 0 Try.underlying24 rfl rfl rfl rfl) (TO.l rfl (l_build1 (v := .int .i64 0) Try.underlying22 inf3 rfl rfl rfl (fun bx3 => ?_)))))))
 refine TO.l rfl (l_build1 (v := (.slice (aD bx3) 1 1)) Try.underlying24 inf22 rfl rfl rfl (fun bx4 => ?_))
 refine TO.l rfl (l_append 6 Try.underlying24 Try.underlying24 inf22 rfl rfl rfl rfl (by simp) (by decide) (Src.row (j := 0) rfl (by simp)) (by simp [oneB]) (by omega) (by decide) (by decide) (fun bx5 c6 => ?_))
 refine TO.q (q_fa Try.underlying26 rfl inf24 rfl rfl) (TO.l rfl (l_sb (v := (.slice bx5 (1 + 1) c6)) (vs := [(.slice bx5 (1 + 1) c6)]) 2 inf24 rfl rfl rfl rfl rfl rfl (by simp [putL]) ?_))
 refine TO.sub (O' := [rowI (aD bx4) 1 22 1 [(.slice (aD bx3) 1 1)], rowI (aD bx3) 1 3 1 [.int .i64 0], oI bx2 26 [(.int .i64 1), (.int .i64 2), (.slice sb2 1 1), (.slice eb2 3 3), (.slice bx5 (1 + 1) c6)], oI bx1 26 [(.int .i64 1), (.int .i64 2), (.slice sb1 1 1), (.slice eb1 3 3), (.slice tb1 1 1)], rowI sb2 1 3 1 (ints alwB.start), rowI eb2 3 54 4 (edsC alwB.edges), rowI bx5 c6 22 1 ([(.slice qb2 1 1)] ++ [(.slice (aD bx3) 1 1)]), rowI qb2 1 3 1 (ints [1]), rowI sb1 1 3 1 (ints alwB.start), rowI eb1 3 54 4 (edsC alwB.edges), rowI tb1 1 22 1 [(.slice qb1 1 1)], rowI qb1 1 3 1 (ints [1])]) (Sub.pick [0, 0, 0, 0, 0, 0, 0, 0, 0, 0, 0, 0] rfl) ?_
 refine TO.nil (T.seq ?_)
 
 refine T.rg (TO.q (q_la 3 Try.underlying26 rfl inf26 rfl rfl rfl) (TO.l rfl (l_build1 (v := .int .u8 0) Try.underlying27 inf5 rfl rfl rfl (fun bx7 => ?_))))
 refine TO.l rfl (l_build1 (v := .int .u8 1) Try.underlying27 inf5 rfl rfl rfl (fun bx8 => ?_))
 refine TO.q (q_build (cs := [(.slice (aD bx7) 1 1), (.slice (aD bx8) 1 1)]) plan29 inf29 (by kernel_rfl)) ?_
 have hk30 := fun (w1 : World) (hI : Inv w [rowI (aD bx8) 1 5 1 [.int .u8 1], rowI (aD bx7) 1 5 1 [.int .u8 0], rowI (aD bx4) 1 22 1 [(.slice (aD bx3) 1 1)], rowI (aD bx3) 1 3 1 [.int .i64 0], oI bx2 26 [(.int .i64 1), (.int .i64 2), (.slice sb2 1 1), (.slice eb2 3 3), (.slice bx5 (1 + 1) c6)], oI bx1 26 [(.int .i64 1), (.int .i64 2), (.slice sb1 1 1), (.slice eb1 3 3), (.slice tb1 1 1)], rowI sb2 1 3 1 (ints alwB.start), rowI eb2 3 54 4 (edsC alwB.edges), rowI bx5 c6 22 1 ([(.slice qb2 1 1)] ++ [(.slice (aD bx3) 1 1)]), rowI qb2 1 3 1 (ints [1]), rowI sb1 1 3 1 (ints alwB.start), rowI eb1 3 54 4 (edsC alwB.edges), rowI tb1 1 22 1 [(.slice qb1 1 1)], rowI qb1 1 3 1 (ints [1])] w1) => accAlw1 w1 sb1 eb1 tb1 1 3 1 [.slice qb1 1 1] ⟨(hI.slOf (mG 10 rfl)), (hI.slOf (mG 11 rfl)), (hI.slOf (mG 12 rfl)), (RowsR.cons (⟨rfl, fun i r h9 => by simp at h9⟩ : RowsR w1 [] []) (b := qb1) (c := 1) (hI.slOf (mG 13 rfl)))⟩ (aD bx7) (aD bx8) 1 1 ⟨(hI.slOf (mG 1 rfl)), (hI.slOf (mG 0 rfl)), Nat.le_refl _, Nat.le_refl _⟩
 refine TO.l rfl (l_call ent17 (CallT.pu hk30) rfl ?_)
 clear hk30
 rintro vr O' ⟨N, rfl, rfl, rfl⟩
 refine TO.qm rfl (TO.q (q_extract (vs := _) rfl rfl) (TO.q (q_extract (vs := _) rfl rfl) (TO.qa rfl (TO.qa rfl (TO.nil (T.seq (T.rg (TO.q (q_la 5 Try.underlying26 rfl inf26 rfl rfl rfl) (TO.l rfl (l_buildSlice (m := 2) (parts := [(0, .const (.int .u8 0)), (1, .const (.int .u8 1))]) (cs := [.int .u8 0, .int .u8 1]) Try.underlying27 inf5 (by decide) (by kernel_rfl) rfl (fun bx9 => ?_)))))))))))
 refine TO.q (q_build (cs := [nS, (.slice (aD bx9) 2 2)]) plan29 inf29 (by kernel_rfl)) ?_
 have hk37 := fun (w1 : World) (hI : Inv w [rowI (aD bx9) 2 5 1 [.int .u8 0, .int .u8 1], rowI (aD bx8) 1 5 1 [.int .u8 1], rowI (aD bx7) 1 5 1 [.int .u8 0], rowI (aD bx4) 1 22 1 [(.slice (aD bx3) 1 1)], rowI (aD bx3) 1 3 1 [.int .i64 0], oI bx2 26 [(.int .i64 1), (.int .i64 2), (.slice sb2 1 1), (.slice eb2 3 3), (.slice bx5 (1 + 1) c6)], oI bx1 26 [(.int .i64 1), (.int .i64 2), (.slice sb1 1 1), (.slice eb1 3 3), (.slice tb1 1 1)], rowI sb2 1 3 1 (ints alwB.start), rowI eb2 3 54 4 (edsC alwB.edges), rowI bx5 c6 22 1 ([(.slice qb2 1 1)] ++ [(.slice (aD bx3) 1 1)]), rowI qb2 1 3 1 (ints [1]), rowI sb1 1 3 1 (ints alwB.start), rowI eb1 3 54 4 (edsC alwB.edges), rowI tb1 1 22 1 [(.slice qb1 1 1)], rowI qb1 1 3 1 (ints [1])] w1) => accAlw2 w1 sb1 eb1 tb1 1 3 1 [.slice qb1 1 1] ⟨(hI.slOf (mG 11 rfl)), (hI.slOf (mG 12 rfl)), (hI.slOf (mG 13 rfl)), (RowsR.cons (⟨rfl, fun i r h9 => by simp at h9⟩ : RowsR w1 [] []) (b := qb1) (c := 1) (hI.slOf (mG 14 rfl)))⟩ none (aD bx9) 0 2 ⟨Sl.nil _ _, (hI.slOf (mG 0 rfl)), Nat.le_refl _, Nat.le_refl _⟩
 refine TO.l rfl (l_call ent17 (CallT.pu hk37) rfl ?_)
 clear hk37
 rintro vr O' ⟨N, rfl, rfl, rfl⟩
 refine TO.qm rfl (TO.q (q_extract (vs := _) rfl rfl) (TO.q (q_extract (vs := _) rfl rfl) (TO.qa rfl (TO.qa rfl (TO.nil (T.seq (T.rg (TO.q (q_la 6 Try.underlying26 rfl inf26 rfl rfl rfl) ?_))))))))
 have hk42 := fun (w1 : World) (hI : Inv w [rowI (aD bx9) 2 5 1 [.int .u8 0, .int .u8 1], rowI (aD bx8) 1 5 1 [.int .u8 1], rowI (aD bx7) 1 5 1 [.int .u8 0], rowI (aD bx4) 1 22 1 [(.slice (aD bx3) 1 1)], rowI (aD bx3) 1 3 1 [.int .i64 0], oI bx2 26 [(.int .i64 1), (.int .i64 2), (.slice sb2 1 1), (.slice eb2 3 3), (.slice bx5 (1 + 1) c6)], oI bx1 26 [(.int .i64 1), (.int .i64 2), (.slice sb1 1 1), (.slice eb1 3 3), (.slice tb1 1 1)], rowI sb2 1 3 1 (ints alwB.start), rowI eb2 3 54 4 (edsC alwB.edges), rowI bx5 c6 22 1 ([(.slice qb2 1 1)] ++ [(.slice (aD bx3) 1 1)]), rowI qb2 1 3 1 (ints [1]), rowI sb1 1 3 1 (ints alwB.start), rowI eb1 3 54 4 (edsC alwB.edges), rowI tb1 1 22 1 [(.slice qb1 1 1)], rowI qb1 1 3 1 (ints [1])] w1) => livAlw w1 sb1 eb1 tb1 1 3 1 [.slice qb1 1 1] ⟨(hI.slOf (mG 11 rfl)), (hI.slOf (mG 12 rfl)), (hI.slOf (mG 13 rfl)), (RowsR.cons (⟨rfl, fun i r h9 => by simp at h9⟩ : RowsR w1 [] []) (b := qb1) (c := 1) (hI.slOf (mG 14 rfl)))⟩
 refine TO.l rfl (l_call ent19 (CallT.pu hk42) rfl ?_)
 clear hk42
 rintro vr O' ⟨N, rfl, lb, lc, rfl, rfl⟩
 refine TO.qm rfl (TO.q (q_extract (vs := _) rfl rfl) (TO.q (q_extract (vs := _) rfl rfl) (TO.qa rfl (TO.qa rfl (TO.nil (T.seq (T.rg (TO.q (q_la 7 Try.underlying26 rfl inf26 rfl rfl rfl) ?_))))))))
 have hk47 := fun (w1 : World) (hI : Inv w [rowI lb lc 4 1 (bools [true, true]), rowI (aD bx9) 2 5 1 [.int .u8 0, .int .u8 1], rowI (aD bx8) 1 5 1 [.int .u8 1], rowI (aD bx7) 1 5 1 [.int .u8 0], rowI (aD bx4) 1 22 1 [(.slice (aD bx3) 1 1)], rowI (aD bx3) 1 3 1 [.int .i64 0], oI bx2 26 [(.int .i64 1), (.int .i64 2), (.slice sb2 1 1), (.slice eb2 3 3), (.slice bx5 (1 + 1) c6)], oI bx1 26 [(.int .i64 1), (.int .i64 2), (.slice sb1 1 1), (.slice eb1 3 3), (.slice tb1 1 1)], rowI sb2 1 3 1 (ints alwB.start), rowI eb2 3 54 4 (edsC alwB.edges), rowI bx5 c6 22 1 ([(.slice qb2 1 1)] ++ [(.slice (aD bx3) 1 1)]), rowI qb2 1 3 1 (ints [1]), rowI sb1 1 3 1 (ints alwB.start), rowI eb1 3 54 4 (edsC alwB.edges), rowI tb1 1 22 1 [(.slice qb1 1 1)], rowI qb1 1 3 1 (ints [1])] w1) => witAlw w1 sb1 eb1 tb1 1 3 1 [.slice qb1 1 1] ⟨(hI.slOf (mG 12 rfl)), (hI.slOf (mG 13 rfl)), (hI.slOf (mG 14 rfl)), (RowsR.cons (⟨rfl, fun i r h9 => by simp at h9⟩ : RowsR w1 [] []) (b := qb1) (c := 1) (hI.slOf (mG 15 rfl)))⟩
 refine TO.l rfl (l_call ent27 (CallT.pu hk47) rfl ?_)
 clear hk47
 rintro vr O' ⟨N, rfl, c, wp, wl, wpc, wlc, rfl, rfl, hw⟩
 refine TO.qm rfl (TO.q (q_extract (vs := _) rfl rfl) (TO.q (q_extract (vs := _) rfl rfl) (TO.l rfl (l_alloc inf29 rfl (fun bx10 => ?_)))))
 refine TO.l rfl (l_sb (v := (.agg (laC c wp wpc wl wlc).toArray)) (vs := (laC c wp wpc wl wlc)) 0 inf29 rfl rfl rfl rfl rfl rfl (by simp [putL]) ?_)
 refine TO.qa rfl (TO.nil (T.seq (T.rg (TO.q (q_la 9 Try.underlying26 rfl inf26 rfl rfl rfl) ?_))))
 have hk52 := fun (w1 : World) (hI : Inv w [oI bx10 29 (laC c wp wpc wl wlc), rowI wp wpc 5 1 (byts c.pre), rowI wl wlc 5 1 (byts c.loop), rowI lb lc 4 1 (bools [true, true]), rowI (aD bx9) 2 5 1 [.int .u8 0, .int .u8 1], rowI (aD bx8) 1 5 1 [.int .u8 1], rowI (aD bx7) 1 5 1 [.int .u8 0], rowI (aD bx4) 1 22 1 [(.slice (aD bx3) 1 1)], rowI (aD bx3) 1 3 1 [.int .i64 0], oI bx2 26 [(.int .i64 1), (.int .i64 2), (.slice sb2 1 1), (.slice eb2 3 3), (.slice bx5 (1 + 1) c6)], oI bx1 26 [(.int .i64 1), (.int .i64 2), (.slice sb1 1 1), (.slice eb1 3 3), (.slice tb1 1 1)], rowI sb2 1 3 1 (ints alwB.start), rowI eb2 3 54 4 (edsC alwB.edges), rowI bx5 c6 22 1 ([(.slice qb2 1 1)] ++ [(.slice (aD bx3) 1 1)]), rowI qb2 1 3 1 (ints [1]), rowI sb1 1 3 1 (ints alwB.start), rowI eb1 3 54 4 (edsC alwB.edges), rowI tb1 1 22 1 [(.slice qb1 1 1)], rowI qb1 1 3 1 (ints [1])] w1) => witAlwC w1 sb2 eb2 bx5 1 3 c6 [.slice qb2 1 1, .slice (aD bx3) 1 1] ⟨(hI.slOf (mG 11 rfl)), (hI.slOf (mG 12 rfl)), (hI.slOf (mG 13 rfl)), (RowsR.cons (RowsR.cons (⟨rfl, fun i r h9 => by simp at h9⟩ : RowsR w1 [] []) (b := (aD bx3)) (c := 1) (hI.slOf (mG 8 rfl))) (b := qb2) (c := 1) (hI.slOf (mG 14 rfl)))⟩
 refine TO.l rfl (l_call ent27 (CallT.pu hk52) rfl ?_)
 clear hk52
 rintro vr O' ⟨N, rfl, xp, xl, xpc, xlc, rfl, rfl⟩
 refine TO.qm rfl (TO.q (q_extract (vs := _) rfl rfl) (TO.q (q_extract (vs := _) rfl rfl) (TO.l rfl (l_alloc inf29 rfl (fun bx11 => ?_)))))
 refine TO.l rfl (l_sb (v := (.agg #[(.slice xp 0 xpc), (.slice xl 0 xlc)])) (vs := [(.slice xp 0 xpc), (.slice xl 0 xlc)]) 0 inf29 rfl rfl rfl rfl rfl rfl (by simp [putL]) ?_)
 refine TO.qa rfl (TO.nil (T.seq (T.rg (TO.q (q_la 12 Try.underlying26 rfl inf26 rfl rfl rfl) ?_))))
 have hk57 := fun (w1 : World) (hI : Inv w [oI bx11 29 [(.slice xp 0 xpc), (.slice xl 0 xlc)], rowI xp xpc 5 1 [], rowI xl xlc 5 1 [], oI bx10 29 (laC c wp wpc wl wlc), rowI wp wpc 5 1 (byts c.pre), rowI wl wlc 5 1 (byts c.loop), rowI lb lc 4 1 (bools [true, true]), rowI (aD bx9) 2 5 1 [.int .u8 0, .int .u8 1], rowI (aD bx8) 1 5 1 [.int .u8 1], rowI (aD bx7) 1 5 1 [.int .u8 0], rowI (aD bx4) 1 22 1 [(.slice (aD bx3) 1 1)], rowI (aD bx3) 1 3 1 [.int .i64 0], oI bx2 26 [(.int .i64 1), (.int .i64 2), (.slice sb2 1 1), (.slice eb2 3 3), (.slice bx5 (1 + 1) c6)], oI bx1 26 [(.int .i64 1), (.int .i64 2), (.slice sb1 1 1), (.slice eb1 3 3), (.slice tb1 1 1)], rowI sb2 1 3 1 (ints alwB.start), rowI eb2 3 54 4 (edsC alwB.edges), rowI bx5 c6 22 1 ([(.slice qb2 1 1)] ++ [(.slice (aD bx3) 1 1)]), rowI qb2 1 3 1 (ints [1]), rowI sb1 1 3 1 (ints alwB.start), rowI eb1 3 54 4 (edsC alwB.edges), rowI tb1 1 22 1 [(.slice qb1 1 1)], rowI qb1 1 3 1 (ints [1])] w1) => trmAlwC w1 sb2 eb2 bx5 1 3 c6 [.slice qb2 1 1, .slice (aD bx3) 1 1] ⟨(hI.slOf (mG 14 rfl)), (hI.slOf (mG 15 rfl)), (hI.slOf (mG 16 rfl)), (RowsR.cons (RowsR.cons (⟨rfl, fun i r h9 => by simp at h9⟩ : RowsR w1 [] []) (b := (aD bx3)) (c := 1) (hI.slOf (mG 11 rfl))) (b := qb2) (c := 1) (hI.slOf (mG 17 rfl)))⟩
 refine TO.l rfl (l_call ent28 (CallT.pu hk57) rfl ?_)
 clear hk57
 rintro vr O' ⟨N, rfl, z0, s3, n1, c3, e3, n2, d3, t3, f3, rfl⟩
 refine TO.sub (O' := ([oI bx11 29 [(.slice xp 0 xpc), (.slice xl 0 xlc)], rowI xp xpc 5 1 [], rowI xl xlc 5 1 [], oI bx10 29 (laC c wp wpc wl wlc), rowI wp wpc 5 1 (byts c.pre), rowI wl wlc 5 1 (byts c.loop), rowI lb lc 4 1 (bools [true, true]), rowI (aD bx9) 2 5 1 [.int .u8 0, .int .u8 1], rowI (aD bx8) 1 5 1 [.int .u8 1], rowI (aD bx7) 1 5 1 [.int .u8 0], rowI (aD bx4) 1 22 1 [(.slice (aD bx3) 1 1)], rowI (aD bx3) 1 3 1 [.int .i64 0], oI bx2 26 [(.int .i64 1), (.int .i64 2), (.slice sb2 1 1), (.slice eb2 3 3), (.slice bx5 (1 + 1) c6)], oI bx1 26 [(.int .i64 1), (.int .i64 2), (.slice sb1 1 1), (.slice eb1 3 3), (.slice tb1 1 1)], rowI sb2 1 3 1 (ints alwB.start), rowI eb2 3 54 4 (edsC alwB.edges), rowI bx5 c6 22 1 ([(.slice qb2 1 1)] ++ [(.slice (aD bx3) 1 1)]), rowI qb2 1 3 1 (ints [1]), rowI sb1 1 3 1 (ints alwB.start), rowI eb1 3 54 4 (edsC alwB.edges), rowI tb1 1 22 1 [(.slice qb1 1 1)], rowI qb1 1 3 1 (ints [1])] ++ N)) (Sub.ca []) ?_
 refine TO.qm rfl (TO.q (q_extract (vs := _) rfl rfl) (TO.q (q_extract (vs := _) rfl rfl) (TO.l rfl (l_alloc inf26 rfl (fun bx12 => ?_)))))
 refine TO.l rfl (l_sb (v := (.agg #[(.int .i64 z0), (.int .i64 0), (.slice s3 n1 c3), (.slice e3 n2 d3), (.slice t3 2 f3)])) (vs := [(.int .i64 z0), (.int .i64 0), (.slice s3 n1 c3), (.slice e3 n2 d3), (.slice t3 2 f3)]) 0 inf26 rfl rfl rfl rfl rfl rfl (by simp [putL]) ?_)
 refine TO.qa rfl (TO.nil (T.seq (T.rg (TO.q (q_la 14 Try.underlying26 rfl inf26 rfl rfl rfl) (TO.q (q_la 4 Try.underlying29 rfl inf29 rfl rfl rfl) ?_)))))
 have hk63 := fun (w1 : World) (hI : Inv w ([oI bx12 26 [(.int .i64 z0), (.int .i64 0), (.slice s3 n1 c3), (.slice e3 n2 d3), (.slice t3 2 f3)], oI bx11 29 [(.slice xp 0 xpc), (.slice xl 0 xlc)], rowI xp xpc 5 1 [], rowI xl xlc 5 1 [], oI bx10 29 (laC c wp wpc wl wlc), rowI wp wpc 5 1 (byts c.pre), rowI wl wlc 5 1 (byts c.loop), rowI lb lc 4 1 (bools [true, true]), rowI (aD bx9) 2 5 1 [.int .u8 0, .int .u8 1], rowI (aD bx8) 1 5 1 [.int .u8 1], rowI (aD bx7) 1 5 1 [.int .u8 0], rowI (aD bx4) 1 22 1 [(.slice (aD bx3) 1 1)], rowI (aD bx3) 1 3 1 [.int .i64 0], oI bx2 26 [(.int .i64 1), (.int .i64 2), (.slice sb2 1 1), (.slice eb2 3 3), (.slice bx5 (1 + 1) c6)], oI bx1 26 [(.int .i64 1), (.int .i64 2), (.slice sb1 1 1), (.slice eb1 3 3), (.slice tb1 1 1)], rowI sb2 1 3 1 (ints alwB.start), rowI eb2 3 54 4 (edsC alwB.edges), rowI bx5 c6 22 1 ([(.slice qb2 1 1)] ++ [(.slice (aD bx3) 1 1)]), rowI qb2 1 3 1 (ints [1]), rowI sb1 1 3 1 (ints alwB.start), rowI eb1 3 54 4 (edsC alwB.edges), rowI tb1 1 22 1 [(.slice qb1 1 1)], rowI qb1 1 3 1 (ints [1])] ++ N) w1) => accWit w1 sb1 eb1 tb1 1 3 1 [.slice qb1 1 1] ⟨(hI.slOf (mG 19 rfl)), (hI.slOf (mG 20 rfl)), (hI.slOf (mG 21 rfl)), (RowsR.cons (⟨rfl, fun i r h9 => by simp at h9⟩ : RowsR w1 [] []) (b := qb1) (c := 1) (hI.slOf (mG 22 rfl)))⟩ c hw wp wl wpc wlc ⟨(hI.slOf (mG 5 rfl)), (hI.slOf (mG 6 rfl)), by have h9 := rowP.cap (hI.row (i := 5) rfl); simpa using h9, by have h9 := rowP.cap (hI.row (i := 6) rfl); simpa using h9⟩
 refine TO.l rfl (l_call ent17 (CallT.pu hk63) rfl ?_)
 clear hk63
 rintro vr O' ⟨N, rfl, rfl, rfl⟩
 refine TO.qm rfl (TO.q (q_extract (vs := _) rfl rfl) (TO.q (q_extract (vs := _) rfl rfl) (TO.qa rfl (TO.qa rfl (TO.nil (T.seq (T.rg (TO.qm rfl (TO.qm rfl (TO.gq rfl rfl (q_move rfl) (TO.gq rfl rfl (q_not rfl) (TO.q (q_pick1 rfl rfl) (TO.qm rfl (TO.gq rfl rfl (q_move rfl) ?_))))))))))))))
 refine TO.gq rfl rfl (q_eql rfl rfl) (TO.q (q_pick1 rfl rfl) (TO.qm rfl (TO.gq rfl rfl (q_move rfl) (TO.gq rfl rfl (q_eql rfl rfl) (TO.q (q_pick1 rfl rfl) (TO.qm rfl (TO.gq rfl rfl (q_move rfl) (TO.gq rfl rfl (q_eql rfl rfl) (TO.q (q_pick1 rfl rfl) (TO.qm rfl ?_))))))))))
 refine TO.gq rfl rfl (q_move rfl) ?_
 refine TO.gd rfl rfl rfl (l_buildSlice (m := 2) (parts := [(0, .const (.bool true)), (1, .const (.bool true))]) (cs := [.bool true, .bool true]) Try.underlying39 inf4 (by decide) (by kernel_rfl) rfl (fun bx13 => ?_))
 have hk86 := fun (w1 : World) (hI : Inv w ([rowI (aD bx13) 2 4 1 [.bool true, .bool true], oI bx12 26 [(.int .i64 z0), (.int .i64 0), (.slice s3 n1 c3), (.slice e3 n2 d3), (.slice t3 2 f3)], oI bx11 29 [(.slice xp 0 xpc), (.slice xl 0 xlc)], rowI xp xpc 5 1 [], rowI xl xlc 5 1 [], oI bx10 29 (laC c wp wpc wl wlc), rowI wp wpc 5 1 (byts c.pre), rowI wl wlc 5 1 (byts c.loop), rowI lb lc 4 1 (bools [true, true]), rowI (aD bx9) 2 5 1 [.int .u8 0, .int .u8 1], rowI (aD bx8) 1 5 1 [.int .u8 1], rowI (aD bx7) 1 5 1 [.int .u8 0], rowI (aD bx4) 1 22 1 [(.slice (aD bx3) 1 1)], rowI (aD bx3) 1 3 1 [.int .i64 0], oI bx2 26 [(.int .i64 1), (.int .i64 2), (.slice sb2 1 1), (.slice eb2 3 3), (.slice bx5 (1 + 1) c6)], oI bx1 26 [(.int .i64 1), (.int .i64 2), (.slice sb1 1 1), (.slice eb1 3 3), (.slice tb1 1 1)], rowI sb2 1 3 1 (ints alwB.start), rowI eb2 3 54 4 (edsC alwB.edges), rowI bx5 c6 22 1 ([(.slice qb2 1 1)] ++ [(.slice (aD bx3) 1 1)]), rowI qb2 1 3 1 (ints [1]), rowI sb1 1 3 1 (ints alwB.start), rowI eb1 3 54 4 (edsC alwB.edges), rowI tb1 1 22 1 [(.slice qb1 1 1)], rowI qb1 1 3 1 (ints [1])] ++ N) w1) => equalBools w1 lb (aD bx13) lc 2 [true, true] [true, true] (hI.slOf (mG 8 rfl)) (hI.slOf (mG 0 rfl)) (by decide)
 refine TO.gd rfl rfl rfl (l_call ent23 (CallT.pu hk86) rfl ?_)
 clear hk86
 rintro vr O' ⟨N, rfl, rfl, rfl⟩
 refine TO.q (q_pick1 rfl rfl) (TO.qm rfl (TO.gq rfl rfl (q_move rfl) (TO.gq rfl rfl (q_eql rfl rfl) (TO.q (q_pick1 rfl rfl) (TO.qm rfl (TO.gq rfl rfl (q_move rfl) (TO.q (q_pick1 rfl rfl) (TO.qm rfl (TO.gq rfl rfl (q_move rfl) (TO.gq rfl rfl (q_eql rfl rfl) ?_))))))))))
 refine TO.q (q_pick1 rfl rfl) (TO.qm rfl (TO.gq rfl rfl (q_move rfl) (TO.gq rfl rfl (q_eql rfl rfl) (TO.q (q_pick1 rfl rfl) (TO.qm rfl (TO.gq rfl rfl (q_move rfl) (TO.gq rfl rfl (q_eql rfl rfl) (TO.q (q_pick1 rfl rfl) (TO.qm rfl (TO.gq rfl rfl (q_fa Try.underlying26 rfl inf3 rfl rfl) ?_))))))))))
 refine TO.gq rfl rfl (q_lb 1 Try.underlying3 rfl rfl rfl rfl) (TO.gq rfl rfl (q_eql rfl rfl) (TO.q (q_pick1 rfl rfl) (TO.qm rfl (TO.gq rfl rfl (q_fa Try.underlying26 rfl inf24 rfl rfl) (TO.gq rfl rfl (q_lb 1 Try.underlying24 rfl rfl rfl rfl) (TO.gq rfl rfl (q_len Try.underlying24 rfl) (TO.gq rfl rfl (q_eql rfl rfl) (TO.q (q_pick1 rfl rfl) (TO.qa rfl ?_)))))))))
 refine TO.nil (T.ret (Res.drop ?_))
 refine Res.one (.bool true) Try.results14 rfl ?_
 exact ⟨[], (Sub.pick0 [] [rowI (aD bx13) 2 4 1 [.bool true, .bool true], oI bx12 26 [(.int .i64 z0), (.int .i64 0), (.slice s3 n1 c3), (.slice e3 n2 d3), (.slice t3 2 f3)], oI bx11 29 [(.slice xp 0 xpc), (.slice xl 0 xlc)], rowI xp xpc 5 1 [], rowI xl xlc 5 1 [], oI bx10 29 (laC c wp wpc wl wlc), rowI wp wpc 5 1 (byts c.pre), rowI wl wlc 5 1 (byts c.loop), rowI lb lc 4 1 (bools [true, true]), rowI (aD bx9) 2 5 1 [.int .u8 0, .int .u8 1], rowI (aD bx8) 1 5 1 [.int .u8 1], rowI (aD bx7) 1 5 1 [.int .u8 0], rowI (aD bx4) 1 22 1 [(.slice (aD bx3) 1 1)], rowI (aD bx3) 1 3 1 [.int .i64 0], oI bx2 26 [(.int .i64 1), (.int .i64 2), (.slice sb2 1 1), (.slice eb2 3 3), (.slice bx5 (1 + 1) c6)], oI bx1 26 [(.int .i64 1), (.int .i64 2), (.slice sb1 1 1), (.slice eb1 3 3), (.slice tb1 1 1)], rowI sb2 1 3 1 (ints alwB.start), rowI eb2 3 54 4 (edsC alwB.edges), rowI bx5 c6 22 1 ([(.slice qb2 1 1)] ++ [(.slice (aD bx3) 1 1)]), rowI qb2 1 3 1 (ints [1]), rowI sb1 1 3 1 (ints alwB.start), rowI eb1 3 54 4 (edsC alwB.edges), rowI tb1 1 22 1 [(.slice qb1 1 1)], rowI qb1 1 3 1 (ints [1])] N rfl rfl), rfl, rfl⟩
end Go.Proofs.Ytnamoapbienooaa

namespace Go.Proofs.Ytnamoapbienooaa
open Go.Lx Go.RowKit
set_option linter.unusedVariables false
set_option linter.unusedSimpArgs false
theorem longB_ed {b : Bu} (h : ¬ longB b = true) : b.start.length ≤ 40 ∧ b.edges.length ≤ 60 ∧ b.sets.length ≤ 12 ∧ ∀ r ∈ b.sets, r.length ≤ 40 := by
 unfold longB longN at h
 rw [Bool.or_eq_true, not_or, decide_eq_true_iff, List.any_eq_true] at h
 refine ⟨by omega, by omega, by omega, fun r hr => ?_⟩
 exact Nat.le_of_not_lt (fun h3 => h.2 ⟨r, hr, decide_eq_true h3⟩)
theorem longB_no {b : Bu} (h : ¬ longB b = true) (hpn : ∀ e ∈ b.edges, e.pos < 256 ∧ e.neg < 256) : BuB b := by
 have h1 := longB_ed h
 exact ⟨by omega, by omega, by omega, fun r hr => by have := h1.2.2.2 r hr; omega, hpn⟩
end Go.Proofs.Ytnamoapbienooaa

namespace Go.Lx
open Go.RowKit Go.ChangeShapes Go.WideShapes Go.Deep
set_option linter.unusedVariables false
section
variable {H : Type} {enc : TypeId × Value → H} {P : Program}
theorem TrodAll_stays (hl : laidOutB P = true) {W W' : World} {sp' : Nat → Bool} : ∀ {ts : List TypeId} {vs : List Value} {ds : List (DataW H)} {ps : List MemPlace},
  (∀ t ∈ ts, P.readableRec t = true ∧ t < P.types.size) → DataW.TrodAll enc P W 0 (fun _ => true) true ts vs ds ps → (∀ p ∈ ps, W.sameAt W' p) → (∀ p ∈ ps, sp' p.block = true) → DataW.TrodAll enc P W' 0 sp' true ts vs ds ps
 | [], _, _, _, _, h, _, _ => by
  obtain ⟨rfl, rfl, rfl⟩ := trodAll_nil h
  rfl
 | t :: ts, _, _, _, hr, h, hs, hsp => by
  obtain ⟨v, vs1, d, ds1, p, q, rfl, rfl, rfl, h1, h2⟩ := trodAll_cons h
  have ht := hr t (by simp)
  exact ⟨p, q, WideElems.Trod_stays hl ht.1 ht.2 h1 (fun x hx => hs x (List.mem_append_left _ hx)) (fun x hx => hsp x (List.mem_append_left _ hx)),
   TrodAll_stays hl (fun t ht => hr t (by simp [ht])) h2 (fun x hx => hs x (List.mem_append_right _ hx)) (fun x hx => hsp x (List.mem_append_right _ hx)), rfl⟩
theorem post_law {f : Func} {s : ChangeSpec} {W W' : World} {args : Array Value} {ds gs : List (DataW H)} {before : List MemPlace} {tb : TypeId}
  (hl : laidOutB P = true) (hr : ∀ t ∈ f.params.toList, P.readableRec t = true ∧ t < P.types.size) (hres : f.resultTypes = #[tb]) (hb : P.underlying tb = some .bool) (hv : s.vars = [])
  (hW : DataW.Whole enc P f.params.toList s.vars false W args.toList ds gs before)
  (h1 : (s.fn H ds).results = [.lit (.bool true)]) (h2 : (s.fn H ds).args = ds) (h3 : (s.fn H ds).vars = [])
  (hB : Below W.heap.size W W') : s.post enc P f false true false false W args (.bool true) W' := by
 have hW0 := hW
 obtain ⟨p, q, hA, hV, rfl, hz, hn⟩ := hW
 rw [hv] at hV
 obtain ⟨rfl, rfl⟩ := trodVars_none hV
 simp only [List.append_nil] at hW0 hz hn
 have hlt := hW0.lt
 have hsame : ∀ x ∈ p, W.sameAt W' x := fun x hx => hB.same (hlt x hx)
 have hargs : ∀ sp : Nat → Bool, (∀ x ∈ p, sp x.block = true) → DataW.TrodAll enc P W' 0 sp true f.params.toList args.toList (s.fn H (ds ++ [])).args p := fun sp hsp => by
  rw [List.append_nil, h2]
  exact TrodAll_stays hl hr hA hsame hsp
 have hvars : ∀ sp : Nat → Bool, DataW.TrodVars enc P W' sp s.vars (s.fn H (ds ++ [])).vars [] := fun sp => by
  rw [List.append_nil, hv, h3]; rfl
 have hresult : ∀ (b : Nat) (sp : Nat → Bool) (hd : Bool), DataW.TrodAll enc P W' b sp hd f.resultTypes.toList ((Value.bool true).resultList f.resultTypes.size) (s.fn H (ds ++ [])).results [] := fun b sp hd => by
  rw [List.append_nil, h1, hres]
  exact trodAll_cons_mk (shut_bool hb _) trodAll_mk0
 have hold : ∀ x ∈ p, (fun b => decide (b < W.heap.size)) x.block = true := fun x hx => by simpa using hlt x hx
 refine ⟨ds, [], p, [], p, [], hW0, hresult _ _ _, hargs _ hold, hvars _, World.keptBut_mono (fun x hx => ⟨hx, ?_⟩) (hB.frame _), fun _ => ?_⟩
 ·exact Or.inr (by simpa using hx)
 ·refine ⟨ok_one hres rfl (okWide_bool_mk hb _), _, _, ([] ++ p) ++ [], ⟨[] ++ p, [], trodAll_append (hargs _ (fun _ _ => rfl)) (hresult _ _ _), hvars _, rfl, ?_, ?_⟩, ?_⟩
  ·intro b off hx
   have hx' : MemPlace.cell b off ∈ p := by simpa using hx
   rw [hB.frozen (p := ⟨b, off, none⟩) (hlt _ hx')]
   exact hz b off hx'
  ·intro ha; cases ha
  ·intro x hx _
   simpa using hx
theorem spotNone {w : World} {a : Addr} {v : Value} (h : w.cell? a = some v) : a.spot = none := by
 unfold World.cell? at h
 cases e : a.spot with
 | none => rfl
 | some x => rw [e] at h; split at h <;> simp at h
theorem Sl.ofCells {w : World} {a : Addr} {cs : List Value} (h : ∀ i (hi : i < cs.length), w.cell? (a.add i) = some cs[i]) : Sl w (some a) cs := fun i hi => by
 have h0 := h 0 (by omega)
 have h1 := h i hi
 have h2 : a.spot = none := spotNone (a := a) (by simpa [Addr.add] using h0)
 refine ⟨a, rfl, h2, ?_⟩
 have e : a.add i = ⟨a.block, a.off + i, none⟩ := by
  unfold Addr.add
  split
  ·rename_i h; subst h
   cases a with
   | mk b o s => simp at h2; subst h2; rfl
  ·rfl
 rw [← e]; exact h1
theorem weights_all (e : TypeId) : ∀ {l : List (DataW H)} {d : DataW H}, d ∈ l → ∀ m ∈ d.weights P e, m ∈ DataW.weightsAll P e l
 | [], _, h, _, _ => by cases h
 | x :: l, d, h, m, hm => by
  rw [DataW.weightsAll, List.mem_append]
  rcases List.mem_cons.1 h with rfl | h
  ·exact .inl hm
  ·exact .inr (weights_all e h m hm)
theorem slice_bound {t e : TypeId} {elems spare : List (DataW H)} (ht : P.underlying t = some (.slice e)) (he : 0 < P.bytesOf e) (h : ∀ m ∈ (DataW.slice elems spare).weights P t, m ≤ reachBytes) :
  elems.length ≤ reachBytes ∧ ∀ d ∈ elems, ∀ m ∈ d.weights P e, m ≤ reachBytes := by
 have hw : (DataW.slice elems spare).weights P t = (elems.length + spare.length) * P.bytesOf e :: (DataW.weightsAll P e elems ++ DataW.weightsAll P e spare) := by
  rw [DataW.weights, ht]
 rw [hw] at h
 refine ⟨?_, fun d hd m hm => h m (List.mem_cons_of_mem _ (List.mem_append_left _ (weights_all e hd m hm)))⟩
 have h1 := h _ List.mem_cons_self
 have h2 := Nat.mul_le_mul_left (elems.length + spare.length) (show 1 ≤ P.bytesOf e from he)
 omega
theorem intsOf {w : World} {A : Option Addr} {L C : Nat} {Z : List Int} (hL : L ≤ C) (hZ : Z.length = C) (h0 : A = none → C = 0) (h : ∀ a', A = some a' → 0 ≤ a'.block ∧ ∀ c, c < C → w.cell? (a'.add c) = some (.int .i64 (Z.getD c 0))) :
  (Z.take L).length = L ∧ Sl w A (ints (Z.take L)) := by
 have hl : (Z.take L).length = L := by rw [List.length_take]; omega
 refine ⟨hl, ?_⟩
 cases A with
 | none =>
  have := h0 rfl
  have : Z.take L = [] := List.eq_nil_of_length_eq_zero (by omega)
  rw [this]; exact Sl.nil _ _
 | some a =>
  refine Sl.ofCells fun i hi => ?_
  have hi' : i < L := by rw [List.length_map, hl] at hi; exact hi
  have hiz : i < Z.length := by omega
  rw [(h a rfl).2 i (by omega), List.getElem_map, List.getElem_take]
  simp [hiz]
theorem wfU8 {n : Int} (h : (Lit.int .u8 n).wf = true) : 0 ≤ n ∧ n < 256 := by
 simp only [Lit.wf, Bool.and_eq_true, decide_eq_true_eq] at h
 have h1 : (0 : Int) ≤ n := h.1
 have h2 : n ≤ 255 := h.2
 omega
theorem lt63 {n : Nat} (h : n ≤ reachBytes) : n < 9223372036854775807 := Nat.lt_of_le_of_lt h (by decide)
end
end Go.Lx

namespace Go.Lx
open Go.RowKit Go.ChangeShapes Go.WideShapes Go.Deep
set_option linter.unusedVariables false
section
variable {H : Type} {enc : TypeId × Value → H} {P : Program}
theorem open_nums {tr ti : TypeId} {W : World} {c : Value} {cs : List Value} {x : DataW H × List MemPlace} {fuel : Nat} (hrow : P.underlying tr = some (.slice ti)) (hi : P.underlying ti = some (.int .i64)) (ci : P.cellsOf ti = 1) (bi : 0 < P.bytesOf ti)
  (hcs : cs = [c]) (hw : ∀ m ∈ x.1.weights P tr, m ≤ reachBytes) (g : DataW.trod enc P W 0 (fun _ => true) true fuel tr cs = some x) :
  ∃ (b : Option Addr) (cp : Nat) (xs : List Int), c = .slice b xs.length cp ∧ xs.length ≤ reachBytes ∧ Sl W b (ints xs) := by
 subst hcs
 rcases open_ints hrow hi ci g with ⟨h, _⟩ | ⟨a, len, cap, zs, h, _, hl, _, hz, hx, hcell, _⟩
 ·exact ⟨none, 0, [], by simpa using h, Nat.zero_le _, Sl.nil _ _⟩
 ·simp only [if_true] at hz
  rw [congrArg Prod.fst hx] at hw
  have hb := (slice_bound hrow bi hw).1
  have hln : (zs.take len).length = len := by rw [List.length_take]; omega
  have hb' : len ≤ reachBytes := by
   have : (lits (H := H) .i64 (zs.take len)).length = len := by simp [lits]; omega
   omega
  refine ⟨some a, cap, zs.take len, by rw [hln]; simpa using h, by omega, ?_⟩
  have := intsOf (w := W) (A := some a) (L := len) (C := cap) (Z := zs) hl hz (fun h => by cases h) (fun a' h => by cases h; exact ⟨Nat.zero_le _, fun i hi => hcell i (by omega)⟩)
  exact this.2
theorem open_numrows {tn tr ti : TypeId} {W : World} {c2 : Value} {cs : List Value} {x : DataW H × List MemPlace} {fuel : Nat} (hn : P.underlying tn = some (.slice tr)) (hrow : P.underlying tr = some (.slice ti)) (hi : P.underlying ti = some (.int .i64)) (cr : P.cellsOf tr = 1) (ci : P.cellsOf ti = 1) (br : 0 < P.bytesOf tr) (bi : 0 < P.bytesOf ti)
  (hcs : cs = [c2]) (hw2 : ∀ m ∈ x.1.weights P tn, m ≤ reachBytes) (g2 : DataW.trod enc P W 0 (fun _ => true) true fuel tn cs = some x) :
  ∃ (nb : Option Addr) (nc : Nat) (rows : List (List Int)) (vs : List Value), c2 = .slice nb rows.length nc ∧ rows.length ≤ reachBytes ∧ (∀ r ∈ rows, r.length ≤ reachBytes) ∧ Sl W nb vs ∧ RowsR W vs rows := by
 subst hcs
 rcases open_int_rows hn hrow hi cr ci g2 with ⟨hcs2, _⟩ | ⟨a, len, cap, A, L, C, Z, hcs2, _, hlc, hcm, hx2, hall⟩
 ·exact ⟨none, 0, [], [], by simpa using hcs2, Nat.zero_le _, fun r hr => (List.not_mem_nil hr).elim, Sl.nil _ _, rfl, fun i r hr => by simp at hr⟩
 ·rw [congrArg Prod.fst hx2] at hw2
  obtain ⟨hwl, hwr⟩ := slice_bound hn br hw2
  have hwl' : len ≤ reachBytes := by simpa using hwl
  have hwrow : ∀ r, r < len → L r ≤ reachBytes := fun r hr => by
   obtain ⟨_, a2, _, a4, _, a6, _⟩ := hall r (by omega)
   have hm := hwr _ (List.mem_map.2 ⟨r, List.mem_range.2 hr, rfl⟩)
   cases hA : A r with
   | none => have := a6 hA; omega
   | some b =>
    rw [hA] at hm
    have := (slice_bound hrow bi hm).1
    simp [lits] at this
    omega
  have hrl : ∀ r, r < len → ((Z r).take (L r)).length = L r ∧ Sl W (A r) (ints ((Z r).take (L r))) := fun r hr => by
   obtain ⟨_, a2, a3, a4, _, a6, a7⟩ := hall r (by omega)
   exact intsOf a2 a4 a6 a7
  refine ⟨some a, cap, (List.range len).map fun r => (Z r).take (L r), (List.range len).map fun r => .slice (A r) (L r) (C r), by simpa using hcs2, by simp; omega, ?_, ?_, by simp, ?_⟩
  ·intro r hr
   obtain ⟨j, hj, rfl⟩ := List.mem_map.1 hr
   have hj' := List.mem_range.1 hj
   rw [(hrl j hj').1]; exact hwrow j hj'
  ·refine Sl.ofCells fun i hi9 => ?_
   have hi' : i < len := by simpa using hi9
   rw [(hall i (by omega)).1]; simp
  ·intro i r hr
   have hi' : i < len := by
    have := (List.getElem?_eq_some_iff.1 hr).1
    simpa using this
   have er : r = (Z i).take (L i) := by
    rw [List.getElem?_map, List.getElem?_range hi'] at hr
    exact (Option.some.inj hr).symm
   subst er
   refine ⟨A i, C i, ?_, (hrl i hi').2⟩
   rw [List.getElem?_map, List.getElem?_range hi', (hrl i hi').1]; rfl
theorem open_edges {te e ti tu : TypeId} {f0 f1 f2 f3 : Field} {W : World} {c : Value} {cs : List Value} {x : DataW H × List MemPlace} {fuel : Nat} (ht : P.underlying te = some (.slice e)) (he : P.underlying e = some (.struct #[f0, f1, f2, f3])) (ce : P.cellsOf e = 4) (be : 0 < P.bytesOf e)
  (h0 : f0.type = ti) (h1 : f1.type = ti) (h2 : f2.type = tu) (h3 : f3.type = tu) (o0 : f0.offset = 0) (o1 : f1.offset = 1) (o2 : f2.offset = 2) (o3 : f3.offset = 3)
  (hi : P.underlying ti = some (.int .i64)) (hu : P.underlying tu = some (.int .u8)) (ci : P.cellsOf ti = 1) (cu : P.cellsOf tu = 1)
  (hcs : cs = [c]) (hw : ∀ m ∈ x.1.weights P te, m ≤ reachBytes) (g : DataW.trod enc P W 0 (fun _ => true) true fuel te cs = some x) :
  ∃ (b : Option Addr) (cp : Nat) (es : List Ed), c = .slice b es.length cp ∧ es.length ≤ reachBytes ∧ Sl W b (edsC es) ∧ ∀ e ∈ es, e.pos < 256 ∧ e.neg < 256 := by
 subst hcs
 rcases open_slice ht g with ⟨h, _⟩ | ⟨a, len, cap, m, n, D, Pl, h, _, hl, _, hm, hx, hall⟩
 ·exact ⟨none, 0, [], by simpa using h, Nat.zero_le _, Sl.nil _ _, fun e h => by cases h⟩
 ·simp only [if_true] at hm
  have hm' := hm.symm
  subst hm'
  rw [congrArg Prod.fst hx] at hw
  have hb := (slice_bound ht be hw).1
  have hb' : len ≤ reachBytes := by simpa using hb
  have each : ∀ i, i < cap → ∃ q : Ed, (q.pos < 256 ∧ q.neg < 256) ∧ ∀ j, j < 4 → W.cell? (a.add (i * 4 + j)) = (edC q)[j]? := by
   intro i hi9
   obtain ⟨cs', k1, k2⟩ := hall i hi9
   rw [ce] at k1
   obtain ⟨_, hlen, hcell⟩ := World.cells?_some k1
   obtain ⟨xs, k, hk, hxy, _, hxl, hf⟩ := DataW.trod_struct he k2
   match xs, hxl, cs', hlen with
   | [y0, y1, y2, y3], _, [v0, v1, v2, v3], _ =>
    have g0 := hf 0 f0 rfl
    have g1 := hf 1 f1 rfl
    have g2 := hf 2 f2 rfl
    have g3 := hf 3 f3 rfl
    rw [h0, o0, ci] at g0
    rw [h1, o1, ci] at g1
    rw [h2, o2, cu] at g2
    rw [h3, o3, cu] at g3
    obtain ⟨n0, e0, _, w0⟩ := DataW.trod_int hi g0
    obtain ⟨n1, e1, _, w1⟩ := DataW.trod_int hi g1
    obtain ⟨n2, e2, _, w2⟩ := DataW.trod_int hu g2
    obtain ⟨n3, e3, _, w3⟩ := DataW.trod_int hu g3
    have e0' : v0 = .int .i64 n0 := by simpa using e0
    have e1' : v1 = .int .i64 n1 := by simpa using e1
    have e2' : v2 = .int .u8 n2 := by simpa using e2
    have e3' : v3 = .int .u8 n3 := by simpa using e3
    subst e0' e1' e2' e3'
    have b2 := wfU8 w2
    have b3 := wfU8 w3
    refine ⟨⟨n0, n1, n2.toNat, n3.toNat⟩, ⟨by simp only; omega, by simp only; omega⟩, fun j hj => ?_⟩
    have q := hcell j hj
    rw [add_add] at q
    rw [q]
    match j, hj with
    | 0, _ => rfl
    | 1, _ => rfl
    | 2, _ => simp [edC, Int.toNat_of_nonneg b2.1]
    | 3, _ => simp [edC, Int.toNat_of_nonneg b3.1]
  have : Inhabited Ed := ⟨⟨0, 0, 0, 0⟩⟩
  obtain ⟨q, hq⟩ := choose_lt each
  refine ⟨some a, cap, (List.range len).map q, by simpa using h, by simp; omega, Sl.ofCells fun i hi9 => ?_, fun e he9 => ?_⟩
  ·have hi' : i < len * 4 := by rw [eds_len] at hi9; simpa using hi9
   have h4 := (hq (i / 4) (by omega)).2 (i % 4) (by omega)
   rw [show i / 4 * 4 + i % 4 = i by omega] at h4
   rw [h4]
   have h5 := eds_get' (es := (List.range len).map q) (i := i / 4) (by simp; omega) (i % 4) (by omega)
   rw [show i / 4 * 4 + i % 4 = i by omega, List.getElem?_eq_getElem hi9] at h5
   rw [h5]; simp
  ·obtain ⟨j, hj, rfl⟩ := List.mem_map.1 he9
   exact (hq j (by have := List.mem_range.1 hj; omega)).1
structure BuIn (P : Program) (W : World) (v : Value) (b : Bu) (sb eb tb : Option Addr) (sc ec tc : Nat) (vs : List Value) : Prop where
 val : v = .agg (buC b sb sc eb ec tb tc).toArray
 at_ : BuAt W b sb eb tb vs
 pn : ∀ e ∈ b.edges, e.pos < 256 ∧ e.neg < 256
 s : b.start.length ≤ reachBytes
 e : b.edges.length ≤ reachBytes
 t : b.sets.length ≤ reachBytes
 r : ∀ r ∈ b.sets, r.length ≤ reachBytes
theorem open_bu {t ti tr te e tn tu : TypeId} {f0 f1 f2 f3 f4 : Field} {g0 g1 g2 g3 : Field} {W : World} {v : Value} {d : DataW H} {p : List MemPlace}
  (ht : P.underlying t = some (.struct #[f0, f1, f2, f3, f4])) (hc : P.cellsOf t = 5) (h0 : f0.type = ti) (h1 : f1.type = ti) (h2 : f2.type = tr) (h3 : f3.type = te) (h4 : f4.type = tn) (o0 : f0.offset = 0) (o1 : f1.offset = 1) (o2 : f2.offset = 2) (o3 : f3.offset = 3) (o4 : f4.offset = 4)
  (hi : P.underlying ti = some (.int .i64)) (hn : P.underlying tn = some (.slice tr)) (hrow : P.underlying tr = some (.slice ti)) (hte : P.underlying te = some (.slice e)) (he : P.underlying e = some (.struct #[g0, g1, g2, g3])) (hu : P.underlying tu = some (.int .u8))
  (k0 : g0.type = ti) (k1 : g1.type = ti) (k2 : g2.type = tu) (k3 : g3.type = tu) (q0 : g0.offset = 0) (q1 : g1.offset = 1) (q2 : g2.offset = 2) (q3 : g3.offset = 3)
  (ci : P.cellsOf ti = 1) (cn : P.cellsOf tn = 1) (cr : P.cellsOf tr = 1) (cte : P.cellsOf te = 1) (ce : P.cellsOf e = 4) (cu : P.cellsOf tu = 1) (br : 0 < P.bytesOf tr) (bi : 0 < P.bytesOf ti) (be : 0 < P.bytesOf e) (hw : ∀ m ∈ d.weights P t, m ≤ reachBytes)
  (h : DataW.Trod enc P W 0 (fun _ => true) true t v d p) : ∃ b sb eb tb sc ec tc vs, BuIn P W v b sb eb tb sc ec tc vs := by
 obtain ⟨fuel, hT⟩ := h
 obtain ⟨xs, n, rfl, hx, hlen, hxl, hfs⟩ := DataW.trod_struct ht hT
 rw [hc] at hlen
 obtain ⟨c0, c1, c2, c3, c4, hcs⟩ : ∃ c0 c1 c2 c3 c4, v.cells.toList = [c0, c1, c2, c3, c4] := by
  match hh : v.cells.toList, hlen with
  | [a, b, c, e, f], _ => exact ⟨a, b, c, e, f, rfl⟩
 have hv : v = .agg #[c0, c1, c2, c3, c4] := by
  have hsz : v.cells.size = 5 := by rw [← Array.length_toList, hcs]; rfl
  cases v with
  | agg cs =>
   have : cs.toList = [c0, c1, c2, c3, c4] := hcs
   rw [← Array.toArray_toList (xs := cs), this]
  | _ => simp [Value.cells] at hsz
 rw [hcs] at hfs
 obtain ⟨x0, x1, x2, x3, x4, rfl⟩ : ∃ a b c e f, xs = [a, b, c, e, f] := by
  match xs, hxl with
  | [a, b, c, e, f], _ => exact ⟨a, b, c, e, f, rfl⟩
 have p0 := hfs 0 f0 rfl
 have p1 := hfs 1 f1 rfl
 have p2 := hfs 2 f2 rfl
 have p3 := hfs 3 f3 rfl
 have p4 := hfs 4 f4 rfl
 rw [h0, o0, ci] at p0
 rw [h1, o1, ci] at p1
 rw [h2, o2, cr] at p2
 rw [h3, o3, cte] at p3
 rw [h4, o4, cn] at p4
 have hd : d = .agg [x0.1, x1.1, x2.1, x3.1, x4.1] := congrArg Prod.fst hx
 have hwe : d.weights P t = DataW.weightsEach P [ti, ti, tr, te, tn] [x0.1, x1.1, x2.1, x3.1, x4.1] := by
  rw [hd, DataW.weights, ht]
  simp [h0, h1, h2, h3, h4]
 rw [hwe] at hw
 have hw2 : ∀ m ∈ x2.1.weights P tr, m ≤ reachBytes := fun m hm => hw m (DataW.weights_mem_each (j := 2) rfl rfl m hm)
 have hw3 : ∀ m ∈ x3.1.weights P te, m ≤ reachBytes := fun m hm => hw m (DataW.weights_mem_each (j := 3) rfl rfl m hm)
 have hw4 : ∀ m ∈ x4.1.weights P tn, m ≤ reachBytes := fun m hm => hw m (DataW.weights_mem_each (j := 4) rfl rfl m hm)
 obtain ⟨n0, e0, _, _⟩ := DataW.trod_int hi p0
 obtain ⟨n1, e1, _, _⟩ := DataW.trod_int hi p1
 have e0' : c0 = .int .i64 n0 := by simpa using e0
 have e1' : c1 = .int .i64 n1 := by simpa using e1
 subst e0' e1'
 obtain ⟨sb, sc, ss, e2, l2, s2⟩ := open_nums (c := c2) hrow hi ci bi rfl hw2 p2
 obtain ⟨eb, ec, es, e3, l3, s3, pn⟩ := open_edges (c := c3) hte he ce be k0 k1 k2 k3 q0 q1 q2 q3 hi hu ci cu rfl hw3 p3
 obtain ⟨tb, tc, ts, vs, e4, l4, r4, s4, t4⟩ := open_numrows (c2 := c4) hn hrow hi cr ci br bi rfl hw4 p4
 exact ⟨⟨n0, n1, ss, es, ts⟩, sb, eb, tb, sc, ec, tc, vs, by rw [hv, e2, e3, e4], ⟨s2, s3, s4, t4⟩, pn, l2, l3, l4, r4⟩
end
end Go.Lx

namespace Go.Proofs.Ytnamoapbienooaa
open Go.ChangeShapes Go.WideShapes Go.ChangeAt Go.RowKit Go.Lx
set_option maxRecDepth 100000
theorem own : ownKnob Try.prog.godebug = none := by kernel_rfl
theorem laidOut : laidOutB Try.prog = true := by kernel_rfl
theorem reads26 : Try.prog.readableRec 26 = true := by kernel_rfl
theorem lt26 : 26 < Try.prog.types.size := of_decide_eq_true (by kernel_rfl)
theorem openB {H : Type} {enc : TypeId × Value → H} {W : World} {v : Value} {d : DataW H} {p : List MemPlace} (hw : ∀ m ∈ d.weights Try.prog 26, m ≤ reachBytes) (h : DataW.Trod enc Try.prog W 0 (fun _ => true) true 26 v d p) : ∃ b sb eb tb sc ec tc vs, BuIn Try.prog W v b sb eb tb sc ec tc vs :=
 open_bu Try.underlying26 (by kernel_rfl) rfl rfl rfl rfl rfl rfl rfl rfl rfl rfl Try.underlying3 Try.underlying24 Try.underlying22 Try.underlying23 Try.underlying54 Try.underlying5 rfl rfl rfl rfl rfl rfl rfl rfl (by kernel_rfl) (by kernel_rfl) (by kernel_rfl) (by kernel_rfl) (by kernel_rfl) (by kernel_rfl) (of_decide_eq_true (by kernel_rfl)) (of_decide_eq_true (by kernel_rfl)) (of_decide_eq_true (by kernel_rfl)) hw h
noncomputable def laidWorld (os : Os) : World := World.holding Try.prog os ⟨#[], #[], []⟩
end Go.Proofs.Ytnamoapbienooaa

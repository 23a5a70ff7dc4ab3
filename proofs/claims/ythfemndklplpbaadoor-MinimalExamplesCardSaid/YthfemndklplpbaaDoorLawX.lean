/- Contracts of functions of the program (LawX): what each call answers and that it leaves memory as it was. Conditions: those each theorem names. -/
import Derived.Test.YthfemndklplpbaaDoorAwk
import Derived.Test.YthfemndklplpbaaDoorSame
set_option linter.unusedSectionVars false
set_option linter.unusedSimpArgs false
set_option linter.unusedVariables false
set_option linter.unnecessarySimpa false
namespace Go.Proofs.YthfemndklplpbaaDoor
open Go.Lx Go.RowKit
set_option linter.unusedVariables false
set_option linter.unusedSimpArgs false

set_option maxHeartbeats 4000000 in
set_option maxRecDepth 20000 in
theorem examplesC (w : World) : PureT Tryd.prog 6 [] w fun v N => v = .bool true ∧ N = [] := by
  refine CallT.enter Tryd.func6 rfl Tryd.ntmps6 rfl ?_
  refine T.seq ?_
  refine T.region ?_
  refine TO.quiet (q_assign rfl) ?_
  refine TO.nil ?_
  refine T.seq ?_
  refine T.seq ?_
  refine T.region ?_
  have hk27 := fun (w1 : World) (hI : Inv w [] w1) => awakeC w1
  refine TO.loud rfl (l_call ent12 (CallT.of_pure hk27) rfl ?_)
  clear hk27
  rintro v O' ⟨N, rfl, rfl, rfl⟩
  refine TO.quiet (q_not rfl) ?_
  refine TO.nil ?_
  refine T.cond0 rfl ?_
  refine T.skip ?_
  refine T.seq ?_
  refine T.region ?_
  refine TO.quiet (q_build plan25 inf25 rfl) ?_
  have hk31 := fun (w1 : World) (hI : Inv w [] w1) => minBad w1 (⟨0, 0, [], []⟩ : DFA) none none 0 0 [] ⟨Sl.nil _ _, ⟨rfl, fun i r hr => by simp at hr⟩, Sl.nil _ _⟩ (by decide) (fun r hr => by cases hr) (by decide) (by decide)
  refine TO.loud rfl (l_call ent17 (CallT.of_pure hk31) rfl ?_)
  clear hk31
  rintro v O' ⟨N, rfl, rfl, rfl⟩
  refine TO.quiet (q_move rfl) ?_
  refine TO.quiet (q_extract (vs := _) rfl rfl) ?_
  refine TO.quiet (q_extract (vs := _) rfl rfl) ?_
  refine TO.loud rfl (l_alloc inf25 rfl (fun b1 => ?_))
  refine TO.loud rfl (l_store_box (v := (.agg #[(.int .i64 0), (.int .i64 0), (.slice none 0 0), (.slice none 0 0)])) (vs := [(.int .i64 0), (.int .i64 0), (.slice none 0 0), (.slice none 0 0)]) 0 inf25 rfl rfl rfl rfl rfl rfl (by simp [putL]) ?_)
  refine TO.quiet (q_assign rfl) ?_
  refine TO.sub (O' := []) (Sub.pick [] rfl) ?_
  refine TO.nil ?_
  refine T.seq ?_
  refine T.region ?_
  refine TO.quiet (q_build (cs := [.int .i64 7, (.int .i64 0), (.slice none 0 0), (.slice none 0 0)]) plan25 inf25 (by kernel_rfl)) ?_
  have hk36 := fun (w1 : World) (hI : Inv w [] w1) => classesBad w1 (⟨7, 0, [], []⟩ : DFA) none none 0 0 [] ⟨Sl.nil _ _, ⟨rfl, fun i r hr => by simp at hr⟩, Sl.nil _ _⟩ (by decide) (fun r hr => by cases hr) (by decide) (by decide)
  refine TO.loud rfl (l_call ent18 (CallT.of_pure hk36) rfl ?_)
  clear hk36
  rintro v O' ⟨N, rfl, rfl, rfl⟩
  refine TO.quiet (q_move rfl) ?_
  refine TO.quiet (q_extract (vs := _) rfl rfl) ?_
  refine TO.quiet (q_extract (vs := _) rfl rfl) ?_
  refine TO.quiet (q_assign rfl) ?_
  refine TO.quiet (q_assign rfl) ?_
  refine TO.nil ?_
  refine T.seq ?_
  refine T.region ?_
  refine TO.loud rfl (l_build1 (v := .int .i64 1) Tryd.underlying33 inf3 rfl rfl rfl (fun b2 => ?_))
  refine TO.loud rfl (l_build1 (v := (.slice (some ⟨b2, 0, none⟩) 1 1)) Tryd.underlying22 inf33 rfl rfl rfl (fun b3 => ?_))
  refine TO.loud rfl (l_build1 (v := .bool true) Tryd.underlying23 inf4 rfl rfl rfl (fun b4 => ?_))
  refine TO.quiet (q_build (cs := [(.int .i64 0), (.int .i64 0), (.slice (some ⟨b3, 0, none⟩) 1 1), (.slice (some ⟨b4, 0, none⟩) 1 1)]) plan25 inf25 (by kernel_rfl)) ?_
  have hk44 := fun (w1 : World) (hI : Inv w [rowI (some ⟨b4, 0, none⟩) 1 4 1 [.bool true], rowI (some ⟨b3, 0, none⟩) 1 33 1 [(.slice (some ⟨b2, 0, none⟩) 1 1)], rowI (some ⟨b2, 0, none⟩) 1 3 1 [.int .i64 1]] w1) => roundsBad w1 (⟨0, 0, [[1]], [true]⟩ : DFA) (some ⟨b3, 0, none⟩) (some ⟨b4, 0, none⟩) 1 1 (vals [⟨(some ⟨b2, 0, none⟩), 1, [1]⟩]) ⟨hI.slOf (List.mem_of_getElem? (i := 1) rfl), hI.recs (qs := [⟨(some ⟨b2, 0, none⟩), 1, [1]⟩]) (E := 3) (allC (List.mem_of_getElem? (i := 2) rfl) allN), hI.slOf (List.mem_of_getElem? (i := 0) rfl)⟩ (by decide) (by decide) (by decide) (by decide) 3
  refine TO.loud rfl (l_call ent19 (CallT.of_pure hk44) rfl ?_)
  clear hk44
  rintro v O' ⟨N, rfl, rfl, rfl⟩
  refine TO.quiet (q_move rfl) ?_
  refine TO.quiet (q_extract (vs := _) rfl rfl) ?_
  refine TO.quiet (q_extract (vs := _) rfl rfl) ?_
  refine TO.quiet (q_assign rfl) ?_
  refine TO.quiet (q_assign rfl) ?_
  refine TO.sub (O' := []) (Sub.pick [] rfl) ?_
  refine TO.nil ?_
  refine T.seq ?_
  refine T.region ?_
  refine TO.quiet (q_build plan25 inf25 rfl) ?_
  have hk49 := fun (w1 : World) (hI : Inv w [] w1) => distBad w1 (⟨0, 0, [], []⟩ : DFA) none none 0 0 [] ⟨Sl.nil _ _, ⟨rfl, fun i r hr => by simp at hr⟩, Sl.nil _ _⟩ (by decide) (fun r hr => by cases hr) (by decide) (by decide) (-1) 9
  refine TO.loud rfl (l_call ent25 (CallT.of_pure hk49) rfl ?_)
  clear hk49
  rintro v O' ⟨N, rfl, rfl, rfl⟩
  refine TO.quiet (q_move rfl) ?_
  refine TO.quiet (q_extract (vs := _) rfl rfl) ?_
  refine TO.quiet (q_extract (vs := _) rfl rfl) ?_
  refine TO.quiet (q_extract (vs := _) rfl rfl) ?_
  refine TO.quiet (q_assign rfl) ?_
  refine TO.quiet (q_assign rfl) ?_
  refine TO.quiet (q_assign rfl) ?_
  refine TO.nil ?_
  refine T.seq ?_
  refine T.region ?_
  have hk54 := fun (w1 : World) (hI : Inv w [] w1) => oneC w1
  refine TO.loud rfl (l_call ent30 (CallT.of_pure hk54) rfl ?_)
  clear hk54
  rintro v O' ⟨N, rfl, a1, f1, r1_1, r2_1, r3_1, rfl, rfl⟩
  have hk55 := fun (w1 : World) (hI : Inv w [rowI (some ⟨f1, 0, none⟩) 3 4 1 (bools [true, true, false]), rowI (some ⟨a1, 0, none⟩) 3 33 1 (vals (onQ r1_1 r2_1 r3_1)), Rec.itm 3 ⟨some ⟨r3_1, 0, none⟩, 2, [2, 2]⟩, Rec.itm 3 ⟨some ⟨r2_1, 0, none⟩, 2, [1, 2]⟩, Rec.itm 3 ⟨some ⟨r1_1, 0, none⟩, 2, [1, 2]⟩] w1) => distOut w1 oneD (some ⟨a1, 0, none⟩) (some ⟨f1, 0, none⟩) 3 3 (vals (onQ r1_1 r2_1 r3_1)) (show DfaAt w1 oneD (some ⟨a1, 0, none⟩) (vals (onQ r1_1 r2_1 r3_1)) (some ⟨f1, 0, none⟩) from ⟨hI.slOf (List.mem_of_getElem? (i := 1) rfl), hI.recs (qs := onQ r1_1 r2_1 r3_1) (E := 3) (allC (List.mem_of_getElem? (i := 4) rfl) (allC (List.mem_of_getElem? (i := 3) rfl) (allC (List.mem_of_getElem? (i := 2) rfl) allN))), hI.slOf (List.mem_of_getElem? (i := 0) rfl)⟩) one_valid 0 3 (by decide)
  refine TO.loud rfl (l_call ent25 (CallT.of_pure hk55) rfl ?_)
  clear hk55
  rintro v O' ⟨N, rfl, rfl, rfl⟩
  refine TO.quiet (q_move rfl) ?_
  refine TO.quiet (q_extract (vs := _) rfl rfl) ?_
  refine TO.quiet (q_extract (vs := _) rfl rfl) ?_
  refine TO.quiet (q_extract (vs := _) rfl rfl) ?_
  refine TO.quiet (q_assign rfl) ?_
  refine TO.quiet (q_assign rfl) ?_
  refine TO.quiet (q_assign rfl) ?_
  refine TO.sub (O' := []) (Sub.pick [] rfl) ?_
  refine TO.nil ?_
  refine T.seq ?_
  refine T.region ?_
  have hk60 := fun (w1 : World) (hI : Inv w [] w1) => oneC w1
  refine TO.loud rfl (l_call ent30 (CallT.of_pure hk60) rfl ?_)
  clear hk60
  rintro v O' ⟨N, rfl, a2, f2, r1_2, r2_2, r3_2, rfl, rfl⟩
  have hk61 := fun (w1 : World) (hI : Inv w [rowI (some ⟨f2, 0, none⟩) 3 4 1 (bools [true, true, false]), rowI (some ⟨a2, 0, none⟩) 3 33 1 (vals (onQ r1_2 r2_2 r3_2)), Rec.itm 3 ⟨some ⟨r3_2, 0, none⟩, 2, [2, 2]⟩, Rec.itm 3 ⟨some ⟨r2_2, 0, none⟩, 2, [1, 2]⟩, Rec.itm 3 ⟨some ⟨r1_2, 0, none⟩, 2, [1, 2]⟩] w1) => distOut w1 oneD (some ⟨a2, 0, none⟩) (some ⟨f2, 0, none⟩) 3 3 (vals (onQ r1_2 r2_2 r3_2)) (show DfaAt w1 oneD (some ⟨a2, 0, none⟩) (vals (onQ r1_2 r2_2 r3_2)) (some ⟨f2, 0, none⟩) from ⟨hI.slOf (List.mem_of_getElem? (i := 1) rfl), hI.recs (qs := onQ r1_2 r2_2 r3_2) (E := 3) (allC (List.mem_of_getElem? (i := 4) rfl) (allC (List.mem_of_getElem? (i := 3) rfl) (allC (List.mem_of_getElem? (i := 2) rfl) allN))), hI.slOf (List.mem_of_getElem? (i := 0) rfl)⟩) one_valid (-1) 0 (by decide)
  refine TO.loud rfl (l_call ent25 (CallT.of_pure hk61) rfl ?_)
  clear hk61
  rintro v O' ⟨N, rfl, rfl, rfl⟩
  refine TO.quiet (q_move rfl) ?_
  refine TO.quiet (q_extract (vs := _) rfl rfl) ?_
  refine TO.quiet (q_extract (vs := _) rfl rfl) ?_
  refine TO.quiet (q_extract (vs := _) rfl rfl) ?_
  refine TO.quiet (q_assign rfl) ?_
  refine TO.quiet (q_assign rfl) ?_
  refine TO.quiet (q_assign rfl) ?_
  refine TO.sub (O' := []) (Sub.pick [] rfl) ?_
  refine TO.nil ?_
  refine T.seq ?_
  refine T.region ?_
  have hk66 := fun (w1 : World) (hI : Inv w [] w1) => oneC w1
  refine TO.loud rfl (l_call ent30 (CallT.of_pure hk66) rfl ?_)
  clear hk66
  rintro v O' ⟨N, rfl, a3, f3, r1_3, r2_3, r3_3, rfl, rfl⟩
  have hk67 := fun (w1 : World) (hI : Inv w [rowI (some ⟨f3, 0, none⟩) 3 4 1 (bools [true, true, false]), rowI (some ⟨a3, 0, none⟩) 3 33 1 (vals (onQ r1_3 r2_3 r3_3)), Rec.itm 3 ⟨some ⟨r3_3, 0, none⟩, 2, [2, 2]⟩, Rec.itm 3 ⟨some ⟨r2_3, 0, none⟩, 2, [1, 2]⟩, Rec.itm 3 ⟨some ⟨r1_3, 0, none⟩, 2, [1, 2]⟩] w1) => eqvA w1 oneD (some ⟨a3, 0, none⟩) (some ⟨f3, 0, none⟩) 3 3 (vals (onQ r1_3 r2_3 r3_3)) (show DfaAt w1 oneD (some ⟨a3, 0, none⟩) (vals (onQ r1_3 r2_3 r3_3)) (some ⟨f3, 0, none⟩) from ⟨hI.slOf (List.mem_of_getElem? (i := 1) rfl), hI.recs (qs := onQ r1_3 r2_3 r3_3) (E := 3) (allC (List.mem_of_getElem? (i := 4) rfl) (allC (List.mem_of_getElem? (i := 3) rfl) (allC (List.mem_of_getElem? (i := 2) rfl) allN))), hI.slOf (List.mem_of_getElem? (i := 0) rfl)⟩) (by decide) (by decide) (by decide) (fun _ => by decide) 3 0
  refine TO.loud rfl (l_call ent27 (CallT.of_pure hk67) rfl ?_)
  clear hk67
  rintro v O' ⟨N, rfl, res, hT, rfl, rfl⟩
  refine TO.quiet (q_move rfl) ?_
  refine TO.quiet (q_extract (vs := _) rfl rfl) ?_
  refine TO.quiet (q_extract (vs := _) rfl rfl) ?_
  refine TO.quiet (q_assign rfl) ?_
  refine TO.quiet (q_assign rfl) ?_
  refine TO.sub (O' := []) (Sub.pick [] rfl) ?_
  refine TO.nil ?_
  refine T.seq ?_
  refine T.region ?_
  refine TO.loud rfl (l_build1 (v := .int .i64 1) Tryd.underlying33 inf3 rfl rfl rfl (fun b5 => ?_))
  refine TO.loud rfl (l_build1 (v := .int .i64 0) Tryd.underlying33 inf3 rfl rfl rfl (fun b6 => ?_))
  refine TO.loud rfl (l_build1 (v := .int .i64 2) Tryd.underlying33 inf3 rfl rfl rfl (fun b7 => ?_))
  refine TO.loud rfl (l_buildSlice (m := 3) (parts := [(0, .tmp 70), (1, .tmp 71), (2, .tmp 72)]) (cs := [(.slice (some ⟨b5, 0, none⟩) 1 1), (.slice (some ⟨b6, 0, none⟩) 1 1), (.slice (some ⟨b7, 0, none⟩) 1 1)]) Tryd.underlying22 inf33 (by decide) (by kernel_rfl) rfl (fun b8 => ?_))
  refine TO.loud rfl (l_buildSlice (m := 3) (parts := [(0, .const (.bool true)), (1, .const (.bool true)), (2, .const (.bool true))]) (cs := [.bool true, .bool true, .bool true]) Tryd.underlying23 inf4 (by decide) (by kernel_rfl) rfl (fun b9 => ?_))
  refine TO.quiet (q_build (cs := [(.int .i64 0), .int .i64 2, (.slice (some ⟨b8, 0, none⟩) 3 3), (.slice (some ⟨b9, 0, none⟩) 3 3)]) plan25 inf25 (by kernel_rfl)) ?_
  refine TO.loud rfl (l_alloc inf25 rfl (fun b10 => ?_))
  refine TO.loud rfl (l_store_box (v := (.agg #[(.int .i64 0), .int .i64 2, (.slice (some ⟨b8, 0, none⟩) 3 3), (.slice (some ⟨b9, 0, none⟩) 3 3)])) (vs := [(.int .i64 0), .int .i64 2, (.slice (some ⟨b8, 0, none⟩) 3 3), (.slice (some ⟨b9, 0, none⟩) 3 3)]) 0 inf25 rfl rfl rfl rfl rfl rfl (by simp [putL]) ?_)
  refine TO.nil ?_
  refine T.seq ?_
  refine T.region ?_
  refine TO.quiet (q_load_boxAgg 0 Tryd.underlying25 rfl inf25 rfl rfl rfl) ?_
  have hk78 := fun (w1 : World) (hI : Inv w [objI b10 (.cells (List.toArray [(.int .i64 0), .int .i64 2, (.slice (some ⟨b8, 0, none⟩) 3 3), (.slice (some ⟨b9, 0, none⟩) 3 3)]) 25 (0, 0)), rowI (some ⟨b9, 0, none⟩) 3 4 1 [.bool true, .bool true, .bool true], rowI (some ⟨b8, 0, none⟩) 3 33 1 [(.slice (some ⟨b5, 0, none⟩) 1 1), (.slice (some ⟨b6, 0, none⟩) 1 1), (.slice (some ⟨b7, 0, none⟩) 1 1)], rowI (some ⟨b7, 0, none⟩) 1 3 1 [.int .i64 2], rowI (some ⟨b6, 0, none⟩) 1 3 1 [.int .i64 0], rowI (some ⟨b5, 0, none⟩) 1 3 1 [.int .i64 1]] w1) => minOkE w1 sameD (some ⟨b8, 0, none⟩) (some ⟨b9, 0, none⟩) 3 3 (vals [⟨(some ⟨b5, 0, none⟩), 1, [1]⟩, ⟨(some ⟨b6, 0, none⟩), 1, [0]⟩, ⟨(some ⟨b7, 0, none⟩), 1, [2]⟩]) (show DfaAt w1 sameD (some ⟨b8, 0, none⟩) (vals [⟨(some ⟨b5, 0, none⟩), 1, [1]⟩, ⟨(some ⟨b6, 0, none⟩), 1, [0]⟩, ⟨(some ⟨b7, 0, none⟩), 1, [2]⟩]) (some ⟨b9, 0, none⟩) from ⟨hI.slOf (List.mem_of_getElem? (i := 2) rfl), hI.recs (qs := [⟨(some ⟨b5, 0, none⟩), 1, [1]⟩, ⟨(some ⟨b6, 0, none⟩), 1, [0]⟩, ⟨(some ⟨b7, 0, none⟩), 1, [2]⟩]) (E := 3) (allC (List.mem_of_getElem? (i := 5) rfl) (allC (List.mem_of_getElem? (i := 4) rfl) (allC (List.mem_of_getElem? (i := 3) rfl) allN))), hI.slOf (List.mem_of_getElem? (i := 1) rfl)⟩) same_valid (by decide) same_min
  refine TO.loud rfl (l_call ent17 (CallT.of_pure hk78) rfl ?_)
  clear hk78
  rintro v O' ⟨N, rfl, nbm, ncm, fbm, fcm, qm, rfl, rfl, hnm⟩
  refine TO.sub (O' := ([rowI nbm ncm 33 1 (vals qm), rowI fbm fcm 4 1 (bools sameM.final), objI b10 (.cells (List.toArray [(.int .i64 0), .int .i64 2, (.slice (some ⟨b8, 0, none⟩) 3 3), (.slice (some ⟨b9, 0, none⟩) 3 3)]) 25 (0, 0)), rowI (some ⟨b9, 0, none⟩) 3 4 1 [.bool true, .bool true, .bool true], rowI (some ⟨b8, 0, none⟩) 3 33 1 [(.slice (some ⟨b5, 0, none⟩) 1 1), (.slice (some ⟨b6, 0, none⟩) 1 1), (.slice (some ⟨b7, 0, none⟩) 1 1)], rowI (some ⟨b7, 0, none⟩) 1 3 1 [.int .i64 2], rowI (some ⟨b6, 0, none⟩) 1 3 1 [.int .i64 0], rowI (some ⟨b5, 0, none⟩) 1 3 1 [.int .i64 1]] ++ (itms 3 qm))) (Sub.cnt [] (by intro a; simp only [itms, List.set_cons_zero, List.set_cons_succ, putL, List.cons_append, List.nil_append, List.append_nil, List.append_assoc, List.map_append, List.map_cons, List.map_nil, cnt_append, cnt_cons, cnt_nil] <;> omega)) ?_
  refine TO.quiet (q_move rfl) ?_
  refine TO.quiet (q_extract (vs := _) rfl rfl) ?_
  refine TO.quiet (q_extract (vs := _) rfl rfl) ?_
  refine TO.loud rfl (l_alloc inf25 rfl (fun b11 => ?_))
  refine TO.loud rfl (l_store_box (v := (.agg #[(.int .i64 sameM.vars), (.int .i64 sameM.start), (.slice nbm sameM.next.length ncm), (.slice fbm sameM.final.length fcm)])) (vs := [(.int .i64 sameM.vars), (.int .i64 sameM.start), (.slice nbm sameM.next.length ncm), (.slice fbm sameM.final.length fcm)]) 0 inf25 rfl rfl rfl rfl rfl rfl (by simp [putL]) ?_)
  refine TO.quiet (q_assign rfl) ?_
  refine TO.nil ?_
  refine T.seq ?_
  refine T.region ?_
  refine TO.quiet (q_load_boxAgg 3 Tryd.underlying25 rfl inf25 rfl rfl rfl) ?_
  have hk83 := fun (w1 : World) (hI : Inv w ([objI b11 (.cells (List.toArray [(.int .i64 sameM.vars), (.int .i64 sameM.start), (.slice nbm sameM.next.length ncm), (.slice fbm sameM.final.length fcm)]) 25 (0, 0)), rowI nbm ncm 33 1 (vals qm), rowI fbm fcm 4 1 (bools sameM.final), objI b10 (.cells (List.toArray [(.int .i64 0), .int .i64 2, (.slice (some ⟨b8, 0, none⟩) 3 3), (.slice (some ⟨b9, 0, none⟩) 3 3)]) 25 (0, 0)), rowI (some ⟨b9, 0, none⟩) 3 4 1 [.bool true, .bool true, .bool true], rowI (some ⟨b8, 0, none⟩) 3 33 1 [(.slice (some ⟨b5, 0, none⟩) 1 1), (.slice (some ⟨b6, 0, none⟩) 1 1), (.slice (some ⟨b7, 0, none⟩) 1 1)], rowI (some ⟨b7, 0, none⟩) 1 3 1 [.int .i64 2], rowI (some ⟨b6, 0, none⟩) 1 3 1 [.int .i64 0], rowI (some ⟨b5, 0, none⟩) 1 3 1 [.int .i64 1]] ++ (itms 3 qm)) w1) => classesOkE w1 sameD (some ⟨b8, 0, none⟩) (some ⟨b9, 0, none⟩) 3 3 (vals [⟨(some ⟨b5, 0, none⟩), 1, [1]⟩, ⟨(some ⟨b6, 0, none⟩), 1, [0]⟩, ⟨(some ⟨b7, 0, none⟩), 1, [2]⟩]) (show DfaAt w1 sameD (some ⟨b8, 0, none⟩) (vals [⟨(some ⟨b5, 0, none⟩), 1, [1]⟩, ⟨(some ⟨b6, 0, none⟩), 1, [0]⟩, ⟨(some ⟨b7, 0, none⟩), 1, [2]⟩]) (some ⟨b9, 0, none⟩) from ⟨hI.slOf (List.mem_of_getElem? (i := 5) rfl), hI.recs (qs := [⟨(some ⟨b5, 0, none⟩), 1, [1]⟩, ⟨(some ⟨b6, 0, none⟩), 1, [0]⟩, ⟨(some ⟨b7, 0, none⟩), 1, [2]⟩]) (E := 3) (allC (List.mem_of_getElem? (i := 8) rfl) (allC (List.mem_of_getElem? (i := 7) rfl) (allC (List.mem_of_getElem? (i := 6) rfl) allN))), hI.slOf (List.mem_of_getElem? (i := 4) rfl)⟩) same_valid (by decide) (xs := [0, 0, 0]) same_it
  refine TO.loud rfl (l_call ent18 (CallT.of_pure hk83) rfl ?_)
  clear hk83
  rintro v O' ⟨N, rfl, lbS, lcS, rfl, rfl⟩
  refine TO.quiet (q_move rfl) ?_
  refine TO.quiet (q_extract (vs := _) rfl rfl) ?_
  refine TO.quiet (q_extract (vs := _) rfl rfl) ?_
  refine TO.quiet (q_assign rfl) ?_
  refine TO.quiet (q_assign rfl) ?_
  refine TO.nil ?_
  refine T.seq ?_
  refine T.region ?_
  have hk87 := fun (w1 : World) (hI : Inv w ([rowI lbS lcS 3 1 (nats [0, 0, 0]), objI b11 (.cells (List.toArray [(.int .i64 sameM.vars), (.int .i64 sameM.start), (.slice nbm sameM.next.length ncm), (.slice fbm sameM.final.length fcm)]) 25 (0, 0)), rowI nbm ncm 33 1 (vals qm), rowI fbm fcm 4 1 (bools sameM.final), objI b10 (.cells (List.toArray [(.int .i64 0), .int .i64 2, (.slice (some ⟨b8, 0, none⟩) 3 3), (.slice (some ⟨b9, 0, none⟩) 3 3)]) 25 (0, 0)), rowI (some ⟨b9, 0, none⟩) 3 4 1 [.bool true, .bool true, .bool true], rowI (some ⟨b8, 0, none⟩) 3 33 1 [(.slice (some ⟨b5, 0, none⟩) 1 1), (.slice (some ⟨b6, 0, none⟩) 1 1), (.slice (some ⟨b7, 0, none⟩) 1 1)], rowI (some ⟨b7, 0, none⟩) 1 3 1 [.int .i64 2], rowI (some ⟨b6, 0, none⟩) 1 3 1 [.int .i64 0], rowI (some ⟨b5, 0, none⟩) 1 3 1 [.int .i64 1]] ++ (itms 3 qm)) w1) => twoC w1
  refine TO.loud rfl (l_call ent31 (CallT.of_pure hk87) rfl ?_)
  clear hk87
  rintro v O' ⟨N, rfl, a4, f4, r1_4, r2_4, r3_4, rfl, rfl⟩
  have hk88 := fun (w1 : World) (hI : Inv w ([rowI (some ⟨f4, 0, none⟩) 3 4 1 (bools [false, false, true]), rowI (some ⟨a4, 0, none⟩) 3 33 1 (vals (twQ r1_4 r2_4 r3_4)), Rec.itm 3 ⟨some ⟨r3_4, 0, none⟩, 1, [2]⟩, Rec.itm 3 ⟨some ⟨r2_4, 0, none⟩, 1, [2]⟩, Rec.itm 3 ⟨some ⟨r1_4, 0, none⟩, 1, [1]⟩, rowI lbS lcS 3 1 (nats [0, 0, 0]), objI b11 (.cells (List.toArray [(.int .i64 sameM.vars), (.int .i64 sameM.start), (.slice nbm sameM.next.length ncm), (.slice fbm sameM.final.length fcm)]) 25 (0, 0)), rowI nbm ncm 33 1 (vals qm), rowI fbm fcm 4 1 (bools sameM.final), objI b10 (.cells (List.toArray [(.int .i64 0), .int .i64 2, (.slice (some ⟨b8, 0, none⟩) 3 3), (.slice (some ⟨b9, 0, none⟩) 3 3)]) 25 (0, 0)), rowI (some ⟨b9, 0, none⟩) 3 4 1 [.bool true, .bool true, .bool true], rowI (some ⟨b8, 0, none⟩) 3 33 1 [(.slice (some ⟨b5, 0, none⟩) 1 1), (.slice (some ⟨b6, 0, none⟩) 1 1), (.slice (some ⟨b7, 0, none⟩) 1 1)], rowI (some ⟨b7, 0, none⟩) 1 3 1 [.int .i64 2], rowI (some ⟨b6, 0, none⟩) 1 3 1 [.int .i64 0], rowI (some ⟨b5, 0, none⟩) 1 3 1 [.int .i64 1]] ++ (itms 3 qm)) w1) => roundsOkE w1 twoD (some ⟨a4, 0, none⟩) (some ⟨f4, 0, none⟩) 3 3 (vals (twQ r1_4 r2_4 r3_4)) (show DfaAt w1 twoD (some ⟨a4, 0, none⟩) (vals (twQ r1_4 r2_4 r3_4)) (some ⟨f4, 0, none⟩) from ⟨hI.slOf (List.mem_of_getElem? (i := 1) rfl), hI.recs (qs := twQ r1_4 r2_4 r3_4) (E := 3) (allC (List.mem_of_getElem? (i := 4) rfl) (allC (List.mem_of_getElem? (i := 3) rfl) (allC (List.mem_of_getElem? (i := 2) rfl) allN))), hI.slOf (List.mem_of_getElem? (i := 0) rfl)⟩) two_valid (by decide) 9223372036854775807 (by decide) (xs := [0, 1, 2]) two_far
  refine TO.loud rfl (l_call ent19 (CallT.of_pure hk88) rfl ?_)
  clear hk88
  rintro v O' ⟨N, rfl, lbT, lcT, rfl, rfl⟩
  refine TO.quiet (q_move rfl) ?_
  refine TO.quiet (q_extract (vs := _) rfl rfl) ?_
  refine TO.quiet (q_extract (vs := _) rfl rfl) ?_
  refine TO.quiet (q_assign rfl) ?_
  refine TO.quiet (q_assign rfl) ?_
  refine TO.sub (O' := ([rowI lbT lcT 3 1 (nats [0, 1, 2]), rowI lbS lcS 3 1 (nats [0, 0, 0]), objI b11 (.cells (List.toArray [(.int .i64 sameM.vars), (.int .i64 sameM.start), (.slice nbm sameM.next.length ncm), (.slice fbm sameM.final.length fcm)]) 25 (0, 0)), rowI nbm ncm 33 1 (vals qm), rowI fbm fcm 4 1 (bools sameM.final), objI b10 (.cells (List.toArray [(.int .i64 0), .int .i64 2, (.slice (some ⟨b8, 0, none⟩) 3 3), (.slice (some ⟨b9, 0, none⟩) 3 3)]) 25 (0, 0)), rowI (some ⟨b9, 0, none⟩) 3 4 1 [.bool true, .bool true, .bool true], rowI (some ⟨b8, 0, none⟩) 3 33 1 [(.slice (some ⟨b5, 0, none⟩) 1 1), (.slice (some ⟨b6, 0, none⟩) 1 1), (.slice (some ⟨b7, 0, none⟩) 1 1)], rowI (some ⟨b7, 0, none⟩) 1 3 1 [.int .i64 2], rowI (some ⟨b6, 0, none⟩) 1 3 1 [.int .i64 0], rowI (some ⟨b5, 0, none⟩) 1 3 1 [.int .i64 1]] ++ (itms 3 qm))) (Sub.pickR [0, 5, 5, 5, 5, 5, 5, 5, 5, 5, 5] [rowI lbT lcT 3 1 (nats [0, 1, 2]), rowI (some ⟨f4, 0, none⟩) 3 4 1 (bools [false, false, true]), rowI (some ⟨a4, 0, none⟩) 3 33 1 (vals (twQ r1_4 r2_4 r3_4)), Rec.itm 3 ⟨some ⟨r3_4, 0, none⟩, 1, [2]⟩, Rec.itm 3 ⟨some ⟨r2_4, 0, none⟩, 1, [2]⟩, Rec.itm 3 ⟨some ⟨r1_4, 0, none⟩, 1, [1]⟩, rowI lbS lcS 3 1 (nats [0, 0, 0]), objI b11 (.cells (List.toArray [(.int .i64 sameM.vars), (.int .i64 sameM.start), (.slice nbm sameM.next.length ncm), (.slice fbm sameM.final.length fcm)]) 25 (0, 0)), rowI nbm ncm 33 1 (vals qm), rowI fbm fcm 4 1 (bools sameM.final), objI b10 (.cells (List.toArray [(.int .i64 0), .int .i64 2, (.slice (some ⟨b8, 0, none⟩) 3 3), (.slice (some ⟨b9, 0, none⟩) 3 3)]) 25 (0, 0)), rowI (some ⟨b9, 0, none⟩) 3 4 1 [.bool true, .bool true, .bool true], rowI (some ⟨b8, 0, none⟩) 3 33 1 [(.slice (some ⟨b5, 0, none⟩) 1 1), (.slice (some ⟨b6, 0, none⟩) 1 1), (.slice (some ⟨b7, 0, none⟩) 1 1)], rowI (some ⟨b7, 0, none⟩) 1 3 1 [.int .i64 2], rowI (some ⟨b6, 0, none⟩) 1 3 1 [.int .i64 0], rowI (some ⟨b5, 0, none⟩) 1 3 1 [.int .i64 1]] (itms 3 qm) rfl rfl) ?_
  refine TO.nil ?_
  refine T.seq ?_
  refine T.region ?_
  have hk92 := fun (w1 : World) (hI : Inv w ([rowI lbT lcT 3 1 (nats [0, 1, 2]), rowI lbS lcS 3 1 (nats [0, 0, 0]), objI b11 (.cells (List.toArray [(.int .i64 sameM.vars), (.int .i64 sameM.start), (.slice nbm sameM.next.length ncm), (.slice fbm sameM.final.length fcm)]) 25 (0, 0)), rowI nbm ncm 33 1 (vals qm), rowI fbm fcm 4 1 (bools sameM.final), objI b10 (.cells (List.toArray [(.int .i64 0), .int .i64 2, (.slice (some ⟨b8, 0, none⟩) 3 3), (.slice (some ⟨b9, 0, none⟩) 3 3)]) 25 (0, 0)), rowI (some ⟨b9, 0, none⟩) 3 4 1 [.bool true, .bool true, .bool true], rowI (some ⟨b8, 0, none⟩) 3 33 1 [(.slice (some ⟨b5, 0, none⟩) 1 1), (.slice (some ⟨b6, 0, none⟩) 1 1), (.slice (some ⟨b7, 0, none⟩) 1 1)], rowI (some ⟨b7, 0, none⟩) 1 3 1 [.int .i64 2], rowI (some ⟨b6, 0, none⟩) 1 3 1 [.int .i64 0], rowI (some ⟨b5, 0, none⟩) 1 3 1 [.int .i64 1]] ++ (itms 3 qm)) w1) => twoC w1
  refine TO.loud rfl (l_call ent31 (CallT.of_pure hk92) rfl ?_)
  clear hk92
  rintro v O' ⟨N, rfl, a5, f5, r1_5, r2_5, r3_5, rfl, rfl⟩
  have hk93 := fun (w1 : World) (hI : Inv w ([rowI (some ⟨f5, 0, none⟩) 3 4 1 (bools [false, false, true]), rowI (some ⟨a5, 0, none⟩) 3 33 1 (vals (twQ r1_5 r2_5 r3_5)), Rec.itm 3 ⟨some ⟨r3_5, 0, none⟩, 1, [2]⟩, Rec.itm 3 ⟨some ⟨r2_5, 0, none⟩, 1, [2]⟩, Rec.itm 3 ⟨some ⟨r1_5, 0, none⟩, 1, [1]⟩, rowI lbT lcT 3 1 (nats [0, 1, 2]), rowI lbS lcS 3 1 (nats [0, 0, 0]), objI b11 (.cells (List.toArray [(.int .i64 sameM.vars), (.int .i64 sameM.start), (.slice nbm sameM.next.length ncm), (.slice fbm sameM.final.length fcm)]) 25 (0, 0)), rowI nbm ncm 33 1 (vals qm), rowI fbm fcm 4 1 (bools sameM.final), objI b10 (.cells (List.toArray [(.int .i64 0), .int .i64 2, (.slice (some ⟨b8, 0, none⟩) 3 3), (.slice (some ⟨b9, 0, none⟩) 3 3)]) 25 (0, 0)), rowI (some ⟨b9, 0, none⟩) 3 4 1 [.bool true, .bool true, .bool true], rowI (some ⟨b8, 0, none⟩) 3 33 1 [(.slice (some ⟨b5, 0, none⟩) 1 1), (.slice (some ⟨b6, 0, none⟩) 1 1), (.slice (some ⟨b7, 0, none⟩) 1 1)], rowI (some ⟨b7, 0, none⟩) 1 3 1 [.int .i64 2], rowI (some ⟨b6, 0, none⟩) 1 3 1 [.int .i64 0], rowI (some ⟨b5, 0, none⟩) 1 3 1 [.int .i64 1]] ++ (itms 3 qm)) w1) => roundsOkE w1 twoD (some ⟨a5, 0, none⟩) (some ⟨f5, 0, none⟩) 3 3 (vals (twQ r1_5 r2_5 r3_5)) (show DfaAt w1 twoD (some ⟨a5, 0, none⟩) (vals (twQ r1_5 r2_5 r3_5)) (some ⟨f5, 0, none⟩) from ⟨hI.slOf (List.mem_of_getElem? (i := 1) rfl), hI.recs (qs := twQ r1_5 r2_5 r3_5) (E := 3) (allC (List.mem_of_getElem? (i := 4) rfl) (allC (List.mem_of_getElem? (i := 3) rfl) (allC (List.mem_of_getElem? (i := 2) rfl) allN))), hI.slOf (List.mem_of_getElem? (i := 0) rfl)⟩) two_valid (by decide) (-9223372036854775808) (by decide) (xs := [0, 0, 1]) two_low
  refine TO.loud rfl (l_call ent19 (CallT.of_pure hk93) rfl ?_)
  clear hk93
  rintro v O' ⟨N, rfl, lbU, lcU, rfl, rfl⟩
  refine TO.quiet (q_move rfl) ?_
  refine TO.quiet (q_extract (vs := _) rfl rfl) ?_
  refine TO.quiet (q_extract (vs := _) rfl rfl) ?_
  refine TO.quiet (q_assign rfl) ?_
  refine TO.quiet (q_assign rfl) ?_
  refine TO.nil ?_
  refine T.seq ?_
  refine T.region ?_
  refine TO.quiet (q_move rfl) ?_
  refine TO.quiet (QT.toB (q_eql rfl rfl) (decide_eq_true (by decide))) ?_
  refine TO.quiet (q_move rfl) ?_
  refine TO.guarded rfl rfl rfl (LT.of_quiet rfl rfl (q_move rfl) ?_)
  refine TO.guarded rfl rfl rfl (LT.of_quiet rfl rfl (QT.toB (q_eql rfl rfl) (decide_eq_true (by decide))) ?_)
  refine TO.quiet (q_pick1 rfl rfl) ?_
  refine TO.quiet (q_move rfl) ?_
  refine TO.guarded rfl rfl rfl (LT.of_quiet rfl rfl (q_move rfl) ?_)
  refine TO.guarded rfl rfl rfl (LT.of_quiet rfl rfl (QT.toB (q_eql rfl rfl) (decide_eq_true (by decide))) ?_)
  refine TO.quiet (q_pick1 rfl rfl) ?_
  refine TO.quiet (q_move rfl) ?_
  refine TO.guarded rfl rfl rfl (LT.of_quiet rfl rfl (q_move rfl) ?_)
  refine TO.guarded rfl rfl rfl (LT.of_quiet rfl rfl (QT.toB (q_eql rfl rfl) (decide_eq_true (by decide))) ?_)
  refine TO.quiet (q_pick1 rfl rfl) ?_
  refine TO.quiet (q_move rfl) ?_
  refine TO.guarded rfl rfl rfl (LT.of_quiet rfl rfl (q_move rfl) ?_)
  refine TO.guarded rfl rfl rfl (LT.of_quiet rfl rfl (QT.toB (q_eql rfl rfl) (decide_eq_true (by decide))) ?_)
  refine TO.quiet (q_pick1 rfl rfl) ?_
  refine TO.quiet (q_move rfl) ?_
  refine TO.guarded rfl rfl rfl (LT.of_quiet rfl rfl (q_move rfl) ?_)
  refine TO.guarded rfl rfl rfl (LT.of_quiet rfl rfl (QT.toB (q_eql rfl rfl) (decide_eq_true (by decide))) ?_)
  refine TO.quiet (q_pick1 rfl rfl) ?_
  refine TO.quiet (q_move rfl) ?_
  refine TO.guarded rfl rfl rfl (LT.of_quiet rfl rfl (q_move rfl) ?_)
  refine TO.guarded rfl rfl rfl (LT.of_quiet rfl rfl (QT.toB (q_eql rfl rfl) (decide_eq_true (by decide))) ?_)
  refine TO.quiet (q_pick1 rfl rfl) ?_
  refine TO.quiet (q_move rfl) ?_
  refine TO.guarded rfl rfl rfl (LT.of_quiet rfl rfl (q_move rfl) ?_)
  refine TO.guarded rfl rfl rfl (LT.of_quiet rfl rfl (QT.toB (q_eql rfl rfl) (decide_eq_true (by decide))) ?_)
  refine TO.quiet (q_pick1 rfl rfl) ?_
  refine TO.quiet (q_move rfl) ?_
  refine TO.guarded rfl rfl rfl (LT.of_quiet rfl rfl (q_load_boxAgg 8 Tryd.underlying25 rfl inf25 rfl rfl rfl) ?_)
  refine TO.guarded rfl rfl rfl (l_build1 (v := .int .i64 0) Tryd.underlying33 inf3 rfl rfl rfl (fun b12 => ?_))
  refine TO.guarded rfl rfl rfl (l_build1 (v := (.slice (some ⟨b12, 0, none⟩) 1 1)) Tryd.underlying22 inf33 rfl rfl rfl (fun b13 => ?_))
  refine TO.guarded rfl rfl rfl (l_build1 (v := .bool true) Tryd.underlying23 inf4 rfl rfl rfl (fun b14 => ?_))
  refine TO.guarded rfl rfl rfl (LT.of_quiet rfl rfl (q_build (cs := [(.int .i64 0), (.int .i64 0), (.slice (some ⟨b13, 0, none⟩) 1 1), (.slice (some ⟨b14, 0, none⟩) 1 1)]) plan25 inf25 (by kernel_rfl)) ?_)
  have hk132 := fun (w1 : World) (hI : Inv w ([rowI (some ⟨b14, 0, none⟩) 1 4 1 [.bool true], rowI (some ⟨b13, 0, none⟩) 1 33 1 [(.slice (some ⟨b12, 0, none⟩) 1 1)], rowI (some ⟨b12, 0, none⟩) 1 3 1 [.int .i64 0], rowI lbU lcU 3 1 (nats [0, 0, 1]), rowI (some ⟨f5, 0, none⟩) 3 4 1 (bools [false, false, true]), rowI (some ⟨a5, 0, none⟩) 3 33 1 (vals (twQ r1_5 r2_5 r3_5)), Rec.itm 3 ⟨some ⟨r3_5, 0, none⟩, 1, [2]⟩, Rec.itm 3 ⟨some ⟨r2_5, 0, none⟩, 1, [2]⟩, Rec.itm 3 ⟨some ⟨r1_5, 0, none⟩, 1, [1]⟩, rowI lbT lcT 3 1 (nats [0, 1, 2]), rowI lbS lcS 3 1 (nats [0, 0, 0]), objI b11 (.cells (List.toArray [(.int .i64 sameM.vars), (.int .i64 sameM.start), (.slice nbm sameM.next.length ncm), (.slice fbm sameM.final.length fcm)]) 25 (0, 0)), rowI nbm ncm 33 1 (vals qm), rowI fbm fcm 4 1 (bools sameM.final), objI b10 (.cells (List.toArray [(.int .i64 0), .int .i64 2, (.slice (some ⟨b8, 0, none⟩) 3 3), (.slice (some ⟨b9, 0, none⟩) 3 3)]) 25 (0, 0)), rowI (some ⟨b9, 0, none⟩) 3 4 1 [.bool true, .bool true, .bool true], rowI (some ⟨b8, 0, none⟩) 3 33 1 [(.slice (some ⟨b5, 0, none⟩) 1 1), (.slice (some ⟨b6, 0, none⟩) 1 1), (.slice (some ⟨b7, 0, none⟩) 1 1)], rowI (some ⟨b7, 0, none⟩) 1 3 1 [.int .i64 2], rowI (some ⟨b6, 0, none⟩) 1 3 1 [.int .i64 0], rowI (some ⟨b5, 0, none⟩) 1 3 1 [.int .i64 1]] ++ (itms 3 qm)) w1) => equalDFAT w1 sameM nbm (some ⟨b13, 0, none⟩) fbm (some ⟨b14, 0, none⟩) ncm 1 fcm 1 (vals qm) (vals [⟨(some ⟨b12, 0, none⟩), 1, [0]⟩]) (show DfaAt w1 sameM nbm (vals qm) fbm from ⟨hI.slOf (List.mem_of_getElem? (i := 12) rfl), hnm ▸ hI.recs (fun q hq => List.mem_append_right _ (List.mem_map_of_mem (f := Rec.itm 3) hq)), hI.slOf (List.mem_of_getElem? (i := 13) rfl)⟩) (show DfaAt w1 sameM (some ⟨b13, 0, none⟩) (vals [⟨(some ⟨b12, 0, none⟩), 1, [0]⟩]) (some ⟨b14, 0, none⟩) from ⟨hI.slOf (List.mem_of_getElem? (i := 1) rfl), hI.recs (qs := [⟨(some ⟨b12, 0, none⟩), 1, [0]⟩]) (E := 3) (allC (List.mem_of_getElem? (i := 2) rfl) allN), hI.slOf (List.mem_of_getElem? (i := 0) rfl)⟩) (by decide) (by decide) (by decide)
  refine TO.guarded rfl rfl rfl (l_call ent20 (CallT.of_pure hk132) rfl ?_)
  clear hk132
  rintro v O' ⟨N, rfl, rfl, rfl⟩
  refine TO.quiet (q_pick1 rfl rfl) ?_
  refine TO.quiet (q_move rfl) ?_
  refine TO.guarded rfl rfl rfl (LT.of_quiet rfl rfl (q_move rfl) ?_)
  refine TO.guarded rfl rfl rfl (LT.of_quiet rfl rfl (QT.toB (q_eql rfl rfl) (decide_eq_true (by decide))) ?_)
  refine TO.quiet (q_pick1 rfl rfl) ?_
  refine TO.quiet (q_move rfl) ?_
  refine TO.guarded rfl rfl rfl (LT.of_quiet rfl rfl (q_move rfl) ?_)
  refine TO.guarded rfl rfl rfl (l_buildSlice (m := 3) (parts := [(0, .const (.int .i64 0)), (1, .const (.int .i64 0)), (2, .const (.int .i64 0))]) (cs := [.int .i64 0, .int .i64 0, .int .i64 0]) Tryd.underlying33 inf3 (by decide) (by kernel_rfl) rfl (fun b15 => ?_))
  have hk141 := fun (w1 : World) (hI : Inv w ([rowI (some ⟨b15, 0, none⟩) 3 3 1 [.int .i64 0, .int .i64 0, .int .i64 0], rowI (some ⟨b14, 0, none⟩) 1 4 1 [.bool true], rowI (some ⟨b13, 0, none⟩) 1 33 1 [(.slice (some ⟨b12, 0, none⟩) 1 1)], rowI (some ⟨b12, 0, none⟩) 1 3 1 [.int .i64 0], rowI lbU lcU 3 1 (nats [0, 0, 1]), rowI (some ⟨f5, 0, none⟩) 3 4 1 (bools [false, false, true]), rowI (some ⟨a5, 0, none⟩) 3 33 1 (vals (twQ r1_5 r2_5 r3_5)), Rec.itm 3 ⟨some ⟨r3_5, 0, none⟩, 1, [2]⟩, Rec.itm 3 ⟨some ⟨r2_5, 0, none⟩, 1, [2]⟩, Rec.itm 3 ⟨some ⟨r1_5, 0, none⟩, 1, [1]⟩, rowI lbT lcT 3 1 (nats [0, 1, 2]), rowI lbS lcS 3 1 (nats [0, 0, 0]), objI b11 (.cells (List.toArray [(.int .i64 sameM.vars), (.int .i64 sameM.start), (.slice nbm sameM.next.length ncm), (.slice fbm sameM.final.length fcm)]) 25 (0, 0)), rowI nbm ncm 33 1 (vals qm), rowI fbm fcm 4 1 (bools sameM.final), objI b10 (.cells (List.toArray [(.int .i64 0), .int .i64 2, (.slice (some ⟨b8, 0, none⟩) 3 3), (.slice (some ⟨b9, 0, none⟩) 3 3)]) 25 (0, 0)), rowI (some ⟨b9, 0, none⟩) 3 4 1 [.bool true, .bool true, .bool true], rowI (some ⟨b8, 0, none⟩) 3 33 1 [(.slice (some ⟨b5, 0, none⟩) 1 1), (.slice (some ⟨b6, 0, none⟩) 1 1), (.slice (some ⟨b7, 0, none⟩) 1 1)], rowI (some ⟨b7, 0, none⟩) 1 3 1 [.int .i64 2], rowI (some ⟨b6, 0, none⟩) 1 3 1 [.int .i64 0], rowI (some ⟨b5, 0, none⟩) 1 3 1 [.int .i64 1]] ++ (itms 3 qm)) w1) => equalNatsT w1 lbS (some ⟨b15, 0, none⟩) lcS 3 3 3 ([0, 0, 0] : List Nat) rfl rfl (hI.slOf (List.mem_of_getElem? (i := 11) rfl)) (hI.slOf (List.mem_of_getElem? (i := 0) rfl)) (by decide)
  refine TO.guarded rfl rfl rfl (l_call ent21 (CallT.of_pure hk141) rfl ?_)
  clear hk141
  rintro v O' ⟨N, rfl, rfl, rfl⟩
  refine TO.quiet (q_pick1 rfl rfl) ?_
  refine TO.quiet (q_move rfl) ?_
  refine TO.guarded rfl rfl rfl (LT.of_quiet rfl rfl (q_move rfl) ?_)
  refine TO.guarded rfl rfl rfl (LT.of_quiet rfl rfl (QT.toB (q_eql rfl rfl) (decide_eq_true (by decide))) ?_)
  refine TO.quiet (q_pick1 rfl rfl) ?_
  refine TO.quiet (q_move rfl) ?_
  refine TO.guarded rfl rfl rfl (LT.of_quiet rfl rfl (q_move rfl) ?_)
  refine TO.guarded rfl rfl rfl (l_buildSlice (m := 3) (parts := [(0, .const (.int .i64 0)), (1, .const (.int .i64 1)), (2, .const (.int .i64 2))]) (cs := [.int .i64 0, .int .i64 1, .int .i64 2]) Tryd.underlying33 inf3 (by decide) (by kernel_rfl) rfl (fun b16 => ?_))
  have hk150 := fun (w1 : World) (hI : Inv w ([rowI (some ⟨b16, 0, none⟩) 3 3 1 [.int .i64 0, .int .i64 1, .int .i64 2], rowI (some ⟨b15, 0, none⟩) 3 3 1 [.int .i64 0, .int .i64 0, .int .i64 0], rowI (some ⟨b14, 0, none⟩) 1 4 1 [.bool true], rowI (some ⟨b13, 0, none⟩) 1 33 1 [(.slice (some ⟨b12, 0, none⟩) 1 1)], rowI (some ⟨b12, 0, none⟩) 1 3 1 [.int .i64 0], rowI lbU lcU 3 1 (nats [0, 0, 1]), rowI (some ⟨f5, 0, none⟩) 3 4 1 (bools [false, false, true]), rowI (some ⟨a5, 0, none⟩) 3 33 1 (vals (twQ r1_5 r2_5 r3_5)), Rec.itm 3 ⟨some ⟨r3_5, 0, none⟩, 1, [2]⟩, Rec.itm 3 ⟨some ⟨r2_5, 0, none⟩, 1, [2]⟩, Rec.itm 3 ⟨some ⟨r1_5, 0, none⟩, 1, [1]⟩, rowI lbT lcT 3 1 (nats [0, 1, 2]), rowI lbS lcS 3 1 (nats [0, 0, 0]), objI b11 (.cells (List.toArray [(.int .i64 sameM.vars), (.int .i64 sameM.start), (.slice nbm sameM.next.length ncm), (.slice fbm sameM.final.length fcm)]) 25 (0, 0)), rowI nbm ncm 33 1 (vals qm), rowI fbm fcm 4 1 (bools sameM.final), objI b10 (.cells (List.toArray [(.int .i64 0), .int .i64 2, (.slice (some ⟨b8, 0, none⟩) 3 3), (.slice (some ⟨b9, 0, none⟩) 3 3)]) 25 (0, 0)), rowI (some ⟨b9, 0, none⟩) 3 4 1 [.bool true, .bool true, .bool true], rowI (some ⟨b8, 0, none⟩) 3 33 1 [(.slice (some ⟨b5, 0, none⟩) 1 1), (.slice (some ⟨b6, 0, none⟩) 1 1), (.slice (some ⟨b7, 0, none⟩) 1 1)], rowI (some ⟨b7, 0, none⟩) 1 3 1 [.int .i64 2], rowI (some ⟨b6, 0, none⟩) 1 3 1 [.int .i64 0], rowI (some ⟨b5, 0, none⟩) 1 3 1 [.int .i64 1]] ++ (itms 3 qm)) w1) => equalNatsT w1 lbT (some ⟨b16, 0, none⟩) lcT 3 3 3 ([0, 1, 2] : List Nat) rfl rfl (hI.slOf (List.mem_of_getElem? (i := 11) rfl)) (hI.slOf (List.mem_of_getElem? (i := 0) rfl)) (by decide)
  refine TO.guarded rfl rfl rfl (l_call ent21 (CallT.of_pure hk150) rfl ?_)
  clear hk150
  rintro v O' ⟨N, rfl, rfl, rfl⟩
  refine TO.quiet (q_pick1 rfl rfl) ?_
  refine TO.quiet (q_move rfl) ?_
  refine TO.guarded rfl rfl rfl (LT.of_quiet rfl rfl (q_move rfl) ?_)
  refine TO.guarded rfl rfl rfl (LT.of_quiet rfl rfl (QT.toB (q_eql rfl rfl) (decide_eq_true (by decide))) ?_)
  refine TO.quiet (q_pick1 rfl rfl) ?_
  refine TO.quiet (q_move rfl) ?_
  refine TO.guarded rfl rfl rfl (LT.of_quiet rfl rfl (q_move rfl) ?_)
  refine TO.guarded rfl rfl rfl (l_buildSlice (m := 3) (parts := [(0, .const (.int .i64 0)), (1, .const (.int .i64 0)), (2, .const (.int .i64 1))]) (cs := [.int .i64 0, .int .i64 0, .int .i64 1]) Tryd.underlying33 inf3 (by decide) (by kernel_rfl) rfl (fun b17 => ?_))
  have hk159 := fun (w1 : World) (hI : Inv w ([rowI (some ⟨b17, 0, none⟩) 3 3 1 [.int .i64 0, .int .i64 0, .int .i64 1], rowI (some ⟨b16, 0, none⟩) 3 3 1 [.int .i64 0, .int .i64 1, .int .i64 2], rowI (some ⟨b15, 0, none⟩) 3 3 1 [.int .i64 0, .int .i64 0, .int .i64 0], rowI (some ⟨b14, 0, none⟩) 1 4 1 [.bool true], rowI (some ⟨b13, 0, none⟩) 1 33 1 [(.slice (some ⟨b12, 0, none⟩) 1 1)], rowI (some ⟨b12, 0, none⟩) 1 3 1 [.int .i64 0], rowI lbU lcU 3 1 (nats [0, 0, 1]), rowI (some ⟨f5, 0, none⟩) 3 4 1 (bools [false, false, true]), rowI (some ⟨a5, 0, none⟩) 3 33 1 (vals (twQ r1_5 r2_5 r3_5)), Rec.itm 3 ⟨some ⟨r3_5, 0, none⟩, 1, [2]⟩, Rec.itm 3 ⟨some ⟨r2_5, 0, none⟩, 1, [2]⟩, Rec.itm 3 ⟨some ⟨r1_5, 0, none⟩, 1, [1]⟩, rowI lbT lcT 3 1 (nats [0, 1, 2]), rowI lbS lcS 3 1 (nats [0, 0, 0]), objI b11 (.cells (List.toArray [(.int .i64 sameM.vars), (.int .i64 sameM.start), (.slice nbm sameM.next.length ncm), (.slice fbm sameM.final.length fcm)]) 25 (0, 0)), rowI nbm ncm 33 1 (vals qm), rowI fbm fcm 4 1 (bools sameM.final), objI b10 (.cells (List.toArray [(.int .i64 0), .int .i64 2, (.slice (some ⟨b8, 0, none⟩) 3 3), (.slice (some ⟨b9, 0, none⟩) 3 3)]) 25 (0, 0)), rowI (some ⟨b9, 0, none⟩) 3 4 1 [.bool true, .bool true, .bool true], rowI (some ⟨b8, 0, none⟩) 3 33 1 [(.slice (some ⟨b5, 0, none⟩) 1 1), (.slice (some ⟨b6, 0, none⟩) 1 1), (.slice (some ⟨b7, 0, none⟩) 1 1)], rowI (some ⟨b7, 0, none⟩) 1 3 1 [.int .i64 2], rowI (some ⟨b6, 0, none⟩) 1 3 1 [.int .i64 0], rowI (some ⟨b5, 0, none⟩) 1 3 1 [.int .i64 1]] ++ (itms 3 qm)) w1) => equalNatsT w1 lbU (some ⟨b17, 0, none⟩) lcU 3 3 3 ([0, 0, 1] : List Nat) rfl rfl (hI.slOf (List.mem_of_getElem? (i := 6) rfl)) (hI.slOf (List.mem_of_getElem? (i := 0) rfl)) (by decide)
  refine TO.guarded rfl rfl rfl (l_call ent21 (CallT.of_pure hk159) rfl ?_)
  clear hk159
  rintro v O' ⟨N, rfl, rfl, rfl⟩
  refine TO.quiet (q_pick1 rfl rfl) ?_
  refine TO.quiet (q_assign rfl) ?_
  refine TO.nil ?_
  refine T.ret ?_
  refine Res.drop ?_
  refine Res.one (.bool true) Tryd.results6 rfl ?_
  exact ⟨[], Sub.of (List.nil_sublist _), rfl, rfl⟩
end Go.Proofs.YthfemndklplpbaaDoor

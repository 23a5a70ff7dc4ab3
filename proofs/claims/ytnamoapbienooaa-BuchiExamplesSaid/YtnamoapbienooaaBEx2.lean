/- Contracts of functions of the program (BEx2): what each call answers and that it leaves memory as it was. Conditions: those each theorem names. -/
import Derived.Test.YtnamoapbienooaaBEx1
import Derived.Test.YtnamoapbienooaaCoreD2
import Derived.Test.YtnamoapbienooaaEndB
import Derived.Test.YtnamoapbienooaaBUni
import Derived.Test.YtnamoapbienooaaBInt
import Derived.Test.YtnamoapbienooaaBDeg
import Derived.Test.YtnamoapbienooaaBCan
import Derived.Test.YtnamoapbienooaaBMrk
import Derived.Test.YtnamoapbienooaaBChk
set_option linter.unusedSectionVars false
set_option linter.unusedSimpArgs false
set_option linter.unusedVariables false
set_option linter.unnecessarySimpa false
namespace Go.Proofs.Ytnamoapbienooaa
open Go.Lx Go.RowKit
set_option linter.unusedVariables false
set_option linter.unusedSimpArgs false
set_option maxHeartbeats 8000000 in
set_option maxRecDepth 20000 in
theorem examplesW (w : World) :
    PureT Try.prog 10 [] w fun v N => v = .bool true ∧ N = [] := by
  refine CallT.enter Try.func10 rfl Try.ntmps10 rfl ?_
  refine T.seq (T.region ?_)
  refine TO.quiet (q_assign rfl) ?_
  refine TO.nil (T.seq (T.seq (T.region ?_)))
  have hk25 := fun (w1 : World) (hI : Inv w [] w1) => awakeF w1
  refine TO.loud rfl (l_call ent14 (CallT.of_pure hk25) rfl ?_)
  clear hk25
  rintro vr O' ⟨N, rfl, rfl, rfl⟩
  refine TO.quiet (q_not rfl) (TO.quiet (q_move rfl) (TO.quiet (q_pick0 rfl rfl) ?_))
  refine TO.nil ?_
  refine T.cond0 rfl ?_
  refine T.skip (T.seq (T.region ?_))
  have hk29 := fun (w1 : World) (hI : Inv w [] w1) => alwaysF w1
  refine TO.loud rfl (l_call ent44 (CallT.of_pure hk29) rfl ?_)
  clear hk29
  rintro vr O' ⟨N, rfl, sk, ek, tk, qk, rfl, rfl⟩
  refine TO.loud rfl (l_alloc inf26 rfl (fun z1 => ?_))
  refine TO.loud rfl (l_store_box (v := (.agg #[(.int .i64 1), (.int .i64 2), (.slice sk 1 1), (.slice ek 3 3), (.slice tk 1 1)])) (vs := [(.int .i64 1), (.int .i64 2), (.slice sk 1 1), (.slice ek 3 3), (.slice tk 1 1)]) 0 inf26 rfl rfl rfl rfl rfl rfl (by simp [putL]) ?_)
  refine TO.nil (T.seq ?_)
  refine T.cut (fun ρ O => ∃ (zT z10 z11 z14 z17 z20 z23 z24 z25 x29 x32 x35 x38 x41 : Nat) (s29 e29 t29 q29 s32 e32 t32 q32 s35 e35 t35 q35 s38 e38 t38 q38 s41 e41 t41 q41 : Option Addr), O = [rowI (some ⟨zT, 0, none⟩) 17 67 6 [(.int .i64 (-1)), (.int .i64 (-1)), (.slice none 0 0), (.slice none 0 0), (.slice none 0 0), .int .i64 7, (.int .i64 7), (.int .i64 0), (.slice none 0 0), (.slice none 0 0), (.slice none 0 0), .int .i64 7, (.int .i64 0), (.int .i64 (-1)), (.slice none 0 0), (.slice none 0 0), (.slice none 0 0), .int .i64 1, (.int .i64 6), (.int .i64 4097), (.slice none 0 0), (.slice none 0 0), (.slice none 0 0), .int .i64 10, (.int .i64 6), (.int .i64 4096), (.slice none 0 0), (.slice none 0 0), (.slice none 0 0), .int .i64 0, (.int .i64 0), (.int .i64 0), (.slice (some ⟨z11, 0, none⟩) 1 1), (.slice none 0 0), (.slice (some ⟨z10, 0, none⟩) 9 9), .int .i64 4, (.int .i64 0), (.int .i64 0), (.slice (some ⟨z14, 0, none⟩) 1 1), (.slice none 0 0), (.slice none 0 0), .int .i64 8, (.int .i64 0), .int .i64 2, (.slice (some ⟨z17, 0, none⟩) 2 2), (.slice none 0 0), (.slice none 0 0), .int .i64 8, (.int .i64 0), .int .i64 2, (.slice (some ⟨z20, 0, none⟩) 2 2), (.slice none 0 0), (.slice none 0 0), .int .i64 8, (.int .i64 0), .int .i64 2, (.slice none 0 0), (.slice none 0 0), (.slice (some ⟨z25, 0, none⟩) 2 2), .int .i64 8, (.int .i64 1), (.int .i64 2), (.slice s29 1 1), (.slice e29 4 x29), (.slice t29 1 1), .int .i64 8, (.int .i64 1), (.int .i64 2), (.slice s32 1 1), (.slice e32 4 x32), (.slice t32 1 1), .int .i64 8, (.int .i64 1), (.int .i64 2), (.slice s35 1 1), (.slice e35 4 x35), (.slice t35 1 1), .int .i64 1, (.int .i64 1), (.int .i64 2), (.slice s38 1 1), (.slice e38 4 x38), (.slice t38 1 1), .int .i64 1, (.int .i64 1), (.int .i64 2), (.slice s41 1 1), (.slice e41 4 x41), (.slice t41 1 1), .int .i64 1, (.int .i64 1), (.int .i64 2), (.slice sk 1 1), (.slice ek 3 3), (.slice tk 1 1), .int .i64 0, (.int .i64 0), (.int .i64 0), (.slice none 0 0), (.slice none 0 0), (.slice none 0 0), .int .i64 0], rowI (some ⟨z10, 0, none⟩) 9 22 1 (List.replicate 9 (.slice none 0 0)), rowI (some ⟨z11, 0, none⟩) 1 3 1 [.int .i64 0], rowI (some ⟨z14, 0, none⟩) 1 3 1 [.int .i64 0], rowI (some ⟨z17, 0, none⟩) 2 3 1 [.int .i64 1, .int .i64 0], rowI (some ⟨z20, 0, none⟩) 2 3 1 [.int .i64 1, .int .i64 1], rowI (some ⟨z23, 0, none⟩) 0 3 1 [], rowI (some ⟨z24, 0, none⟩) 1 3 1 [.int .i64 2], rowI (some ⟨z25, 0, none⟩) 2 22 1 [(.slice (some ⟨z23, 0, none⟩) 0 0), (.slice (some ⟨z24, 0, none⟩) 1 1)], rowI s29 1 3 1 (ints alwB.start), rowI e29 x29 54 4 (edsC (edgB ⟨2, 0, 2, 0⟩).edges), rowI t29 1 22 1 [.slice q29 1 1], rowI q29 1 3 1 (ints [1]), rowI s32 1 3 1 (ints alwB.start), rowI e32 x32 54 4 (edsC (edgB ⟨0, (-1), 0, 0⟩).edges), rowI t32 1 22 1 [.slice q32 1 1], rowI q32 1 3 1 (ints [1]), rowI s35 1 3 1 (ints alwB.start), rowI e35 x35 54 4 (edsC (edgB ⟨0, 0, 2, 0⟩).edges), rowI t35 1 22 1 [.slice q35 1 1], rowI q35 1 3 1 (ints [1]), rowI s38 1 3 1 (ints alwB.start), rowI e38 x38 54 4 (edsC (edgB ⟨0, 0, 0, 2⟩).edges), rowI t38 1 22 1 [.slice q38 1 1], rowI q38 1 3 1 (ints [1]), rowI s41 1 3 1 (ints alwB.start), rowI e41 x41 54 4 (edsC (edgB ⟨0, 0, 1, 1⟩).edges), rowI t41 1 22 1 [.slice q41 1 1], rowI q41 1 3 1 (ints [1]), oI z1 26 [(.int .i64 1), (.int .i64 2), (.slice sk 1 1), (.slice ek 3 3), (.slice tk 1 1)], rowI sk 1 3 1 (ints alwB.start), rowI ek 3 54 4 (edsC alwB.edges), rowI tk 1 22 1 [.slice qk 1 1], rowI qk 1 3 1 (ints [1])] ∧ Heads [(0, .bool false), (1, (.pointer (some ⟨z1, 0, none⟩))), (77, (.slice (some ⟨zT, 0, none⟩) 17 17)), (78, .int .i64 17), (79, .int .i64 0)] ρ) ?_ ?_
  · refine T.treeT [oI z1 26 [(.int .i64 1), (.int .i64 2), (.slice sk 1 1), (.slice ek 3 3), (.slice tk 1 1)], rowI sk 1 3 1 (ints alwB.start), rowI ek 3 54 4 (edsC alwB.edges), rowI tk 1 22 1 [.slice qk 1 1], rowI qk 1 3 1 (ints [1])] [47, 48] 50 mixed rfl (by exact Sub.rf) (fun _ _ _ h => h) ?_
    refine RO.quietTT 28 rfl (by kernel_rfl) (q_build (cs := [.int .i64 2, (.int .i64 0), .int .u8 2, (.int .u8 0)]) plan54 inf54 (by kernel_rfl)) ?_
    refine RO.quietTT 31 rfl (by kernel_rfl) (q_build (cs := [(.int .i64 0), .int .i64 (-1), (.int .u8 0), (.int .u8 0)]) plan54 inf54 (by kernel_rfl)) ?_
    refine RO.quietTT 34 rfl (by kernel_rfl) (q_build (cs := [(.int .i64 0), (.int .i64 0), .int .u8 2, (.int .u8 0)]) plan54 inf54 (by kernel_rfl)) ?_
    refine RO.quietTT 37 rfl (by kernel_rfl) (q_build (cs := [(.int .i64 0), (.int .i64 0), (.int .u8 0), .int .u8 2]) plan54 inf54 (by kernel_rfl)) ?_
    refine RO.quietTT 40 rfl (by kernel_rfl) (q_build (cs := [(.int .i64 0), (.int .i64 0), .int .u8 1, .int .u8 1]) plan54 inf54 (by kernel_rfl)) ?_
    refine RO.quietTT 43 rfl (by kernel_rfl) (q_load_boxAgg 0 Try.underlying26 rfl inf26 rfl rfl rfl) ?_
    refine RO.quietTT 44 rfl (by kernel_rfl) (q_build (cs := [(.int .i64 1), (.int .i64 2), (.slice sk 1 1), (.slice ek 3 3), (.slice tk 1 1), .int .i64 0]) plan67 inf67 (by kernel_rfl)) ?_
    refine RO.quietTT 45 rfl (by kernel_rfl) (q_build plan26 inf26 rfl) ?_
    refine RO.quietTT 46 rfl (by kernel_rfl) (q_build (cs := [(.int .i64 0), (.int .i64 0), (.slice none 0 0), (.slice none 0 0), (.slice none 0 0), .int .i64 0]) plan67 inf67 (by kernel_rfl)) ?_
    refine RO.quietE 49 rfl (by kernel_rfl) (q_move rfl) ?_
    refine RO.makersH (Wt := WtE) (fuel := 2) [⟨0, 30, [], fun wt => (.agg #[(.int .i64 (-1)), (.int .i64 (-1)), (.slice none 0 0), (.slice none 0 0), (.slice none 0 0)]), fun wt => []⟩, ⟨1, 31, [0], fun wt => (.agg #[(.int .i64 (-1)), (.int .i64 (-1)), (.slice none 0 0), (.slice none 0 0), (.slice none 0 0), .int .i64 7]), fun wt => []⟩, ⟨2, 32, [], fun wt => (.agg #[(.int .i64 7), (.int .i64 0), (.slice none 0 0), (.slice none 0 0), (.slice none 0 0)]), fun wt => []⟩, ⟨3, 33, [2], fun wt => (.agg #[(.int .i64 7), (.int .i64 0), (.slice none 0 0), (.slice none 0 0), (.slice none 0 0), .int .i64 7]), fun wt => []⟩, ⟨4, 34, [], fun wt => (.agg #[(.int .i64 0), (.int .i64 (-1)), (.slice none 0 0), (.slice none 0 0), (.slice none 0 0)]), fun wt => []⟩, ⟨5, 35, [4], fun wt => (.agg #[(.int .i64 0), (.int .i64 (-1)), (.slice none 0 0), (.slice none 0 0), (.slice none 0 0), .int .i64 1]), fun wt => []⟩, ⟨6, 36, [], fun wt => (.agg #[(.int .i64 6), (.int .i64 4097), (.slice none 0 0), (.slice none 0 0), (.slice none 0 0)]), fun wt => []⟩, ⟨7, 37, [6], fun wt => (.agg #[(.int .i64 6), (.int .i64 4097), (.slice none 0 0), (.slice none 0 0), (.slice none 0 0), .int .i64 10]), fun wt => []⟩, ⟨8, 38, [], fun wt => (.agg #[(.int .i64 6), (.int .i64 4096), (.slice none 0 0), (.slice none 0 0), (.slice none 0 0)]), fun wt => []⟩, ⟨9, 39, [8], fun wt => (.agg #[(.int .i64 6), (.int .i64 4096), (.slice none 0 0), (.slice none 0 0), (.slice none 0 0), .int .i64 0]), fun wt => []⟩, ⟨10, 40, [], fun wt => (.slice (some ⟨(wt 10).n, 0, none⟩) 9 9), fun wt => [rowI (some ⟨(wt 10).n, 0, none⟩) 9 22 1 (List.replicate 9 (.slice none 0 0))]⟩, ⟨11, 41, [], fun wt => (.slice (some ⟨(wt 11).n, 0, none⟩) 1 1), fun wt => [rowI (some ⟨(wt 11).n, 0, none⟩) 1 3 1 [.int .i64 0]]⟩, ⟨12, 42, [10, 11], fun wt => (.agg #[(.int .i64 0), (.int .i64 0), (.slice (some ⟨(wt 11).n, 0, none⟩) 1 1), (.slice none 0 0), (.slice (some ⟨(wt 10).n, 0, none⟩) 9 9)]), fun wt => []⟩, ⟨13, 43, [12, 10, 11], fun wt => (.agg #[(.int .i64 0), (.int .i64 0), (.slice (some ⟨(wt 11).n, 0, none⟩) 1 1), (.slice none 0 0), (.slice (some ⟨(wt 10).n, 0, none⟩) 9 9), .int .i64 4]), fun wt => []⟩, ⟨14, 44, [], fun wt => (.slice (some ⟨(wt 14).n, 0, none⟩) 1 1), fun wt => [rowI (some ⟨(wt 14).n, 0, none⟩) 1 3 1 [.int .i64 0]]⟩, ⟨15, 45, [14], fun wt => (.agg #[(.int .i64 0), (.int .i64 0), (.slice (some ⟨(wt 14).n, 0, none⟩) 1 1), (.slice none 0 0), (.slice none 0 0)]), fun wt => []⟩, ⟨16, 46, [15, 14], fun wt => (.agg #[(.int .i64 0), (.int .i64 0), (.slice (some ⟨(wt 14).n, 0, none⟩) 1 1), (.slice none 0 0), (.slice none 0 0), .int .i64 8]), fun wt => []⟩, ⟨17, 47, [], fun wt => (.slice (some ⟨(wt 17).n, 0, none⟩) 2 2), fun wt => [rowI (some ⟨(wt 17).n, 0, none⟩) 2 3 1 [.int .i64 1, .int .i64 0]]⟩, ⟨18, 48, [17], fun wt => (.agg #[(.int .i64 0), .int .i64 2, (.slice (some ⟨(wt 17).n, 0, none⟩) 2 2), (.slice none 0 0), (.slice none 0 0)]), fun wt => []⟩, ⟨19, 49, [18, 17], fun wt => (.agg #[(.int .i64 0), .int .i64 2, (.slice (some ⟨(wt 17).n, 0, none⟩) 2 2), (.slice none 0 0), (.slice none 0 0), .int .i64 8]), fun wt => []⟩, ⟨20, 50, [], fun wt => (.slice (some ⟨(wt 20).n, 0, none⟩) 2 2), fun wt => [rowI (some ⟨(wt 20).n, 0, none⟩) 2 3 1 [.int .i64 1, .int .i64 1]]⟩, ⟨21, 51, [20], fun wt => (.agg #[(.int .i64 0), .int .i64 2, (.slice (some ⟨(wt 20).n, 0, none⟩) 2 2), (.slice none 0 0), (.slice none 0 0)]), fun wt => []⟩, ⟨22, 52, [21, 20], fun wt => (.agg #[(.int .i64 0), .int .i64 2, (.slice (some ⟨(wt 20).n, 0, none⟩) 2 2), (.slice none 0 0), (.slice none 0 0), .int .i64 8]), fun wt => []⟩, ⟨23, 53, [], fun wt => (.slice (some ⟨(wt 23).n, 0, none⟩) 0 0), fun wt => [rowI (some ⟨(wt 23).n, 0, none⟩) 0 3 1 []]⟩, ⟨24, 54, [], fun wt => (.slice (some ⟨(wt 24).n, 0, none⟩) 1 1), fun wt => [rowI (some ⟨(wt 24).n, 0, none⟩) 1 3 1 [.int .i64 2]]⟩, ⟨25, 55, [23, 24], fun wt => (.slice (some ⟨(wt 25).n, 0, none⟩) 2 2), fun wt => [rowI (some ⟨(wt 25).n, 0, none⟩) 2 22 1 [(.slice (some ⟨(wt 23).n, 0, none⟩) 0 0), (.slice (some ⟨(wt 24).n, 0, none⟩) 1 1)]]⟩, ⟨26, 56, [25, 23, 24], fun wt => (.agg #[(.int .i64 0), .int .i64 2, (.slice none 0 0), (.slice none 0 0), (.slice (some ⟨(wt 25).n, 0, none⟩) 2 2)]), fun wt => []⟩, ⟨27, 57, [26, 25, 23, 24], fun wt => (.agg #[(.int .i64 0), .int .i64 2, (.slice none 0 0), (.slice none 0 0), (.slice (some ⟨(wt 25).n, 0, none⟩) 2 2), .int .i64 8]), fun wt => []⟩, ⟨29, 59, [], fun wt => (.agg #[(.int .i64 1), (.int .i64 2), (.slice (wt 29).a 1 1), (.slice (wt 29).b 4 (wt 29).e), (.slice (wt 29).c 1 1)]), fun wt => [rowI (wt 29).a 1 3 1 (ints alwB.start), rowI (wt 29).b (wt 29).e 54 4 (edsC (edgB ⟨2, 0, 2, 0⟩).edges), rowI (wt 29).c 1 22 1 [.slice (wt 29).d 1 1], rowI (wt 29).d 1 3 1 (ints [1])]⟩, ⟨30, 60, [29], fun wt => (.agg #[(.int .i64 1), (.int .i64 2), (.slice (wt 29).a 1 1), (.slice (wt 29).b 4 (wt 29).e), (.slice (wt 29).c 1 1), .int .i64 8]), fun wt => []⟩, ⟨32, 62, [], fun wt => (.agg #[(.int .i64 1), (.int .i64 2), (.slice (wt 32).a 1 1), (.slice (wt 32).b 4 (wt 32).e), (.slice (wt 32).c 1 1)]), fun wt => [rowI (wt 32).a 1 3 1 (ints alwB.start), rowI (wt 32).b (wt 32).e 54 4 (edsC (edgB ⟨0, (-1), 0, 0⟩).edges), rowI (wt 32).c 1 22 1 [.slice (wt 32).d 1 1], rowI (wt 32).d 1 3 1 (ints [1])]⟩, ⟨33, 63, [32], fun wt => (.agg #[(.int .i64 1), (.int .i64 2), (.slice (wt 32).a 1 1), (.slice (wt 32).b 4 (wt 32).e), (.slice (wt 32).c 1 1), .int .i64 8]), fun wt => []⟩, ⟨35, 65, [], fun wt => (.agg #[(.int .i64 1), (.int .i64 2), (.slice (wt 35).a 1 1), (.slice (wt 35).b 4 (wt 35).e), (.slice (wt 35).c 1 1)]), fun wt => [rowI (wt 35).a 1 3 1 (ints alwB.start), rowI (wt 35).b (wt 35).e 54 4 (edsC (edgB ⟨0, 0, 2, 0⟩).edges), rowI (wt 35).c 1 22 1 [.slice (wt 35).d 1 1], rowI (wt 35).d 1 3 1 (ints [1])]⟩, ⟨36, 66, [35], fun wt => (.agg #[(.int .i64 1), (.int .i64 2), (.slice (wt 35).a 1 1), (.slice (wt 35).b 4 (wt 35).e), (.slice (wt 35).c 1 1), .int .i64 1]), fun wt => []⟩, ⟨38, 68, [], fun wt => (.agg #[(.int .i64 1), (.int .i64 2), (.slice (wt 38).a 1 1), (.slice (wt 38).b 4 (wt 38).e), (.slice (wt 38).c 1 1)]), fun wt => [rowI (wt 38).a 1 3 1 (ints alwB.start), rowI (wt 38).b (wt 38).e 54 4 (edsC (edgB ⟨0, 0, 0, 2⟩).edges), rowI (wt 38).c 1 22 1 [.slice (wt 38).d 1 1], rowI (wt 38).d 1 3 1 (ints [1])]⟩, ⟨39, 69, [38], fun wt => (.agg #[(.int .i64 1), (.int .i64 2), (.slice (wt 38).a 1 1), (.slice (wt 38).b 4 (wt 38).e), (.slice (wt 38).c 1 1), .int .i64 1]), fun wt => []⟩, ⟨41, 71, [], fun wt => (.agg #[(.int .i64 1), (.int .i64 2), (.slice (wt 41).a 1 1), (.slice (wt 41).b 4 (wt 41).e), (.slice (wt 41).c 1 1)]), fun wt => [rowI (wt 41).a 1 3 1 (ints alwB.start), rowI (wt 41).b (wt 41).e 54 4 (edsC (edgB ⟨0, 0, 1, 1⟩).edges), rowI (wt 41).c 1 22 1 [.slice (wt 41).d 1 1], rowI (wt 41).d 1 3 1 (ints [1])]⟩, ⟨42, 72, [41], fun wt => (.agg #[(.int .i64 1), (.int .i64 2), (.slice (wt 41).a 1 1), (.slice (wt 41).b 4 (wt 41).e), (.slice (wt 41).c 1 1), .int .i64 1]), fun wt => []⟩] [(0, .bool false), (1, (.pointer (some ⟨z1, 0, none⟩))), (58, (.agg #[.int .i64 2, (.int .i64 0), .int .u8 2, (.int .u8 0)])), (61, (.agg #[(.int .i64 0), .int .i64 (-1), (.int .u8 0), (.int .u8 0)])), (64, (.agg #[(.int .i64 0), (.int .i64 0), .int .u8 2, (.int .u8 0)])), (67, (.agg #[(.int .i64 0), (.int .i64 0), (.int .u8 0), .int .u8 2])), (70, (.agg #[(.int .i64 0), (.int .i64 0), .int .u8 1, .int .u8 1])), (74, (.agg #[(.int .i64 1), (.int .i64 2), (.slice sk 1 1), (.slice ek 3 3), (.slice tk 1 1), .int .i64 0])), (76, (.agg #[(.int .i64 0), (.int .i64 0), (.slice none 0 0), (.slice none 0 0), (.slice none 0 0), .int .i64 0])), (79, .int .i64 0)] (fun _ => WtE.z) (by kernel_rfl) (by kernel_rfl) (by kernel_rfl) (by exact Sub.rf) ?_ ?_ ?_ ⟨rfl, rfl, rfl, rfl, rfl, rfl, rfl, rfl, rfl, rfl, trivial⟩
    · intro q hq
      simp only [List.mem_cons, List.not_mem_nil, or_false] at hq
      rcases hq with rfl | rfl | rfl | rfl | rfl | rfl | rfl | rfl | rfl | rfl | rfl | rfl | rfl | rfl | rfl | rfl | rfl | rfl | rfl | rfl | rfl | rfl | rfl | rfl | rfl | rfl | rfl | rfl | rfl | rfl | rfl | rfl | rfl | rfl | rfl | rfl | rfl | rfl
      · exact fun wt wt2 h0 hd => ⟨rfl, rfl⟩
      · exact fun wt wt2 h0 hd => ⟨rfl, rfl⟩
      · exact fun wt wt2 h0 hd => ⟨rfl, rfl⟩
      · exact fun wt wt2 h0 hd => ⟨rfl, rfl⟩
      · exact fun wt wt2 h0 hd => ⟨rfl, rfl⟩
      · exact fun wt wt2 h0 hd => ⟨rfl, rfl⟩
      · exact fun wt wt2 h0 hd => ⟨rfl, rfl⟩
      · exact fun wt wt2 h0 hd => ⟨rfl, rfl⟩
      · exact fun wt wt2 h0 hd => ⟨rfl, rfl⟩
      · exact fun wt wt2 h0 hd => ⟨rfl, rfl⟩
      · intro wt wt2 h0 hd
        have h0 : wt 10 = wt2 10 := h0
        exact ⟨by simp only [h0], by simp only [h0]⟩
      · intro wt wt2 h0 hd
        have h0 : wt 11 = wt2 11 := h0
        exact ⟨by simp only [h0], by simp only [h0]⟩
      · intro wt wt2 h0 hd
        have h0 : wt 12 = wt2 12 := h0
        have h1 : wt 10 = wt2 10 := hd 10 (by decide)
        have h2 : wt 11 = wt2 11 := hd 11 (by decide)
        exact ⟨by simp only [h0, h1, h2], by simp only [h0, h1, h2]⟩
      · intro wt wt2 h0 hd
        have h0 : wt 13 = wt2 13 := h0
        have h1 : wt 12 = wt2 12 := hd 12 (by decide)
        have h2 : wt 10 = wt2 10 := hd 10 (by decide)
        have h3 : wt 11 = wt2 11 := hd 11 (by decide)
        exact ⟨by simp only [h0, h1, h2, h3], by simp only [h0, h1, h2, h3]⟩
      · intro wt wt2 h0 hd
        have h0 : wt 14 = wt2 14 := h0
        exact ⟨by simp only [h0], by simp only [h0]⟩
      · intro wt wt2 h0 hd
        have h0 : wt 15 = wt2 15 := h0
        have h1 : wt 14 = wt2 14 := hd 14 (by decide)
        exact ⟨by simp only [h0, h1], by simp only [h0, h1]⟩
      · intro wt wt2 h0 hd
        have h0 : wt 16 = wt2 16 := h0
        have h1 : wt 15 = wt2 15 := hd 15 (by decide)
        have h2 : wt 14 = wt2 14 := hd 14 (by decide)
        exact ⟨by simp only [h0, h1, h2], by simp only [h0, h1, h2]⟩
      · intro wt wt2 h0 hd
        have h0 : wt 17 = wt2 17 := h0
        exact ⟨by simp only [h0], by simp only [h0]⟩
      · intro wt wt2 h0 hd
        have h0 : wt 18 = wt2 18 := h0
        have h1 : wt 17 = wt2 17 := hd 17 (by decide)
        exact ⟨by simp only [h0, h1], by simp only [h0, h1]⟩
      · intro wt wt2 h0 hd
        have h0 : wt 19 = wt2 19 := h0
        have h1 : wt 18 = wt2 18 := hd 18 (by decide)
        have h2 : wt 17 = wt2 17 := hd 17 (by decide)
        exact ⟨by simp only [h0, h1, h2], by simp only [h0, h1, h2]⟩
      · intro wt wt2 h0 hd
        have h0 : wt 20 = wt2 20 := h0
        exact ⟨by simp only [h0], by simp only [h0]⟩
      · intro wt wt2 h0 hd
        have h0 : wt 21 = wt2 21 := h0
        have h1 : wt 20 = wt2 20 := hd 20 (by decide)
        exact ⟨by simp only [h0, h1], by simp only [h0, h1]⟩
      · intro wt wt2 h0 hd
        have h0 : wt 22 = wt2 22 := h0
        have h1 : wt 21 = wt2 21 := hd 21 (by decide)
        have h2 : wt 20 = wt2 20 := hd 20 (by decide)
        exact ⟨by simp only [h0, h1, h2], by simp only [h0, h1, h2]⟩
      · intro wt wt2 h0 hd
        have h0 : wt 23 = wt2 23 := h0
        exact ⟨by simp only [h0], by simp only [h0]⟩
      · intro wt wt2 h0 hd
        have h0 : wt 24 = wt2 24 := h0
        exact ⟨by simp only [h0], by simp only [h0]⟩
      · intro wt wt2 h0 hd
        have h0 : wt 25 = wt2 25 := h0
        have h1 : wt 23 = wt2 23 := hd 23 (by decide)
        have h2 : wt 24 = wt2 24 := hd 24 (by decide)
        exact ⟨by simp only [h0, h1, h2], by simp only [h0, h1, h2]⟩
      · intro wt wt2 h0 hd
        have h0 : wt 26 = wt2 26 := h0
        have h1 : wt 25 = wt2 25 := hd 25 (by decide)
        have h2 : wt 23 = wt2 23 := hd 23 (by decide)
        have h3 : wt 24 = wt2 24 := hd 24 (by decide)
        exact ⟨by simp only [h0, h1, h2, h3], by simp only [h0, h1, h2, h3]⟩
      · intro wt wt2 h0 hd
        have h0 : wt 27 = wt2 27 := h0
        have h1 : wt 26 = wt2 26 := hd 26 (by decide)
        have h2 : wt 25 = wt2 25 := hd 25 (by decide)
        have h3 : wt 23 = wt2 23 := hd 23 (by decide)
        have h4 : wt 24 = wt2 24 := hd 24 (by decide)
        exact ⟨by simp only [h0, h1, h2, h3, h4], by simp only [h0, h1, h2, h3, h4]⟩
      · intro wt wt2 h0 hd
        have h0 : wt 29 = wt2 29 := h0
        exact ⟨by simp only [h0], by simp only [h0]⟩
      · intro wt wt2 h0 hd
        have h0 : wt 30 = wt2 30 := h0
        have h1 : wt 29 = wt2 29 := hd 29 (by decide)
        exact ⟨by simp only [h0, h1], by simp only [h0, h1]⟩
      · intro wt wt2 h0 hd
        have h0 : wt 32 = wt2 32 := h0
        exact ⟨by simp only [h0], by simp only [h0]⟩
      · intro wt wt2 h0 hd
        have h0 : wt 33 = wt2 33 := h0
        have h1 : wt 32 = wt2 32 := hd 32 (by decide)
        exact ⟨by simp only [h0, h1], by simp only [h0, h1]⟩
      · intro wt wt2 h0 hd
        have h0 : wt 35 = wt2 35 := h0
        exact ⟨by simp only [h0], by simp only [h0]⟩
      · intro wt wt2 h0 hd
        have h0 : wt 36 = wt2 36 := h0
        have h1 : wt 35 = wt2 35 := hd 35 (by decide)
        exact ⟨by simp only [h0, h1], by simp only [h0, h1]⟩
      · intro wt wt2 h0 hd
        have h0 : wt 38 = wt2 38 := h0
        exact ⟨by simp only [h0], by simp only [h0]⟩
      · intro wt wt2 h0 hd
        have h0 : wt 39 = wt2 39 := h0
        have h1 : wt 38 = wt2 38 := hd 38 (by decide)
        exact ⟨by simp only [h0, h1], by simp only [h0, h1]⟩
      · intro wt wt2 h0 hd
        have h0 : wt 41 = wt2 41 := h0
        exact ⟨by simp only [h0], by simp only [h0]⟩
      · intro wt wt2 h0 hd
        have h0 : wt 42 = wt2 42 := h0
        have h1 : wt 41 = wt2 41 := hd 41 (by decide)
        exact ⟨by simp only [h0, h1], by simp only [h0, h1]⟩
    · intro q hq
      simp only [List.mem_cons, List.not_mem_nil, or_false] at hq
      rcases hq with rfl | rfl | rfl | rfl | rfl | rfl | rfl | rfl | rfl | rfl | rfl | rfl | rfl | rfl | rfl | rfl | rfl | rfl | rfl | rfl | rfl | rfl | rfl | rfl | rfl | rfl | rfl | rfl | rfl | rfl | rfl | rfl | rfl | rfl | rfl | rfl | rfl | rfl
      · refine ⟨_, rfl, rfl, fun wt ρ O hS hH => ?_⟩
        obtain ⟨ρ0, rfl⟩ := (show Heads [(0, .bool false), (1, (.pointer (some ⟨z1, 0, none⟩))), (58, (.agg #[.int .i64 2, (.int .i64 0), .int .u8 2, (.int .u8 0)])), (61, (.agg #[(.int .i64 0), .int .i64 (-1), (.int .u8 0), (.int .u8 0)])), (64, (.agg #[(.int .i64 0), (.int .i64 0), .int .u8 2, (.int .u8 0)])), (67, (.agg #[(.int .i64 0), (.int .i64 0), (.int .u8 0), .int .u8 2])), (70, (.agg #[(.int .i64 0), (.int .i64 0), .int .u8 1, .int .u8 1])), (74, (.agg #[(.int .i64 1), (.int .i64 2), (.slice sk 1 1), (.slice ek 3 3), (.slice tk 1 1), .int .i64 0])), (76, (.agg #[(.int .i64 0), (.int .i64 0), (.slice none 0 0), (.slice none 0 0), (.slice none 0 0), .int .i64 0])), (79, .int .i64 0)] ρ from hH).elim
        clear hH
        have hk30 := fun (w1 : World) (hI : Inv w O w1) => badC w1 (-1) (-1)
        refine l_call ent45 (CallT.of_pure hk30) rfl ?_
        clear hk30
        rintro vr O' ⟨N, rfl, rfl, rfl⟩
        exact ⟨WtE.z, rfl, rfl⟩
      · refine ⟨_, rfl, rfl, fun wt ρ O hS hH => ?_⟩
        obtain ⟨ρ0, rfl⟩ := (show Heads [(30, (.agg #[(.int .i64 (-1)), (.int .i64 (-1)), (.slice none 0 0), (.slice none 0 0), (.slice none 0 0)])), (0, .bool false), (1, (.pointer (some ⟨z1, 0, none⟩))), (58, (.agg #[.int .i64 2, (.int .i64 0), .int .u8 2, (.int .u8 0)])), (61, (.agg #[(.int .i64 0), .int .i64 (-1), (.int .u8 0), (.int .u8 0)])), (64, (.agg #[(.int .i64 0), (.int .i64 0), .int .u8 2, (.int .u8 0)])), (67, (.agg #[(.int .i64 0), (.int .i64 0), (.int .u8 0), .int .u8 2])), (70, (.agg #[(.int .i64 0), (.int .i64 0), .int .u8 1, .int .u8 1])), (74, (.agg #[(.int .i64 1), (.int .i64 2), (.slice sk 1 1), (.slice ek 3 3), (.slice tk 1 1), .int .i64 0])), (76, (.agg #[(.int .i64 0), (.int .i64 0), (.slice none 0 0), (.slice none 0 0), (.slice none 0 0), .int .i64 0])), (79, .int .i64 0)] ρ from hH).elim
        clear hH
        exact LT.of_quiet rfl rfl (q_build (cs := [(.int .i64 (-1)), (.int .i64 (-1)), (.slice none 0 0), (.slice none 0 0), (.slice none 0 0), .int .i64 7]) plan67 inf67 (by kernel_rfl)) ⟨WtE.z, rfl, rfl⟩
      · refine ⟨_, rfl, rfl, fun wt ρ O hS hH => ?_⟩
        obtain ⟨ρ0, rfl⟩ := (show Heads [(0, .bool false), (1, (.pointer (some ⟨z1, 0, none⟩))), (58, (.agg #[.int .i64 2, (.int .i64 0), .int .u8 2, (.int .u8 0)])), (61, (.agg #[(.int .i64 0), .int .i64 (-1), (.int .u8 0), (.int .u8 0)])), (64, (.agg #[(.int .i64 0), (.int .i64 0), .int .u8 2, (.int .u8 0)])), (67, (.agg #[(.int .i64 0), (.int .i64 0), (.int .u8 0), .int .u8 2])), (70, (.agg #[(.int .i64 0), (.int .i64 0), .int .u8 1, .int .u8 1])), (74, (.agg #[(.int .i64 1), (.int .i64 2), (.slice sk 1 1), (.slice ek 3 3), (.slice tk 1 1), .int .i64 0])), (76, (.agg #[(.int .i64 0), (.int .i64 0), (.slice none 0 0), (.slice none 0 0), (.slice none 0 0), .int .i64 0])), (79, .int .i64 0)] ρ from hH).elim
        clear hH
        have hk32 := fun (w1 : World) (hI : Inv w O w1) => badC w1 7 0
        refine l_call ent45 (CallT.of_pure hk32) rfl ?_
        clear hk32
        rintro vr O' ⟨N, rfl, rfl, rfl⟩
        exact ⟨WtE.z, rfl, rfl⟩
      · refine ⟨_, rfl, rfl, fun wt ρ O hS hH => ?_⟩
        obtain ⟨ρ0, rfl⟩ := (show Heads [(32, (.agg #[(.int .i64 7), (.int .i64 0), (.slice none 0 0), (.slice none 0 0), (.slice none 0 0)])), (0, .bool false), (1, (.pointer (some ⟨z1, 0, none⟩))), (58, (.agg #[.int .i64 2, (.int .i64 0), .int .u8 2, (.int .u8 0)])), (61, (.agg #[(.int .i64 0), .int .i64 (-1), (.int .u8 0), (.int .u8 0)])), (64, (.agg #[(.int .i64 0), (.int .i64 0), .int .u8 2, (.int .u8 0)])), (67, (.agg #[(.int .i64 0), (.int .i64 0), (.int .u8 0), .int .u8 2])), (70, (.agg #[(.int .i64 0), (.int .i64 0), .int .u8 1, .int .u8 1])), (74, (.agg #[(.int .i64 1), (.int .i64 2), (.slice sk 1 1), (.slice ek 3 3), (.slice tk 1 1), .int .i64 0])), (76, (.agg #[(.int .i64 0), (.int .i64 0), (.slice none 0 0), (.slice none 0 0), (.slice none 0 0), .int .i64 0])), (79, .int .i64 0)] ρ from hH).elim
        clear hH
        exact LT.of_quiet rfl rfl (q_build (cs := [(.int .i64 7), (.int .i64 0), (.slice none 0 0), (.slice none 0 0), (.slice none 0 0), .int .i64 7]) plan67 inf67 (by kernel_rfl)) ⟨WtE.z, rfl, rfl⟩
      · refine ⟨_, rfl, rfl, fun wt ρ O hS hH => ?_⟩
        obtain ⟨ρ0, rfl⟩ := (show Heads [(0, .bool false), (1, (.pointer (some ⟨z1, 0, none⟩))), (58, (.agg #[.int .i64 2, (.int .i64 0), .int .u8 2, (.int .u8 0)])), (61, (.agg #[(.int .i64 0), .int .i64 (-1), (.int .u8 0), (.int .u8 0)])), (64, (.agg #[(.int .i64 0), (.int .i64 0), .int .u8 2, (.int .u8 0)])), (67, (.agg #[(.int .i64 0), (.int .i64 0), (.int .u8 0), .int .u8 2])), (70, (.agg #[(.int .i64 0), (.int .i64 0), .int .u8 1, .int .u8 1])), (74, (.agg #[(.int .i64 1), (.int .i64 2), (.slice sk 1 1), (.slice ek 3 3), (.slice tk 1 1), .int .i64 0])), (76, (.agg #[(.int .i64 0), (.int .i64 0), (.slice none 0 0), (.slice none 0 0), (.slice none 0 0), .int .i64 0])), (79, .int .i64 0)] ρ from hH).elim
        clear hH
        have hk34 := fun (w1 : World) (hI : Inv w O w1) => badC w1 0 (-1)
        refine l_call ent45 (CallT.of_pure hk34) rfl ?_
        clear hk34
        rintro vr O' ⟨N, rfl, rfl, rfl⟩
        exact ⟨WtE.z, rfl, rfl⟩
      · refine ⟨_, rfl, rfl, fun wt ρ O hS hH => ?_⟩
        obtain ⟨ρ0, rfl⟩ := (show Heads [(34, (.agg #[(.int .i64 0), (.int .i64 (-1)), (.slice none 0 0), (.slice none 0 0), (.slice none 0 0)])), (0, .bool false), (1, (.pointer (some ⟨z1, 0, none⟩))), (58, (.agg #[.int .i64 2, (.int .i64 0), .int .u8 2, (.int .u8 0)])), (61, (.agg #[(.int .i64 0), .int .i64 (-1), (.int .u8 0), (.int .u8 0)])), (64, (.agg #[(.int .i64 0), (.int .i64 0), .int .u8 2, (.int .u8 0)])), (67, (.agg #[(.int .i64 0), (.int .i64 0), (.int .u8 0), .int .u8 2])), (70, (.agg #[(.int .i64 0), (.int .i64 0), .int .u8 1, .int .u8 1])), (74, (.agg #[(.int .i64 1), (.int .i64 2), (.slice sk 1 1), (.slice ek 3 3), (.slice tk 1 1), .int .i64 0])), (76, (.agg #[(.int .i64 0), (.int .i64 0), (.slice none 0 0), (.slice none 0 0), (.slice none 0 0), .int .i64 0])), (79, .int .i64 0)] ρ from hH).elim
        clear hH
        exact LT.of_quiet rfl rfl (q_build (cs := [(.int .i64 0), (.int .i64 (-1)), (.slice none 0 0), (.slice none 0 0), (.slice none 0 0), .int .i64 1]) plan67 inf67 (by kernel_rfl)) ⟨WtE.z, rfl, rfl⟩
      · refine ⟨_, rfl, rfl, fun wt ρ O hS hH => ?_⟩
        obtain ⟨ρ0, rfl⟩ := (show Heads [(0, .bool false), (1, (.pointer (some ⟨z1, 0, none⟩))), (58, (.agg #[.int .i64 2, (.int .i64 0), .int .u8 2, (.int .u8 0)])), (61, (.agg #[(.int .i64 0), .int .i64 (-1), (.int .u8 0), (.int .u8 0)])), (64, (.agg #[(.int .i64 0), (.int .i64 0), .int .u8 2, (.int .u8 0)])), (67, (.agg #[(.int .i64 0), (.int .i64 0), (.int .u8 0), .int .u8 2])), (70, (.agg #[(.int .i64 0), (.int .i64 0), .int .u8 1, .int .u8 1])), (74, (.agg #[(.int .i64 1), (.int .i64 2), (.slice sk 1 1), (.slice ek 3 3), (.slice tk 1 1), .int .i64 0])), (76, (.agg #[(.int .i64 0), (.int .i64 0), (.slice none 0 0), (.slice none 0 0), (.slice none 0 0), .int .i64 0])), (79, .int .i64 0)] ρ from hH).elim
        clear hH
        have hk36 := fun (w1 : World) (hI : Inv w O w1) => badC w1 6 4097
        refine l_call ent45 (CallT.of_pure hk36) rfl ?_
        clear hk36
        rintro vr O' ⟨N, rfl, rfl, rfl⟩
        exact ⟨WtE.z, rfl, rfl⟩
      · refine ⟨_, rfl, rfl, fun wt ρ O hS hH => ?_⟩
        obtain ⟨ρ0, rfl⟩ := (show Heads [(36, (.agg #[(.int .i64 6), (.int .i64 4097), (.slice none 0 0), (.slice none 0 0), (.slice none 0 0)])), (0, .bool false), (1, (.pointer (some ⟨z1, 0, none⟩))), (58, (.agg #[.int .i64 2, (.int .i64 0), .int .u8 2, (.int .u8 0)])), (61, (.agg #[(.int .i64 0), .int .i64 (-1), (.int .u8 0), (.int .u8 0)])), (64, (.agg #[(.int .i64 0), (.int .i64 0), .int .u8 2, (.int .u8 0)])), (67, (.agg #[(.int .i64 0), (.int .i64 0), (.int .u8 0), .int .u8 2])), (70, (.agg #[(.int .i64 0), (.int .i64 0), .int .u8 1, .int .u8 1])), (74, (.agg #[(.int .i64 1), (.int .i64 2), (.slice sk 1 1), (.slice ek 3 3), (.slice tk 1 1), .int .i64 0])), (76, (.agg #[(.int .i64 0), (.int .i64 0), (.slice none 0 0), (.slice none 0 0), (.slice none 0 0), .int .i64 0])), (79, .int .i64 0)] ρ from hH).elim
        clear hH
        exact LT.of_quiet rfl rfl (q_build (cs := [(.int .i64 6), (.int .i64 4097), (.slice none 0 0), (.slice none 0 0), (.slice none 0 0), .int .i64 10]) plan67 inf67 (by kernel_rfl)) ⟨WtE.z, rfl, rfl⟩
      · refine ⟨_, rfl, rfl, fun wt ρ O hS hH => ?_⟩
        obtain ⟨ρ0, rfl⟩ := (show Heads [(0, .bool false), (1, (.pointer (some ⟨z1, 0, none⟩))), (58, (.agg #[.int .i64 2, (.int .i64 0), .int .u8 2, (.int .u8 0)])), (61, (.agg #[(.int .i64 0), .int .i64 (-1), (.int .u8 0), (.int .u8 0)])), (64, (.agg #[(.int .i64 0), (.int .i64 0), .int .u8 2, (.int .u8 0)])), (67, (.agg #[(.int .i64 0), (.int .i64 0), (.int .u8 0), .int .u8 2])), (70, (.agg #[(.int .i64 0), (.int .i64 0), .int .u8 1, .int .u8 1])), (74, (.agg #[(.int .i64 1), (.int .i64 2), (.slice sk 1 1), (.slice ek 3 3), (.slice tk 1 1), .int .i64 0])), (76, (.agg #[(.int .i64 0), (.int .i64 0), (.slice none 0 0), (.slice none 0 0), (.slice none 0 0), .int .i64 0])), (79, .int .i64 0)] ρ from hH).elim
        clear hH
        have hk38 := fun (w1 : World) (hI : Inv w O w1) => badC w1 6 4096
        refine l_call ent45 (CallT.of_pure hk38) rfl ?_
        clear hk38
        rintro vr O' ⟨N, rfl, rfl, rfl⟩
        exact ⟨WtE.z, rfl, rfl⟩
      · refine ⟨_, rfl, rfl, fun wt ρ O hS hH => ?_⟩
        obtain ⟨ρ0, rfl⟩ := (show Heads [(38, (.agg #[(.int .i64 6), (.int .i64 4096), (.slice none 0 0), (.slice none 0 0), (.slice none 0 0)])), (0, .bool false), (1, (.pointer (some ⟨z1, 0, none⟩))), (58, (.agg #[.int .i64 2, (.int .i64 0), .int .u8 2, (.int .u8 0)])), (61, (.agg #[(.int .i64 0), .int .i64 (-1), (.int .u8 0), (.int .u8 0)])), (64, (.agg #[(.int .i64 0), (.int .i64 0), .int .u8 2, (.int .u8 0)])), (67, (.agg #[(.int .i64 0), (.int .i64 0), (.int .u8 0), .int .u8 2])), (70, (.agg #[(.int .i64 0), (.int .i64 0), .int .u8 1, .int .u8 1])), (74, (.agg #[(.int .i64 1), (.int .i64 2), (.slice sk 1 1), (.slice ek 3 3), (.slice tk 1 1), .int .i64 0])), (76, (.agg #[(.int .i64 0), (.int .i64 0), (.slice none 0 0), (.slice none 0 0), (.slice none 0 0), .int .i64 0])), (79, .int .i64 0)] ρ from hH).elim
        clear hH
        exact LT.of_quiet rfl rfl (q_build (cs := [(.int .i64 6), (.int .i64 4096), (.slice none 0 0), (.slice none 0 0), (.slice none 0 0), .int .i64 0]) plan67 inf67 (by kernel_rfl)) ⟨WtE.z, rfl, rfl⟩
      · refine ⟨_, rfl, rfl, fun wt ρ O hS hH => ?_⟩
        obtain ⟨ρ0, rfl⟩ := (show Heads [(0, .bool false), (1, (.pointer (some ⟨z1, 0, none⟩))), (58, (.agg #[.int .i64 2, (.int .i64 0), .int .u8 2, (.int .u8 0)])), (61, (.agg #[(.int .i64 0), .int .i64 (-1), (.int .u8 0), (.int .u8 0)])), (64, (.agg #[(.int .i64 0), (.int .i64 0), .int .u8 2, (.int .u8 0)])), (67, (.agg #[(.int .i64 0), (.int .i64 0), (.int .u8 0), .int .u8 2])), (70, (.agg #[(.int .i64 0), (.int .i64 0), .int .u8 1, .int .u8 1])), (74, (.agg #[(.int .i64 1), (.int .i64 2), (.slice sk 1 1), (.slice ek 3 3), (.slice tk 1 1), .int .i64 0])), (76, (.agg #[(.int .i64 0), (.int .i64 0), (.slice none 0 0), (.slice none 0 0), (.slice none 0 0), .int .i64 0])), (79, .int .i64 0)] ρ from hH).elim
        clear hH
        exact l_makeSlice (m := 9) Try.underlying24 inf22 rfl rfl (by omega) (by omega) (fun z10 => ⟨{ WtE.z with n := z10 }, rfl, rfl⟩)
      · refine ⟨_, rfl, rfl, fun wt ρ O hS hH => ?_⟩
        obtain ⟨ρ0, rfl⟩ := (show Heads [(0, .bool false), (1, (.pointer (some ⟨z1, 0, none⟩))), (58, (.agg #[.int .i64 2, (.int .i64 0), .int .u8 2, (.int .u8 0)])), (61, (.agg #[(.int .i64 0), .int .i64 (-1), (.int .u8 0), (.int .u8 0)])), (64, (.agg #[(.int .i64 0), (.int .i64 0), .int .u8 2, (.int .u8 0)])), (67, (.agg #[(.int .i64 0), (.int .i64 0), (.int .u8 0), .int .u8 2])), (70, (.agg #[(.int .i64 0), (.int .i64 0), .int .u8 1, .int .u8 1])), (74, (.agg #[(.int .i64 1), (.int .i64 2), (.slice sk 1 1), (.slice ek 3 3), (.slice tk 1 1), .int .i64 0])), (76, (.agg #[(.int .i64 0), (.int .i64 0), (.slice none 0 0), (.slice none 0 0), (.slice none 0 0), .int .i64 0])), (79, .int .i64 0)] ρ from hH).elim
        clear hH
        exact l_build1 (v := .int .i64 0) Try.underlying22 inf3 rfl rfl rfl (fun z11 => ⟨{ WtE.z with n := z11 }, rfl, rfl⟩)
      · refine ⟨_, rfl, rfl, fun wt ρ O hS hH => ?_⟩
        obtain ⟨ρ0, rfl⟩ := (show Heads [(40, (.slice (some ⟨(wt 10).n, 0, none⟩) 9 9)), (41, (.slice (some ⟨(wt 11).n, 0, none⟩) 1 1)), (0, .bool false), (1, (.pointer (some ⟨z1, 0, none⟩))), (58, (.agg #[.int .i64 2, (.int .i64 0), .int .u8 2, (.int .u8 0)])), (61, (.agg #[(.int .i64 0), .int .i64 (-1), (.int .u8 0), (.int .u8 0)])), (64, (.agg #[(.int .i64 0), (.int .i64 0), .int .u8 2, (.int .u8 0)])), (67, (.agg #[(.int .i64 0), (.int .i64 0), (.int .u8 0), .int .u8 2])), (70, (.agg #[(.int .i64 0), (.int .i64 0), .int .u8 1, .int .u8 1])), (74, (.agg #[(.int .i64 1), (.int .i64 2), (.slice sk 1 1), (.slice ek 3 3), (.slice tk 1 1), .int .i64 0])), (76, (.agg #[(.int .i64 0), (.int .i64 0), (.slice none 0 0), (.slice none 0 0), (.slice none 0 0), .int .i64 0])), (79, .int .i64 0)] ρ from hH).elim
        clear hH
        exact LT.of_quiet rfl rfl (q_build (cs := [(.int .i64 0), (.int .i64 0), (.slice (some ⟨(wt 11).n, 0, none⟩) 1 1), (.slice none 0 0), (.slice (some ⟨(wt 10).n, 0, none⟩) 9 9)]) plan26 inf26 (by kernel_rfl)) ⟨WtE.z, rfl, rfl⟩
      · refine ⟨_, rfl, rfl, fun wt ρ O hS hH => ?_⟩
        obtain ⟨ρ0, rfl⟩ := (show Heads [(42, (.agg #[(.int .i64 0), (.int .i64 0), (.slice (some ⟨(wt 11).n, 0, none⟩) 1 1), (.slice none 0 0), (.slice (some ⟨(wt 10).n, 0, none⟩) 9 9)])), (40, (.slice (some ⟨(wt 10).n, 0, none⟩) 9 9)), (41, (.slice (some ⟨(wt 11).n, 0, none⟩) 1 1)), (0, .bool false), (1, (.pointer (some ⟨z1, 0, none⟩))), (58, (.agg #[.int .i64 2, (.int .i64 0), .int .u8 2, (.int .u8 0)])), (61, (.agg #[(.int .i64 0), .int .i64 (-1), (.int .u8 0), (.int .u8 0)])), (64, (.agg #[(.int .i64 0), (.int .i64 0), .int .u8 2, (.int .u8 0)])), (67, (.agg #[(.int .i64 0), (.int .i64 0), (.int .u8 0), .int .u8 2])), (70, (.agg #[(.int .i64 0), (.int .i64 0), .int .u8 1, .int .u8 1])), (74, (.agg #[(.int .i64 1), (.int .i64 2), (.slice sk 1 1), (.slice ek 3 3), (.slice tk 1 1), .int .i64 0])), (76, (.agg #[(.int .i64 0), (.int .i64 0), (.slice none 0 0), (.slice none 0 0), (.slice none 0 0), .int .i64 0])), (79, .int .i64 0)] ρ from hH).elim
        clear hH
        exact LT.of_quiet rfl rfl (q_build (cs := [(.int .i64 0), (.int .i64 0), (.slice (some ⟨(wt 11).n, 0, none⟩) 1 1), (.slice none 0 0), (.slice (some ⟨(wt 10).n, 0, none⟩) 9 9), .int .i64 4]) plan67 inf67 (by kernel_rfl)) ⟨WtE.z, rfl, rfl⟩
      · refine ⟨_, rfl, rfl, fun wt ρ O hS hH => ?_⟩
        obtain ⟨ρ0, rfl⟩ := (show Heads [(0, .bool false), (1, (.pointer (some ⟨z1, 0, none⟩))), (58, (.agg #[.int .i64 2, (.int .i64 0), .int .u8 2, (.int .u8 0)])), (61, (.agg #[(.int .i64 0), .int .i64 (-1), (.int .u8 0), (.int .u8 0)])), (64, (.agg #[(.int .i64 0), (.int .i64 0), .int .u8 2, (.int .u8 0)])), (67, (.agg #[(.int .i64 0), (.int .i64 0), (.int .u8 0), .int .u8 2])), (70, (.agg #[(.int .i64 0), (.int .i64 0), .int .u8 1, .int .u8 1])), (74, (.agg #[(.int .i64 1), (.int .i64 2), (.slice sk 1 1), (.slice ek 3 3), (.slice tk 1 1), .int .i64 0])), (76, (.agg #[(.int .i64 0), (.int .i64 0), (.slice none 0 0), (.slice none 0 0), (.slice none 0 0), .int .i64 0])), (79, .int .i64 0)] ρ from hH).elim
        clear hH
        exact l_build1 (v := .int .i64 0) Try.underlying22 inf3 rfl rfl rfl (fun z14 => ⟨{ WtE.z with n := z14 }, rfl, rfl⟩)
      · refine ⟨_, rfl, rfl, fun wt ρ O hS hH => ?_⟩
        obtain ⟨ρ0, rfl⟩ := (show Heads [(44, (.slice (some ⟨(wt 14).n, 0, none⟩) 1 1)), (0, .bool false), (1, (.pointer (some ⟨z1, 0, none⟩))), (58, (.agg #[.int .i64 2, (.int .i64 0), .int .u8 2, (.int .u8 0)])), (61, (.agg #[(.int .i64 0), .int .i64 (-1), (.int .u8 0), (.int .u8 0)])), (64, (.agg #[(.int .i64 0), (.int .i64 0), .int .u8 2, (.int .u8 0)])), (67, (.agg #[(.int .i64 0), (.int .i64 0), (.int .u8 0), .int .u8 2])), (70, (.agg #[(.int .i64 0), (.int .i64 0), .int .u8 1, .int .u8 1])), (74, (.agg #[(.int .i64 1), (.int .i64 2), (.slice sk 1 1), (.slice ek 3 3), (.slice tk 1 1), .int .i64 0])), (76, (.agg #[(.int .i64 0), (.int .i64 0), (.slice none 0 0), (.slice none 0 0), (.slice none 0 0), .int .i64 0])), (79, .int .i64 0)] ρ from hH).elim
        clear hH
        exact LT.of_quiet rfl rfl (q_build (cs := [(.int .i64 0), (.int .i64 0), (.slice (some ⟨(wt 14).n, 0, none⟩) 1 1), (.slice none 0 0), (.slice none 0 0)]) plan26 inf26 (by kernel_rfl)) ⟨WtE.z, rfl, rfl⟩
      · refine ⟨_, rfl, rfl, fun wt ρ O hS hH => ?_⟩
        obtain ⟨ρ0, rfl⟩ := (show Heads [(45, (.agg #[(.int .i64 0), (.int .i64 0), (.slice (some ⟨(wt 14).n, 0, none⟩) 1 1), (.slice none 0 0), (.slice none 0 0)])), (44, (.slice (some ⟨(wt 14).n, 0, none⟩) 1 1)), (0, .bool false), (1, (.pointer (some ⟨z1, 0, none⟩))), (58, (.agg #[.int .i64 2, (.int .i64 0), .int .u8 2, (.int .u8 0)])), (61, (.agg #[(.int .i64 0), .int .i64 (-1), (.int .u8 0), (.int .u8 0)])), (64, (.agg #[(.int .i64 0), (.int .i64 0), .int .u8 2, (.int .u8 0)])), (67, (.agg #[(.int .i64 0), (.int .i64 0), (.int .u8 0), .int .u8 2])), (70, (.agg #[(.int .i64 0), (.int .i64 0), .int .u8 1, .int .u8 1])), (74, (.agg #[(.int .i64 1), (.int .i64 2), (.slice sk 1 1), (.slice ek 3 3), (.slice tk 1 1), .int .i64 0])), (76, (.agg #[(.int .i64 0), (.int .i64 0), (.slice none 0 0), (.slice none 0 0), (.slice none 0 0), .int .i64 0])), (79, .int .i64 0)] ρ from hH).elim
        clear hH
        exact LT.of_quiet rfl rfl (q_build (cs := [(.int .i64 0), (.int .i64 0), (.slice (some ⟨(wt 14).n, 0, none⟩) 1 1), (.slice none 0 0), (.slice none 0 0), .int .i64 8]) plan67 inf67 (by kernel_rfl)) ⟨WtE.z, rfl, rfl⟩
      · refine ⟨_, rfl, rfl, fun wt ρ O hS hH => ?_⟩
        obtain ⟨ρ0, rfl⟩ := (show Heads [(0, .bool false), (1, (.pointer (some ⟨z1, 0, none⟩))), (58, (.agg #[.int .i64 2, (.int .i64 0), .int .u8 2, (.int .u8 0)])), (61, (.agg #[(.int .i64 0), .int .i64 (-1), (.int .u8 0), (.int .u8 0)])), (64, (.agg #[(.int .i64 0), (.int .i64 0), .int .u8 2, (.int .u8 0)])), (67, (.agg #[(.int .i64 0), (.int .i64 0), (.int .u8 0), .int .u8 2])), (70, (.agg #[(.int .i64 0), (.int .i64 0), .int .u8 1, .int .u8 1])), (74, (.agg #[(.int .i64 1), (.int .i64 2), (.slice sk 1 1), (.slice ek 3 3), (.slice tk 1 1), .int .i64 0])), (76, (.agg #[(.int .i64 0), (.int .i64 0), (.slice none 0 0), (.slice none 0 0), (.slice none 0 0), .int .i64 0])), (79, .int .i64 0)] ρ from hH).elim
        clear hH
        exact l_buildSlice (m := 2) (parts := [(0, .const (.int .i64 1)), (1, .const (.int .i64 0))]) (cs := [.int .i64 1, .int .i64 0]) Try.underlying22 inf3 (by decide) (by kernel_rfl) rfl (fun z17 => ⟨{ WtE.z with n := z17 }, rfl, rfl⟩)
      · refine ⟨_, rfl, rfl, fun wt ρ O hS hH => ?_⟩
        obtain ⟨ρ0, rfl⟩ := (show Heads [(47, (.slice (some ⟨(wt 17).n, 0, none⟩) 2 2)), (0, .bool false), (1, (.pointer (some ⟨z1, 0, none⟩))), (58, (.agg #[.int .i64 2, (.int .i64 0), .int .u8 2, (.int .u8 0)])), (61, (.agg #[(.int .i64 0), .int .i64 (-1), (.int .u8 0), (.int .u8 0)])), (64, (.agg #[(.int .i64 0), (.int .i64 0), .int .u8 2, (.int .u8 0)])), (67, (.agg #[(.int .i64 0), (.int .i64 0), (.int .u8 0), .int .u8 2])), (70, (.agg #[(.int .i64 0), (.int .i64 0), .int .u8 1, .int .u8 1])), (74, (.agg #[(.int .i64 1), (.int .i64 2), (.slice sk 1 1), (.slice ek 3 3), (.slice tk 1 1), .int .i64 0])), (76, (.agg #[(.int .i64 0), (.int .i64 0), (.slice none 0 0), (.slice none 0 0), (.slice none 0 0), .int .i64 0])), (79, .int .i64 0)] ρ from hH).elim
        clear hH
        exact LT.of_quiet rfl rfl (q_build (cs := [(.int .i64 0), .int .i64 2, (.slice (some ⟨(wt 17).n, 0, none⟩) 2 2), (.slice none 0 0), (.slice none 0 0)]) plan26 inf26 (by kernel_rfl)) ⟨WtE.z, rfl, rfl⟩
      · refine ⟨_, rfl, rfl, fun wt ρ O hS hH => ?_⟩
        obtain ⟨ρ0, rfl⟩ := (show Heads [(48, (.agg #[(.int .i64 0), .int .i64 2, (.slice (some ⟨(wt 17).n, 0, none⟩) 2 2), (.slice none 0 0), (.slice none 0 0)])), (47, (.slice (some ⟨(wt 17).n, 0, none⟩) 2 2)), (0, .bool false), (1, (.pointer (some ⟨z1, 0, none⟩))), (58, (.agg #[.int .i64 2, (.int .i64 0), .int .u8 2, (.int .u8 0)])), (61, (.agg #[(.int .i64 0), .int .i64 (-1), (.int .u8 0), (.int .u8 0)])), (64, (.agg #[(.int .i64 0), (.int .i64 0), .int .u8 2, (.int .u8 0)])), (67, (.agg #[(.int .i64 0), (.int .i64 0), (.int .u8 0), .int .u8 2])), (70, (.agg #[(.int .i64 0), (.int .i64 0), .int .u8 1, .int .u8 1])), (74, (.agg #[(.int .i64 1), (.int .i64 2), (.slice sk 1 1), (.slice ek 3 3), (.slice tk 1 1), .int .i64 0])), (76, (.agg #[(.int .i64 0), (.int .i64 0), (.slice none 0 0), (.slice none 0 0), (.slice none 0 0), .int .i64 0])), (79, .int .i64 0)] ρ from hH).elim
        clear hH
        exact LT.of_quiet rfl rfl (q_build (cs := [(.int .i64 0), .int .i64 2, (.slice (some ⟨(wt 17).n, 0, none⟩) 2 2), (.slice none 0 0), (.slice none 0 0), .int .i64 8]) plan67 inf67 (by kernel_rfl)) ⟨WtE.z, rfl, rfl⟩
      · refine ⟨_, rfl, rfl, fun wt ρ O hS hH => ?_⟩
        obtain ⟨ρ0, rfl⟩ := (show Heads [(0, .bool false), (1, (.pointer (some ⟨z1, 0, none⟩))), (58, (.agg #[.int .i64 2, (.int .i64 0), .int .u8 2, (.int .u8 0)])), (61, (.agg #[(.int .i64 0), .int .i64 (-1), (.int .u8 0), (.int .u8 0)])), (64, (.agg #[(.int .i64 0), (.int .i64 0), .int .u8 2, (.int .u8 0)])), (67, (.agg #[(.int .i64 0), (.int .i64 0), (.int .u8 0), .int .u8 2])), (70, (.agg #[(.int .i64 0), (.int .i64 0), .int .u8 1, .int .u8 1])), (74, (.agg #[(.int .i64 1), (.int .i64 2), (.slice sk 1 1), (.slice ek 3 3), (.slice tk 1 1), .int .i64 0])), (76, (.agg #[(.int .i64 0), (.int .i64 0), (.slice none 0 0), (.slice none 0 0), (.slice none 0 0), .int .i64 0])), (79, .int .i64 0)] ρ from hH).elim
        clear hH
        exact l_buildSlice (m := 2) (parts := [(0, .const (.int .i64 1)), (1, .const (.int .i64 1))]) (cs := [.int .i64 1, .int .i64 1]) Try.underlying22 inf3 (by decide) (by kernel_rfl) rfl (fun z20 => ⟨{ WtE.z with n := z20 }, rfl, rfl⟩)
      · refine ⟨_, rfl, rfl, fun wt ρ O hS hH => ?_⟩
        obtain ⟨ρ0, rfl⟩ := (show Heads [(50, (.slice (some ⟨(wt 20).n, 0, none⟩) 2 2)), (0, .bool false), (1, (.pointer (some ⟨z1, 0, none⟩))), (58, (.agg #[.int .i64 2, (.int .i64 0), .int .u8 2, (.int .u8 0)])), (61, (.agg #[(.int .i64 0), .int .i64 (-1), (.int .u8 0), (.int .u8 0)])), (64, (.agg #[(.int .i64 0), (.int .i64 0), .int .u8 2, (.int .u8 0)])), (67, (.agg #[(.int .i64 0), (.int .i64 0), (.int .u8 0), .int .u8 2])), (70, (.agg #[(.int .i64 0), (.int .i64 0), .int .u8 1, .int .u8 1])), (74, (.agg #[(.int .i64 1), (.int .i64 2), (.slice sk 1 1), (.slice ek 3 3), (.slice tk 1 1), .int .i64 0])), (76, (.agg #[(.int .i64 0), (.int .i64 0), (.slice none 0 0), (.slice none 0 0), (.slice none 0 0), .int .i64 0])), (79, .int .i64 0)] ρ from hH).elim
        clear hH
        exact LT.of_quiet rfl rfl (q_build (cs := [(.int .i64 0), .int .i64 2, (.slice (some ⟨(wt 20).n, 0, none⟩) 2 2), (.slice none 0 0), (.slice none 0 0)]) plan26 inf26 (by kernel_rfl)) ⟨WtE.z, rfl, rfl⟩
      · refine ⟨_, rfl, rfl, fun wt ρ O hS hH => ?_⟩
        obtain ⟨ρ0, rfl⟩ := (show Heads [(51, (.agg #[(.int .i64 0), .int .i64 2, (.slice (some ⟨(wt 20).n, 0, none⟩) 2 2), (.slice none 0 0), (.slice none 0 0)])), (50, (.slice (some ⟨(wt 20).n, 0, none⟩) 2 2)), (0, .bool false), (1, (.pointer (some ⟨z1, 0, none⟩))), (58, (.agg #[.int .i64 2, (.int .i64 0), .int .u8 2, (.int .u8 0)])), (61, (.agg #[(.int .i64 0), .int .i64 (-1), (.int .u8 0), (.int .u8 0)])), (64, (.agg #[(.int .i64 0), (.int .i64 0), .int .u8 2, (.int .u8 0)])), (67, (.agg #[(.int .i64 0), (.int .i64 0), (.int .u8 0), .int .u8 2])), (70, (.agg #[(.int .i64 0), (.int .i64 0), .int .u8 1, .int .u8 1])), (74, (.agg #[(.int .i64 1), (.int .i64 2), (.slice sk 1 1), (.slice ek 3 3), (.slice tk 1 1), .int .i64 0])), (76, (.agg #[(.int .i64 0), (.int .i64 0), (.slice none 0 0), (.slice none 0 0), (.slice none 0 0), .int .i64 0])), (79, .int .i64 0)] ρ from hH).elim
        clear hH
        exact LT.of_quiet rfl rfl (q_build (cs := [(.int .i64 0), .int .i64 2, (.slice (some ⟨(wt 20).n, 0, none⟩) 2 2), (.slice none 0 0), (.slice none 0 0), .int .i64 8]) plan67 inf67 (by kernel_rfl)) ⟨WtE.z, rfl, rfl⟩
      · refine ⟨_, rfl, rfl, fun wt ρ O hS hH => ?_⟩
        obtain ⟨ρ0, rfl⟩ := (show Heads [(0, .bool false), (1, (.pointer (some ⟨z1, 0, none⟩))), (58, (.agg #[.int .i64 2, (.int .i64 0), .int .u8 2, (.int .u8 0)])), (61, (.agg #[(.int .i64 0), .int .i64 (-1), (.int .u8 0), (.int .u8 0)])), (64, (.agg #[(.int .i64 0), (.int .i64 0), .int .u8 2, (.int .u8 0)])), (67, (.agg #[(.int .i64 0), (.int .i64 0), (.int .u8 0), .int .u8 2])), (70, (.agg #[(.int .i64 0), (.int .i64 0), .int .u8 1, .int .u8 1])), (74, (.agg #[(.int .i64 1), (.int .i64 2), (.slice sk 1 1), (.slice ek 3 3), (.slice tk 1 1), .int .i64 0])), (76, (.agg #[(.int .i64 0), (.int .i64 0), (.slice none 0 0), (.slice none 0 0), (.slice none 0 0), .int .i64 0])), (79, .int .i64 0)] ρ from hH).elim
        clear hH
        exact l_buildSlice (m := 0) (parts := []) (cs := []) Try.underlying22 inf3 (by decide) (by simp [Instr.fill]) rfl (fun z23 => ⟨{ WtE.z with n := z23 }, rfl, rfl⟩)
      · refine ⟨_, rfl, rfl, fun wt ρ O hS hH => ?_⟩
        obtain ⟨ρ0, rfl⟩ := (show Heads [(0, .bool false), (1, (.pointer (some ⟨z1, 0, none⟩))), (58, (.agg #[.int .i64 2, (.int .i64 0), .int .u8 2, (.int .u8 0)])), (61, (.agg #[(.int .i64 0), .int .i64 (-1), (.int .u8 0), (.int .u8 0)])), (64, (.agg #[(.int .i64 0), (.int .i64 0), .int .u8 2, (.int .u8 0)])), (67, (.agg #[(.int .i64 0), (.int .i64 0), (.int .u8 0), .int .u8 2])), (70, (.agg #[(.int .i64 0), (.int .i64 0), .int .u8 1, .int .u8 1])), (74, (.agg #[(.int .i64 1), (.int .i64 2), (.slice sk 1 1), (.slice ek 3 3), (.slice tk 1 1), .int .i64 0])), (76, (.agg #[(.int .i64 0), (.int .i64 0), (.slice none 0 0), (.slice none 0 0), (.slice none 0 0), .int .i64 0])), (79, .int .i64 0)] ρ from hH).elim
        clear hH
        exact l_build1 (v := .int .i64 2) Try.underlying22 inf3 rfl rfl rfl (fun z24 => ⟨{ WtE.z with n := z24 }, rfl, rfl⟩)
      · refine ⟨_, rfl, rfl, fun wt ρ O hS hH => ?_⟩
        obtain ⟨ρ0, rfl⟩ := (show Heads [(53, (.slice (some ⟨(wt 23).n, 0, none⟩) 0 0)), (54, (.slice (some ⟨(wt 24).n, 0, none⟩) 1 1)), (0, .bool false), (1, (.pointer (some ⟨z1, 0, none⟩))), (58, (.agg #[.int .i64 2, (.int .i64 0), .int .u8 2, (.int .u8 0)])), (61, (.agg #[(.int .i64 0), .int .i64 (-1), (.int .u8 0), (.int .u8 0)])), (64, (.agg #[(.int .i64 0), (.int .i64 0), .int .u8 2, (.int .u8 0)])), (67, (.agg #[(.int .i64 0), (.int .i64 0), (.int .u8 0), .int .u8 2])), (70, (.agg #[(.int .i64 0), (.int .i64 0), .int .u8 1, .int .u8 1])), (74, (.agg #[(.int .i64 1), (.int .i64 2), (.slice sk 1 1), (.slice ek 3 3), (.slice tk 1 1), .int .i64 0])), (76, (.agg #[(.int .i64 0), (.int .i64 0), (.slice none 0 0), (.slice none 0 0), (.slice none 0 0), .int .i64 0])), (79, .int .i64 0)] ρ from hH).elim
        clear hH
        exact l_buildSlice (m := 2) (parts := [(0, .tmp 53), (1, .tmp 54)]) (cs := [(.slice (some ⟨(wt 23).n, 0, none⟩) 0 0), (.slice (some ⟨(wt 24).n, 0, none⟩) 1 1)]) Try.underlying24 inf22 (by decide) (by kernel_rfl) rfl (fun z25 => ⟨{ WtE.z with n := z25 }, rfl, rfl⟩)
      · refine ⟨_, rfl, rfl, fun wt ρ O hS hH => ?_⟩
        obtain ⟨ρ0, rfl⟩ := (show Heads [(55, (.slice (some ⟨(wt 25).n, 0, none⟩) 2 2)), (53, (.slice (some ⟨(wt 23).n, 0, none⟩) 0 0)), (54, (.slice (some ⟨(wt 24).n, 0, none⟩) 1 1)), (0, .bool false), (1, (.pointer (some ⟨z1, 0, none⟩))), (58, (.agg #[.int .i64 2, (.int .i64 0), .int .u8 2, (.int .u8 0)])), (61, (.agg #[(.int .i64 0), .int .i64 (-1), (.int .u8 0), (.int .u8 0)])), (64, (.agg #[(.int .i64 0), (.int .i64 0), .int .u8 2, (.int .u8 0)])), (67, (.agg #[(.int .i64 0), (.int .i64 0), (.int .u8 0), .int .u8 2])), (70, (.agg #[(.int .i64 0), (.int .i64 0), .int .u8 1, .int .u8 1])), (74, (.agg #[(.int .i64 1), (.int .i64 2), (.slice sk 1 1), (.slice ek 3 3), (.slice tk 1 1), .int .i64 0])), (76, (.agg #[(.int .i64 0), (.int .i64 0), (.slice none 0 0), (.slice none 0 0), (.slice none 0 0), .int .i64 0])), (79, .int .i64 0)] ρ from hH).elim
        clear hH
        exact LT.of_quiet rfl rfl (q_build (cs := [(.int .i64 0), .int .i64 2, (.slice none 0 0), (.slice none 0 0), (.slice (some ⟨(wt 25).n, 0, none⟩) 2 2)]) plan26 inf26 (by kernel_rfl)) ⟨WtE.z, rfl, rfl⟩
      · refine ⟨_, rfl, rfl, fun wt ρ O hS hH => ?_⟩
        obtain ⟨ρ0, rfl⟩ := (show Heads [(56, (.agg #[(.int .i64 0), .int .i64 2, (.slice none 0 0), (.slice none 0 0), (.slice (some ⟨(wt 25).n, 0, none⟩) 2 2)])), (55, (.slice (some ⟨(wt 25).n, 0, none⟩) 2 2)), (53, (.slice (some ⟨(wt 23).n, 0, none⟩) 0 0)), (54, (.slice (some ⟨(wt 24).n, 0, none⟩) 1 1)), (0, .bool false), (1, (.pointer (some ⟨z1, 0, none⟩))), (58, (.agg #[.int .i64 2, (.int .i64 0), .int .u8 2, (.int .u8 0)])), (61, (.agg #[(.int .i64 0), .int .i64 (-1), (.int .u8 0), (.int .u8 0)])), (64, (.agg #[(.int .i64 0), (.int .i64 0), .int .u8 2, (.int .u8 0)])), (67, (.agg #[(.int .i64 0), (.int .i64 0), (.int .u8 0), .int .u8 2])), (70, (.agg #[(.int .i64 0), (.int .i64 0), .int .u8 1, .int .u8 1])), (74, (.agg #[(.int .i64 1), (.int .i64 2), (.slice sk 1 1), (.slice ek 3 3), (.slice tk 1 1), .int .i64 0])), (76, (.agg #[(.int .i64 0), (.int .i64 0), (.slice none 0 0), (.slice none 0 0), (.slice none 0 0), .int .i64 0])), (79, .int .i64 0)] ρ from hH).elim
        clear hH
        exact LT.of_quiet rfl rfl (q_build (cs := [(.int .i64 0), .int .i64 2, (.slice none 0 0), (.slice none 0 0), (.slice (some ⟨(wt 25).n, 0, none⟩) 2 2), .int .i64 8]) plan67 inf67 (by kernel_rfl)) ⟨WtE.z, rfl, rfl⟩
      · refine ⟨_, rfl, rfl, fun wt ρ O hS hH => ?_⟩
        obtain ⟨ρ0, rfl⟩ := (show Heads [(0, .bool false), (1, (.pointer (some ⟨z1, 0, none⟩))), (58, (.agg #[.int .i64 2, (.int .i64 0), .int .u8 2, (.int .u8 0)])), (61, (.agg #[(.int .i64 0), .int .i64 (-1), (.int .u8 0), (.int .u8 0)])), (64, (.agg #[(.int .i64 0), (.int .i64 0), .int .u8 2, (.int .u8 0)])), (67, (.agg #[(.int .i64 0), (.int .i64 0), (.int .u8 0), .int .u8 2])), (70, (.agg #[(.int .i64 0), (.int .i64 0), .int .u8 1, .int .u8 1])), (74, (.agg #[(.int .i64 1), (.int .i64 2), (.slice sk 1 1), (.slice ek 3 3), (.slice tk 1 1), .int .i64 0])), (76, (.agg #[(.int .i64 0), (.int .i64 0), (.slice none 0 0), (.slice none 0 0), (.slice none 0 0), .int .i64 0])), (79, .int .i64 0)] ρ from hH).elim
        clear hH
        have hk59 := fun (w1 : World) (hI : Inv w O w1) => edgeC w1 ⟨2, 0, 2, 0⟩
        refine l_call ent46 (CallT.of_pure hk59) rfl ?_
        clear hk59
        rintro vr O' ⟨N, rfl, s29, e29, x29, t29, q29, rfl, rfl⟩
        exact ⟨{ WtE.z with a := s29, b := e29, c := t29, d := q29, e := x29 }, rfl, rfl⟩
      · refine ⟨_, rfl, rfl, fun wt ρ O hS hH => ?_⟩
        obtain ⟨ρ0, rfl⟩ := (show Heads [(59, (.agg #[(.int .i64 1), (.int .i64 2), (.slice (wt 29).a 1 1), (.slice (wt 29).b 4 (wt 29).e), (.slice (wt 29).c 1 1)])), (0, .bool false), (1, (.pointer (some ⟨z1, 0, none⟩))), (58, (.agg #[.int .i64 2, (.int .i64 0), .int .u8 2, (.int .u8 0)])), (61, (.agg #[(.int .i64 0), .int .i64 (-1), (.int .u8 0), (.int .u8 0)])), (64, (.agg #[(.int .i64 0), (.int .i64 0), .int .u8 2, (.int .u8 0)])), (67, (.agg #[(.int .i64 0), (.int .i64 0), (.int .u8 0), .int .u8 2])), (70, (.agg #[(.int .i64 0), (.int .i64 0), .int .u8 1, .int .u8 1])), (74, (.agg #[(.int .i64 1), (.int .i64 2), (.slice sk 1 1), (.slice ek 3 3), (.slice tk 1 1), .int .i64 0])), (76, (.agg #[(.int .i64 0), (.int .i64 0), (.slice none 0 0), (.slice none 0 0), (.slice none 0 0), .int .i64 0])), (79, .int .i64 0)] ρ from hH).elim
        clear hH
        exact LT.of_quiet rfl rfl (q_build (cs := [(.int .i64 1), (.int .i64 2), (.slice (wt 29).a 1 1), (.slice (wt 29).b 4 (wt 29).e), (.slice (wt 29).c 1 1), .int .i64 8]) plan67 inf67 (by kernel_rfl)) ⟨WtE.z, rfl, rfl⟩
      · refine ⟨_, rfl, rfl, fun wt ρ O hS hH => ?_⟩
        obtain ⟨ρ0, rfl⟩ := (show Heads [(0, .bool false), (1, (.pointer (some ⟨z1, 0, none⟩))), (58, (.agg #[.int .i64 2, (.int .i64 0), .int .u8 2, (.int .u8 0)])), (61, (.agg #[(.int .i64 0), .int .i64 (-1), (.int .u8 0), (.int .u8 0)])), (64, (.agg #[(.int .i64 0), (.int .i64 0), .int .u8 2, (.int .u8 0)])), (67, (.agg #[(.int .i64 0), (.int .i64 0), (.int .u8 0), .int .u8 2])), (70, (.agg #[(.int .i64 0), (.int .i64 0), .int .u8 1, .int .u8 1])), (74, (.agg #[(.int .i64 1), (.int .i64 2), (.slice sk 1 1), (.slice ek 3 3), (.slice tk 1 1), .int .i64 0])), (76, (.agg #[(.int .i64 0), (.int .i64 0), (.slice none 0 0), (.slice none 0 0), (.slice none 0 0), .int .i64 0])), (79, .int .i64 0)] ρ from hH).elim
        clear hH
        have hk62 := fun (w1 : World) (hI : Inv w O w1) => edgeC w1 ⟨0, (-1), 0, 0⟩
        refine l_call ent46 (CallT.of_pure hk62) rfl ?_
        clear hk62
        rintro vr O' ⟨N, rfl, s32, e32, x32, t32, q32, rfl, rfl⟩
        exact ⟨{ WtE.z with a := s32, b := e32, c := t32, d := q32, e := x32 }, rfl, rfl⟩
      · refine ⟨_, rfl, rfl, fun wt ρ O hS hH => ?_⟩
        obtain ⟨ρ0, rfl⟩ := (show Heads [(62, (.agg #[(.int .i64 1), (.int .i64 2), (.slice (wt 32).a 1 1), (.slice (wt 32).b 4 (wt 32).e), (.slice (wt 32).c 1 1)])), (0, .bool false), (1, (.pointer (some ⟨z1, 0, none⟩))), (58, (.agg #[.int .i64 2, (.int .i64 0), .int .u8 2, (.int .u8 0)])), (61, (.agg #[(.int .i64 0), .int .i64 (-1), (.int .u8 0), (.int .u8 0)])), (64, (.agg #[(.int .i64 0), (.int .i64 0), .int .u8 2, (.int .u8 0)])), (67, (.agg #[(.int .i64 0), (.int .i64 0), (.int .u8 0), .int .u8 2])), (70, (.agg #[(.int .i64 0), (.int .i64 0), .int .u8 1, .int .u8 1])), (74, (.agg #[(.int .i64 1), (.int .i64 2), (.slice sk 1 1), (.slice ek 3 3), (.slice tk 1 1), .int .i64 0])), (76, (.agg #[(.int .i64 0), (.int .i64 0), (.slice none 0 0), (.slice none 0 0), (.slice none 0 0), .int .i64 0])), (79, .int .i64 0)] ρ from hH).elim
        clear hH
        exact LT.of_quiet rfl rfl (q_build (cs := [(.int .i64 1), (.int .i64 2), (.slice (wt 32).a 1 1), (.slice (wt 32).b 4 (wt 32).e), (.slice (wt 32).c 1 1), .int .i64 8]) plan67 inf67 (by kernel_rfl)) ⟨WtE.z, rfl, rfl⟩
      · refine ⟨_, rfl, rfl, fun wt ρ O hS hH => ?_⟩
        obtain ⟨ρ0, rfl⟩ := (show Heads [(0, .bool false), (1, (.pointer (some ⟨z1, 0, none⟩))), (58, (.agg #[.int .i64 2, (.int .i64 0), .int .u8 2, (.int .u8 0)])), (61, (.agg #[(.int .i64 0), .int .i64 (-1), (.int .u8 0), (.int .u8 0)])), (64, (.agg #[(.int .i64 0), (.int .i64 0), .int .u8 2, (.int .u8 0)])), (67, (.agg #[(.int .i64 0), (.int .i64 0), (.int .u8 0), .int .u8 2])), (70, (.agg #[(.int .i64 0), (.int .i64 0), .int .u8 1, .int .u8 1])), (74, (.agg #[(.int .i64 1), (.int .i64 2), (.slice sk 1 1), (.slice ek 3 3), (.slice tk 1 1), .int .i64 0])), (76, (.agg #[(.int .i64 0), (.int .i64 0), (.slice none 0 0), (.slice none 0 0), (.slice none 0 0), .int .i64 0])), (79, .int .i64 0)] ρ from hH).elim
        clear hH
        have hk65 := fun (w1 : World) (hI : Inv w O w1) => edgeC w1 ⟨0, 0, 2, 0⟩
        refine l_call ent46 (CallT.of_pure hk65) rfl ?_
        clear hk65
        rintro vr O' ⟨N, rfl, s35, e35, x35, t35, q35, rfl, rfl⟩
        exact ⟨{ WtE.z with a := s35, b := e35, c := t35, d := q35, e := x35 }, rfl, rfl⟩
      · refine ⟨_, rfl, rfl, fun wt ρ O hS hH => ?_⟩
        obtain ⟨ρ0, rfl⟩ := (show Heads [(65, (.agg #[(.int .i64 1), (.int .i64 2), (.slice (wt 35).a 1 1), (.slice (wt 35).b 4 (wt 35).e), (.slice (wt 35).c 1 1)])), (0, .bool false), (1, (.pointer (some ⟨z1, 0, none⟩))), (58, (.agg #[.int .i64 2, (.int .i64 0), .int .u8 2, (.int .u8 0)])), (61, (.agg #[(.int .i64 0), .int .i64 (-1), (.int .u8 0), (.int .u8 0)])), (64, (.agg #[(.int .i64 0), (.int .i64 0), .int .u8 2, (.int .u8 0)])), (67, (.agg #[(.int .i64 0), (.int .i64 0), (.int .u8 0), .int .u8 2])), (70, (.agg #[(.int .i64 0), (.int .i64 0), .int .u8 1, .int .u8 1])), (74, (.agg #[(.int .i64 1), (.int .i64 2), (.slice sk 1 1), (.slice ek 3 3), (.slice tk 1 1), .int .i64 0])), (76, (.agg #[(.int .i64 0), (.int .i64 0), (.slice none 0 0), (.slice none 0 0), (.slice none 0 0), .int .i64 0])), (79, .int .i64 0)] ρ from hH).elim
        clear hH
        exact LT.of_quiet rfl rfl (q_build (cs := [(.int .i64 1), (.int .i64 2), (.slice (wt 35).a 1 1), (.slice (wt 35).b 4 (wt 35).e), (.slice (wt 35).c 1 1), .int .i64 1]) plan67 inf67 (by kernel_rfl)) ⟨WtE.z, rfl, rfl⟩
      · refine ⟨_, rfl, rfl, fun wt ρ O hS hH => ?_⟩
        obtain ⟨ρ0, rfl⟩ := (show Heads [(0, .bool false), (1, (.pointer (some ⟨z1, 0, none⟩))), (58, (.agg #[.int .i64 2, (.int .i64 0), .int .u8 2, (.int .u8 0)])), (61, (.agg #[(.int .i64 0), .int .i64 (-1), (.int .u8 0), (.int .u8 0)])), (64, (.agg #[(.int .i64 0), (.int .i64 0), .int .u8 2, (.int .u8 0)])), (67, (.agg #[(.int .i64 0), (.int .i64 0), (.int .u8 0), .int .u8 2])), (70, (.agg #[(.int .i64 0), (.int .i64 0), .int .u8 1, .int .u8 1])), (74, (.agg #[(.int .i64 1), (.int .i64 2), (.slice sk 1 1), (.slice ek 3 3), (.slice tk 1 1), .int .i64 0])), (76, (.agg #[(.int .i64 0), (.int .i64 0), (.slice none 0 0), (.slice none 0 0), (.slice none 0 0), .int .i64 0])), (79, .int .i64 0)] ρ from hH).elim
        clear hH
        have hk68 := fun (w1 : World) (hI : Inv w O w1) => edgeC w1 ⟨0, 0, 0, 2⟩
        refine l_call ent46 (CallT.of_pure hk68) rfl ?_
        clear hk68
        rintro vr O' ⟨N, rfl, s38, e38, x38, t38, q38, rfl, rfl⟩
        exact ⟨{ WtE.z with a := s38, b := e38, c := t38, d := q38, e := x38 }, rfl, rfl⟩
      · refine ⟨_, rfl, rfl, fun wt ρ O hS hH => ?_⟩
        obtain ⟨ρ0, rfl⟩ := (show Heads [(68, (.agg #[(.int .i64 1), (.int .i64 2), (.slice (wt 38).a 1 1), (.slice (wt 38).b 4 (wt 38).e), (.slice (wt 38).c 1 1)])), (0, .bool false), (1, (.pointer (some ⟨z1, 0, none⟩))), (58, (.agg #[.int .i64 2, (.int .i64 0), .int .u8 2, (.int .u8 0)])), (61, (.agg #[(.int .i64 0), .int .i64 (-1), (.int .u8 0), (.int .u8 0)])), (64, (.agg #[(.int .i64 0), (.int .i64 0), .int .u8 2, (.int .u8 0)])), (67, (.agg #[(.int .i64 0), (.int .i64 0), (.int .u8 0), .int .u8 2])), (70, (.agg #[(.int .i64 0), (.int .i64 0), .int .u8 1, .int .u8 1])), (74, (.agg #[(.int .i64 1), (.int .i64 2), (.slice sk 1 1), (.slice ek 3 3), (.slice tk 1 1), .int .i64 0])), (76, (.agg #[(.int .i64 0), (.int .i64 0), (.slice none 0 0), (.slice none 0 0), (.slice none 0 0), .int .i64 0])), (79, .int .i64 0)] ρ from hH).elim
        clear hH
        exact LT.of_quiet rfl rfl (q_build (cs := [(.int .i64 1), (.int .i64 2), (.slice (wt 38).a 1 1), (.slice (wt 38).b 4 (wt 38).e), (.slice (wt 38).c 1 1), .int .i64 1]) plan67 inf67 (by kernel_rfl)) ⟨WtE.z, rfl, rfl⟩
      · refine ⟨_, rfl, rfl, fun wt ρ O hS hH => ?_⟩
        obtain ⟨ρ0, rfl⟩ := (show Heads [(0, .bool false), (1, (.pointer (some ⟨z1, 0, none⟩))), (58, (.agg #[.int .i64 2, (.int .i64 0), .int .u8 2, (.int .u8 0)])), (61, (.agg #[(.int .i64 0), .int .i64 (-1), (.int .u8 0), (.int .u8 0)])), (64, (.agg #[(.int .i64 0), (.int .i64 0), .int .u8 2, (.int .u8 0)])), (67, (.agg #[(.int .i64 0), (.int .i64 0), (.int .u8 0), .int .u8 2])), (70, (.agg #[(.int .i64 0), (.int .i64 0), .int .u8 1, .int .u8 1])), (74, (.agg #[(.int .i64 1), (.int .i64 2), (.slice sk 1 1), (.slice ek 3 3), (.slice tk 1 1), .int .i64 0])), (76, (.agg #[(.int .i64 0), (.int .i64 0), (.slice none 0 0), (.slice none 0 0), (.slice none 0 0), .int .i64 0])), (79, .int .i64 0)] ρ from hH).elim
        clear hH
        have hk71 := fun (w1 : World) (hI : Inv w O w1) => edgeC w1 ⟨0, 0, 1, 1⟩
        refine l_call ent46 (CallT.of_pure hk71) rfl ?_
        clear hk71
        rintro vr O' ⟨N, rfl, s41, e41, x41, t41, q41, rfl, rfl⟩
        exact ⟨{ WtE.z with a := s41, b := e41, c := t41, d := q41, e := x41 }, rfl, rfl⟩
      · refine ⟨_, rfl, rfl, fun wt ρ O hS hH => ?_⟩
        obtain ⟨ρ0, rfl⟩ := (show Heads [(71, (.agg #[(.int .i64 1), (.int .i64 2), (.slice (wt 41).a 1 1), (.slice (wt 41).b 4 (wt 41).e), (.slice (wt 41).c 1 1)])), (0, .bool false), (1, (.pointer (some ⟨z1, 0, none⟩))), (58, (.agg #[.int .i64 2, (.int .i64 0), .int .u8 2, (.int .u8 0)])), (61, (.agg #[(.int .i64 0), .int .i64 (-1), (.int .u8 0), (.int .u8 0)])), (64, (.agg #[(.int .i64 0), (.int .i64 0), .int .u8 2, (.int .u8 0)])), (67, (.agg #[(.int .i64 0), (.int .i64 0), (.int .u8 0), .int .u8 2])), (70, (.agg #[(.int .i64 0), (.int .i64 0), .int .u8 1, .int .u8 1])), (74, (.agg #[(.int .i64 1), (.int .i64 2), (.slice sk 1 1), (.slice ek 3 3), (.slice tk 1 1), .int .i64 0])), (76, (.agg #[(.int .i64 0), (.int .i64 0), (.slice none 0 0), (.slice none 0 0), (.slice none 0 0), .int .i64 0])), (79, .int .i64 0)] ρ from hH).elim
        clear hH
        exact LT.of_quiet rfl rfl (q_build (cs := [(.int .i64 1), (.int .i64 2), (.slice (wt 41).a 1 1), (.slice (wt 41).b 4 (wt 41).e), (.slice (wt 41).c 1 1), .int .i64 1]) plan67 inf67 (by kernel_rfl)) ⟨WtE.z, rfl, rfl⟩
    intro wt ρ hH
    obtain ⟨z10, e9z10⟩ : ∃ x, x = (wt 10).n := ⟨_, rfl⟩
    obtain ⟨z11, e9z11⟩ : ∃ x, x = (wt 11).n := ⟨_, rfl⟩
    obtain ⟨z14, e9z14⟩ : ∃ x, x = (wt 14).n := ⟨_, rfl⟩
    obtain ⟨z17, e9z17⟩ : ∃ x, x = (wt 17).n := ⟨_, rfl⟩
    obtain ⟨z20, e9z20⟩ : ∃ x, x = (wt 20).n := ⟨_, rfl⟩
    obtain ⟨z23, e9z23⟩ : ∃ x, x = (wt 23).n := ⟨_, rfl⟩
    obtain ⟨z24, e9z24⟩ : ∃ x, x = (wt 24).n := ⟨_, rfl⟩
    obtain ⟨z25, e9z25⟩ : ∃ x, x = (wt 25).n := ⟨_, rfl⟩
    obtain ⟨s29, e9s29⟩ : ∃ x, x = (wt 29).a := ⟨_, rfl⟩
    obtain ⟨e29, e9e29⟩ : ∃ x, x = (wt 29).b := ⟨_, rfl⟩
    obtain ⟨t29, e9t29⟩ : ∃ x, x = (wt 29).c := ⟨_, rfl⟩
    obtain ⟨q29, e9q29⟩ : ∃ x, x = (wt 29).d := ⟨_, rfl⟩
    obtain ⟨x29, e9x29⟩ : ∃ x, x = (wt 29).e := ⟨_, rfl⟩
    obtain ⟨s32, e9s32⟩ : ∃ x, x = (wt 32).a := ⟨_, rfl⟩
    obtain ⟨e32, e9e32⟩ : ∃ x, x = (wt 32).b := ⟨_, rfl⟩
    obtain ⟨t32, e9t32⟩ : ∃ x, x = (wt 32).c := ⟨_, rfl⟩
    obtain ⟨q32, e9q32⟩ : ∃ x, x = (wt 32).d := ⟨_, rfl⟩
    obtain ⟨x32, e9x32⟩ : ∃ x, x = (wt 32).e := ⟨_, rfl⟩
    obtain ⟨s35, e9s35⟩ : ∃ x, x = (wt 35).a := ⟨_, rfl⟩
    obtain ⟨e35, e9e35⟩ : ∃ x, x = (wt 35).b := ⟨_, rfl⟩
    obtain ⟨t35, e9t35⟩ : ∃ x, x = (wt 35).c := ⟨_, rfl⟩
    obtain ⟨q35, e9q35⟩ : ∃ x, x = (wt 35).d := ⟨_, rfl⟩
    obtain ⟨x35, e9x35⟩ : ∃ x, x = (wt 35).e := ⟨_, rfl⟩
    obtain ⟨s38, e9s38⟩ : ∃ x, x = (wt 38).a := ⟨_, rfl⟩
    obtain ⟨e38, e9e38⟩ : ∃ x, x = (wt 38).b := ⟨_, rfl⟩
    obtain ⟨t38, e9t38⟩ : ∃ x, x = (wt 38).c := ⟨_, rfl⟩
    obtain ⟨q38, e9q38⟩ : ∃ x, x = (wt 38).d := ⟨_, rfl⟩
    obtain ⟨x38, e9x38⟩ : ∃ x, x = (wt 38).e := ⟨_, rfl⟩
    obtain ⟨s41, e9s41⟩ : ∃ x, x = (wt 41).a := ⟨_, rfl⟩
    obtain ⟨e41, e9e41⟩ : ∃ x, x = (wt 41).b := ⟨_, rfl⟩
    obtain ⟨t41, e9t41⟩ : ∃ x, x = (wt 41).c := ⟨_, rfl⟩
    obtain ⟨q41, e9q41⟩ : ∃ x, x = (wt 41).d := ⟨_, rfl⟩
    obtain ⟨x41, e9x41⟩ : ∃ x, x = (wt 41).e := ⟨_, rfl⟩
    have hH2 : Heads [(30, (.agg #[(.int .i64 (-1)), (.int .i64 (-1)), (.slice none 0 0), (.slice none 0 0), (.slice none 0 0)])), (31, (.agg #[(.int .i64 (-1)), (.int .i64 (-1)), (.slice none 0 0), (.slice none 0 0), (.slice none 0 0), .int .i64 7])), (32, (.agg #[(.int .i64 7), (.int .i64 0), (.slice none 0 0), (.slice none 0 0), (.slice none 0 0)])), (33, (.agg #[(.int .i64 7), (.int .i64 0), (.slice none 0 0), (.slice none 0 0), (.slice none 0 0), .int .i64 7])), (34, (.agg #[(.int .i64 0), (.int .i64 (-1)), (.slice none 0 0), (.slice none 0 0), (.slice none 0 0)])), (35, (.agg #[(.int .i64 0), (.int .i64 (-1)), (.slice none 0 0), (.slice none 0 0), (.slice none 0 0), .int .i64 1])), (36, (.agg #[(.int .i64 6), (.int .i64 4097), (.slice none 0 0), (.slice none 0 0), (.slice none 0 0)])), (37, (.agg #[(.int .i64 6), (.int .i64 4097), (.slice none 0 0), (.slice none 0 0), (.slice none 0 0), .int .i64 10])), (38, (.agg #[(.int .i64 6), (.int .i64 4096), (.slice none 0 0), (.slice none 0 0), (.slice none 0 0)])), (39, (.agg #[(.int .i64 6), (.int .i64 4096), (.slice none 0 0), (.slice none 0 0), (.slice none 0 0), .int .i64 0])), (40, (.slice (some ⟨z10, 0, none⟩) 9 9)), (41, (.slice (some ⟨z11, 0, none⟩) 1 1)), (42, (.agg #[(.int .i64 0), (.int .i64 0), (.slice (some ⟨z11, 0, none⟩) 1 1), (.slice none 0 0), (.slice (some ⟨z10, 0, none⟩) 9 9)])), (43, (.agg #[(.int .i64 0), (.int .i64 0), (.slice (some ⟨z11, 0, none⟩) 1 1), (.slice none 0 0), (.slice (some ⟨z10, 0, none⟩) 9 9), .int .i64 4])), (44, (.slice (some ⟨z14, 0, none⟩) 1 1)), (45, (.agg #[(.int .i64 0), (.int .i64 0), (.slice (some ⟨z14, 0, none⟩) 1 1), (.slice none 0 0), (.slice none 0 0)])), (46, (.agg #[(.int .i64 0), (.int .i64 0), (.slice (some ⟨z14, 0, none⟩) 1 1), (.slice none 0 0), (.slice none 0 0), .int .i64 8])), (47, (.slice (some ⟨z17, 0, none⟩) 2 2)), (48, (.agg #[(.int .i64 0), .int .i64 2, (.slice (some ⟨z17, 0, none⟩) 2 2), (.slice none 0 0), (.slice none 0 0)])), (49, (.agg #[(.int .i64 0), .int .i64 2, (.slice (some ⟨z17, 0, none⟩) 2 2), (.slice none 0 0), (.slice none 0 0), .int .i64 8])), (50, (.slice (some ⟨z20, 0, none⟩) 2 2)), (51, (.agg #[(.int .i64 0), .int .i64 2, (.slice (some ⟨z20, 0, none⟩) 2 2), (.slice none 0 0), (.slice none 0 0)])), (52, (.agg #[(.int .i64 0), .int .i64 2, (.slice (some ⟨z20, 0, none⟩) 2 2), (.slice none 0 0), (.slice none 0 0), .int .i64 8])), (53, (.slice (some ⟨z23, 0, none⟩) 0 0)), (54, (.slice (some ⟨z24, 0, none⟩) 1 1)), (55, (.slice (some ⟨z25, 0, none⟩) 2 2)), (56, (.agg #[(.int .i64 0), .int .i64 2, (.slice none 0 0), (.slice none 0 0), (.slice (some ⟨z25, 0, none⟩) 2 2)])), (57, (.agg #[(.int .i64 0), .int .i64 2, (.slice none 0 0), (.slice none 0 0), (.slice (some ⟨z25, 0, none⟩) 2 2), .int .i64 8])), (59, (.agg #[(.int .i64 1), (.int .i64 2), (.slice s29 1 1), (.slice e29 4 x29), (.slice t29 1 1)])), (60, (.agg #[(.int .i64 1), (.int .i64 2), (.slice s29 1 1), (.slice e29 4 x29), (.slice t29 1 1), .int .i64 8])), (62, (.agg #[(.int .i64 1), (.int .i64 2), (.slice s32 1 1), (.slice e32 4 x32), (.slice t32 1 1)])), (63, (.agg #[(.int .i64 1), (.int .i64 2), (.slice s32 1 1), (.slice e32 4 x32), (.slice t32 1 1), .int .i64 8])), (65, (.agg #[(.int .i64 1), (.int .i64 2), (.slice s35 1 1), (.slice e35 4 x35), (.slice t35 1 1)])), (66, (.agg #[(.int .i64 1), (.int .i64 2), (.slice s35 1 1), (.slice e35 4 x35), (.slice t35 1 1), .int .i64 1])), (68, (.agg #[(.int .i64 1), (.int .i64 2), (.slice s38 1 1), (.slice e38 4 x38), (.slice t38 1 1)])), (69, (.agg #[(.int .i64 1), (.int .i64 2), (.slice s38 1 1), (.slice e38 4 x38), (.slice t38 1 1), .int .i64 1])), (71, (.agg #[(.int .i64 1), (.int .i64 2), (.slice s41 1 1), (.slice e41 4 x41), (.slice t41 1 1)])), (72, (.agg #[(.int .i64 1), (.int .i64 2), (.slice s41 1 1), (.slice e41 4 x41), (.slice t41 1 1), .int .i64 1])), (0, .bool false), (1, (.pointer (some ⟨z1, 0, none⟩))), (58, (.agg #[.int .i64 2, (.int .i64 0), .int .u8 2, (.int .u8 0)])), (61, (.agg #[(.int .i64 0), .int .i64 (-1), (.int .u8 0), (.int .u8 0)])), (64, (.agg #[(.int .i64 0), (.int .i64 0), .int .u8 2, (.int .u8 0)])), (67, (.agg #[(.int .i64 0), (.int .i64 0), (.int .u8 0), .int .u8 2])), (70, (.agg #[(.int .i64 0), (.int .i64 0), .int .u8 1, .int .u8 1])), (74, (.agg #[(.int .i64 1), (.int .i64 2), (.slice sk 1 1), (.slice ek 3 3), (.slice tk 1 1), .int .i64 0])), (76, (.agg #[(.int .i64 0), (.int .i64 0), (.slice none 0 0), (.slice none 0 0), (.slice none 0 0), .int .i64 0])), (79, .int .i64 0)] ρ := by subst e9z10 e9z11 e9z14 e9z17 e9z20 e9z23 e9z24 e9z25 e9s29 e9e29 e9t29 e9q29 e9x29 e9s32 e9e32 e9t32 e9q32 e9x32 e9s35 e9e35 e9t35 e9q35 e9x35 e9s38 e9e38 e9t38 e9q38 e9x38 e9s41 e9e41 e9t41 e9q41 e9x41; exact hH
    refine RO.sub (O' := [rowI (some ⟨z10, 0, none⟩) 9 22 1 (List.replicate 9 (.slice none 0 0)), rowI (some ⟨z11, 0, none⟩) 1 3 1 [.int .i64 0], rowI (some ⟨z14, 0, none⟩) 1 3 1 [.int .i64 0], rowI (some ⟨z17, 0, none⟩) 2 3 1 [.int .i64 1, .int .i64 0], rowI (some ⟨z20, 0, none⟩) 2 3 1 [.int .i64 1, .int .i64 1], rowI (some ⟨z23, 0, none⟩) 0 3 1 [], rowI (some ⟨z24, 0, none⟩) 1 3 1 [.int .i64 2], rowI (some ⟨z25, 0, none⟩) 2 22 1 [(.slice (some ⟨z23, 0, none⟩) 0 0), (.slice (some ⟨z24, 0, none⟩) 1 1)], rowI s29 1 3 1 (ints alwB.start), rowI e29 x29 54 4 (edsC (edgB ⟨2, 0, 2, 0⟩).edges), rowI t29 1 22 1 [.slice q29 1 1], rowI q29 1 3 1 (ints [1]), rowI s32 1 3 1 (ints alwB.start), rowI e32 x32 54 4 (edsC (edgB ⟨0, (-1), 0, 0⟩).edges), rowI t32 1 22 1 [.slice q32 1 1], rowI q32 1 3 1 (ints [1]), rowI s35 1 3 1 (ints alwB.start), rowI e35 x35 54 4 (edsC (edgB ⟨0, 0, 2, 0⟩).edges), rowI t35 1 22 1 [.slice q35 1 1], rowI q35 1 3 1 (ints [1]), rowI s38 1 3 1 (ints alwB.start), rowI e38 x38 54 4 (edsC (edgB ⟨0, 0, 0, 2⟩).edges), rowI t38 1 22 1 [.slice q38 1 1], rowI q38 1 3 1 (ints [1]), rowI s41 1 3 1 (ints alwB.start), rowI e41 x41 54 4 (edsC (edgB ⟨0, 0, 1, 1⟩).edges), rowI t41 1 22 1 [.slice q41 1 1], rowI q41 1 3 1 (ints [1]), oI z1 26 [(.int .i64 1), (.int .i64 2), (.slice sk 1 1), (.slice ek 3 3), (.slice tk 1 1)], rowI sk 1 3 1 (ints alwB.start), rowI ek 3 54 4 (edsC alwB.edges), rowI tk 1 22 1 [.slice qk 1 1], rowI qk 1 3 1 (ints [1])]) (by subst e9z10 e9z11 e9z14 e9z17 e9z20 e9z23 e9z24 e9z25 e9s29 e9e29 e9t29 e9q29 e9x29 e9s32 e9e32 e9t32 e9q32 e9x32 e9s35 e9e35 e9t35 e9q35 e9x35 e9s38 e9e38 e9t38 e9q38 e9x38 e9s41 e9e41 e9t41 e9q41 e9x41; exact Sub.rf) ?_
    clear hH e9z10 e9z11 e9z14 e9z17 e9z20 e9z23 e9z24 e9z25 e9s29 e9e29 e9t29 e9q29 e9x29 e9s32 e9e32 e9t32 e9q32 e9x32 e9s35 e9e35 e9t35 e9q35 e9x35 e9s38 e9e38 e9t38 e9q38 e9x38 e9s41 e9e41 e9t41 e9q41 e9x41
    obtain ⟨ρ0, rfl⟩ := hH2.elim
    clear hH2
    refine RO.forkT [47] (by kernel_rfl) rfl ⟨⟨_, rfl, rfl, l_buildSlice (m := 17) (parts := [(0, _), (1, _), (2, _), (3, _), (4, _), (5, _), (6, _), (7, _), (8, _), (9, _), (10, _), (11, _), (12, _), (13, _), (14, _), (15, _), (16, _)]) (cs := [(.int .i64 (-1)), (.int .i64 (-1)), (.slice none 0 0), (.slice none 0 0), (.slice none 0 0), .int .i64 7, (.int .i64 7), (.int .i64 0), (.slice none 0 0), (.slice none 0 0), (.slice none 0 0), .int .i64 7, (.int .i64 0), (.int .i64 (-1)), (.slice none 0 0), (.slice none 0 0), (.slice none 0 0), .int .i64 1, (.int .i64 6), (.int .i64 4097), (.slice none 0 0), (.slice none 0 0), (.slice none 0 0), .int .i64 10, (.int .i64 6), (.int .i64 4096), (.slice none 0 0), (.slice none 0 0), (.slice none 0 0), .int .i64 0, (.int .i64 0), (.int .i64 0), (.slice (some ⟨z11, 0, none⟩) 1 1), (.slice none 0 0), (.slice (some ⟨z10, 0, none⟩) 9 9), .int .i64 4, (.int .i64 0), (.int .i64 0), (.slice (some ⟨z14, 0, none⟩) 1 1), (.slice none 0 0), (.slice none 0 0), .int .i64 8, (.int .i64 0), .int .i64 2, (.slice (some ⟨z17, 0, none⟩) 2 2), (.slice none 0 0), (.slice none 0 0), .int .i64 8, (.int .i64 0), .int .i64 2, (.slice (some ⟨z20, 0, none⟩) 2 2), (.slice none 0 0), (.slice none 0 0), .int .i64 8, (.int .i64 0), .int .i64 2, (.slice none 0 0), (.slice none 0 0), (.slice (some ⟨z25, 0, none⟩) 2 2), .int .i64 8, (.int .i64 1), (.int .i64 2), (.slice s29 1 1), (.slice e29 4 x29), (.slice t29 1 1), .int .i64 8, (.int .i64 1), (.int .i64 2), (.slice s32 1 1), (.slice e32 4 x32), (.slice t32 1 1), .int .i64 8, (.int .i64 1), (.int .i64 2), (.slice s35 1 1), (.slice e35 4 x35), (.slice t35 1 1), .int .i64 1, (.int .i64 1), (.int .i64 2), (.slice s38 1 1), (.slice e38 4 x38), (.slice t38 1 1), .int .i64 1, (.int .i64 1), (.int .i64 2), (.slice s41 1 1), (.slice e41 4 x41), (.slice t41 1 1), .int .i64 1, (.int .i64 1), (.int .i64 2), (.slice sk 1 1), (.slice ek 3 3), (.slice tk 1 1), .int .i64 0, (.int .i64 0), (.int .i64 0), (.slice none 0 0), (.slice none 0 0), (.slice none 0 0), .int .i64 0]) Try.underlying69 inf67 (by decide) (by kernel_rfl) rfl (fun zT => ⟨.inl (by decide), ?_⟩)⟩, trivial⟩ (by kernel_rfl)
    refine RO.forkT [48] (by kernel_rfl) rfl ⟨⟨_, rfl, rfl, LT.of_quiet rfl rfl (q_len Try.underlying69 rfl) ⟨.inl (by decide), ?_⟩⟩, trivial⟩ (by kernel_rfl)
    exact RO.fin (by kernel_rfl) ⟨zT, z10, z11, z14, z17, z20, z23, z24, z25, x29, x32, x35, x38, x41, s29, e29, t29, q29, s32, e32, t32, q32, s35, e35, t35, q35, s38, e38, t38, q38, s41, e41, t41, q41, rfl, ⟨rfl, rfl, rfl, rfl, rfl, trivial⟩⟩ (by exact Sub.rf)
  rintro ρ O ⟨zT, z10, z11, z14, z17, z20, z23, z24, z25, x29, x32, x35, x38, x41, s29, e29, t29, q29, s32, e32, t32, q32, s35, e35, t35, q35, s38, e38, t38, q38, s41, e41, t41, q41, rfl, hH⟩
  obtain ⟨ρ0, rfl⟩ := hH.elim
  clear hH
  refine T.block ?_
  obtain ⟨xs, hxs⟩ : ∃ l : List (BuRef × Nat), l = [(⟨be0, none, 0, none, 0, none, 0, []⟩, 7), (⟨be1, none, 0, none, 0, none, 0, []⟩, 7), (⟨be2, none, 0, none, 0, none, 0, []⟩, 1), (⟨be3, none, 0, none, 0, none, 0, []⟩, 10), (⟨be4, none, 0, none, 0, none, 0, []⟩, 0), (⟨be5, (some ⟨z11, 0, none⟩), 1, none, 0, (some ⟨z10, 0, none⟩), 9, (List.replicate 9 (.slice none 0 0))⟩, 4), (⟨be6, (some ⟨z14, 0, none⟩), 1, none, 0, none, 0, []⟩, 8), (⟨be7, (some ⟨z17, 0, none⟩), 2, none, 0, none, 0, []⟩, 8), (⟨be8, (some ⟨z20, 0, none⟩), 2, none, 0, none, 0, []⟩, 8), (⟨be9, none, 0, none, 0, (some ⟨z25, 0, none⟩), 2, [(.slice (some ⟨z23, 0, none⟩) 0 0), (.slice (some ⟨z24, 0, none⟩) 1 1)]⟩, 8), (⟨be10, s29, 1, e29, x29, t29, 1, [.slice q29 1 1]⟩, 8), (⟨be11, s32, 1, e32, x32, t32, 1, [.slice q32 1 1]⟩, 8), (⟨be12, s35, 1, e35, x35, t35, 1, [.slice q35 1 1]⟩, 1), (⟨be13, s38, 1, e38, x38, t38, 1, [.slice q38 1 1]⟩, 1), (⟨be14, s41, 1, e41, x41, t41, 1, [.slice q41 1 1]⟩, 1), (⟨be15, sk, 1, ek, 3, tk, 1, [.slice qk 1 1]⟩, 0), (⟨be16, none, 0, none, 0, none, 0, []⟩, 0)] := ⟨_, rfl⟩
  obtain ⟨cs, hcs⟩ : ∃ c : List Value, c = [(.int .i64 (-1)), (.int .i64 (-1)), (.slice none 0 0), (.slice none 0 0), (.slice none 0 0), .int .i64 7, (.int .i64 7), (.int .i64 0), (.slice none 0 0), (.slice none 0 0), (.slice none 0 0), .int .i64 7, (.int .i64 0), (.int .i64 (-1)), (.slice none 0 0), (.slice none 0 0), (.slice none 0 0), .int .i64 1, (.int .i64 6), (.int .i64 4097), (.slice none 0 0), (.slice none 0 0), (.slice none 0 0), .int .i64 10, (.int .i64 6), (.int .i64 4096), (.slice none 0 0), (.slice none 0 0), (.slice none 0 0), .int .i64 0, (.int .i64 0), (.int .i64 0), (.slice (some ⟨z11, 0, none⟩) 1 1), (.slice none 0 0), (.slice (some ⟨z10, 0, none⟩) 9 9), .int .i64 4, (.int .i64 0), (.int .i64 0), (.slice (some ⟨z14, 0, none⟩) 1 1), (.slice none 0 0), (.slice none 0 0), .int .i64 8, (.int .i64 0), .int .i64 2, (.slice (some ⟨z17, 0, none⟩) 2 2), (.slice none 0 0), (.slice none 0 0), .int .i64 8, (.int .i64 0), .int .i64 2, (.slice (some ⟨z20, 0, none⟩) 2 2), (.slice none 0 0), (.slice none 0 0), .int .i64 8, (.int .i64 0), .int .i64 2, (.slice none 0 0), (.slice none 0 0), (.slice (some ⟨z25, 0, none⟩) 2 2), .int .i64 8, (.int .i64 1), (.int .i64 2), (.slice s29 1 1), (.slice e29 4 x29), (.slice t29 1 1), .int .i64 8, (.int .i64 1), (.int .i64 2), (.slice s32 1 1), (.slice e32 4 x32), (.slice t32 1 1), .int .i64 8, (.int .i64 1), (.int .i64 2), (.slice s35 1 1), (.slice e35 4 x35), (.slice t35 1 1), .int .i64 1, (.int .i64 1), (.int .i64 2), (.slice s38 1 1), (.slice e38 4 x38), (.slice t38 1 1), .int .i64 1, (.int .i64 1), (.int .i64 2), (.slice s41 1 1), (.slice e41 4 x41), (.slice t41 1 1), .int .i64 1, (.int .i64 1), (.int .i64 2), (.slice sk 1 1), (.slice ek 3 3), (.slice tk 1 1), .int .i64 0, (.int .i64 0), (.int .i64 0), (.slice none 0 0), (.slice none 0 0), (.slice none 0 0), .int .i64 0] := ⟨_, rfl⟩
  obtain ⟨RR, hRR⟩ : ∃ l : List Lx.Item, l = [rowI (some ⟨z10, 0, none⟩) 9 22 1 (List.replicate 9 (.slice none 0 0)), rowI (some ⟨z11, 0, none⟩) 1 3 1 [.int .i64 0], rowI (some ⟨z14, 0, none⟩) 1 3 1 [.int .i64 0], rowI (some ⟨z17, 0, none⟩) 2 3 1 [.int .i64 1, .int .i64 0], rowI (some ⟨z20, 0, none⟩) 2 3 1 [.int .i64 1, .int .i64 1], rowI (some ⟨z23, 0, none⟩) 0 3 1 [], rowI (some ⟨z24, 0, none⟩) 1 3 1 [.int .i64 2], rowI (some ⟨z25, 0, none⟩) 2 22 1 [(.slice (some ⟨z23, 0, none⟩) 0 0), (.slice (some ⟨z24, 0, none⟩) 1 1)], rowI s29 1 3 1 (ints alwB.start), rowI e29 x29 54 4 (edsC (edgB ⟨2, 0, 2, 0⟩).edges), rowI t29 1 22 1 [.slice q29 1 1], rowI q29 1 3 1 (ints [1]), rowI s32 1 3 1 (ints alwB.start), rowI e32 x32 54 4 (edsC (edgB ⟨0, (-1), 0, 0⟩).edges), rowI t32 1 22 1 [.slice q32 1 1], rowI q32 1 3 1 (ints [1]), rowI s35 1 3 1 (ints alwB.start), rowI e35 x35 54 4 (edsC (edgB ⟨0, 0, 2, 0⟩).edges), rowI t35 1 22 1 [.slice q35 1 1], rowI q35 1 3 1 (ints [1]), rowI s38 1 3 1 (ints alwB.start), rowI e38 x38 54 4 (edsC (edgB ⟨0, 0, 0, 2⟩).edges), rowI t38 1 22 1 [.slice q38 1 1], rowI q38 1 3 1 (ints [1]), rowI s41 1 3 1 (ints alwB.start), rowI e41 x41 54 4 (edsC (edgB ⟨0, 0, 1, 1⟩).edges), rowI t41 1 22 1 [.slice q41 1 1], rowI q41 1 3 1 (ints [1]), oI z1 26 [(.int .i64 1), (.int .i64 2), (.slice sk 1 1), (.slice ek 3 3), (.slice tk 1 1)], rowI sk 1 3 1 (ints alwB.start), rowI ek 3 54 4 (edsC alwB.edges), rowI tk 1 22 1 [.slice qk 1 1], rowI qk 1 3 1 (ints [1])] := ⟨_, rfl⟩
  have hxl : xs.length = 17 := by rw [hxs]; rfl
  have hcl : cs.length = 102 := by rw [hcs]; rfl
  have hxc : ∀ x ∈ xs, checkB x.1.b = x.2 ∧ BuB x.1.b := by
    intro x9 hx9
    rw [hxs] at hx9
    simp only [List.mem_cons, List.not_mem_nil, or_false] at hx9
    rcases hx9 with rfl | rfl | rfl | rfl | rfl | rfl | rfl | rfl | rfl | rfl | rfl | rfl | rfl | rfl | rfl | rfl | rfl
    · exact ⟨ec0, eb0⟩
    · exact ⟨ec1, eb1⟩
    · exact ⟨ec2, eb2⟩
    · exact ⟨ec3, eb3⟩
    · exact ⟨ec4, eb4⟩
    · exact ⟨ec5, eb5⟩
    · exact ⟨ec6, eb6⟩
    · exact ⟨ec7, eb7⟩
    · exact ⟨ec8, eb8⟩
    · exact ⟨ec9, eb9⟩
    · exact ⟨ec10, eb10⟩
    · exact ⟨ec11, eb11⟩
    · exact ⟨ec12, eb12⟩
    · exact ⟨ec13, eb13⟩
    · exact ⟨ec14, eb14⟩
    · exact ⟨ec15, eb15⟩
    · exact ⟨ec16, eb16⟩
  have hat : ∀ w1 : World, (∀ it ∈ RR, it.P w1) → ∀ x ∈ xs, BuAt w1 x.1.b x.1.sb x.1.eb x.1.tb x.1.vs := by
    intro w1 hw x9 hx9
    rw [hxs] at hx9
    simp only [List.mem_cons, List.not_mem_nil, or_false] at hx9
    rcases hx9 with rfl | rfl | rfl | rfl | rfl | rfl | rfl | rfl | rfl | rfl | rfl | rfl | rfl | rfl | rfl | rfl | rfl
    · exact ⟨Sl.nil _ _, Sl.nil _ _, Sl.nil _ _, RowsR.nil0 w1⟩
    · exact ⟨Sl.nil _ _, Sl.nil _ _, Sl.nil _ _, RowsR.nil0 w1⟩
    · exact ⟨Sl.nil _ _, Sl.nil _ _, Sl.nil _ _, RowsR.nil0 w1⟩
    · exact ⟨Sl.nil _ _, Sl.nil _ _, Sl.nil _ _, RowsR.nil0 w1⟩
    · exact ⟨Sl.nil _ _, Sl.nil _ _, Sl.nil _ _, RowsR.nil0 w1⟩
    · exact ⟨(show Sl w1 (some ⟨z11, 0, none⟩) (ints [0]) from rowP.sl (hw (rowI (some ⟨z11, 0, none⟩) 1 3 1 [.int .i64 0]) (hRR ▸ List.mem_of_getElem? (i := 1) rfl))), Sl.nil _ _, rowP.sl (hw (rowI (some ⟨z10, 0, none⟩) 9 22 1 (List.replicate 9 (.slice none 0 0))) (hRR ▸ List.mem_of_getElem? (i := 0) rfl)), nil9 w1⟩
    · exact ⟨(show Sl w1 (some ⟨z14, 0, none⟩) (ints [0]) from rowP.sl (hw (rowI (some ⟨z14, 0, none⟩) 1 3 1 [.int .i64 0]) (hRR ▸ List.mem_of_getElem? (i := 2) rfl))), Sl.nil _ _, Sl.nil _ _, RowsR.nil0 w1⟩
    · exact ⟨(show Sl w1 (some ⟨z17, 0, none⟩) (ints [1, 0]) from rowP.sl (hw (rowI (some ⟨z17, 0, none⟩) 2 3 1 [.int .i64 1, .int .i64 0]) (hRR ▸ List.mem_of_getElem? (i := 3) rfl))), Sl.nil _ _, Sl.nil _ _, RowsR.nil0 w1⟩
    · exact ⟨(show Sl w1 (some ⟨z20, 0, none⟩) (ints [1, 1]) from rowP.sl (hw (rowI (some ⟨z20, 0, none⟩) 2 3 1 [.int .i64 1, .int .i64 1]) (hRR ▸ List.mem_of_getElem? (i := 4) rfl))), Sl.nil _ _, Sl.nil _ _, RowsR.nil0 w1⟩
    · exact ⟨Sl.nil _ _, Sl.nil _ _, rowP.sl (hw (rowI (some ⟨z25, 0, none⟩) 2 22 1 [(.slice (some ⟨z23, 0, none⟩) 0 0), (.slice (some ⟨z24, 0, none⟩) 1 1)]) (hRR ▸ List.mem_of_getElem? (i := 7) rfl)), ((RowsR.nil0 w1).cons (xs := [2]) ((show Sl w1 (some ⟨z24, 0, none⟩) (ints [2]) from rowP.sl (hw (rowI (some ⟨z24, 0, none⟩) 1 3 1 [.int .i64 2]) (hRR ▸ List.mem_of_getElem? (i := 6) rfl))))).cons (xs := []) (Sl.nil _ _)⟩
    · exact ⟨rowP.sl (hw (rowI s29 1 3 1 (ints alwB.start)) (hRR ▸ List.mem_of_getElem? (i := 8) rfl)), rowP.sl (hw (rowI e29 x29 54 4 (edsC (edgB ⟨2, 0, 2, 0⟩).edges)) (hRR ▸ List.mem_of_getElem? (i := 9) rfl)), rowP.sl (hw (rowI t29 1 22 1 [.slice q29 1 1]) (hRR ▸ List.mem_of_getElem? (i := 10) rfl)), (RowsR.nil0 w1).cons (xs := [1]) (rowP.sl (hw (rowI q29 1 3 1 (ints [1])) (hRR ▸ List.mem_of_getElem? (i := 11) rfl)))⟩
    · exact ⟨rowP.sl (hw (rowI s32 1 3 1 (ints alwB.start)) (hRR ▸ List.mem_of_getElem? (i := 12) rfl)), rowP.sl (hw (rowI e32 x32 54 4 (edsC (edgB ⟨0, (-1), 0, 0⟩).edges)) (hRR ▸ List.mem_of_getElem? (i := 13) rfl)), rowP.sl (hw (rowI t32 1 22 1 [.slice q32 1 1]) (hRR ▸ List.mem_of_getElem? (i := 14) rfl)), (RowsR.nil0 w1).cons (xs := [1]) (rowP.sl (hw (rowI q32 1 3 1 (ints [1])) (hRR ▸ List.mem_of_getElem? (i := 15) rfl)))⟩
    · exact ⟨rowP.sl (hw (rowI s35 1 3 1 (ints alwB.start)) (hRR ▸ List.mem_of_getElem? (i := 16) rfl)), rowP.sl (hw (rowI e35 x35 54 4 (edsC (edgB ⟨0, 0, 2, 0⟩).edges)) (hRR ▸ List.mem_of_getElem? (i := 17) rfl)), rowP.sl (hw (rowI t35 1 22 1 [.slice q35 1 1]) (hRR ▸ List.mem_of_getElem? (i := 18) rfl)), (RowsR.nil0 w1).cons (xs := [1]) (rowP.sl (hw (rowI q35 1 3 1 (ints [1])) (hRR ▸ List.mem_of_getElem? (i := 19) rfl)))⟩
    · exact ⟨rowP.sl (hw (rowI s38 1 3 1 (ints alwB.start)) (hRR ▸ List.mem_of_getElem? (i := 20) rfl)), rowP.sl (hw (rowI e38 x38 54 4 (edsC (edgB ⟨0, 0, 0, 2⟩).edges)) (hRR ▸ List.mem_of_getElem? (i := 21) rfl)), rowP.sl (hw (rowI t38 1 22 1 [.slice q38 1 1]) (hRR ▸ List.mem_of_getElem? (i := 22) rfl)), (RowsR.nil0 w1).cons (xs := [1]) (rowP.sl (hw (rowI q38 1 3 1 (ints [1])) (hRR ▸ List.mem_of_getElem? (i := 23) rfl)))⟩
    · exact ⟨rowP.sl (hw (rowI s41 1 3 1 (ints alwB.start)) (hRR ▸ List.mem_of_getElem? (i := 24) rfl)), rowP.sl (hw (rowI e41 x41 54 4 (edsC (edgB ⟨0, 0, 1, 1⟩).edges)) (hRR ▸ List.mem_of_getElem? (i := 25) rfl)), rowP.sl (hw (rowI t41 1 22 1 [.slice q41 1 1]) (hRR ▸ List.mem_of_getElem? (i := 26) rfl)), (RowsR.nil0 w1).cons (xs := [1]) (rowP.sl (hw (rowI q41 1 3 1 (ints [1])) (hRR ▸ List.mem_of_getElem? (i := 27) rfl)))⟩
    · exact ⟨rowP.sl (hw (rowI sk 1 3 1 (ints alwB.start)) (hRR ▸ List.mem_of_getElem? (i := 29) rfl)), rowP.sl (hw (rowI ek 3 54 4 (edsC alwB.edges)) (hRR ▸ List.mem_of_getElem? (i := 30) rfl)), rowP.sl (hw (rowI tk 1 22 1 [.slice qk 1 1]) (hRR ▸ List.mem_of_getElem? (i := 31) rfl)), (RowsR.nil0 w1).cons (xs := [1]) (rowP.sl (hw (rowI qk 1 3 1 (ints [1])) (hRR ▸ List.mem_of_getElem? (i := 32) rfl)))⟩
    · exact ⟨Sl.nil _ _, Sl.nil _ _, Sl.nil _ _, RowsR.nil0 w1⟩
  have hget : ∀ (i : Nat) (hi : i < xs.length) (j : Nat), j < 6 → cs[i * 6 + j]? = (buCells xs[i].1.b xs[i].1.sb xs[i].1.sc xs[i].1.eb xs[i].1.ec xs[i].1.tb xs[i].1.tc ++ [Value.int .i64 ((xs[i].2 : Nat) : Int)])[j]? := by
    intro i hi j hj
    subst hxs; subst hcs
    match i, hi with
    | 0, _ => exact (match j, hj with | 0, _ => rfl | 1, _ => rfl | 2, _ => rfl | 3, _ => rfl | 4, _ => rfl | 5, _ => rfl)
    | 1, _ => exact (match j, hj with | 0, _ => rfl | 1, _ => rfl | 2, _ => rfl | 3, _ => rfl | 4, _ => rfl | 5, _ => rfl)
    | 2, _ => exact (match j, hj with | 0, _ => rfl | 1, _ => rfl | 2, _ => rfl | 3, _ => rfl | 4, _ => rfl | 5, _ => rfl)
    | 3, _ => exact (match j, hj with | 0, _ => rfl | 1, _ => rfl | 2, _ => rfl | 3, _ => rfl | 4, _ => rfl | 5, _ => rfl)
    | 4, _ => exact (match j, hj with | 0, _ => rfl | 1, _ => rfl | 2, _ => rfl | 3, _ => rfl | 4, _ => rfl | 5, _ => rfl)
    | 5, _ => exact (match j, hj with | 0, _ => rfl | 1, _ => rfl | 2, _ => rfl | 3, _ => rfl | 4, _ => rfl | 5, _ => rfl)
    | 6, _ => exact (match j, hj with | 0, _ => rfl | 1, _ => rfl | 2, _ => rfl | 3, _ => rfl | 4, _ => rfl | 5, _ => rfl)
    | 7, _ => exact (match j, hj with | 0, _ => rfl | 1, _ => rfl | 2, _ => rfl | 3, _ => rfl | 4, _ => rfl | 5, _ => rfl)
    | 8, _ => exact (match j, hj with | 0, _ => rfl | 1, _ => rfl | 2, _ => rfl | 3, _ => rfl | 4, _ => rfl | 5, _ => rfl)
    | 9, _ => exact (match j, hj with | 0, _ => rfl | 1, _ => rfl | 2, _ => rfl | 3, _ => rfl | 4, _ => rfl | 5, _ => rfl)
    | 10, _ => exact (match j, hj with | 0, _ => rfl | 1, _ => rfl | 2, _ => rfl | 3, _ => rfl | 4, _ => rfl | 5, _ => rfl)
    | 11, _ => exact (match j, hj with | 0, _ => rfl | 1, _ => rfl | 2, _ => rfl | 3, _ => rfl | 4, _ => rfl | 5, _ => rfl)
    | 12, _ => exact (match j, hj with | 0, _ => rfl | 1, _ => rfl | 2, _ => rfl | 3, _ => rfl | 4, _ => rfl | 5, _ => rfl)
    | 13, _ => exact (match j, hj with | 0, _ => rfl | 1, _ => rfl | 2, _ => rfl | 3, _ => rfl | 4, _ => rfl | 5, _ => rfl)
    | 14, _ => exact (match j, hj with | 0, _ => rfl | 1, _ => rfl | 2, _ => rfl | 3, _ => rfl | 4, _ => rfl | 5, _ => rfl)
    | 15, _ => exact (match j, hj with | 0, _ => rfl | 1, _ => rfl | 2, _ => rfl | 3, _ => rfl | 4, _ => rfl | 5, _ => rfl)
    | 16, _ => exact (match j, hj with | 0, _ => rfl | 1, _ => rfl | 2, _ => rfl | 3, _ => rfl | 4, _ => rfl | 5, _ => rfl)
    | n9 + 17, h9 => exact absurd h9 (by show ¬ n9 + 17 < 17; omega)
  refine T.sub (O' := [rowI (some ⟨zT, 0, none⟩) 17 67 6 cs] ++ RR) (by rw [hcs, hRR]; exact Sub.rf) ?_
  refine T.loop (fun (a : Nat) ρ O => O = ([rowI (some ⟨zT, 0, none⟩) 17 67 6 cs] ++ RR) ∧ a ≤ 17 ∧ Heads [(1, (.pointer (some ⟨z1, 0, none⟩))), (77, (.slice (some ⟨zT, 0, none⟩) 17 17)), (78, .int .i64 17), (79, .int .i64 ((a : Nat) : Int))] ρ) (fun a => 17 - a) 0 ?_ ?_
  · exact ⟨rfl, Nat.zero_le _, ⟨rfl, rfl, rfl, rfl, trivial⟩⟩
  rintro a ρ O ⟨rfl, ha, hH⟩
  obtain ⟨ρ0, rfl⟩ := hH.elim
  clear hH
  refine T.seq (T.region ?_)
  refine TO.quiet (q_lss rfl rfl) ?_
  refine TO.nil (T.seq ?_)
  refine T.condP rfl (fun hc => ?_) (fun hc => ?_)
  · have hlt80 : a < 17 := by omega
    have hal : a < xs.length := by omega
    obtain ⟨x, hx⟩ : ∃ zz, xs[a] = zz := ⟨_, rfl⟩
    have hxm : x ∈ xs := hx ▸ List.getElem_mem hal
    refine T.skip (T.seq (T.block (T.seq (T.region ?_))))
    refine TO.quiet (q_ixK (i := a) Try.underlying69 inf67 rfl rfl (rowO (List.mem_of_getElem? (i := 0) rfl)) (by omega) (by omega)) (TO.quiet (q_ldK (vs := [(.int .i64 x.1.b.vars), (.int .i64 x.1.b.states), (.slice x.1.sb x.1.b.start.length x.1.sc), (.slice x.1.eb x.1.b.edges.length x.1.ec), (.slice x.1.tb x.1.b.sets.length x.1.tc), .int .i64 ((x.2 : Nat) : Int)]) Try.underlying67 rfl inf67 rfl rfl (Nat.succ_pos _) (rowO (List.mem_of_getElem? (i := 0) rfl)) (hx ▸ fun j9 h9 => (hget a hal j9 h9).trans (List.getElem?_eq_getElem h9))) ?_)
    refine TO.loud rfl (l_alloc inf67 rfl (fun z2 => ?_))
    refine TO.loud rfl (l_store_box (v := (.agg #[(.int .i64 x.1.b.vars), (.int .i64 x.1.b.states), (.slice x.1.sb x.1.b.start.length x.1.sc), (.slice x.1.eb x.1.b.edges.length x.1.ec), (.slice x.1.tb x.1.b.sets.length x.1.tc), .int .i64 ((x.2 : Nat) : Int)])) (vs := [(.int .i64 x.1.b.vars), (.int .i64 x.1.b.states), (.slice x.1.sb x.1.b.start.length x.1.sc), (.slice x.1.eb x.1.b.edges.length x.1.ec), (.slice x.1.tb x.1.b.sets.length x.1.tc), .int .i64 ((x.2 : Nat) : Int)]) 0 inf67 rfl rfl rfl rfl rfl rfl (by simp [putL]) ?_)
    refine TO.nil (T.seq (T.region ?_))
    refine TO.quiet (q_fieldAddr Try.underlying67 rfl inf26 rfl rfl) (TO.quiet (q_load_part 0 (vs := [(.int .i64 x.1.b.vars), (.int .i64 x.1.b.states), (.slice x.1.sb x.1.b.start.length x.1.sc), (.slice x.1.eb x.1.b.edges.length x.1.ec), (.slice x.1.tb x.1.b.sets.length x.1.tc)]) Try.underlying26 rfl inf26 rfl rfl rfl rfl) ?_)
    have hk86 := fun (w1 : World) (hI : Inv w ([oI z2 67 [(.int .i64 x.1.b.vars), (.int .i64 x.1.b.states), (.slice x.1.sb x.1.b.start.length x.1.sc), (.slice x.1.eb x.1.b.edges.length x.1.ec), (.slice x.1.tb x.1.b.sets.length x.1.tc), .int .i64 ((x.2 : Nat) : Int)], rowI (some ⟨zT, 0, none⟩) 17 67 6 cs] ++ RR) w1) => (show PureT _ _ _ _ _ from by
        have h9 := livesF w1 x.1.b x.1.sb x.1.eb x.1.tb x.1.sc x.1.ec x.1.tc x.1.vs (hat w1 (fun it9 h9 => hI.holds it9 (List.mem_append_right _ h9)) x hxm) (hxc x hxm).2
        rw [(hxc x hxm).1] at h9
        exact h9)
    refine TO.loud rfl (l_call ent19 (CallT.of_pure hk86) rfl ?_)
    clear hk86
    rintro vr O' ⟨N, rfl, lb9, lc9, rfl, rfl⟩
    refine TO.quiet (q_move rfl) (TO.quiet (q_extract (vs := _) rfl rfl) (TO.quiet (q_extract (vs := _) rfl rfl) (TO.quiet (q_assign rfl) ?_)))
    refine TO.quiet (q_assign rfl) ?_
    refine TO.sub (O' := ([oI z2 67 [(.int .i64 x.1.b.vars), (.int .i64 x.1.b.states), (.slice x.1.sb x.1.b.start.length x.1.sc), (.slice x.1.eb x.1.b.edges.length x.1.ec), (.slice x.1.tb x.1.b.sets.length x.1.tc), .int .i64 ((x.2 : Nat) : Int)], rowI (some ⟨zT, 0, none⟩) 17 67 6 cs] ++ RR)) (by exact Sub.d (.k (.k .rf))) ?_
    refine TO.nil (T.seq ?_)
    refine T.draws _ [(0, 0), (1, 0), (3, 0), (4, 0), (2, 1), (5, 0), (6, 0), (7, 0), (8, 0), (9, 0), (10, 0), (11, 0), (12, 0), (13, 0), (14, 0), (15, 0), (16, 0), (17, 0)] mixed (by kernel_rfl) (Sub.of (List.Sublist.refl _)) (fun _ _ _ h => h) ?_
    refine DO.quiet rfl (q_fieldAddr Try.underlying67 rfl inf26 rfl rfl) (DO.quiet rfl (q_load_part 0 (vs := [(.int .i64 x.1.b.vars), (.int .i64 x.1.b.states), (.slice x.1.sb x.1.b.start.length x.1.sc), (.slice x.1.eb x.1.b.edges.length x.1.ec), (.slice x.1.tb x.1.b.sets.length x.1.tc)]) Try.underlying26 rfl inf26 rfl rfl rfl rfl) (DO.quiet rfl (q_fieldAddr Try.underlying67 rfl inf36 rfl rfl) (DO.quiet rfl (q_load_box 0 Try.underlying36 rfl rfl rfl rfl) ?_)))
    have hk91 := fun (w1 : World) (hI : Inv w ([oI z2 67 [(.int .i64 x.1.b.vars), (.int .i64 x.1.b.states), (.slice x.1.sb x.1.b.start.length x.1.sc), (.slice x.1.eb x.1.b.edges.length x.1.ec), (.slice x.1.tb x.1.b.sets.length x.1.tc), .int .i64 ((x.2 : Nat) : Int)], rowI (some ⟨zT, 0, none⟩) 17 67 6 cs] ++ RR) w1) => (show PureT _ _ _ _ _ from by
        have h9 := checkF w1 x.1.b x.1.sb x.1.eb x.1.tb x.1.sc x.1.ec x.1.tc x.1.vs (hat w1 (fun it9 h9 => hI.holds it9 (List.mem_append_right _ h9)) x hxm) (hxc x hxm).2
        rw [(hxc x hxm).1] at h9
        exact h9)
    refine DO.loud rfl rfl (l_call ent21 (CallT.of_pure hk91) rfl ?_)
    clear hk91
    rintro vr O' ⟨N, rfl, rfl, rfl⟩
    refine ⟨by exact Sub.rf, ?_⟩
    refine DO.quiet rfl (QT.toB (q_neq rfl rfl) (decide_eq_false (fun h9 => h9 rfl))) (DO.quiet rfl (q_move rfl) ?_)
    refine DO.guarded rfl rfl rfl (q_fieldAddr Try.underlying67 rfl inf26 rfl rfl) ?_
    refine DO.guarded rfl rfl rfl (q_fieldAddr Try.underlying26 rfl inf3 rfl rfl) ?_
    refine DO.guarded rfl rfl rfl (q_load_box 0 Try.underlying3 rfl rfl rfl rfl) ?_
    refine DO.guarded rfl rfl rfl (q_lss rfl rfl) ?_
    by_cases hs100 : x.1.b.states < 4000
    · refine DO.guarded rfl rfl rfl (QT.toB (q_move rfl) (decide_eq_true hs100)) ?_
      refine DO.guarded rfl rfl rfl (q_move rfl) ?_
      refine DO.guarded rfl rfl rfl (q_fieldAddr Try.underlying67 rfl inf36 rfl rfl) ?_
      refine DO.guarded rfl rfl rfl (q_load_box 0 Try.underlying36 rfl rfl rfl rfl) ?_
      refine DO.guarded rfl rfl rfl (QT.toB (q_neq rfl rfl) (decide_eq_false (fun h9 => h9 rfl))) ?_
      refine DO.guarded rfl rfl rfl (q_pick1 rfl rfl) ?_
      refine DO.quiet rfl (q_pick0 rfl rfl) ?_
      refine DO.sub (O' := ([rowI (some ⟨zT, 0, none⟩) 17 67 6 cs] ++ RR)) (by exact Sub.d (.k .rf)) ?_
      refine DO.done ?_
      refine T.cond0 rfl ?_
      refine T.skip (T.region ?_)
      refine TO.quiet (q_addN (a := a) (b := 1) rfl rfl (by omega)) (TO.quiet (q_move rfl) ?_)
      refine TO.nil ?_
      exact ⟨a + 1, by omega, rfl, by omega, ⟨rfl, rfl, rfl, rfl, trivial⟩⟩
    refine DO.guarded rfl rfl rfl (QT.toB (q_move rfl) (decide_eq_false hs100)) ?_
    refine DO.passed rfl rfl rfl ?_
    refine DO.passed rfl rfl rfl ?_
    refine DO.passed rfl rfl rfl ?_
    refine DO.passed rfl rfl rfl ?_
    refine DO.guarded rfl rfl rfl (q_pick0 rfl rfl) ?_
    refine DO.quiet rfl (q_pick0 rfl rfl) ?_
    refine DO.sub (O' := ([rowI (some ⟨zT, 0, none⟩) 17 67 6 cs] ++ RR)) (by exact Sub.d (.k .rf)) ?_
    refine DO.done ?_
    refine T.cond0 rfl ?_
    refine T.skip (T.region ?_)
    refine TO.quiet (q_addN (a := a) (b := 1) rfl rfl (by omega)) (TO.quiet (q_move rfl) ?_)
    refine TO.nil ?_
    exact ⟨a + 1, by omega, rfl, by omega, ⟨rfl, rfl, rfl, rfl, trivial⟩⟩
  have hge80 : ¬ a < 17 := by omega
  refine T.exit ?_
  refine T.seq ?_
  rw [hRR]
  refine T.sub (O' := [oI z1 26 [(.int .i64 1), (.int .i64 2), (.slice sk 1 1), (.slice ek 3 3), (.slice tk 1 1)], rowI sk 1 3 1 (ints alwB.start), rowI ek 3 54 4 (edsC alwB.edges), rowI tk 1 22 1 [.slice qk 1 1], rowI qk 1 3 1 (ints [1])]) (by exact Sub.d (.d (.d (.d (.d (.d (.d (.d (.d (.d (.d (.d (.d (.d (.d (.d (.d (.d (.d (.d (.d (.d (.d (.d (.d (.d (.d (.d (.d .rf))))))))))))))))))))))))))))) ?_
  refine T.region ?_
  refine TO.quiet (q_load_boxAgg 0 Try.underlying26 rfl inf26 rfl rfl rfl) (TO.quiet (q_build plan29 inf29 rfl) ?_)
  have hk111 := fun (w1 : World) (hI : Inv w [oI z1 26 [(.int .i64 1), (.int .i64 2), (.slice sk 1 1), (.slice ek 3 3), (.slice tk 1 1)], rowI sk 1 3 1 (ints alwB.start), rowI ek 3 54 4 (edsC alwB.edges), rowI tk 1 22 1 [.slice qk 1 1], rowI qk 1 3 1 (ints [1])] w1) => (show PureT _ _ _ _ _ from by
      have h9 := acceptsF w1 alwB sk ek tk 1 3 1 [.slice qk 1 1] (show BuAt w1 alwB sk ek tk [.slice qk 1 1] from ⟨(hI.slOf (List.mem_of_getElem? (i := 1) rfl)), (hI.slOf (List.mem_of_getElem? (i := 2) rfl)), (hI.slOf (List.mem_of_getElem? (i := 3) rfl)), (RowsR.nil0 w1).cons (xs := [1]) (hI.slOf (List.mem_of_getElem? (i := 4) rfl))⟩) alwB_B nilL none none 0 0 ⟨Sl.nil _ _, Sl.nil _ _, Nat.le_refl _, Nat.le_refl _⟩ nilL_B (by decide)
      rw [show accE alwB nilL = 3 from eaA] at h9
      exact h9)
  refine TO.loud rfl (l_call ent17 (CallT.of_pure hk111) rfl ?_)
  clear hk111
  rintro vr O' ⟨N, rfl, rfl, rfl⟩
  refine TO.quiet (q_move rfl) (TO.quiet (q_extract (vs := _) rfl rfl) (TO.quiet (q_extract (vs := _) rfl rfl) (TO.quiet (q_assign rfl) ?_)))
  refine TO.quiet (q_assign rfl) ?_
  refine TO.nil (T.seq (T.region ?_))
  refine TO.quiet (q_build (cs := [.int .i64 9, (.int .i64 0), (.int .u8 0), (.int .u8 0)]) plan54 inf54 (by kernel_rfl)) ?_
  have hk116 := fun (w1 : World) (hI : Inv w [oI z1 26 [(.int .i64 1), (.int .i64 2), (.slice sk 1 1), (.slice ek 3 3), (.slice tk 1 1)], rowI sk 1 3 1 (ints alwB.start), rowI ek 3 54 4 (edsC alwB.edges), rowI tk 1 22 1 [.slice qk 1 1], rowI qk 1 3 1 (ints [1])] w1) => edgeC w1 ⟨9, 0, 0, 0⟩
  refine TO.loud rfl (l_call ent46 (CallT.of_pure hk116) rfl ?_)
  clear hk116
  rintro vr O' ⟨N, rfl, s9, e9, x9, t9, q9, rfl, rfl⟩
  refine TO.quiet (q_build plan29 inf29 rfl) ?_
  have hk118 := fun (w1 : World) (hI : Inv w [rowI s9 1 3 1 (ints alwB.start), rowI e9 x9 54 4 (edsC (edgB ⟨9, 0, 0, 0⟩).edges), rowI t9 1 22 1 [.slice q9 1 1], rowI q9 1 3 1 (ints [1]), oI z1 26 [(.int .i64 1), (.int .i64 2), (.slice sk 1 1), (.slice ek 3 3), (.slice tk 1 1)], rowI sk 1 3 1 (ints alwB.start), rowI ek 3 54 4 (edsC alwB.edges), rowI tk 1 22 1 [.slice qk 1 1], rowI qk 1 3 1 (ints [1])] w1) => (show PureT _ _ _ _ _ from by
      have h9 := acceptsF w1 beF s9 e9 t9 1 x9 1 [.slice q9 1 1] (show BuAt w1 beF s9 e9 t9 [.slice q9 1 1] from ⟨(hI.slOf (List.mem_of_getElem? (i := 0) rfl)), (hI.slOf (List.mem_of_getElem? (i := 1) rfl)), (hI.slOf (List.mem_of_getElem? (i := 2) rfl)), (RowsR.nil0 w1).cons (xs := [1]) (hI.slOf (List.mem_of_getElem? (i := 3) rfl))⟩) ebF nilL none none 0 0 ⟨Sl.nil _ _, Sl.nil _ _, Nat.le_refl _, Nat.le_refl _⟩ nilL_B (by decide)
      rw [show accE beF nilL = 8 from eaB] at h9
      exact h9)
  refine TO.loud rfl (l_call ent17 (CallT.of_pure hk118) rfl ?_)
  clear hk118
  rintro vr O' ⟨N, rfl, rfl, rfl⟩
  refine TO.quiet (q_move rfl) (TO.quiet (q_extract (vs := _) rfl rfl) (TO.quiet (q_extract (vs := _) rfl rfl) (TO.quiet (q_assign rfl) ?_)))
  refine TO.quiet (q_assign rfl) ?_
  refine TO.sub (O' := [oI z1 26 [(.int .i64 1), (.int .i64 2), (.slice sk 1 1), (.slice ek 3 3), (.slice tk 1 1)], rowI sk 1 3 1 (ints alwB.start), rowI ek 3 54 4 (edsC alwB.edges), rowI tk 1 22 1 [.slice qk 1 1], rowI qk 1 3 1 (ints [1])]) (by exact Sub.d (.d (.d (.d (.k (.k (.k (.k (.k .z))))))))) ?_
  refine TO.nil (T.seq (T.region ?_))
  refine TO.quiet (q_load_boxAgg 0 Try.underlying26 rfl inf26 rfl rfl rfl) ?_
  refine TO.loud rfl (l_build1 (v := .int .u8 2) Try.underlying27 inf5 rfl rfl rfl (fun z3 => ?_))
  refine TO.quiet (q_build (cs := [(.slice none 0 0), (.slice (some ⟨z3, 0, none⟩) 1 1)]) plan29 inf29 (by kernel_rfl)) ?_
  have hk125 := fun (w1 : World) (hI : Inv w [rowI (some ⟨z3, 0, none⟩) 1 5 1 [.int .u8 2], oI z1 26 [(.int .i64 1), (.int .i64 2), (.slice sk 1 1), (.slice ek 3 3), (.slice tk 1 1)], rowI sk 1 3 1 (ints alwB.start), rowI ek 3 54 4 (edsC alwB.edges), rowI tk 1 22 1 [.slice qk 1 1], rowI qk 1 3 1 (ints [1])] w1) => (show PureT _ _ _ _ _ from by
      have h9 := acceptsF w1 alwB sk ek tk 1 3 1 [.slice qk 1 1] (show BuAt w1 alwB sk ek tk [.slice qk 1 1] from ⟨(hI.slOf (List.mem_of_getElem? (i := 2) rfl)), (hI.slOf (List.mem_of_getElem? (i := 3) rfl)), (hI.slOf (List.mem_of_getElem? (i := 4) rfl)), (RowsR.nil0 w1).cons (xs := [1]) (hI.slOf (List.mem_of_getElem? (i := 5) rfl))⟩) alwB_B twoL none (some ⟨z3, 0, none⟩) 0 1 ⟨Sl.nil _ _, hI.slOf (cs := byts [2]) (List.mem_of_getElem? (i := 0) rfl), Nat.le_refl _, Nat.le_refl _⟩ twoL_B (by decide)
      rw [show accE alwB twoL = 1 from eaC] at h9
      exact h9)
  refine TO.loud rfl (l_call ent17 (CallT.of_pure hk125) rfl ?_)
  clear hk125
  rintro vr O' ⟨N, rfl, rfl, rfl⟩
  refine TO.quiet (q_move rfl) (TO.quiet (q_extract (vs := _) rfl rfl) (TO.quiet (q_extract (vs := _) rfl rfl) (TO.quiet (q_assign rfl) ?_)))
  refine TO.quiet (q_assign rfl) ?_
  refine TO.sub (O' := [oI z1 26 [(.int .i64 1), (.int .i64 2), (.slice sk 1 1), (.slice ek 3 3), (.slice tk 1 1)], rowI sk 1 3 1 (ints alwB.start), rowI ek 3 54 4 (edsC alwB.edges), rowI tk 1 22 1 [.slice qk 1 1], rowI qk 1 3 1 (ints [1])]) (by exact Sub.d (.k (.k (.k (.k (.k .z)))))) ?_
  refine TO.nil (T.seq (T.region ?_))
  refine TO.quiet (q_load_boxAgg 0 Try.underlying26 rfl inf26 rfl rfl rfl) (TO.quiet (q_build plan26 inf26 rfl) ?_)
  have hk131 := fun (w1 : World) (hI : Inv w [oI z1 26 [(.int .i64 1), (.int .i64 2), (.slice sk 1 1), (.slice ek 3 3), (.slice tk 1 1)], rowI sk 1 3 1 (ints alwB.start), rowI ek 3 54 4 (edsC alwB.edges), rowI tk 1 22 1 [.slice qk 1 1], rowI qk 1 3 1 (ints [1])] w1) => (show PureT _ _ _ _ _ from by
      have h9 := unionF w1 alwB sk ek tk 1 3 1 [.slice qk 1 1] (show BuAt w1 alwB sk ek tk [.slice qk 1 1] from ⟨(hI.slOf (List.mem_of_getElem? (i := 1) rfl)), (hI.slOf (List.mem_of_getElem? (i := 2) rfl)), (hI.slOf (List.mem_of_getElem? (i := 3) rfl)), (RowsR.nil0 w1).cons (xs := [1]) (hI.slOf (List.mem_of_getElem? (i := 4) rfl))⟩) alwB_B (badB 0 0) none none none 0 0 0 [] (bad_at w1 _ _) (eb_bad _ _) (by decide) (by decide)
      rw [show unE alwB (badB 0 0) = 7 from euD] at h9
      exact h9)
  refine TO.loud rfl (l_call ent40 (CallT.of_pure hk131) rfl ?_)
  clear hk131
  rintro vr O' ⟨N, rfl, sD, eD, tD, sDc, eDc, tDc, qD, rfl, rfl, hqD⟩
  refine TO.sub (O' := ([rowI sD sDc 3 1 (ints (unB alwB (badB 0 0)).start), rowI eD eDc 54 4 (edsC (unB alwB (badB 0 0)).edges), rowI tD tDc 22 1 (vals qD), oI z1 26 [(.int .i64 1), (.int .i64 2), (.slice sk 1 1), (.slice ek 3 3), (.slice tk 1 1)], rowI sk 1 3 1 (ints alwB.start), rowI ek 3 54 4 (edsC alwB.edges), rowI tk 1 22 1 [.slice qk 1 1], rowI qk 1 3 1 (ints [1])] ++ (itms 3 qD))) (by exact Sub.swap3 [rowI sD sDc 3 1 (ints (unB alwB (badB 0 0)).start), rowI eD eDc 54 4 (edsC (unB alwB (badB 0 0)).edges), rowI tD tDc 22 1 (vals qD)] [oI z1 26 [(.int .i64 1), (.int .i64 2), (.slice sk 1 1), (.slice ek 3 3), (.slice tk 1 1)], rowI sk 1 3 1 (ints alwB.start), rowI ek 3 54 4 (edsC alwB.edges), rowI tk 1 22 1 [.slice qk 1 1], rowI qk 1 3 1 (ints [1])] (itms 3 qD)) ?_
  refine TO.quiet (q_move rfl) (TO.quiet (q_extract (vs := _) rfl rfl) (TO.quiet (q_extract (vs := _) rfl rfl) ?_))
  refine TO.loud rfl (l_alloc inf26 rfl (fun z4 => ?_))
  refine TO.loud rfl (l_store_box (v := (.agg #[(.int .i64 (unB alwB (badB 0 0)).vars), (.int .i64 (unB alwB (badB 0 0)).states), (.slice sD ((unB alwB (badB 0 0)).start.length) sDc), (.slice eD ((unB alwB (badB 0 0)).edges.length) eDc), (.slice tD ((unB alwB (badB 0 0)).sets.length) tDc)])) (vs := [(.int .i64 (unB alwB (badB 0 0)).vars), (.int .i64 (unB alwB (badB 0 0)).states), (.slice sD ((unB alwB (badB 0 0)).start.length) sDc), (.slice eD ((unB alwB (badB 0 0)).edges.length) eDc), (.slice tD ((unB alwB (badB 0 0)).sets.length) tDc)]) 0 inf26 rfl rfl rfl rfl rfl rfl (by simp [putL]) ?_)
  refine TO.quiet (q_assign rfl) ?_
  refine TO.sub (O' := [oI z1 26 [(.int .i64 1), (.int .i64 2), (.slice sk 1 1), (.slice ek 3 3), (.slice tk 1 1)], rowI sk 1 3 1 (ints alwB.start), rowI ek 3 54 4 (edsC alwB.edges), rowI tk 1 22 1 [.slice qk 1 1], rowI qk 1 3 1 (ints [1])]) (by exact Sub.d (.d (.d (.d (.k (.k (.k (.k (.k .z))))))))) ?_
  refine TO.nil (T.seq (T.region ?_))
  refine TO.quiet (q_build (cs := [.int .i64 9, (.int .i64 0), (.slice none 0 0), (.slice none 0 0), (.slice none 0 0)]) plan26 inf26 (by kernel_rfl)) (TO.quiet (q_build (cs := [(.int .i64 0), .int .i64 (-1), (.slice none 0 0), (.slice none 0 0), (.slice none 0 0)]) plan26 inf26 (by kernel_rfl)) ?_)
  have hk137 := fun (w1 : World) (hI : Inv w [oI z1 26 [(.int .i64 1), (.int .i64 2), (.slice sk 1 1), (.slice ek 3 3), (.slice tk 1 1)], rowI sk 1 3 1 (ints alwB.start), rowI ek 3 54 4 (edsC alwB.edges), rowI tk 1 22 1 [.slice qk 1 1], rowI qk 1 3 1 (ints [1])] w1) => (show PureT _ _ _ _ _ from by
      have h9 := intersectF w1 (badB 9 0) none none none 0 0 0 [] (bad_at w1 _ _) (eb_bad _ _) (badB 0 (-1)) none none none 0 0 0 [] (bad_at w1 _ _) (eb_bad _ _) (by decide) (by decide)
      rw [eiE] at h9
      exact h9)
  refine TO.loud rfl (l_call ent42 (CallT.of_pure hk137) rfl ?_)
  clear hk137
  rintro vr O' ⟨N, rfl, sE, eE, tE, sEc, eEc, tEc, qE, rfl, rfl, hqE⟩
  refine TO.sub (O' := ([rowI sE sEc 3 1 (ints (inrB (badB 9 0) (badB 0 (-1))).start), rowI eE eEc 54 4 (edsC (inrB (badB 9 0) (badB 0 (-1))).edges), rowI tE tEc 22 1 (vals qE), oI z1 26 [(.int .i64 1), (.int .i64 2), (.slice sk 1 1), (.slice ek 3 3), (.slice tk 1 1)], rowI sk 1 3 1 (ints alwB.start), rowI ek 3 54 4 (edsC alwB.edges), rowI tk 1 22 1 [.slice qk 1 1], rowI qk 1 3 1 (ints [1])] ++ (itms 3 qE))) (by exact Sub.swap3 [rowI sE sEc 3 1 (ints (inrB (badB 9 0) (badB 0 (-1))).start), rowI eE eEc 54 4 (edsC (inrB (badB 9 0) (badB 0 (-1))).edges), rowI tE tEc 22 1 (vals qE)] [oI z1 26 [(.int .i64 1), (.int .i64 2), (.slice sk 1 1), (.slice ek 3 3), (.slice tk 1 1)], rowI sk 1 3 1 (ints alwB.start), rowI ek 3 54 4 (edsC alwB.edges), rowI tk 1 22 1 [.slice qk 1 1], rowI qk 1 3 1 (ints [1])] (itms 3 qE)) ?_
  refine TO.quiet (q_move rfl) (TO.quiet (q_extract (vs := _) rfl rfl) (TO.quiet (q_extract (vs := _) rfl rfl) ?_))
  refine TO.loud rfl (l_alloc inf26 rfl (fun z5 => ?_))
  refine TO.loud rfl (l_store_box (v := (.agg #[(.int .i64 (inrB (badB 9 0) (badB 0 (-1))).vars), (.int .i64 (inrB (badB 9 0) (badB 0 (-1))).states), (.slice sE ((inrB (badB 9 0) (badB 0 (-1))).start.length) sEc), (.slice eE ((inrB (badB 9 0) (badB 0 (-1))).edges.length) eEc), (.slice tE ((inrB (badB 9 0) (badB 0 (-1))).sets.length) tEc)])) (vs := [(.int .i64 (inrB (badB 9 0) (badB 0 (-1))).vars), (.int .i64 (inrB (badB 9 0) (badB 0 (-1))).states), (.slice sE ((inrB (badB 9 0) (badB 0 (-1))).start.length) sEc), (.slice eE ((inrB (badB 9 0) (badB 0 (-1))).edges.length) eEc), (.slice tE ((inrB (badB 9 0) (badB 0 (-1))).sets.length) tEc)]) 0 inf26 rfl rfl rfl rfl rfl rfl (by simp [putL]) ?_)
  refine TO.quiet (q_assign rfl) ?_
  refine TO.sub (O' := [oI z1 26 [(.int .i64 1), (.int .i64 2), (.slice sk 1 1), (.slice ek 3 3), (.slice tk 1 1)], rowI sk 1 3 1 (ints alwB.start), rowI ek 3 54 4 (edsC alwB.edges), rowI tk 1 22 1 [.slice qk 1 1], rowI qk 1 3 1 (ints [1])]) (by exact Sub.d (.d (.d (.d (.k (.k (.k (.k (.k .z))))))))) ?_
  refine TO.nil ?_
  refine T.cut (fun ρ O => O = [oI z1 26 [(.int .i64 1), (.int .i64 2), (.slice sk 1 1), (.slice ek 3 3), (.slice tk 1 1)], rowI sk 1 3 1 (ints alwB.start), rowI ek 3 54 4 (edsC alwB.edges), rowI tk 1 22 1 [.slice qk 1 1], rowI qk 1 3 1 (ints [1])] ∧ Heads [(1, (.pointer (some ⟨z1, 0, none⟩))), (7, .int .i64 ((3 : Nat) : Int)), (9, .int .i64 ((8 : Nat) : Int)), (11, .int .i64 ((1 : Nat) : Int)), (12, (.pointer (some ⟨z4, 0, none⟩))), (13, .int .i64 ((7 : Nat) : Int)), (14, (.pointer (some ⟨z5, 0, none⟩))), (15, .int .i64 ((7 : Nat) : Int)), (17, .int .i64 ((10 : Nat) : Int))] ρ) ?_ ?_
  · refine T.tree [oI z1 26 [(.int .i64 1), (.int .i64 2), (.slice sk 1 1), (.slice ek 3 3), (.slice tk 1 1)], rowI sk 1 3 1 (ints alwB.start), rowI ek 3 54 4 (edsC alwB.edges), rowI tk 1 22 1 [.slice qk 1 1], rowI qk 1 3 1 (ints [1])] 9 mixed rfl (by exact Sub.rf) (fun _ _ _ h => h) ?_
    refine RO.quietT 1 rfl (by kernel_rfl) (q_load_boxAgg 0 Try.underlying26 rfl inf26 rfl rfl rfl) ?_
    have hk141 := fun (w1 : World) (hI : Inv w [oI z1 26 [(.int .i64 1), (.int .i64 2), (.slice sk 1 1), (.slice ek 3 3), (.slice tk 1 1)], rowI sk 1 3 1 (ints alwB.start), rowI ek 3 54 4 (edsC alwB.edges), rowI tk 1 22 1 [.slice qk 1 1], rowI qk 1 3 1 (ints [1])] w1) => badC w1 1 4096
    refine RO.fork [0, 6] (by kernel_rfl) rfl ⟨⟨_, rfl, rfl, l_call ent45 (CallT.of_pure hk141) rfl ?_⟩, ⟨_, rfl, rfl, l_alloc inf26 rfl (fun zz => ⟨by exact Sub.d (.k (.k (.k (.k (.k .z))))), ?_⟩)⟩, trivial⟩
    · clear hk141
      rintro vr O' ⟨N, rfl, rfl, rfl⟩
      refine ⟨by exact Sub.rf, ?_⟩
      have hk143 := fun (w1 : World) (hI : Inv w [oI z1 26 [(.int .i64 1), (.int .i64 2), (.slice sk 1 1), (.slice ek 3 3), (.slice tk 1 1)], rowI sk 1 3 1 (ints alwB.start), rowI ek 3 54 4 (edsC alwB.edges), rowI tk 1 22 1 [.slice qk 1 1], rowI qk 1 3 1 (ints [1])] w1) => (show PureT _ _ _ _ _ from by
          have h9 := unionF w1 (badB 1 4096) none none none 0 0 0 [] (bad_at w1 _ _) (eb_bad _ _) alwB sk ek tk 1 3 1 [.slice qk 1 1] (show BuAt w1 alwB sk ek tk [.slice qk 1 1] from ⟨(hI.slOf (List.mem_of_getElem? (i := 1) rfl)), (hI.slOf (List.mem_of_getElem? (i := 2) rfl)), (hI.slOf (List.mem_of_getElem? (i := 3) rfl)), (RowsR.nil0 w1).cons (xs := [1]) (hI.slOf (List.mem_of_getElem? (i := 4) rfl))⟩) alwB_B (by decide) (by decide)
          rw [euF] at h9
          exact h9)
      refine RO.fork [2, 6] (by kernel_rfl) rfl ⟨⟨_, rfl, rfl, l_call ent40 (CallT.of_pure hk143) rfl ?_⟩, ⟨_, rfl, rfl, l_alloc inf26 rfl (fun zz => ⟨by exact Sub.d (.k (.k (.k (.k (.k .z))))), ?_⟩)⟩, trivial⟩
      · clear hk143
        rintro vr O' ⟨N, rfl, sU, eU, tU, sUc, eUc, tUc, qU, rfl, rfl, hqU⟩
        refine ⟨Sub.cnt ([rowI sU sUc 3 1 (ints (unB (badB 1 4096) alwB).start), rowI eU eUc 54 4 (edsC (unB (badB 1 4096) alwB).edges), rowI tU tUc 22 1 (vals qU)] ++ (itms 3 qU)) (by intro a; simp only [itms, oI, List.set_cons_zero, List.set_cons_succ, putL, List.cons_append, List.nil_append, List.append_nil, List.append_assoc, List.map_append, List.map_cons, List.map_nil, cnt_append, cnt_cons, cnt_nil, buCells, laCells] <;> omega), ?_⟩
        refine RO.sub (O' := ([rowI sU sUc 3 1 (ints (unB (badB 1 4096) alwB).start), rowI eU eUc 54 4 (edsC (unB (badB 1 4096) alwB).edges), rowI tU tUc 22 1 (vals qU), oI z1 26 [(.int .i64 1), (.int .i64 2), (.slice sk 1 1), (.slice ek 3 3), (.slice tk 1 1)], rowI sk 1 3 1 (ints alwB.start), rowI ek 3 54 4 (edsC alwB.edges), rowI tk 1 22 1 [.slice qk 1 1], rowI qk 1 3 1 (ints [1])] ++ (itms 3 qU))) (by exact Sub.swap3 [rowI sU sUc 3 1 (ints (unB (badB 1 4096) alwB).start), rowI eU eUc 54 4 (edsC (unB (badB 1 4096) alwB).edges), rowI tU tUc 22 1 (vals qU)] [oI z1 26 [(.int .i64 1), (.int .i64 2), (.slice sk 1 1), (.slice ek 3 3), (.slice tk 1 1)], rowI sk 1 3 1 (ints alwB.start), rowI ek 3 54 4 (edsC alwB.edges), rowI tk 1 22 1 [.slice qk 1 1], rowI qk 1 3 1 (ints [1])] (itms 3 qU)) ?_
        refine RO.quietT 3 rfl (by kernel_rfl) (q_move rfl) ?_
        refine RO.quietT 4 rfl (by kernel_rfl) (q_extract (vs := _) rfl rfl) ?_
        refine RO.quietT 5 rfl (by kernel_rfl) (q_extract (vs := _) rfl rfl) ?_
        refine RO.fork [6] (by kernel_rfl) rfl ⟨⟨_, rfl, rfl, l_alloc inf26 rfl (fun zz => ⟨by exact Sub.d (.d (.d (.d (.k (.k (.k (.k (.k .z)))))))), ?_⟩)⟩, trivial⟩
        refine RO.fork [7] (by kernel_rfl) rfl ⟨⟨_, rfl, rfl, l_store_box (v := (.agg #[(.int .i64 (unB (badB 1 4096) alwB).vars), (.int .i64 (unB (badB 1 4096) alwB).states), (.slice sU ((unB (badB 1 4096) alwB).start.length) sUc), (.slice eU ((unB (badB 1 4096) alwB).edges.length) eUc), (.slice tU ((unB (badB 1 4096) alwB).sets.length) tUc)])) (vs := [(.int .i64 (unB (badB 1 4096) alwB).vars), (.int .i64 (unB (badB 1 4096) alwB).states), (.slice sU ((unB (badB 1 4096) alwB).start.length) sUc), (.slice eU ((unB (badB 1 4096) alwB).edges.length) eUc), (.slice tU ((unB (badB 1 4096) alwB).sets.length) tUc)]) 0 inf26 rfl rfl rfl rfl rfl rfl (by simp [putL]) ⟨by exact Sub.d (.d (.d (.d (.k (.k (.k (.k (.k .z)))))))), ?_⟩⟩, trivial⟩
        refine RO.quietT 8 rfl (by kernel_rfl) (q_assign rfl) ?_
        exact RO.fin (by kernel_rfl) ⟨rfl, ⟨rfl, rfl, rfl, rfl, rfl, rfl, rfl, rfl, rfl, trivial⟩⟩ (by exact Sub.d (.d (.d (.d (.k (.k (.k (.k (.k .z)))))))))
      have hk143 := fun (w1 : World) (hI : Inv w [oI zz 26 [(.int .i64 0), (.int .i64 0), (.slice none 0 0), (.slice none 0 0), (.slice none 0 0)], oI z1 26 [(.int .i64 1), (.int .i64 2), (.slice sk 1 1), (.slice ek 3 3), (.slice tk 1 1)], rowI sk 1 3 1 (ints alwB.start), rowI ek 3 54 4 (edsC alwB.edges), rowI tk 1 22 1 [.slice qk 1 1], rowI qk 1 3 1 (ints [1])] w1) => (show PureT _ _ _ _ _ from by
          have h9 := unionF w1 (badB 1 4096) none none none 0 0 0 [] (bad_at w1 _ _) (eb_bad _ _) alwB sk ek tk 1 3 1 [.slice qk 1 1] (show BuAt w1 alwB sk ek tk [.slice qk 1 1] from ⟨(hI.slOf (List.mem_of_getElem? (i := 2) rfl)), (hI.slOf (List.mem_of_getElem? (i := 3) rfl)), (hI.slOf (List.mem_of_getElem? (i := 4) rfl)), (RowsR.nil0 w1).cons (xs := [1]) (hI.slOf (List.mem_of_getElem? (i := 5) rfl))⟩) alwB_B (by decide) (by decide)
          rw [euF] at h9
          exact h9)
      refine RO.fork [2] (by kernel_rfl) rfl ⟨⟨_, rfl, rfl, l_call ent40 (CallT.of_pure hk143) rfl ?_⟩, trivial⟩
      clear hk143
      rintro vr O' ⟨N, rfl, sU, eU, tU, sUc, eUc, tUc, qU, rfl, rfl, hqU⟩
      refine ⟨Sub.cnt ([rowI sU sUc 3 1 (ints (unB (badB 1 4096) alwB).start), rowI eU eUc 54 4 (edsC (unB (badB 1 4096) alwB).edges), rowI tU tUc 22 1 (vals qU), oI zz 26 [(.int .i64 0), (.int .i64 0), (.slice none 0 0), (.slice none 0 0), (.slice none 0 0)]] ++ (itms 3 qU)) (by intro a; simp only [itms, oI, List.set_cons_zero, List.set_cons_succ, putL, List.cons_append, List.nil_append, List.append_nil, List.append_assoc, List.map_append, List.map_cons, List.map_nil, cnt_append, cnt_cons, cnt_nil, buCells, laCells] <;> omega), ?_⟩
      refine RO.sub (O' := ([rowI sU sUc 3 1 (ints (unB (badB 1 4096) alwB).start), rowI eU eUc 54 4 (edsC (unB (badB 1 4096) alwB).edges), rowI tU tUc 22 1 (vals qU), oI zz 26 [(.int .i64 0), (.int .i64 0), (.slice none 0 0), (.slice none 0 0), (.slice none 0 0)], oI z1 26 [(.int .i64 1), (.int .i64 2), (.slice sk 1 1), (.slice ek 3 3), (.slice tk 1 1)], rowI sk 1 3 1 (ints alwB.start), rowI ek 3 54 4 (edsC alwB.edges), rowI tk 1 22 1 [.slice qk 1 1], rowI qk 1 3 1 (ints [1])] ++ (itms 3 qU))) (by exact Sub.swap3 [rowI sU sUc 3 1 (ints (unB (badB 1 4096) alwB).start), rowI eU eUc 54 4 (edsC (unB (badB 1 4096) alwB).edges), rowI tU tUc 22 1 (vals qU)] [oI zz 26 [(.int .i64 0), (.int .i64 0), (.slice none 0 0), (.slice none 0 0), (.slice none 0 0)], oI z1 26 [(.int .i64 1), (.int .i64 2), (.slice sk 1 1), (.slice ek 3 3), (.slice tk 1 1)], rowI sk 1 3 1 (ints alwB.start), rowI ek 3 54 4 (edsC alwB.edges), rowI tk 1 22 1 [.slice qk 1 1], rowI qk 1 3 1 (ints [1])] (itms 3 qU)) ?_
      refine RO.quietT 3 rfl (by kernel_rfl) (q_move rfl) ?_
      refine RO.quietT 4 rfl (by kernel_rfl) (q_extract (vs := _) rfl rfl) ?_
      refine RO.quietT 5 rfl (by kernel_rfl) (q_extract (vs := _) rfl rfl) ?_
      refine RO.fork [7] (by kernel_rfl) rfl ⟨⟨_, rfl, rfl, l_store_box (v := (.agg #[(.int .i64 (unB (badB 1 4096) alwB).vars), (.int .i64 (unB (badB 1 4096) alwB).states), (.slice sU ((unB (badB 1 4096) alwB).start.length) sUc), (.slice eU ((unB (badB 1 4096) alwB).edges.length) eUc), (.slice tU ((unB (badB 1 4096) alwB).sets.length) tUc)])) (vs := [(.int .i64 (unB (badB 1 4096) alwB).vars), (.int .i64 (unB (badB 1 4096) alwB).states), (.slice sU ((unB (badB 1 4096) alwB).start.length) sUc), (.slice eU ((unB (badB 1 4096) alwB).edges.length) eUc), (.slice tU ((unB (badB 1 4096) alwB).sets.length) tUc)]) 3 inf26 rfl rfl rfl rfl rfl rfl (by simp [putL]) ⟨by exact Sub.d (.d (.d (.d (.k (.k (.k (.k (.k .z)))))))), ?_⟩⟩, trivial⟩
      refine RO.quietT 8 rfl (by kernel_rfl) (q_assign rfl) ?_
      exact RO.fin (by kernel_rfl) ⟨rfl, ⟨rfl, rfl, rfl, rfl, rfl, rfl, rfl, rfl, rfl, trivial⟩⟩ (by exact Sub.d (.d (.d (.d (.k (.k (.k (.k (.k .z)))))))))
    have hk141 := fun (w1 : World) (hI : Inv w [oI zz 26 [(.int .i64 0), (.int .i64 0), (.slice none 0 0), (.slice none 0 0), (.slice none 0 0)], oI z1 26 [(.int .i64 1), (.int .i64 2), (.slice sk 1 1), (.slice ek 3 3), (.slice tk 1 1)], rowI sk 1 3 1 (ints alwB.start), rowI ek 3 54 4 (edsC alwB.edges), rowI tk 1 22 1 [.slice qk 1 1], rowI qk 1 3 1 (ints [1])] w1) => badC w1 1 4096
    refine RO.fork [0] (by kernel_rfl) rfl ⟨⟨_, rfl, rfl, l_call ent45 (CallT.of_pure hk141) rfl ?_⟩, trivial⟩
    clear hk141
    rintro vr O' ⟨N, rfl, rfl, rfl⟩
    refine ⟨by exact Sub.d (.k (.k (.k (.k (.k .z))))), ?_⟩
    have hk143 := fun (w1 : World) (hI : Inv w [oI zz 26 [(.int .i64 0), (.int .i64 0), (.slice none 0 0), (.slice none 0 0), (.slice none 0 0)], oI z1 26 [(.int .i64 1), (.int .i64 2), (.slice sk 1 1), (.slice ek 3 3), (.slice tk 1 1)], rowI sk 1 3 1 (ints alwB.start), rowI ek 3 54 4 (edsC alwB.edges), rowI tk 1 22 1 [.slice qk 1 1], rowI qk 1 3 1 (ints [1])] w1) => (show PureT _ _ _ _ _ from by
        have h9 := unionF w1 (badB 1 4096) none none none 0 0 0 [] (bad_at w1 _ _) (eb_bad _ _) alwB sk ek tk 1 3 1 [.slice qk 1 1] (show BuAt w1 alwB sk ek tk [.slice qk 1 1] from ⟨(hI.slOf (List.mem_of_getElem? (i := 2) rfl)), (hI.slOf (List.mem_of_getElem? (i := 3) rfl)), (hI.slOf (List.mem_of_getElem? (i := 4) rfl)), (RowsR.nil0 w1).cons (xs := [1]) (hI.slOf (List.mem_of_getElem? (i := 5) rfl))⟩) alwB_B (by decide) (by decide)
        rw [euF] at h9
        exact h9)
    refine RO.fork [2] (by kernel_rfl) rfl ⟨⟨_, rfl, rfl, l_call ent40 (CallT.of_pure hk143) rfl ?_⟩, trivial⟩
    clear hk143
    rintro vr O' ⟨N, rfl, sU, eU, tU, sUc, eUc, tUc, qU, rfl, rfl, hqU⟩
    refine ⟨Sub.cnt ([rowI sU sUc 3 1 (ints (unB (badB 1 4096) alwB).start), rowI eU eUc 54 4 (edsC (unB (badB 1 4096) alwB).edges), rowI tU tUc 22 1 (vals qU), oI zz 26 [(.int .i64 0), (.int .i64 0), (.slice none 0 0), (.slice none 0 0), (.slice none 0 0)]] ++ (itms 3 qU)) (by intro a; simp only [itms, oI, List.set_cons_zero, List.set_cons_succ, putL, List.cons_append, List.nil_append, List.append_nil, List.append_assoc, List.map_append, List.map_cons, List.map_nil, cnt_append, cnt_cons, cnt_nil, buCells, laCells] <;> omega), ?_⟩
    refine RO.sub (O' := ([rowI sU sUc 3 1 (ints (unB (badB 1 4096) alwB).start), rowI eU eUc 54 4 (edsC (unB (badB 1 4096) alwB).edges), rowI tU tUc 22 1 (vals qU), oI zz 26 [(.int .i64 0), (.int .i64 0), (.slice none 0 0), (.slice none 0 0), (.slice none 0 0)], oI z1 26 [(.int .i64 1), (.int .i64 2), (.slice sk 1 1), (.slice ek 3 3), (.slice tk 1 1)], rowI sk 1 3 1 (ints alwB.start), rowI ek 3 54 4 (edsC alwB.edges), rowI tk 1 22 1 [.slice qk 1 1], rowI qk 1 3 1 (ints [1])] ++ (itms 3 qU))) (by exact Sub.swap3 [rowI sU sUc 3 1 (ints (unB (badB 1 4096) alwB).start), rowI eU eUc 54 4 (edsC (unB (badB 1 4096) alwB).edges), rowI tU tUc 22 1 (vals qU)] [oI zz 26 [(.int .i64 0), (.int .i64 0), (.slice none 0 0), (.slice none 0 0), (.slice none 0 0)], oI z1 26 [(.int .i64 1), (.int .i64 2), (.slice sk 1 1), (.slice ek 3 3), (.slice tk 1 1)], rowI sk 1 3 1 (ints alwB.start), rowI ek 3 54 4 (edsC alwB.edges), rowI tk 1 22 1 [.slice qk 1 1], rowI qk 1 3 1 (ints [1])] (itms 3 qU)) ?_
    refine RO.quietT 3 rfl (by kernel_rfl) (q_move rfl) ?_
    refine RO.quietT 4 rfl (by kernel_rfl) (q_extract (vs := _) rfl rfl) ?_
    refine RO.quietT 5 rfl (by kernel_rfl) (q_extract (vs := _) rfl rfl) ?_
    refine RO.fork [7] (by kernel_rfl) rfl ⟨⟨_, rfl, rfl, l_store_box (v := (.agg #[(.int .i64 (unB (badB 1 4096) alwB).vars), (.int .i64 (unB (badB 1 4096) alwB).states), (.slice sU ((unB (badB 1 4096) alwB).start.length) sUc), (.slice eU ((unB (badB 1 4096) alwB).edges.length) eUc), (.slice tU ((unB (badB 1 4096) alwB).sets.length) tUc)])) (vs := [(.int .i64 (unB (badB 1 4096) alwB).vars), (.int .i64 (unB (badB 1 4096) alwB).states), (.slice sU ((unB (badB 1 4096) alwB).start.length) sUc), (.slice eU ((unB (badB 1 4096) alwB).edges.length) eUc), (.slice tU ((unB (badB 1 4096) alwB).sets.length) tUc)]) 3 inf26 rfl rfl rfl rfl rfl rfl (by simp [putL]) ⟨by exact Sub.d (.d (.d (.d (.k (.k (.k (.k (.k .z)))))))), ?_⟩⟩, trivial⟩
    refine RO.quietT 8 rfl (by kernel_rfl) (q_assign rfl) ?_
    exact RO.fin (by kernel_rfl) ⟨rfl, ⟨rfl, rfl, rfl, rfl, rfl, rfl, rfl, rfl, rfl, trivial⟩⟩ (by exact Sub.d (.d (.d (.d (.k (.k (.k (.k (.k .z)))))))))
  rintro ρ O ⟨rfl, hH⟩
  obtain ⟨ρ0, rfl⟩ := hH.elim
  clear hH
  refine T.cut (fun ρ O => O = [oI z1 26 [(.int .i64 1), (.int .i64 2), (.slice sk 1 1), (.slice ek 3 3), (.slice tk 1 1)], rowI sk 1 3 1 (ints alwB.start), rowI ek 3 54 4 (edsC alwB.edges), rowI tk 1 22 1 [.slice qk 1 1], rowI qk 1 3 1 (ints [1])] ∧ Heads [(1, (.pointer (some ⟨z1, 0, none⟩))), (7, .int .i64 ((3 : Nat) : Int)), (9, .int .i64 ((8 : Nat) : Int)), (11, .int .i64 ((1 : Nat) : Int)), (12, (.pointer (some ⟨z4, 0, none⟩))), (13, .int .i64 ((7 : Nat) : Int)), (14, (.pointer (some ⟨z5, 0, none⟩))), (15, .int .i64 ((7 : Nat) : Int)), (17, .int .i64 ((10 : Nat) : Int)), (19, .int .i64 ((10 : Nat) : Int))] ρ) ?_ ?_
  · refine T.tree [oI z1 26 [(.int .i64 1), (.int .i64 2), (.slice sk 1 1), (.slice ek 3 3), (.slice tk 1 1)], rowI sk 1 3 1 (ints alwB.start), rowI ek 3 54 4 (edsC alwB.edges), rowI tk 1 22 1 [.slice qk 1 1], rowI qk 1 3 1 (ints [1])] 9 mixed rfl (by exact Sub.rf) (fun _ _ _ h => h) ?_
    refine RO.quietT 1 rfl (by kernel_rfl) (q_load_boxAgg 0 Try.underlying26 rfl inf26 rfl rfl rfl) ?_
    have hk147 := fun (w1 : World) (hI : Inv w [oI z1 26 [(.int .i64 1), (.int .i64 2), (.slice sk 1 1), (.slice ek 3 3), (.slice tk 1 1)], rowI sk 1 3 1 (ints alwB.start), rowI ek 3 54 4 (edsC alwB.edges), rowI tk 1 22 1 [.slice qk 1 1], rowI qk 1 3 1 (ints [1])] w1) => badC w1 1 4000
    refine RO.fork [0, 6] (by kernel_rfl) rfl ⟨⟨_, rfl, rfl, l_call ent45 (CallT.of_pure hk147) rfl ?_⟩, ⟨_, rfl, rfl, l_alloc inf26 rfl (fun zz => ⟨by exact Sub.d (.k (.k (.k (.k (.k .z))))), ?_⟩)⟩, trivial⟩
    · clear hk147
      rintro vr O' ⟨N, rfl, rfl, rfl⟩
      refine ⟨by exact Sub.rf, ?_⟩
      have hk149 := fun (w1 : World) (hI : Inv w [oI z1 26 [(.int .i64 1), (.int .i64 2), (.slice sk 1 1), (.slice ek 3 3), (.slice tk 1 1)], rowI sk 1 3 1 (ints alwB.start), rowI ek 3 54 4 (edsC alwB.edges), rowI tk 1 22 1 [.slice qk 1 1], rowI qk 1 3 1 (ints [1])] w1) => (show PureT _ _ _ _ _ from by
          have h9 := intersectF w1 (badB 1 4000) none none none 0 0 0 [] (bad_at w1 _ _) (eb_bad _ _) alwB sk ek tk 1 3 1 [.slice qk 1 1] (show BuAt w1 alwB sk ek tk [.slice qk 1 1] from ⟨(hI.slOf (List.mem_of_getElem? (i := 1) rfl)), (hI.slOf (List.mem_of_getElem? (i := 2) rfl)), (hI.slOf (List.mem_of_getElem? (i := 3) rfl)), (RowsR.nil0 w1).cons (xs := [1]) (hI.slOf (List.mem_of_getElem? (i := 4) rfl))⟩) alwB_B (by decide) (by decide)
          rw [eiG] at h9
          exact h9)
      refine RO.fork [2, 6] (by kernel_rfl) rfl ⟨⟨_, rfl, rfl, l_call ent42 (CallT.of_pure hk149) rfl ?_⟩, ⟨_, rfl, rfl, l_alloc inf26 rfl (fun zz => ⟨by exact Sub.d (.k (.k (.k (.k (.k .z))))), ?_⟩)⟩, trivial⟩
      · clear hk149
        rintro vr O' ⟨N, rfl, sG, eG, tG, sGc, eGc, tGc, qG, rfl, rfl, hqG⟩
        refine ⟨Sub.cnt ([rowI sG sGc 3 1 (ints (inrB (badB 1 4000) alwB).start), rowI eG eGc 54 4 (edsC (inrB (badB 1 4000) alwB).edges), rowI tG tGc 22 1 (vals qG)] ++ (itms 3 qG)) (by intro a; simp only [itms, oI, List.set_cons_zero, List.set_cons_succ, putL, List.cons_append, List.nil_append, List.append_nil, List.append_assoc, List.map_append, List.map_cons, List.map_nil, cnt_append, cnt_cons, cnt_nil, buCells, laCells] <;> omega), ?_⟩
        refine RO.sub (O' := ([rowI sG sGc 3 1 (ints (inrB (badB 1 4000) alwB).start), rowI eG eGc 54 4 (edsC (inrB (badB 1 4000) alwB).edges), rowI tG tGc 22 1 (vals qG), oI z1 26 [(.int .i64 1), (.int .i64 2), (.slice sk 1 1), (.slice ek 3 3), (.slice tk 1 1)], rowI sk 1 3 1 (ints alwB.start), rowI ek 3 54 4 (edsC alwB.edges), rowI tk 1 22 1 [.slice qk 1 1], rowI qk 1 3 1 (ints [1])] ++ (itms 3 qG))) (by exact Sub.swap3 [rowI sG sGc 3 1 (ints (inrB (badB 1 4000) alwB).start), rowI eG eGc 54 4 (edsC (inrB (badB 1 4000) alwB).edges), rowI tG tGc 22 1 (vals qG)] [oI z1 26 [(.int .i64 1), (.int .i64 2), (.slice sk 1 1), (.slice ek 3 3), (.slice tk 1 1)], rowI sk 1 3 1 (ints alwB.start), rowI ek 3 54 4 (edsC alwB.edges), rowI tk 1 22 1 [.slice qk 1 1], rowI qk 1 3 1 (ints [1])] (itms 3 qG)) ?_
        refine RO.quietT 3 rfl (by kernel_rfl) (q_move rfl) ?_
        refine RO.quietT 4 rfl (by kernel_rfl) (q_extract (vs := _) rfl rfl) ?_
        refine RO.quietT 5 rfl (by kernel_rfl) (q_extract (vs := _) rfl rfl) ?_
        refine RO.fork [6] (by kernel_rfl) rfl ⟨⟨_, rfl, rfl, l_alloc inf26 rfl (fun zz => ⟨by exact Sub.d (.d (.d (.d (.k (.k (.k (.k (.k .z)))))))), ?_⟩)⟩, trivial⟩
        refine RO.fork [7] (by kernel_rfl) rfl ⟨⟨_, rfl, rfl, l_store_box (v := (.agg #[(.int .i64 (inrB (badB 1 4000) alwB).vars), (.int .i64 (inrB (badB 1 4000) alwB).states), (.slice sG ((inrB (badB 1 4000) alwB).start.length) sGc), (.slice eG ((inrB (badB 1 4000) alwB).edges.length) eGc), (.slice tG ((inrB (badB 1 4000) alwB).sets.length) tGc)])) (vs := [(.int .i64 (inrB (badB 1 4000) alwB).vars), (.int .i64 (inrB (badB 1 4000) alwB).states), (.slice sG ((inrB (badB 1 4000) alwB).start.length) sGc), (.slice eG ((inrB (badB 1 4000) alwB).edges.length) eGc), (.slice tG ((inrB (badB 1 4000) alwB).sets.length) tGc)]) 0 inf26 rfl rfl rfl rfl rfl rfl (by simp [putL]) ⟨by exact Sub.d (.d (.d (.d (.k (.k (.k (.k (.k .z)))))))), ?_⟩⟩, trivial⟩
        refine RO.quietT 8 rfl (by kernel_rfl) (q_assign rfl) ?_
        exact RO.fin (by kernel_rfl) ⟨rfl, ⟨rfl, rfl, rfl, rfl, rfl, rfl, rfl, rfl, rfl, rfl, trivial⟩⟩ (by exact Sub.d (.d (.d (.d (.k (.k (.k (.k (.k .z)))))))))
      have hk149 := fun (w1 : World) (hI : Inv w [oI zz 26 [(.int .i64 0), (.int .i64 0), (.slice none 0 0), (.slice none 0 0), (.slice none 0 0)], oI z1 26 [(.int .i64 1), (.int .i64 2), (.slice sk 1 1), (.slice ek 3 3), (.slice tk 1 1)], rowI sk 1 3 1 (ints alwB.start), rowI ek 3 54 4 (edsC alwB.edges), rowI tk 1 22 1 [.slice qk 1 1], rowI qk 1 3 1 (ints [1])] w1) => (show PureT _ _ _ _ _ from by
          have h9 := intersectF w1 (badB 1 4000) none none none 0 0 0 [] (bad_at w1 _ _) (eb_bad _ _) alwB sk ek tk 1 3 1 [.slice qk 1 1] (show BuAt w1 alwB sk ek tk [.slice qk 1 1] from ⟨(hI.slOf (List.mem_of_getElem? (i := 2) rfl)), (hI.slOf (List.mem_of_getElem? (i := 3) rfl)), (hI.slOf (List.mem_of_getElem? (i := 4) rfl)), (RowsR.nil0 w1).cons (xs := [1]) (hI.slOf (List.mem_of_getElem? (i := 5) rfl))⟩) alwB_B (by decide) (by decide)
          rw [eiG] at h9
          exact h9)
      refine RO.fork [2] (by kernel_rfl) rfl ⟨⟨_, rfl, rfl, l_call ent42 (CallT.of_pure hk149) rfl ?_⟩, trivial⟩
      clear hk149
      rintro vr O' ⟨N, rfl, sG, eG, tG, sGc, eGc, tGc, qG, rfl, rfl, hqG⟩
      refine ⟨Sub.cnt ([rowI sG sGc 3 1 (ints (inrB (badB 1 4000) alwB).start), rowI eG eGc 54 4 (edsC (inrB (badB 1 4000) alwB).edges), rowI tG tGc 22 1 (vals qG), oI zz 26 [(.int .i64 0), (.int .i64 0), (.slice none 0 0), (.slice none 0 0), (.slice none 0 0)]] ++ (itms 3 qG)) (by intro a; simp only [itms, oI, List.set_cons_zero, List.set_cons_succ, putL, List.cons_append, List.nil_append, List.append_nil, List.append_assoc, List.map_append, List.map_cons, List.map_nil, cnt_append, cnt_cons, cnt_nil, buCells, laCells] <;> omega), ?_⟩
      refine RO.sub (O' := ([rowI sG sGc 3 1 (ints (inrB (badB 1 4000) alwB).start), rowI eG eGc 54 4 (edsC (inrB (badB 1 4000) alwB).edges), rowI tG tGc 22 1 (vals qG), oI zz 26 [(.int .i64 0), (.int .i64 0), (.slice none 0 0), (.slice none 0 0), (.slice none 0 0)], oI z1 26 [(.int .i64 1), (.int .i64 2), (.slice sk 1 1), (.slice ek 3 3), (.slice tk 1 1)], rowI sk 1 3 1 (ints alwB.start), rowI ek 3 54 4 (edsC alwB.edges), rowI tk 1 22 1 [.slice qk 1 1], rowI qk 1 3 1 (ints [1])] ++ (itms 3 qG))) (by exact Sub.swap3 [rowI sG sGc 3 1 (ints (inrB (badB 1 4000) alwB).start), rowI eG eGc 54 4 (edsC (inrB (badB 1 4000) alwB).edges), rowI tG tGc 22 1 (vals qG)] [oI zz 26 [(.int .i64 0), (.int .i64 0), (.slice none 0 0), (.slice none 0 0), (.slice none 0 0)], oI z1 26 [(.int .i64 1), (.int .i64 2), (.slice sk 1 1), (.slice ek 3 3), (.slice tk 1 1)], rowI sk 1 3 1 (ints alwB.start), rowI ek 3 54 4 (edsC alwB.edges), rowI tk 1 22 1 [.slice qk 1 1], rowI qk 1 3 1 (ints [1])] (itms 3 qG)) ?_
      refine RO.quietT 3 rfl (by kernel_rfl) (q_move rfl) ?_
      refine RO.quietT 4 rfl (by kernel_rfl) (q_extract (vs := _) rfl rfl) ?_
      refine RO.quietT 5 rfl (by kernel_rfl) (q_extract (vs := _) rfl rfl) ?_
      refine RO.fork [7] (by kernel_rfl) rfl ⟨⟨_, rfl, rfl, l_store_box (v := (.agg #[(.int .i64 (inrB (badB 1 4000) alwB).vars), (.int .i64 (inrB (badB 1 4000) alwB).states), (.slice sG ((inrB (badB 1 4000) alwB).start.length) sGc), (.slice eG ((inrB (badB 1 4000) alwB).edges.length) eGc), (.slice tG ((inrB (badB 1 4000) alwB).sets.length) tGc)])) (vs := [(.int .i64 (inrB (badB 1 4000) alwB).vars), (.int .i64 (inrB (badB 1 4000) alwB).states), (.slice sG ((inrB (badB 1 4000) alwB).start.length) sGc), (.slice eG ((inrB (badB 1 4000) alwB).edges.length) eGc), (.slice tG ((inrB (badB 1 4000) alwB).sets.length) tGc)]) 3 inf26 rfl rfl rfl rfl rfl rfl (by simp [putL]) ⟨by exact Sub.d (.d (.d (.d (.k (.k (.k (.k (.k .z)))))))), ?_⟩⟩, trivial⟩
      refine RO.quietT 8 rfl (by kernel_rfl) (q_assign rfl) ?_
      exact RO.fin (by kernel_rfl) ⟨rfl, ⟨rfl, rfl, rfl, rfl, rfl, rfl, rfl, rfl, rfl, rfl, trivial⟩⟩ (by exact Sub.d (.d (.d (.d (.k (.k (.k (.k (.k .z)))))))))
    have hk147 := fun (w1 : World) (hI : Inv w [oI zz 26 [(.int .i64 0), (.int .i64 0), (.slice none 0 0), (.slice none 0 0), (.slice none 0 0)], oI z1 26 [(.int .i64 1), (.int .i64 2), (.slice sk 1 1), (.slice ek 3 3), (.slice tk 1 1)], rowI sk 1 3 1 (ints alwB.start), rowI ek 3 54 4 (edsC alwB.edges), rowI tk 1 22 1 [.slice qk 1 1], rowI qk 1 3 1 (ints [1])] w1) => badC w1 1 4000
    refine RO.fork [0] (by kernel_rfl) rfl ⟨⟨_, rfl, rfl, l_call ent45 (CallT.of_pure hk147) rfl ?_⟩, trivial⟩
    clear hk147
    rintro vr O' ⟨N, rfl, rfl, rfl⟩
    refine ⟨by exact Sub.d (.k (.k (.k (.k (.k .z))))), ?_⟩
    have hk149 := fun (w1 : World) (hI : Inv w [oI zz 26 [(.int .i64 0), (.int .i64 0), (.slice none 0 0), (.slice none 0 0), (.slice none 0 0)], oI z1 26 [(.int .i64 1), (.int .i64 2), (.slice sk 1 1), (.slice ek 3 3), (.slice tk 1 1)], rowI sk 1 3 1 (ints alwB.start), rowI ek 3 54 4 (edsC alwB.edges), rowI tk 1 22 1 [.slice qk 1 1], rowI qk 1 3 1 (ints [1])] w1) => (show PureT _ _ _ _ _ from by
        have h9 := intersectF w1 (badB 1 4000) none none none 0 0 0 [] (bad_at w1 _ _) (eb_bad _ _) alwB sk ek tk 1 3 1 [.slice qk 1 1] (show BuAt w1 alwB sk ek tk [.slice qk 1 1] from ⟨(hI.slOf (List.mem_of_getElem? (i := 2) rfl)), (hI.slOf (List.mem_of_getElem? (i := 3) rfl)), (hI.slOf (List.mem_of_getElem? (i := 4) rfl)), (RowsR.nil0 w1).cons (xs := [1]) (hI.slOf (List.mem_of_getElem? (i := 5) rfl))⟩) alwB_B (by decide) (by decide)
        rw [eiG] at h9
        exact h9)
    refine RO.fork [2] (by kernel_rfl) rfl ⟨⟨_, rfl, rfl, l_call ent42 (CallT.of_pure hk149) rfl ?_⟩, trivial⟩
    clear hk149
    rintro vr O' ⟨N, rfl, sG, eG, tG, sGc, eGc, tGc, qG, rfl, rfl, hqG⟩
    refine ⟨Sub.cnt ([rowI sG sGc 3 1 (ints (inrB (badB 1 4000) alwB).start), rowI eG eGc 54 4 (edsC (inrB (badB 1 4000) alwB).edges), rowI tG tGc 22 1 (vals qG), oI zz 26 [(.int .i64 0), (.int .i64 0), (.slice none 0 0), (.slice none 0 0), (.slice none 0 0)]] ++ (itms 3 qG)) (by intro a; simp only [itms, oI, List.set_cons_zero, List.set_cons_succ, putL, List.cons_append, List.nil_append, List.append_nil, List.append_assoc, List.map_append, List.map_cons, List.map_nil, cnt_append, cnt_cons, cnt_nil, buCells, laCells] <;> omega), ?_⟩
    refine RO.sub (O' := ([rowI sG sGc 3 1 (ints (inrB (badB 1 4000) alwB).start), rowI eG eGc 54 4 (edsC (inrB (badB 1 4000) alwB).edges), rowI tG tGc 22 1 (vals qG), oI zz 26 [(.int .i64 0), (.int .i64 0), (.slice none 0 0), (.slice none 0 0), (.slice none 0 0)], oI z1 26 [(.int .i64 1), (.int .i64 2), (.slice sk 1 1), (.slice ek 3 3), (.slice tk 1 1)], rowI sk 1 3 1 (ints alwB.start), rowI ek 3 54 4 (edsC alwB.edges), rowI tk 1 22 1 [.slice qk 1 1], rowI qk 1 3 1 (ints [1])] ++ (itms 3 qG))) (by exact Sub.swap3 [rowI sG sGc 3 1 (ints (inrB (badB 1 4000) alwB).start), rowI eG eGc 54 4 (edsC (inrB (badB 1 4000) alwB).edges), rowI tG tGc 22 1 (vals qG)] [oI zz 26 [(.int .i64 0), (.int .i64 0), (.slice none 0 0), (.slice none 0 0), (.slice none 0 0)], oI z1 26 [(.int .i64 1), (.int .i64 2), (.slice sk 1 1), (.slice ek 3 3), (.slice tk 1 1)], rowI sk 1 3 1 (ints alwB.start), rowI ek 3 54 4 (edsC alwB.edges), rowI tk 1 22 1 [.slice qk 1 1], rowI qk 1 3 1 (ints [1])] (itms 3 qG)) ?_
    refine RO.quietT 3 rfl (by kernel_rfl) (q_move rfl) ?_
    refine RO.quietT 4 rfl (by kernel_rfl) (q_extract (vs := _) rfl rfl) ?_
    refine RO.quietT 5 rfl (by kernel_rfl) (q_extract (vs := _) rfl rfl) ?_
    refine RO.fork [7] (by kernel_rfl) rfl ⟨⟨_, rfl, rfl, l_store_box (v := (.agg #[(.int .i64 (inrB (badB 1 4000) alwB).vars), (.int .i64 (inrB (badB 1 4000) alwB).states), (.slice sG ((inrB (badB 1 4000) alwB).start.length) sGc), (.slice eG ((inrB (badB 1 4000) alwB).edges.length) eGc), (.slice tG ((inrB (badB 1 4000) alwB).sets.length) tGc)])) (vs := [(.int .i64 (inrB (badB 1 4000) alwB).vars), (.int .i64 (inrB (badB 1 4000) alwB).states), (.slice sG ((inrB (badB 1 4000) alwB).start.length) sGc), (.slice eG ((inrB (badB 1 4000) alwB).edges.length) eGc), (.slice tG ((inrB (badB 1 4000) alwB).sets.length) tGc)]) 3 inf26 rfl rfl rfl rfl rfl rfl (by simp [putL]) ⟨by exact Sub.d (.d (.d (.d (.k (.k (.k (.k (.k .z)))))))), ?_⟩⟩, trivial⟩
    refine RO.quietT 8 rfl (by kernel_rfl) (q_assign rfl) ?_
    exact RO.fin (by kernel_rfl) ⟨rfl, ⟨rfl, rfl, rfl, rfl, rfl, rfl, rfl, rfl, rfl, rfl, trivial⟩⟩ (by exact Sub.d (.d (.d (.d (.k (.k (.k (.k (.k .z)))))))))
  rintro ρ O ⟨rfl, hH⟩
  obtain ⟨ρ0, rfl⟩ := hH.elim
  clear hH
  refine T.seq (T.region ?_)
  have hk153 := fun (w1 : World) (hI : Inv w [oI z1 26 [(.int .i64 1), (.int .i64 2), (.slice sk 1 1), (.slice ek 3 3), (.slice tk 1 1)], rowI sk 1 3 1 (ints alwB.start), rowI ek 3 54 4 (edsC alwB.edges), rowI tk 1 22 1 [.slice qk 1 1], rowI qk 1 3 1 (ints [1])] w1) => badC w1 1 3
  refine TO.loud rfl (l_call ent45 (CallT.of_pure hk153) rfl ?_)
  clear hk153
  rintro vr O' ⟨N, rfl, rfl, rfl⟩
  have hk154 := fun (w1 : World) (hI : Inv w [oI z1 26 [(.int .i64 1), (.int .i64 2), (.slice sk 1 1), (.slice ek 3 3), (.slice tk 1 1)], rowI sk 1 3 1 (ints alwB.start), rowI ek 3 54 4 (edsC alwB.edges), rowI tk 1 22 1 [.slice qk 1 1], rowI qk 1 3 1 (ints [1])] w1) => (show PureT _ _ _ _ _ from by
      have h9 := degenF w1 (badB 1 3) none none none 0 0 0 [] (bad_at w1 _ _) (eb_bad _ _)
      rw [edH.1] at h9
      exact h9)
  refine TO.loud rfl (l_call ent37 (CallT.of_pure hk154) rfl ?_)
  clear hk154
  rintro vr O' ⟨N, rfl, sH, eH, tH, sHc, eHc, tHc, qH, rfl, rfl, hqH⟩
  obtain ⟨rH, rfl, hrH⟩ := oneRec (hqH.trans edH.2)
  refine TO.quiet (q_move rfl) (TO.quiet (q_extract (vs := _) rfl rfl) (TO.quiet (q_extract (vs := _) rfl rfl) ?_))
  refine TO.loud rfl (l_alloc inf26 rfl (fun z6 => ?_))
  refine TO.loud rfl (l_store_box (v := (.agg #[(.int .i64 (dgB (badB 1 3)).vars), (.int .i64 (dgB (badB 1 3)).states), (.slice sH ((dgB (badB 1 3)).start.length) sHc), (.slice eH ((dgB (badB 1 3)).edges.length) eHc), (.slice tH ((dgB (badB 1 3)).sets.length) tHc)])) (vs := [(.int .i64 (dgB (badB 1 3)).vars), (.int .i64 (dgB (badB 1 3)).states), (.slice sH ((dgB (badB 1 3)).start.length) sHc), (.slice eH ((dgB (badB 1 3)).edges.length) eHc), (.slice tH ((dgB (badB 1 3)).sets.length) tHc)]) 0 inf26 rfl rfl rfl rfl rfl rfl (by simp [putL]) ?_)
  refine TO.quiet (q_assign rfl) ?_
  refine TO.sub (O' := [oI z6 26 [(.int .i64 (dgB (badB 1 3)).vars), (.int .i64 (dgB (badB 1 3)).states), (.slice sH ((dgB (badB 1 3)).start.length) sHc), (.slice eH ((dgB (badB 1 3)).edges.length) eHc), (.slice tH ((dgB (badB 1 3)).sets.length) tHc)], rowI tH tHc 22 1 (vals [rH]), rowI rH.b rH.c 3 1 (ints rH.xs), oI z1 26 [(.int .i64 1), (.int .i64 2), (.slice sk 1 1), (.slice ek 3 3), (.slice tk 1 1)], rowI sk 1 3 1 (ints alwB.start), rowI ek 3 54 4 (edsC alwB.edges), rowI tk 1 22 1 [.slice qk 1 1], rowI qk 1 3 1 (ints [1])]) (by exact Sub.k (.d (.d (.k (.k (.k (.k (.k (.k (.k .z)))))))))) ?_
  refine TO.nil (T.seq (T.region ?_))
  have hk157 := fun (w1 : World) (hI : Inv w [oI z6 26 [(.int .i64 (dgB (badB 1 3)).vars), (.int .i64 (dgB (badB 1 3)).states), (.slice sH ((dgB (badB 1 3)).start.length) sHc), (.slice eH ((dgB (badB 1 3)).edges.length) eHc), (.slice tH ((dgB (badB 1 3)).sets.length) tHc)], rowI tH tHc 22 1 (vals [rH]), rowI rH.b rH.c 3 1 (ints rH.xs), oI z1 26 [(.int .i64 1), (.int .i64 2), (.slice sk 1 1), (.slice ek 3 3), (.slice tk 1 1)], rowI sk 1 3 1 (ints alwB.start), rowI ek 3 54 4 (edsC alwB.edges), rowI tk 1 22 1 [.slice qk 1 1], rowI qk 1 3 1 (ints [1])] w1) => alwaysF w1
  refine TO.loud rfl (l_call ent44 (CallT.of_pure hk157) rfl ?_)
  clear hk157
  rintro vr O' ⟨N, rfl, sj, ej, tj, qj, rfl, rfl⟩
  refine TO.loud rfl (l_alloc inf26 rfl (fun z7 => ?_))
  refine TO.loud rfl (l_store_box (v := (.agg #[(.int .i64 1), (.int .i64 2), (.slice sj 1 1), (.slice ej 3 3), (.slice tj 1 1)])) (vs := [(.int .i64 1), (.int .i64 2), (.slice sj 1 1), (.slice ej 3 3), (.slice tj 1 1)]) 0 inf26 rfl rfl rfl rfl rfl rfl (by simp [putL]) ?_)
  refine TO.sub (O' := [oI z7 26 [(.int .i64 1), (.int .i64 2), (.slice sj 1 1), (.slice ej 3 3), (.slice tj 1 1)], rowI sj 1 3 1 (ints alwB.start), rowI ej 3 54 4 (edsC alwB.edges), rowI tj 1 22 1 [.slice qj 1 1], rowI qj 1 3 1 (ints [1]), oI z6 26 [(.int .i64 (dgB (badB 1 3)).vars), (.int .i64 (dgB (badB 1 3)).states), (.slice sH ((dgB (badB 1 3)).start.length) sHc), (.slice eH ((dgB (badB 1 3)).edges.length) eHc), (.slice tH ((dgB (badB 1 3)).sets.length) tHc)], rowI tH tHc 22 1 (vals [rH]), rowI rH.b rH.c 3 1 (ints rH.xs), oI z1 26 [(.int .i64 1), (.int .i64 2), (.slice sk 1 1), (.slice ek 3 3), (.slice tk 1 1)], rowI sk 1 3 1 (ints alwB.start), rowI ek 3 54 4 (edsC alwB.edges), rowI tk 1 22 1 [.slice qk 1 1], rowI qk 1 3 1 (ints [1])]) (by exact Sub.rf) ?_
  refine TO.nil (T.seq (T.region ?_))
  refine TO.loud rfl (l_build1 (v := .int .i64 0) Try.underlying22 inf3 rfl rfl rfl (fun z8 => ?_))
  refine TO.loud rfl (l_build1 (v := .int .i64 1) Try.underlying22 inf3 rfl rfl rfl (fun z9 => ?_))
  refine TO.loud rfl (l_buildSlice (m := 2) (parts := [(0, .const (.int .i64 0)), (1, .const (.int .i64 1))]) (cs := [.int .i64 0, .int .i64 1]) Try.underlying22 inf3 (by decide) (by kernel_rfl) rfl (fun z10 => ?_))
  refine TO.loud rfl (l_buildSlice (m := 3) (parts := [(0, .tmp 158), (1, .tmp 159), (2, .tmp 160)]) (cs := [(.slice (some ⟨z8, 0, none⟩) 1 1), (.slice (some ⟨z9, 0, none⟩) 1 1), (.slice (some ⟨z10, 0, none⟩) 2 2)]) Try.underlying24 inf22 (by decide) (by kernel_rfl) rfl (fun z11 => ?_))
  refine TO.quiet (q_fieldAddr Try.underlying26 rfl inf24 rfl rfl) ?_
  refine TO.loud rfl (l_store_box (v := (.slice (some ⟨z11, 0, none⟩) 3 3)) (vs := [(.slice (some ⟨z11, 0, none⟩) 3 3)]) 4 inf24 rfl rfl rfl rfl rfl rfl (by simp [putL]) ?_)
  refine TO.nil (T.seq (T.region ?_))
  refine TO.quiet (q_load_boxAgg 4 Try.underlying26 rfl inf26 rfl rfl rfl) ?_
  have hk165 := fun (w1 : World) (hI : Inv w [rowI (some ⟨z11, 0, none⟩) 3 22 1 [(.slice (some ⟨z8, 0, none⟩) 1 1), (.slice (some ⟨z9, 0, none⟩) 1 1), (.slice (some ⟨z10, 0, none⟩) 2 2)], rowI (some ⟨z10, 0, none⟩) 2 3 1 [.int .i64 0, .int .i64 1], rowI (some ⟨z9, 0, none⟩) 1 3 1 [.int .i64 1], rowI (some ⟨z8, 0, none⟩) 1 3 1 [.int .i64 0], oI z7 26 [(.int .i64 1), (.int .i64 2), (.slice sj 1 1), (.slice ej 3 3), (.slice (some ⟨z11, 0, none⟩) 3 3)], rowI sj 1 3 1 (ints alwB.start), rowI ej 3 54 4 (edsC alwB.edges), rowI tj 1 22 1 [.slice qj 1 1], rowI qj 1 3 1 (ints [1]), oI z6 26 [(.int .i64 (dgB (badB 1 3)).vars), (.int .i64 (dgB (badB 1 3)).states), (.slice sH ((dgB (badB 1 3)).start.length) sHc), (.slice eH ((dgB (badB 1 3)).edges.length) eHc), (.slice tH ((dgB (badB 1 3)).sets.length) tHc)], rowI tH tHc 22 1 (vals [rH]), rowI rH.b rH.c 3 1 (ints rH.xs), oI z1 26 [(.int .i64 1), (.int .i64 2), (.slice sk 1 1), (.slice ek 3 3), (.slice tk 1 1)], rowI sk 1 3 1 (ints alwB.start), rowI ek 3 54 4 (edsC alwB.edges), rowI tk 1 22 1 [.slice qk 1 1], rowI qk 1 3 1 (ints [1])] w1) => (show PureT _ _ _ _ _ from by
      have h9 := degenF w1 thrB sj ej (some ⟨z11, 0, none⟩) 1 3 3 [(.slice (some ⟨z8, 0, none⟩) 1 1), (.slice (some ⟨z9, 0, none⟩) 1 1), (.slice (some ⟨z10, 0, none⟩) 2 2)] (show BuAt w1 thrB sj ej (some ⟨z11, 0, none⟩) [(.slice (some ⟨z8, 0, none⟩) 1 1), (.slice (some ⟨z9, 0, none⟩) 1 1), (.slice (some ⟨z10, 0, none⟩) 2 2)] from ⟨(hI.slOf (List.mem_of_getElem? (i := 5) rfl)), (hI.slOf (List.mem_of_getElem? (i := 6) rfl)), (hI.slOf (List.mem_of_getElem? (i := 0) rfl)), ((((RowsR.nil0 w1).cons (xs := [0, 1]) (hI.slOf (cs := ints [0, 1]) (List.mem_of_getElem? (i := 1) rfl))).cons (xs := [1]) (hI.slOf (cs := ints [1]) (List.mem_of_getElem? (i := 2) rfl))).cons (xs := [0]) (hI.slOf (cs := ints [0]) (List.mem_of_getElem? (i := 3) rfl)))⟩) ebT
      rw [edT.1] at h9
      exact h9)
  refine TO.loud rfl (l_call ent37 (CallT.of_pure hk165) rfl ?_)
  clear hk165
  rintro vr O' ⟨N, rfl, sT, eT, tT, sTc, eTc, tTc, qT, rfl, rfl, hqT⟩
  obtain ⟨rT, rfl, hrT⟩ := oneRec (hqT.trans edT.2.2.2)
  refine TO.quiet (q_move rfl) (TO.quiet (q_extract (vs := _) rfl rfl) (TO.quiet (q_extract (vs := _) rfl rfl) ?_))
  refine TO.loud rfl (l_alloc inf26 rfl (fun z12 => ?_))
  refine TO.loud rfl (l_store_box (v := (.agg #[(.int .i64 (dgB thrB).vars), (.int .i64 (dgB thrB).states), (.slice sT ((dgB thrB).start.length) sTc), (.slice eT ((dgB thrB).edges.length) eTc), (.slice tT ((dgB thrB).sets.length) tTc)])) (vs := [(.int .i64 (dgB thrB).vars), (.int .i64 (dgB thrB).states), (.slice sT ((dgB thrB).start.length) sTc), (.slice eT ((dgB thrB).edges.length) eTc), (.slice tT ((dgB thrB).sets.length) tTc)]) 0 inf26 rfl rfl rfl rfl rfl rfl (by simp [putL]) ?_)
  refine TO.quiet (q_assign rfl) ?_
  refine TO.sub (O' := [oI z12 26 [(.int .i64 (dgB thrB).vars), (.int .i64 (dgB thrB).states), (.slice sT ((dgB thrB).start.length) sTc), (.slice eT ((dgB thrB).edges.length) eTc), (.slice tT ((dgB thrB).sets.length) tTc)], rowI eT eTc 54 4 (edsC (dgB thrB).edges), rowI tT tTc 22 1 (vals [rT]), rowI rT.b rT.c 3 1 (ints rT.xs), oI z7 26 [(.int .i64 1), (.int .i64 2), (.slice sj 1 1), (.slice ej 3 3), (.slice (some ⟨z11, 0, none⟩) 3 3)], oI z6 26 [(.int .i64 (dgB (badB 1 3)).vars), (.int .i64 (dgB (badB 1 3)).states), (.slice sH ((dgB (badB 1 3)).start.length) sHc), (.slice eH ((dgB (badB 1 3)).edges.length) eHc), (.slice tH ((dgB (badB 1 3)).sets.length) tHc)], rowI tH tHc 22 1 (vals [rH]), rowI rH.b rH.c 3 1 (ints rH.xs), oI z1 26 [(.int .i64 1), (.int .i64 2), (.slice sk 1 1), (.slice ek 3 3), (.slice tk 1 1)], rowI sk 1 3 1 (ints alwB.start), rowI ek 3 54 4 (edsC alwB.edges), rowI tk 1 22 1 [.slice qk 1 1], rowI qk 1 3 1 (ints [1])]) (by exact Sub.k (.d (.k (.k (.k (.d (.d (.d (.d (.k (.d (.d (.d (.d (.k (.k (.k (.k (.k (.k (.k (.k .z)))))))))))))))))))))) ?_
  refine TO.nil (T.seq ?_)
  refine T.sub (O' := [oI z12 26 [(.int .i64 (dgB thrB).vars), (.int .i64 (dgB thrB).states), (.slice sT ((dgB thrB).start.length) sTc), (.slice eT ((dgB thrB).edges.length) eTc), (.slice tT ((dgB thrB).sets.length) tTc)], rowI eT eTc 54 4 (edsC dgEs), rowI tT tTc 22 1 (vals [rT]), rowI rT.b rT.c 3 1 (ints rT.xs), oI z7 26 [(.int .i64 1), (.int .i64 2), (.slice sj 1 1), (.slice ej 3 3), (.slice (some ⟨z11, 0, none⟩) 3 3)], oI z6 26 [(.int .i64 (dgB (badB 1 3)).vars), (.int .i64 (dgB (badB 1 3)).states), (.slice sH ((dgB (badB 1 3)).start.length) sHc), (.slice eH ((dgB (badB 1 3)).edges.length) eHc), (.slice tH ((dgB (badB 1 3)).sets.length) tHc)], rowI tH tHc 22 1 (vals [rH]), rowI rH.b rH.c 3 1 (ints rH.xs), oI z1 26 [(.int .i64 1), (.int .i64 2), (.slice sk 1 1), (.slice ek 3 3), (.slice tk 1 1)], rowI sk 1 3 1 (ints alwB.start), rowI ek 3 54 4 (edsC alwB.edges), rowI tk 1 22 1 [.slice qk 1 1], rowI qk 1 3 1 (ints [1])]) (by rw [dgEs_eq]; exact Sub.rf) ?_
  refine T.region ?_
  refine TO.quiet (q_move rfl) (TO.quiet (QT.toB (q_eql rfl rfl) (decide_eq_true (by first | rfl | decide | (rw [edH.2]; rfl) | (rw [dgEs_eq]; rfl) | (rw [edT.2.2.2]; rfl) | (rw [edT.2.1]; first | done | rfl)))) (TO.quiet (q_move rfl) ?_))
  refine TO.guarded rfl rfl rfl (LT.of_quiet rfl rfl (q_move rfl) ?_)
  refine TO.guarded rfl rfl rfl (LT.of_quiet rfl rfl (QT.toB (q_eql rfl rfl) (decide_eq_true (by first | rfl | decide | (rw [edH.2]; rfl) | (rw [dgEs_eq]; rfl) | (rw [edT.2.2.2]; rfl) | (rw [edT.2.1]; first | done | rfl)))) ?_)
  refine TO.quiet (q_pick1 rfl rfl) (TO.quiet (q_move rfl) ?_)
  refine TO.guarded rfl rfl rfl (LT.of_quiet rfl rfl (q_move rfl) ?_)
  refine TO.guarded rfl rfl rfl (LT.of_quiet rfl rfl (QT.toB (q_eql rfl rfl) (decide_eq_true (by first | rfl | decide | (rw [edH.2]; rfl) | (rw [dgEs_eq]; rfl) | (rw [edT.2.2.2]; rfl) | (rw [edT.2.1]; first | done | rfl)))) ?_)
  refine TO.quiet (q_pick1 rfl rfl) (TO.quiet (q_move rfl) ?_)
  refine TO.guarded rfl rfl rfl (LT.of_quiet rfl rfl (q_move rfl) ?_)
  refine TO.guarded rfl rfl rfl (LT.of_quiet rfl rfl (QT.toB (q_eql rfl rfl) (decide_eq_true (by first | rfl | decide | (rw [edH.2]; rfl) | (rw [dgEs_eq]; rfl) | (rw [edT.2.2.2]; rfl) | (rw [edT.2.1]; first | done | rfl)))) ?_)
  refine TO.quiet (q_pick1 rfl rfl) (TO.quiet (q_move rfl) ?_)
  refine TO.guarded rfl rfl rfl (LT.of_quiet rfl rfl (q_move rfl) ?_)
  refine TO.guarded rfl rfl rfl (LT.of_quiet rfl rfl (QT.toB (q_eql rfl rfl) (decide_eq_true (by first | rfl | decide | (rw [edH.2]; rfl) | (rw [dgEs_eq]; rfl) | (rw [edT.2.2.2]; rfl) | (rw [edT.2.1]; first | done | rfl)))) ?_)
  refine TO.quiet (q_pick1 rfl rfl) (TO.quiet (q_move rfl) ?_)
  refine TO.guarded rfl rfl rfl (LT.of_quiet rfl rfl (q_move rfl) ?_)
  refine TO.guarded rfl rfl rfl (LT.of_quiet rfl rfl (QT.toB (q_eql rfl rfl) (decide_eq_true (by first | rfl | decide | (rw [edH.2]; rfl) | (rw [dgEs_eq]; rfl) | (rw [edT.2.2.2]; rfl) | (rw [edT.2.1]; first | done | rfl)))) ?_)
  refine TO.quiet (q_pick1 rfl rfl) (TO.quiet (q_move rfl) ?_)
  refine TO.guarded rfl rfl rfl (LT.of_quiet rfl rfl (q_move rfl) ?_)
  refine TO.guarded rfl rfl rfl (LT.of_quiet rfl rfl (QT.toB (q_eql rfl rfl) (decide_eq_true (by first | rfl | decide | (rw [edH.2]; rfl) | (rw [dgEs_eq]; rfl) | (rw [edT.2.2.2]; rfl) | (rw [edT.2.1]; first | done | rfl)))) ?_)
  refine TO.quiet (q_pick1 rfl rfl) (TO.quiet (q_move rfl) ?_)
  refine TO.guarded rfl rfl rfl (LT.of_quiet rfl rfl (q_move rfl) ?_)
  refine TO.guarded rfl rfl rfl (LT.of_quiet rfl rfl (QT.toB (q_eql rfl rfl) (decide_eq_true (by first | rfl | decide | (rw [edH.2]; rfl) | (rw [dgEs_eq]; rfl) | (rw [edT.2.2.2]; rfl) | (rw [edT.2.1]; first | done | rfl)))) ?_)
  refine TO.quiet (q_pick1 rfl rfl) (TO.quiet (q_move rfl) ?_)
  refine TO.guarded rfl rfl rfl (LT.of_quiet rfl rfl (q_fieldAddr Try.underlying26 rfl inf24 rfl rfl) ?_)
  refine TO.guarded rfl rfl rfl (LT.of_quiet rfl rfl (q_load_box 5 Try.underlying24 rfl rfl rfl rfl) ?_)
  refine TO.guarded rfl rfl rfl (LT.of_quiet rfl rfl (q_len Try.underlying24 rfl) ?_)
  refine TO.guarded rfl rfl rfl (LT.of_quiet rfl rfl (QT.toB (q_eql rfl rfl) (decide_eq_true (by first | rfl | decide | (rw [edH.2]; rfl) | (rw [dgEs_eq]; rfl) | (rw [edT.2.2.2]; rfl) | (rw [edT.2.1]; first | done | rfl)))) ?_)
  refine TO.quiet (q_pick1 rfl rfl) (TO.quiet (q_move rfl) ?_)
  refine TO.guarded rfl rfl rfl (LT.of_quiet rfl rfl (q_fieldAddr Try.underlying26 rfl inf24 rfl rfl) ?_)
  refine TO.guarded rfl rfl rfl (LT.of_quiet rfl rfl (q_load_box 5 Try.underlying24 rfl rfl rfl rfl) ?_)
  refine TO.guarded rfl rfl rfl (LT.of_quiet rfl rfl (q_ix (i := 0) Try.underlying24 inf22 rfl rfl (rowO (List.mem_of_getElem? (i := 6) rfl)) (by rw [edH.2]; decide) (by simp)) ?_)
  refine TO.guarded rfl rfl rfl (LT.of_quiet rfl rfl (q_ld Try.underlying22 rfl rfl (rowO (List.mem_of_getElem? (i := 6) rfl)) rfl) ?_)
  refine TO.guarded rfl rfl rfl (l_buildSlice (m := 3) (parts := [(0, .const (.int .i64 0)), (1, .const (.int .i64 1)), (2, .const (.int .i64 2))]) (cs := [.int .i64 0, .int .i64 1, .int .i64 2]) Try.underlying22 inf3 (by decide) (by kernel_rfl) rfl (fun z13 => ?_))
  have hk210 := fun (w1 : World) (hI : Inv w [rowI (some ⟨z13, 0, none⟩) 3 3 1 [.int .i64 0, .int .i64 1, .int .i64 2], oI z12 26 [(.int .i64 (dgB thrB).vars), (.int .i64 (dgB thrB).states), (.slice sT ((dgB thrB).start.length) sTc), (.slice eT ((dgB thrB).edges.length) eTc), (.slice tT ((dgB thrB).sets.length) tTc)], rowI eT eTc 54 4 (edsC dgEs), rowI tT tTc 22 1 (vals [rT]), rowI rT.b rT.c 3 1 (ints rT.xs), oI z7 26 [(.int .i64 1), (.int .i64 2), (.slice sj 1 1), (.slice ej 3 3), (.slice (some ⟨z11, 0, none⟩) 3 3)], oI z6 26 [(.int .i64 (dgB (badB 1 3)).vars), (.int .i64 (dgB (badB 1 3)).states), (.slice sH ((dgB (badB 1 3)).start.length) sHc), (.slice eH ((dgB (badB 1 3)).edges.length) eHc), (.slice tH ((dgB (badB 1 3)).sets.length) tHc)], rowI tH tHc 22 1 (vals [rH]), rowI rH.b rH.c 3 1 (ints rH.xs), oI z1 26 [(.int .i64 1), (.int .i64 2), (.slice sk 1 1), (.slice ek 3 3), (.slice tk 1 1)], rowI sk 1 3 1 (ints alwB.start), rowI ek 3 54 4 (edsC alwB.edges), rowI tk 1 22 1 [.slice qk 1 1], rowI qk 1 3 1 (ints [1])] w1) => (show PureT _ _ _ _ _ from by
      have h9 := equalInts w1 rH.b (some ⟨z13, 0, none⟩) rH.c 3 rH.xs [0, 1, 2] (hI.slOf (List.mem_of_getElem? (i := 8) rfl)) (hI.slOf (cs := ints [0, 1, 2]) (List.mem_of_getElem? (i := 0) rfl)) (by rw [hrH]; decide)
      rw [decide_eq_true hrH] at h9
      exact h9)
  refine TO.guarded rfl rfl rfl (l_call ent47 (CallT.of_pure hk210) rfl ?_)
  clear hk210
  rintro vr O' ⟨N, rfl, rfl, rfl⟩
  refine TO.quiet (q_pick1 rfl rfl) (TO.quiet (q_move rfl) ?_)
  refine TO.guarded rfl rfl rfl (LT.of_quiet rfl rfl (q_move rfl) ?_)
  refine TO.guarded rfl rfl rfl (LT.of_quiet rfl rfl (QT.toB (q_eql rfl rfl) (decide_eq_true (by first | rfl | decide | (rw [edH.2]; rfl) | (rw [dgEs_eq]; rfl) | (rw [edT.2.2.2]; rfl) | (rw [edT.2.1]; first | done | rfl)))) ?_)
  refine TO.quiet (q_pick1 rfl rfl) (TO.quiet (q_move rfl) ?_)
  refine TO.guarded rfl rfl rfl (LT.of_quiet rfl rfl (q_fieldAddr Try.underlying26 rfl inf3 rfl rfl) ?_)
  refine TO.guarded rfl rfl rfl (LT.of_quiet rfl rfl (q_load_box 1 Try.underlying3 rfl rfl rfl rfl) ?_)
  refine TO.guarded rfl rfl rfl (LT.of_quiet rfl rfl (QT.toB (q_eql rfl rfl) (decide_eq_true (by first | rfl | decide | (rw [edH.2]; rfl) | (rw [dgEs_eq]; rfl) | (rw [edT.2.2.2]; rfl) | (rw [edT.2.1]; first | done | rfl)))) ?_)
  refine TO.quiet (q_pick1 rfl rfl) (TO.quiet (q_move rfl) ?_)
  refine TO.guarded rfl rfl rfl (LT.of_quiet rfl rfl (q_fieldAddr Try.underlying26 rfl inf23 rfl rfl) ?_)
  refine TO.guarded rfl rfl rfl (LT.of_quiet rfl rfl (q_load_box 1 Try.underlying23 rfl rfl rfl rfl) ?_)
  refine TO.guarded rfl rfl rfl (LT.of_quiet rfl rfl (q_len Try.underlying23 rfl) ?_)
  refine TO.guarded rfl rfl rfl (LT.of_quiet rfl rfl (QT.toB (q_eql rfl rfl) (decide_eq_true (by first | rfl | decide | (rw [edH.2]; rfl) | (rw [dgEs_eq]; rfl) | (rw [edT.2.2.2]; rfl) | (rw [edT.2.1]; first | done | rfl)))) ?_)
  refine TO.quiet (q_pick1 rfl rfl) (TO.quiet (q_move rfl) ?_)
  refine TO.guarded rfl rfl rfl (LT.of_quiet rfl rfl (q_fieldAddr Try.underlying26 rfl inf24 rfl rfl) ?_)
  refine TO.guarded rfl rfl rfl (LT.of_quiet rfl rfl (q_load_box 1 Try.underlying24 rfl rfl rfl rfl) ?_)
  refine TO.guarded rfl rfl rfl (LT.of_quiet rfl rfl (q_len Try.underlying24 rfl) ?_)
  refine TO.guarded rfl rfl rfl (LT.of_quiet rfl rfl (QT.toB (q_eql rfl rfl) (decide_eq_true (by first | rfl | decide | (rw [edH.2]; rfl) | (rw [dgEs_eq]; rfl) | (rw [edT.2.2.2]; rfl) | (rw [edT.2.1]; first | done | rfl)))) ?_)
  refine TO.quiet (q_pick1 rfl rfl) (TO.quiet (q_move rfl) ?_)
  refine TO.guarded rfl rfl rfl (LT.of_quiet rfl rfl (q_fieldAddr Try.underlying26 rfl inf24 rfl rfl) ?_)
  refine TO.guarded rfl rfl rfl (LT.of_quiet rfl rfl (q_load_box 1 Try.underlying24 rfl rfl rfl rfl) ?_)
  refine TO.guarded rfl rfl rfl (LT.of_quiet rfl rfl (q_ix (i := 0) Try.underlying24 inf22 rfl rfl (rowO (List.mem_of_getElem? (i := 3) rfl)) (by rw [edT.2.2.2]; decide) (by simp)) ?_)
  refine TO.guarded rfl rfl rfl (LT.of_quiet rfl rfl (q_ld Try.underlying22 rfl rfl (rowO (List.mem_of_getElem? (i := 3) rfl)) rfl) ?_)
  refine TO.guarded rfl rfl rfl (l_buildSlice (m := 2) (parts := [(0, .const (.int .i64 4)), (1, .const (.int .i64 5))]) (cs := [.int .i64 4, .int .i64 5]) Try.underlying22 inf3 (by decide) (by kernel_rfl) rfl (fun z14 => ?_))
  have hk239 := fun (w1 : World) (hI : Inv w [rowI (some ⟨z14, 0, none⟩) 2 3 1 [.int .i64 4, .int .i64 5], rowI (some ⟨z13, 0, none⟩) 3 3 1 [.int .i64 0, .int .i64 1, .int .i64 2], oI z12 26 [(.int .i64 (dgB thrB).vars), (.int .i64 (dgB thrB).states), (.slice sT ((dgB thrB).start.length) sTc), (.slice eT ((dgB thrB).edges.length) eTc), (.slice tT ((dgB thrB).sets.length) tTc)], rowI eT eTc 54 4 (edsC dgEs), rowI tT tTc 22 1 (vals [rT]), rowI rT.b rT.c 3 1 (ints rT.xs), oI z7 26 [(.int .i64 1), (.int .i64 2), (.slice sj 1 1), (.slice ej 3 3), (.slice (some ⟨z11, 0, none⟩) 3 3)], oI z6 26 [(.int .i64 (dgB (badB 1 3)).vars), (.int .i64 (dgB (badB 1 3)).states), (.slice sH ((dgB (badB 1 3)).start.length) sHc), (.slice eH ((dgB (badB 1 3)).edges.length) eHc), (.slice tH ((dgB (badB 1 3)).sets.length) tHc)], rowI tH tHc 22 1 (vals [rH]), rowI rH.b rH.c 3 1 (ints rH.xs), oI z1 26 [(.int .i64 1), (.int .i64 2), (.slice sk 1 1), (.slice ek 3 3), (.slice tk 1 1)], rowI sk 1 3 1 (ints alwB.start), rowI ek 3 54 4 (edsC alwB.edges), rowI tk 1 22 1 [.slice qk 1 1], rowI qk 1 3 1 (ints [1])] w1) => (show PureT _ _ _ _ _ from by
      have h9 := equalInts w1 rT.b (some ⟨z14, 0, none⟩) rT.c 2 rT.xs [4, 5] (hI.slOf (List.mem_of_getElem? (i := 5) rfl)) (hI.slOf (cs := ints [4, 5]) (List.mem_of_getElem? (i := 0) rfl)) (by rw [hrT]; decide)
      rw [decide_eq_true hrT] at h9
      exact h9)
  refine TO.guarded rfl rfl rfl (l_call ent47 (CallT.of_pure hk239) rfl ?_)
  clear hk239
  rintro vr O' ⟨N, rfl, rfl, rfl⟩
  refine TO.quiet (q_pick1 rfl rfl) (TO.quiet (q_move rfl) ?_)
  refine TO.guarded rfl rfl rfl (LT.of_quiet rfl rfl (q_fieldAddr Try.underlying26 rfl inf23 rfl rfl) ?_)
  refine TO.guarded rfl rfl rfl (LT.of_quiet rfl rfl (q_load_box 2 Try.underlying23 rfl rfl rfl rfl) ?_)
  refine TO.guarded rfl rfl rfl (LT.of_quiet rfl rfl (q_ixK (i := 0) Try.underlying23 inf54 rfl rfl (rowO (List.mem_of_getElem? (i := 3) rfl)) (by rw [dgEs_eq]; decide) (by rw [eds_len]; decide)) ?_)
  refine TO.guarded rfl rfl rfl (LT.of_quiet rfl rfl (q_ldK (vs := [.int .i64 dgEs[0].fr, .int .i64 dgEs[0].to, .int .u8 ((dgEs[0].pos : Nat) : Int), .int .u8 ((dgEs[0].neg : Nat) : Int)]) Try.underlying54 rfl inf54 rfl rfl (Nat.succ_pos _) (rowO (List.mem_of_getElem? (i := 3) rfl)) (eds_get (by decide))) ?_)
  refine TO.guarded rfl rfl rfl (LT.of_quiet rfl rfl (q_build (cs := [.int .i64 0, .int .i64 2, (.int .u8 0), (.int .u8 0)]) plan54 inf54 (by kernel_rfl)) ?_)
  refine TO.guarded rfl rfl rfl (LT.of_quiet rfl rfl (QT.toB (q_edgeEql edgeT rfl rfl) (decide_eq_true (by decide))) ?_)
  refine TO.quiet (q_pick1 rfl rfl) (TO.quiet (q_move rfl) ?_)
  refine TO.guarded rfl rfl rfl (LT.of_quiet rfl rfl (q_fieldAddr Try.underlying26 rfl inf23 rfl rfl) ?_)
  refine TO.guarded rfl rfl rfl (LT.of_quiet rfl rfl (q_load_box 2 Try.underlying23 rfl rfl rfl rfl) ?_)
  refine TO.guarded rfl rfl rfl (LT.of_quiet rfl rfl (q_ixK (i := 2) Try.underlying23 inf54 rfl rfl (rowO (List.mem_of_getElem? (i := 3) rfl)) (by rw [dgEs_eq]; decide) (by rw [eds_len]; decide)) ?_)
  refine TO.guarded rfl rfl rfl (LT.of_quiet rfl rfl (q_ldK (vs := [.int .i64 dgEs[2].fr, .int .i64 dgEs[2].to, .int .u8 ((dgEs[2].pos : Nat) : Int), .int .u8 ((dgEs[2].neg : Nat) : Int)]) Try.underlying54 rfl inf54 rfl rfl (Nat.succ_pos _) (rowO (List.mem_of_getElem? (i := 3) rfl)) (eds_get (by decide))) ?_)
  refine TO.guarded rfl rfl rfl (LT.of_quiet rfl rfl (q_build (cs := [.int .i64 1, .int .i64 1, .int .u8 1, (.int .u8 0)]) plan54 inf54 (by kernel_rfl)) ?_)
  refine TO.guarded rfl rfl rfl (LT.of_quiet rfl rfl (QT.toB (q_edgeEql edgeT rfl rfl) (decide_eq_true (by decide))) ?_)
  refine TO.quiet (q_pick1 rfl rfl) (TO.quiet (q_move rfl) ?_)
  refine TO.guarded rfl rfl rfl (LT.of_quiet rfl rfl (q_fieldAddr Try.underlying26 rfl inf23 rfl rfl) ?_)
  refine TO.guarded rfl rfl rfl (LT.of_quiet rfl rfl (q_load_box 2 Try.underlying23 rfl rfl rfl rfl) ?_)
  refine TO.guarded rfl rfl rfl (LT.of_quiet rfl rfl (q_ixK (i := 8) Try.underlying23 inf54 rfl rfl (rowO (List.mem_of_getElem? (i := 3) rfl)) (by rw [dgEs_eq]; decide) (by rw [eds_len]; decide)) ?_)
  refine TO.guarded rfl rfl rfl (LT.of_quiet rfl rfl (q_ldK (vs := [.int .i64 dgEs[8].fr, .int .i64 dgEs[8].to, .int .u8 ((dgEs[8].pos : Nat) : Int), .int .u8 ((dgEs[8].neg : Nat) : Int)]) Try.underlying54 rfl inf54 rfl rfl (Nat.succ_pos _) (rowO (List.mem_of_getElem? (i := 3) rfl)) (eds_get (by decide))) ?_)
  refine TO.guarded rfl rfl rfl (LT.of_quiet rfl rfl (q_build (cs := [.int .i64 5, .int .i64 1, .int .u8 1, (.int .u8 0)]) plan54 inf54 (by kernel_rfl)) ?_)
  refine TO.guarded rfl rfl rfl (LT.of_quiet rfl rfl (QT.toB (q_edgeEql edgeT rfl rfl) (decide_eq_true (by decide))) ?_)
  refine TO.quiet (q_pick1 rfl rfl) (TO.quiet (q_assign rfl) ?_)
  refine TO.nil (T.ret (Res.drop ?_))
  refine Res.one (.bool true) Try.results10 rfl ?_
  exact ⟨[], Sub.of (List.nil_sublist _), rfl, rfl⟩
end Go.Proofs.Ytnamoapbienooaa


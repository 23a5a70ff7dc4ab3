/- Contracts of functions of the program (BEx1): what each call answers and that it leaves memory as it was. Conditions: those each theorem names. -/
import Derived.Test.YtnamoapbienooaaEndB
import Derived.Test.YtnamoapbienooaaExB
import Derived.Test.YtnamoapbienooaaBChk
set_option linter.unusedSectionVars false
set_option linter.unusedSimpArgs false
set_option linter.unusedVariables false
set_option linter.unnecessarySimpa false
namespace Go.Proofs.Ytnamoapbienooaa
open Go.Lx Go.RowKit
set_option linter.unusedVariables false
set_option linter.unusedSimpArgs false
set_option maxHeartbeats 1000000 in
set_option maxRecDepth 20000 in
theorem badC (w : World) (v s : Int) :
    PureT Try.prog 45 [.int .i64 v, .int .i64 s] w fun x N => x = .agg (buCells (badB v s) none 0 none 0 none 0).toArray ∧ N = [] := by
  refine CallT.enter Try.func45 rfl Try.ntmps45 rfl ?_
  refine T.seq (T.region ?_)
  refine TO.loud rfl (l_alloc inf26 rfl (fun bx1 => ?_))
  refine TO.nil (T.seq (T.region ?_))
  refine TO.quiet (q_move rfl) (TO.quiet (q_move rfl) (TO.quiet (q_build (cs := [.int .i64 v, .int .i64 s, (.slice none 0 0), (.slice none 0 0), (.slice none 0 0)]) plan26 inf26 (by kernel_rfl)) ?_))
  refine TO.loud rfl (l_store_box (v := (.agg #[.int .i64 v, .int .i64 s, (.slice none 0 0), (.slice none 0 0), (.slice none 0 0)])) (vs := [.int .i64 v, .int .i64 s, (.slice none 0 0), (.slice none 0 0), (.slice none 0 0)]) 0 inf26 rfl rfl rfl rfl rfl rfl (by simp [putL]) ?_)
  refine TO.nil (T.ret (Res.drop ?_))
  refine Res.cell1 (i := 0) Try.results45 Try.underlying26 rfl inf26 rfl rfl rfl ?_
  exact ⟨[], Sub.of (List.nil_sublist _), rfl, rfl⟩
set_option maxHeartbeats 1000000 in
set_option maxRecDepth 20000 in
theorem edgeC (w : World) (e : Ed) :
    PureT Try.prog 46 [.agg #[(.int .i64 e.fr), (.int .i64 e.to), (.int .u8 ((e.pos : Nat) : Int)), (.int .u8 ((e.neg : Nat) : Int))]] w fun v N => ∃ sb eb ec tb qb, v = .agg (buCells (edgB e) sb 1 eb ec tb 1).toArray ∧ N = [rowI sb 1 3 1 (ints alwB.start), rowI eb ec 54 4 (edsC (edgB e).edges), rowI tb 1 22 1 [.slice qb 1 1], rowI qb 1 3 1 (ints [1])] := by
  refine CallT.enter Try.func46 rfl Try.ntmps46 rfl ?_
  refine T.seq (T.region ?_)
  refine TO.loud rfl (l_box (v := (.agg #[(.int .i64 e.fr), (.int .i64 e.to), (.int .u8 ((e.pos : Nat) : Int)), (.int .u8 ((e.neg : Nat) : Int))])) (cs := [(.int .i64 e.fr), (.int .i64 e.to), (.int .u8 ((e.pos : Nat) : Int)), (.int .u8 ((e.neg : Nat) : Int))]) rfl rfl (fun bx1 => ?_))
  refine TO.loud rfl (l_alloc inf26 rfl (fun bx2 => ?_))
  refine TO.nil (T.seq (T.region ?_))
  have hk4 := fun (w1 : World) (hI : Inv w [oI bx2 26 [(.int .i64 0), (.int .i64 0), (.slice none 0 0), (.slice none 0 0), (.slice none 0 0)], oI bx1 54 [(.int .i64 e.fr), (.int .i64 e.to), (.int .u8 ((e.pos : Nat) : Int)), (.int .u8 ((e.neg : Nat) : Int))]] w1) => alwaysF w1
  refine TO.loud rfl (l_call ent44 (CallT.of_pure hk4) rfl ?_)
  clear hk4
  rintro vr O' ⟨N, rfl, sb, eb, tb, qb, rfl, rfl⟩
  refine TO.loud rfl (l_alloc inf26 rfl (fun bx3 => ?_))
  refine TO.loud rfl (l_store_box (v := (.agg #[(.int .i64 1), (.int .i64 2), (.slice sb 1 1), (.slice eb 3 3), (.slice tb 1 1)])) (vs := [(.int .i64 1), (.int .i64 2), (.slice sb 1 1), (.slice eb 3 3), (.slice tb 1 1)]) 0 inf26 rfl rfl rfl rfl rfl rfl (by simp [putL]) ?_)
  refine TO.nil (T.seq (T.region ?_))
  refine TO.quiet (q_fieldAddr Try.underlying26 rfl inf23 rfl rfl) (TO.quiet (q_load_box 0 Try.underlying23 rfl rfl rfl rfl) (TO.quiet (q_load_boxAgg 6 Try.underlying54 rfl inf54 rfl rfl rfl) ?_))
  refine TO.loud rfl (l_buildSlice (m := 1) (parts := [(0, _)]) (cs := [(.int .i64 e.fr), (.int .i64 e.to), (.int .u8 ((e.pos : Nat) : Int)), (.int .u8 ((e.neg : Nat) : Int))]) Try.underlying23 inf54 (by decide) (by kernel_rfl) rfl (fun bx4 => ?_))
  refine TO.loud rfl (l_append 3 Try.underlying23 Try.underlying23 inf54 rfl rfl rfl rfl (by rfl) (by decide) (Src.row (j := 0) rfl (by simp)) (by simp [oneB]) (by omega) (by decide) (by decide) (fun bx5 c6 => ?_))
  refine TO.quiet (q_fieldAddr Try.underlying26 rfl inf23 rfl rfl) ?_
  refine TO.loud rfl (l_store_box (v := (.slice bx5 (3 + 1) c6)) (vs := [(.slice bx5 (3 + 1) c6)]) 1 inf23 rfl rfl rfl rfl rfl rfl (by simp [putL]) ?_)
  refine TO.nil (T.seq (T.region ?_))
  refine TO.quiet (q_load_boxAgg 1 Try.underlying26 rfl inf26 rfl rfl rfl) ?_
  refine TO.loud rfl (l_store_box (v := (.agg #[(.int .i64 1), (.int .i64 2), (.slice sb 1 1), (.slice bx5 (3 + 1) c6), (.slice tb 1 1)])) (vs := [(.int .i64 1), (.int .i64 2), (.slice sb 1 1), (.slice bx5 (3 + 1) c6), (.slice tb 1 1)]) 6 inf26 rfl rfl rfl rfl rfl rfl (by simp [putL]) ?_)
  refine TO.nil (T.ret (Res.drop ?_))
  refine Res.cell1 (i := 6) Try.results46 Try.underlying26 rfl inf26 rfl rfl rfl ?_
  exact ⟨[rowI sb 1 3 1 (ints alwB.start), rowI bx5 c6 54 4 ((edsC alwB.edges) ++ [(.int .i64 e.fr), (.int .i64 e.to), (.int .u8 ((e.pos : Nat) : Int)), (.int .u8 ((e.neg : Nat) : Int))]), rowI tb 1 22 1 [.slice qb 1 1], rowI qb 1 3 1 (ints [1])], (by exact Sub.d (.d (.k (.k (.k (.k .z)))))), sb, bx5, c6, tb, qb, rfl, rfl⟩
end Go.Proofs.Ytnamoapbienooaa


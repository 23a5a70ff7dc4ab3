/- Contracts of functions of the program (BRlv): what each call answers and that it leaves memory as it was. Conditions: those each theorem names. -/
import Derived.Test.YtnamoapbienooaaBPrd
set_option linter.unusedSectionVars false
set_option linter.unusedSimpArgs false
set_option linter.unusedVariables false
set_option linter.unnecessarySimpa false
namespace Go.Proofs.Ytnamoapbienooaa
open Go.Lx Go.RowKit
set_option linter.unusedVariables false
set_option linter.unusedSimpArgs false
set_option maxHeartbeats 1000000 in
set_option maxRecDepth 20000 in
theorem refLiveF (w : World) (b : Bu) (sb eb tb : Option Addr) (sc ec tc : Nat) (vs : List Value) (h : BuAt w b sb eb tb vs) (hB : BuB b) :
    PureT Try.prog 20 [.agg (buCells b sb sc eb ec tb tc).toArray] w fun v N => ∃ lb lc, v = .tuple #[.slice lb (livesB b).length lc, .int .i64 (checkB b : Int)] ∧ N = [rowI lb lc 4 1 (bools (livesB b))] := by
  refine CallT.enter Try.func20 rfl Try.ntmps20 rfl ?_
  have hed := hB.ed
  refine T.seq (T.region ?_)
  refine TO.loud rfl (l_box (v := (.agg (buCells b sb sc eb ec tb tc).toArray)) (cs := (buCells b sb sc eb ec tb tc)) rfl rfl (fun bx1 => ?_))
  refine TO.quiet (q_assign rfl) (TO.quiet (q_assign rfl) ?_)
  refine TO.nil (T.seq (T.seq (T.region ?_)))
  refine TO.quiet (q_load_boxAgg 0 Try.underlying26 rfl inf26 rfl rfl rfl) ?_
  have hk6 := fun (w1 : World) (hI : Inv w [oI bx1 26 (buCells b sb sc eb ec tb tc)] w1) => refCheckF w1 b sb eb tb sc ec tc vs (hI.bu h) hB
  refine TO.loud rfl (l_call ent22 (CallT.of_pure hk6) rfl ?_)
  clear hk6
  rintro vr O' ⟨N, rfl, rfl, rfl⟩
  refine TO.quiet (q_assign rfl) ?_
  refine TO.nil (T.seq (T.region ?_))
  refine TO.quiet (q_move rfl) (TO.quiet (q_neq rfl rfl) ?_)
  refine TO.nil ?_
  refine T.condP rfl (fun hc => ?_) (fun hc => ?_)
  · have hlt8 : checkB b ≠ 0 := by omega
    refine T.seq ?_
    refine T.nilRow 4 1 ?_
    refine T.region ?_
    refine TO.quiet (q_move rfl) (TO.quiet (q_assign rfl) (TO.quiet (q_assign rfl) ?_))
    refine TO.nil (T.ret (Res.drop ?_))
    refine Res.two (.slice none 0 0) (.int .i64 (checkB b : Int)) Try.results20 rfl rfl ?_
    exact ⟨[rowI none 0 4 1 []], (Sub.pick [0] rfl), none, 0, by unfold livesB; rw [if_neg hlt8]; rfl, by unfold livesB; rw [if_neg hlt8]; rfl⟩
  have hge8 : ¬ checkB b ≠ 0 := by omega
  refine T.skip (T.seq ?_)
  have hv : ValidB b := checkB_zero.1 (by omega)
  have hn4 := hv.n4
  refine T.region ?_
  refine TO.quiet (q_load_boxAgg 0 Try.underlying26 rfl inf26 rfl rfl rfl) ?_
  have hk11 := fun (w1 : World) (hI : Inv w [oI bx1 26 (buCells b sb sc eb ec tb tc)] w1) => statesG w1 b sb eb tb sc ec tc vs (hI.bu h) hB hv
  refine TO.loud rfl (l_call ent63 (CallT.of_pure hk11) rfl ?_)
  clear hk11
  rintro vr O' ⟨N, rfl, ab, ac, nb, nc, qs, rfl, rfl, hr⟩
  refine TO.sub (O' := ([rowI ab ac 3 1 (nats (List.range b.states.toNat)), rowI nb nc 22 1 (vals qs), oI bx1 26 (buCells b sb sc eb ec tb tc)] ++ (itms 3 qs))) (Sub.cnt [] (by intro a; simp only [itms, oI, List.set_cons_zero, List.set_cons_succ, putL, List.cons_append, List.nil_append, List.append_nil, List.append_assoc, List.map_append, List.map_cons, List.map_nil, cnt_append, cnt_cons, cnt_nil, buCells, laCells] <;> omega)) ?_
  have hk12 := fun (w1 : World) (hI : Inv w ([rowI ab ac 3 1 (nats (List.range b.states.toNat)), rowI nb nc 22 1 (vals qs), oI bx1 26 (buCells b sb sc eb ec tb tc)] ++ (itms 3 qs)) w1) => (by
    have hL := goodF w1 b sb eb tb sc ec tc vs (hI.bu h) hB ab nb ac nc (vals qs) (nums qs) (List.range b.states.toNat) (hI.slOf (List.mem_of_getElem? (i := 1) rfl)) (Inv.recs (E := 3) hI (fun q hq => List.mem_append_right _ (List.mem_map.2 ⟨q, hq, rfl⟩))) (hI.slOf (List.mem_of_getElem? (i := 0) rfl)) (by rw [hr.l]; simp) (by rw [hr.l]; omega) (fun r hr9 => by obtain ⟨i, hi, rfl⟩ := List.mem_iff_getElem.1 hr9; have h9 := hr.b i; rw [getD_at hi] at h9; omega) (states_ok hv hr)
    rw [hr.l] at hL; exact hL)
  refine TO.loud rfl (l_call ent61 (CallT.of_pure hk12) rfl ?_)
  clear hk12
  rintro vr O' ⟨N, rfl, lb, lc, ls, rfl, rfl, hT⟩
  refine TO.quiet (q_assign rfl) (TO.quiet (q_assign rfl) ?_)
  refine TO.nil (T.ret (Res.drop ?_))
  refine Res.two (.slice lb b.states.toNat lc) (.int .i64 0) Try.results20 rfl rfl ?_
  have he : checkB b = 0 := by omega
  have hll := hT.1
  have hls := livesB_of he hll (fun v hv9 => (hT.2 v hv9).trans (by have h9 := liveR_states hv hr (v := v); unfold liveR at h9 ⊢; rw [hr.l] at h9 ⊢; exact h9))
  exact ⟨[rowI lb lc 4 1 (bools ls)], (Sub.pick0 [0] [rowI lb lc 4 1 (bools ls), rowI ab ac 3 1 (nats (List.range b.states.toNat)), rowI nb nc 22 1 (vals qs), oI bx1 26 (buCells b sb sc eb ec tb tc)] (itms 3 qs) rfl rfl), lb, lc, by rw [← hls, hll, he]; rfl, by rw [← hls]⟩
end Go.Proofs.Ytnamoapbienooaa


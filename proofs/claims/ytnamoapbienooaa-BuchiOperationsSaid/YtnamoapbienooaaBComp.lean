/- Contracts of functions of the program (BChk, BChk2, BScc, BComp): what each call answers and that it leaves memory as it was. Conditions: those each theorem names. -/
import Derived.Test.YtnamoapbienooaaBDel
set_option linter.unusedSectionVars false
set_option linter.unusedSimpArgs false
set_option linter.unusedVariables false
set_option linter.unnecessarySimpa false
namespace Go.Proofs.Ytnamoapbienooaa
open Go.Lx Go.RowKit
set_option linter.unusedVariables false
set_option linter.unusedSimpArgs false
set_option maxHeartbeats 1000000 in
set_option maxRecDepth 20000 in
theorem longF (w : World) (b : Option Addr) (c : Nat) (qs : List BuRef) (hS : Sl w b (busC qs)) (hq : ∀ q ∈ qs, BuAt w q.b q.sb q.eb q.tb q.vs) (hb : qs.length < 9223372036854775807) (hb2 : ∀ q ∈ qs, q.b.sets.length < 9223372036854775807) :
    PureT Try.prog 11 [.slice b qs.length c] w fun v N => v = .bool (qs.any fun q => longB q.b) ∧ N = [] := by
  refine CallT.enter Try.func11 rfl Try.ntmps11 rfl ?_
  refine T.seq (T.region ?_)
  refine TO.quiet (q_assign rfl) ?_
  refine TO.nil (T.seq (T.seq (T.region ?_)))
  refine TO.quiet (q_assign rfl) ?_
  refine TO.nil (T.block ?_)
  refine T.loop (fun (k : Nat) ρ O => O = [] ∧ k ≤ qs.length ∧ (qs.take k).any (fun q => longB q.b) = false ∧ Heads [(0, (.slice b qs.length c)), (3, .int .i64 (k : Int))] ρ) (fun k => qs.length - k) 0 ?_ ?_
  · exact ⟨rfl, Nat.zero_le _, rfl, ⟨rfl, rfl, trivial⟩⟩
  rintro k ρ O ⟨rfl, hk, hany, hH⟩
  obtain ⟨ρ0, rfl⟩ := hH.elim
  clear hH
  refine T.seq (T.seq (T.region ?_))
  refine TO.quiet (q_move rfl) (TO.quiet (q_move rfl) (TO.quiet (q_len Try.underlying71 rfl) (TO.quiet (q_lss rfl rfl) ?_)))
  refine TO.nil ?_
  refine T.condP rfl (fun hc => ?_) (fun hc => ?_)
  · have hlt8 : k < qs.length := by omega
    have hbb := hb2 _ (List.getElem_mem hlt8)
    have hvl := (hq _ (List.getElem_mem hlt8)).rows.1
    refine T.skip (T.seq (T.block (T.seq (T.seq (T.region ?_)))))
    refine TO.quiet (q_move rfl) (TO.quiet (q_move rfl) (TO.quiet (q_ixK (i := k) Try.underlying71 inf26 rfl rfl (Sl.o hS) (by first | assumption | omega | (simp; omega) | simp_all) (by first | (rw [bus_len]; omega) | (simp [bus_len]; omega) | (simp_all [bus_len]; omega))) (TO.quiet (q_fieldEl Try.underlying26 rfl inf22 rfl rfl (Sl.o hS) (by first | (rw [bus_len]; omega) | (simp [bus_len]; omega) | (simp_all [bus_len]; omega))) ?_)))
    refine TO.quiet (q_ld Try.underlying22 rfl rfl (Sl.o hS) (bus_get (by first | assumption | omega | (simp; omega) | simp_all) 2 (by decide))) (TO.quiet (q_len Try.underlying22 rfl) (TO.quiet (q_gtr rfl rfl) ?_))
    by_cases hs18 : (qs[k].b.start.length : Int) > 40
    · refine TO.quiet (QT.toB (q_move rfl) (decide_eq_true hs18)) ?_
      refine TO.passed rfl rfl ?_
      refine TO.passed rfl rfl ?_
      refine TO.passed rfl rfl ?_
      refine TO.passed rfl rfl ?_
      refine TO.passed rfl rfl ?_
      refine TO.passed rfl rfl ?_
      refine TO.passed rfl rfl ?_
      refine TO.quiet (q_pick1 rfl rfl) (TO.quiet (q_move rfl) ?_)
      refine TO.passed rfl rfl ?_
      refine TO.passed rfl rfl ?_
      refine TO.passed rfl rfl ?_
      refine TO.passed rfl rfl ?_
      refine TO.passed rfl rfl ?_
      refine TO.passed rfl rfl ?_
      refine TO.passed rfl rfl ?_
      refine TO.quiet (q_pick1 rfl rfl) (TO.quiet (q_move rfl) ?_)
      refine TO.passed rfl rfl ?_
      refine TO.passed rfl rfl ?_
      refine TO.passed rfl rfl ?_
      refine TO.passed rfl rfl ?_
      refine TO.passed rfl rfl ?_
      refine TO.passed rfl rfl ?_
      refine TO.passed rfl rfl ?_
      refine TO.passed rfl rfl ?_
      refine TO.passed rfl rfl ?_
      refine TO.passed rfl rfl ?_
      refine TO.passed rfl rfl ?_
      refine TO.passed rfl rfl ?_
      refine TO.passed rfl rfl ?_
      refine TO.passed rfl rfl ?_
      refine TO.quiet (q_pick1 rfl rfl) ?_
      refine TO.nil ?_
      refine T.cond1 rfl ?_
      refine T.seq (T.region ?_)
      refine TO.quiet (q_assign rfl) ?_
      refine TO.nil (T.ret ?_)
      refine Res.one (.bool true) Try.results11 rfl ?_
      exact ⟨congrArg Value.bool ((any_hit hlt8 (show longB _ = true by unfold longB; rw [show longN qs[k].b = true from decide_eq_true (by omega)]; rfl)).symm), rfl⟩
    refine TO.quiet (QT.toB (q_move rfl) (decide_eq_false hs18)) ?_
    refine TO.guarded rfl rfl rfl (LT.of_quiet rfl rfl (q_move rfl) ?_)
    refine TO.guarded rfl rfl rfl (LT.of_quiet rfl rfl (q_move rfl) ?_)
    refine TO.guarded rfl rfl rfl (LT.of_quiet rfl rfl (q_ixK (i := k) Try.underlying71 inf26 rfl rfl (Sl.o hS) (by first | assumption | omega | (simp; omega) | simp_all) (by first | (rw [bus_len]; omega) | (simp [bus_len]; omega) | (simp_all [bus_len]; omega))) ?_)
    refine TO.guarded rfl rfl rfl (LT.of_quiet rfl rfl (q_fieldEl Try.underlying26 rfl inf23 rfl rfl (Sl.o hS) (by first | (rw [bus_len]; omega) | (simp [bus_len]; omega) | (simp_all [bus_len]; omega))) ?_)
    refine TO.guarded rfl rfl rfl (LT.of_quiet rfl rfl (q_ld Try.underlying23 rfl rfl (Sl.o hS) (bus_get (by first | assumption | omega | (simp; omega) | simp_all) 3 (by decide))) ?_)
    refine TO.guarded rfl rfl rfl (LT.of_quiet rfl rfl (q_len Try.underlying23 rfl) ?_)
    refine TO.guarded rfl rfl rfl (LT.of_quiet rfl rfl (q_gtr rfl rfl) ?_)
    refine TO.quiet (q_pick0 rfl rfl) ?_
    by_cases hs27 : (qs[k].b.edges.length : Int) > 60
    · refine TO.quiet (QT.toB (q_move rfl) (decide_eq_true hs27)) ?_
      refine TO.passed rfl rfl ?_
      refine TO.passed rfl rfl ?_
      refine TO.passed rfl rfl ?_
      refine TO.passed rfl rfl ?_
      refine TO.passed rfl rfl ?_
      refine TO.passed rfl rfl ?_
      refine TO.passed rfl rfl ?_
      refine TO.quiet (q_pick1 rfl rfl) (TO.quiet (q_move rfl) ?_)
      refine TO.passed rfl rfl ?_
      refine TO.passed rfl rfl ?_
      refine TO.passed rfl rfl ?_
      refine TO.passed rfl rfl ?_
      refine TO.passed rfl rfl ?_
      refine TO.passed rfl rfl ?_
      refine TO.passed rfl rfl ?_
      refine TO.passed rfl rfl ?_
      refine TO.passed rfl rfl ?_
      refine TO.passed rfl rfl ?_
      refine TO.passed rfl rfl ?_
      refine TO.passed rfl rfl ?_
      refine TO.passed rfl rfl ?_
      refine TO.passed rfl rfl ?_
      refine TO.quiet (q_pick1 rfl rfl) ?_
      refine TO.nil ?_
      refine T.cond1 rfl ?_
      refine T.seq (T.region ?_)
      refine TO.quiet (q_assign rfl) ?_
      refine TO.nil (T.ret ?_)
      refine Res.one (.bool true) Try.results11 rfl ?_
      exact ⟨congrArg Value.bool ((any_hit hlt8 (show longB _ = true by unfold longB; rw [show longN qs[k].b = true from decide_eq_true (by omega)]; rfl)).symm), rfl⟩
    refine TO.quiet (QT.toB (q_move rfl) (decide_eq_false hs27)) ?_
    refine TO.guarded rfl rfl rfl (LT.of_quiet rfl rfl (q_move rfl) ?_)
    refine TO.guarded rfl rfl rfl (LT.of_quiet rfl rfl (q_move rfl) ?_)
    refine TO.guarded rfl rfl rfl (LT.of_quiet rfl rfl (q_ixK (i := k) Try.underlying71 inf26 rfl rfl (Sl.o hS) (by first | assumption | omega | (simp; omega) | simp_all) (by first | (rw [bus_len]; omega) | (simp [bus_len]; omega) | (simp_all [bus_len]; omega))) ?_)
    refine TO.guarded rfl rfl rfl (LT.of_quiet rfl rfl (q_fieldEl Try.underlying26 rfl inf24 rfl rfl (Sl.o hS) (by first | (rw [bus_len]; omega) | (simp [bus_len]; omega) | (simp_all [bus_len]; omega))) ?_)
    refine TO.guarded rfl rfl rfl (LT.of_quiet rfl rfl (q_ld Try.underlying24 rfl rfl (Sl.o hS) (bus_get (by first | assumption | omega | (simp; omega) | simp_all) 4 (by decide))) ?_)
    refine TO.guarded rfl rfl rfl (LT.of_quiet rfl rfl (q_len Try.underlying24 rfl) ?_)
    refine TO.guarded rfl rfl rfl (LT.of_quiet rfl rfl (q_gtr rfl rfl) ?_)
    refine TO.quiet (q_pick0 rfl rfl) ?_
    by_cases hs36 : (qs[k].b.sets.length : Int) > 12
    · refine TO.quiet (QT.toB (q_move rfl) (decide_eq_true hs36)) ?_
      refine TO.passed rfl rfl ?_
      refine TO.passed rfl rfl ?_
      refine TO.passed rfl rfl ?_
      refine TO.passed rfl rfl ?_
      refine TO.passed rfl rfl ?_
      refine TO.passed rfl rfl ?_
      refine TO.passed rfl rfl ?_
      refine TO.passed rfl rfl ?_
      refine TO.passed rfl rfl ?_
      refine TO.passed rfl rfl ?_
      refine TO.passed rfl rfl ?_
      refine TO.passed rfl rfl ?_
      refine TO.passed rfl rfl ?_
      refine TO.passed rfl rfl ?_
      refine TO.quiet (q_pick1 rfl rfl) ?_
      refine TO.nil ?_
      refine T.cond1 rfl ?_
      refine T.seq (T.region ?_)
      refine TO.quiet (q_assign rfl) ?_
      refine TO.nil (T.ret ?_)
      refine Res.one (.bool true) Try.results11 rfl ?_
      exact ⟨congrArg Value.bool ((any_hit hlt8 (show longB _ = true by unfold longB; rw [show longN qs[k].b = true from decide_eq_true (by omega)]; rfl)).symm), rfl⟩
    refine TO.quiet (QT.toB (q_move rfl) (decide_eq_false hs36)) ?_
    refine TO.guarded rfl rfl rfl (LT.of_quiet rfl rfl (q_move rfl) ?_)
    refine TO.guarded rfl rfl rfl (LT.of_quiet rfl rfl (q_move rfl) ?_)
    refine TO.guarded rfl rfl rfl (LT.of_quiet rfl rfl (q_ixK (i := k) Try.underlying71 inf26 rfl rfl (Sl.o hS) (by first | assumption | omega | (simp; omega) | simp_all) (by first | (rw [bus_len]; omega) | (simp [bus_len]; omega) | (simp_all [bus_len]; omega))) ?_)
    refine TO.guarded rfl rfl rfl (LT.of_quiet rfl rfl (q_fieldEl Try.underlying26 rfl inf3 rfl rfl (Sl.o hS) (by first | (rw [bus_len]; omega) | (simp [bus_len]; omega) | (simp_all [bus_len]; omega))) ?_)
    refine TO.guarded rfl rfl rfl (LT.of_quiet rfl rfl (q_ld Try.underlying3 rfl rfl (Sl.o hS) (bus_get (by first | assumption | omega | (simp; omega) | simp_all) 1 (by decide))) ?_)
    refine TO.guarded rfl rfl rfl (LT.of_quiet rfl rfl (q_gtr rfl rfl) ?_)
    by_cases hs43 : qs[k].b.states > 20
    · refine TO.guarded rfl rfl rfl (LT.of_quiet rfl rfl (QT.toB (q_move rfl) (decide_eq_true hs43)) ?_)
      refine TO.guarded rfl rfl rfl (LT.of_quiet rfl rfl (q_move rfl) ?_)
      refine TO.guarded rfl rfl rfl (LT.of_quiet rfl rfl (q_move rfl) ?_)
      refine TO.guarded rfl rfl rfl (LT.of_quiet rfl rfl (q_ixK (i := k) Try.underlying71 inf26 rfl rfl (Sl.o hS) (by first | assumption | omega | (simp; omega) | simp_all) (by first | (rw [bus_len]; omega) | (simp [bus_len]; omega) | (simp_all [bus_len]; omega))) ?_)
      refine TO.guarded rfl rfl rfl (LT.of_quiet rfl rfl (q_fieldEl Try.underlying26 rfl inf3 rfl rfl (Sl.o hS) (by first | (rw [bus_len]; omega) | (simp [bus_len]; omega) | (simp_all [bus_len]; omega))) ?_)
      refine TO.guarded rfl rfl rfl (LT.of_quiet rfl rfl (q_ld Try.underlying3 rfl rfl (Sl.o hS) (bus_get (by first | assumption | omega | (simp; omega) | simp_all) 1 (by decide))) ?_)
      refine TO.guarded rfl rfl rfl (LT.of_quiet rfl rfl (q_leq rfl rfl) ?_)
      refine TO.guarded rfl rfl rfl (LT.of_quiet rfl rfl (q_pick1 rfl rfl) ?_)
      refine TO.quiet (q_pick0 rfl rfl) ?_
      refine TO.nil ?_
      refine T.condP rfl (fun hc => ?_) (fun hc => ?_)
      · refine T.seq ?_
        refine T.region ?_
        refine TO.quiet (q_assign rfl) ?_
        refine TO.nil (T.ret ?_)
        refine Res.one (.bool true) Try.results11 rfl ?_
        exact ⟨congrArg Value.bool ((any_hit hlt8 (show longB _ = true by unfold longB; rw [show longN qs[k].b = true from decide_eq_true (by omega)]; rfl)).symm), rfl⟩
      refine T.skip (T.seq (T.region ?_))
      refine TO.quiet (q_assign rfl) ?_
      refine TO.nil (T.block ?_)
      refine T.loop (fun (j : Nat) ρ O => O = [] ∧ j ≤ qs[k].b.sets.length ∧ longN qs[k].b = false ∧ (qs[k].b.sets.take j).any (fun r => decide (40 < r.length)) = false ∧ Heads [(0, (.slice b qs.length c)), (3, .int .i64 (k : Int)), (4, .int .i64 (j : Int))] ρ) (fun j => qs[k].b.sets.length - j) 0 ?_ ?_
      · refine ⟨rfl, Nat.zero_le _, decide_eq_false (by omega), rfl, ⟨rfl, rfl, rfl, trivial⟩⟩
      rintro j ρ O ⟨rfl, hj, hnl, hj2, hH⟩
      obtain ⟨ρ0, rfl⟩ := hH.elim
      clear hH
      refine T.seq (T.seq (T.region ?_))
      refine TO.quiet (q_move rfl) (TO.quiet (q_move rfl) (TO.quiet (q_move rfl) (TO.quiet (q_ixK (i := k) Try.underlying71 inf26 rfl rfl (Sl.o hS) (by first | assumption | omega | (simp; omega) | simp_all) (by first | (rw [bus_len]; omega) | (simp [bus_len]; omega) | (simp_all [bus_len]; omega))) ?_)))
      refine TO.quiet (q_fieldEl Try.underlying26 rfl inf24 rfl rfl (Sl.o hS) (by first | (rw [bus_len]; omega) | (simp [bus_len]; omega) | (simp_all [bus_len]; omega))) (TO.quiet (q_ld Try.underlying24 rfl rfl (Sl.o hS) (bus_get (by first | assumption | omega | (simp; omega) | simp_all) 4 (by decide))) (TO.quiet (q_len Try.underlying24 rfl) (TO.quiet (q_lss rfl rfl) ?_)))
      refine TO.nil ?_
      refine T.condP rfl (fun hc => ?_) (fun hc => ?_)
      · have hlt59 : j < qs[k].b.sets.length := by omega
        obtain ⟨vb, vc, g1, s1⟩ := (hq _ (List.getElem_mem hlt8)).rows.get hlt59
        refine T.skip (T.seq (T.block (T.seq (T.region ?_))))
        refine TO.quiet (q_move rfl) (TO.quiet (q_move rfl) (TO.quiet (q_ixK (i := k) Try.underlying71 inf26 rfl rfl (Sl.o hS) (by first | assumption | omega | (simp; omega) | simp_all) (by first | (rw [bus_len]; omega) | (simp [bus_len]; omega) | (simp_all [bus_len]; omega))) (TO.quiet (q_fieldEl Try.underlying26 rfl inf24 rfl rfl (Sl.o hS) (by first | (rw [bus_len]; omega) | (simp [bus_len]; omega) | (simp_all [bus_len]; omega))) ?_)))
        refine TO.quiet (q_ld Try.underlying24 rfl rfl (Sl.o hS) (bus_get (by first | assumption | omega | (simp; omega) | simp_all) 4 (by decide))) (TO.quiet (q_move rfl) (TO.quiet (q_ix (i := j) Try.underlying24 inf22 rfl rfl (Sl.o (hq _ (List.getElem_mem hlt8)).out) (by first | assumption | omega | (simp; omega) | simp_all) (by rw [hvl]; exact hlt59)) (TO.quiet (q_ld Try.underlying22 rfl rfl (Sl.o (hq _ (List.getElem_mem hlt8)).out) g1) ?_)))
        refine TO.quiet (q_len Try.underlying22 rfl) (TO.quiet (q_gtr rfl rfl) ?_)
        refine TO.nil ?_
        refine T.condP rfl (fun hc => ?_) (fun hc => ?_)
        · have hlt71 : qs[k].b.sets[j].length > 40 := by omega
          refine T.seq (T.region ?_)
          refine TO.quiet (q_assign rfl) ?_
          refine TO.nil (T.ret ?_)
          refine Res.one (.bool true) Try.results11 rfl ?_
          exact ⟨congrArg Value.bool ((any_hit hlt8 (show longB _ = true by unfold longB; rw [any_hit hlt59 (decide_eq_true (by omega))]; simp)).symm), rfl⟩
        have hge71 : ¬ qs[k].b.sets[j].length > 40 := by omega
        refine T.skip (T.region ?_)
        refine TO.quiet (q_move rfl) (TO.quiet (q_addN (a := j) (b := 1) rfl rfl (by omega)) (TO.quiet (q_assign rfl) ?_))
        refine TO.nil ?_
        exact ⟨j + 1, by omega, rfl, by omega, hnl, any_snoc hlt59 hj2 (decide_eq_false (by omega)), ⟨rfl, rfl, rfl, trivial⟩⟩
      have hge59 : ¬ j < qs[k].b.sets.length := by omega
      refine T.exit ?_
      refine T.region ?_
      refine TO.quiet (q_move rfl) (TO.quiet (q_addN (a := k) (b := 1) rfl rfl (by omega)) (TO.quiet (q_assign rfl) ?_))
      refine TO.nil ?_
      refine ⟨k + 1, by omega, rfl, by omega, any_snoc hlt8 hany ?_, ⟨rfl, rfl, trivial⟩⟩
      show longB _ = false
      unfold longB; rw [hnl, any_done (by omega) hj2]; rfl
    refine TO.guarded rfl rfl rfl (LT.of_quiet rfl rfl (QT.toB (q_move rfl) (decide_eq_false hs43)) ?_)
    refine TO.passed rfl rfl ?_
    refine TO.passed rfl rfl ?_
    refine TO.passed rfl rfl ?_
    refine TO.passed rfl rfl ?_
    refine TO.passed rfl rfl ?_
    refine TO.passed rfl rfl ?_
    refine TO.guarded rfl rfl rfl (LT.of_quiet rfl rfl (q_pick0 rfl rfl) ?_)
    refine TO.quiet (q_pick0 rfl rfl) ?_
    refine TO.nil ?_
    refine T.cond0 rfl ?_
    refine T.skip (T.seq (T.region ?_))
    refine TO.quiet (q_assign rfl) ?_
    refine TO.nil (T.block ?_)
    refine T.loop (fun (j : Nat) ρ O => O = [] ∧ j ≤ qs[k].b.sets.length ∧ longN qs[k].b = false ∧ (qs[k].b.sets.take j).any (fun r => decide (40 < r.length)) = false ∧ Heads [(0, (.slice b qs.length c)), (3, .int .i64 (k : Int)), (4, .int .i64 (j : Int))] ρ) (fun j => qs[k].b.sets.length - j) 0 ?_ ?_
    · refine ⟨rfl, Nat.zero_le _, decide_eq_false (by omega), rfl, ⟨rfl, rfl, rfl, trivial⟩⟩
    rintro j ρ O ⟨rfl, hj, hnl, hj2, hH⟩
    obtain ⟨ρ0, rfl⟩ := hH.elim
    clear hH
    refine T.seq (T.seq (T.region ?_))
    refine TO.quiet (q_move rfl) (TO.quiet (q_move rfl) (TO.quiet (q_move rfl) (TO.quiet (q_ixK (i := k) Try.underlying71 inf26 rfl rfl (Sl.o hS) (by first | assumption | omega | (simp; omega) | simp_all) (by first | (rw [bus_len]; omega) | (simp [bus_len]; omega) | (simp_all [bus_len]; omega))) ?_)))
    refine TO.quiet (q_fieldEl Try.underlying26 rfl inf24 rfl rfl (Sl.o hS) (by first | (rw [bus_len]; omega) | (simp [bus_len]; omega) | (simp_all [bus_len]; omega))) (TO.quiet (q_ld Try.underlying24 rfl rfl (Sl.o hS) (bus_get (by first | assumption | omega | (simp; omega) | simp_all) 4 (by decide))) (TO.quiet (q_len Try.underlying24 rfl) (TO.quiet (q_lss rfl rfl) ?_)))
    refine TO.nil ?_
    refine T.condP rfl (fun hc => ?_) (fun hc => ?_)
    · have hlt59 : j < qs[k].b.sets.length := by omega
      obtain ⟨vb, vc, g1, s1⟩ := (hq _ (List.getElem_mem hlt8)).rows.get hlt59
      refine T.skip (T.seq (T.block (T.seq (T.region ?_))))
      refine TO.quiet (q_move rfl) (TO.quiet (q_move rfl) (TO.quiet (q_ixK (i := k) Try.underlying71 inf26 rfl rfl (Sl.o hS) (by first | assumption | omega | (simp; omega) | simp_all) (by first | (rw [bus_len]; omega) | (simp [bus_len]; omega) | (simp_all [bus_len]; omega))) (TO.quiet (q_fieldEl Try.underlying26 rfl inf24 rfl rfl (Sl.o hS) (by first | (rw [bus_len]; omega) | (simp [bus_len]; omega) | (simp_all [bus_len]; omega))) ?_)))
      refine TO.quiet (q_ld Try.underlying24 rfl rfl (Sl.o hS) (bus_get (by first | assumption | omega | (simp; omega) | simp_all) 4 (by decide))) (TO.quiet (q_move rfl) (TO.quiet (q_ix (i := j) Try.underlying24 inf22 rfl rfl (Sl.o (hq _ (List.getElem_mem hlt8)).out) (by first | assumption | omega | (simp; omega) | simp_all) (by rw [hvl]; exact hlt59)) (TO.quiet (q_ld Try.underlying22 rfl rfl (Sl.o (hq _ (List.getElem_mem hlt8)).out) g1) ?_)))
      refine TO.quiet (q_len Try.underlying22 rfl) (TO.quiet (q_gtr rfl rfl) ?_)
      refine TO.nil ?_
      refine T.condP rfl (fun hc => ?_) (fun hc => ?_)
      · have hlt71 : qs[k].b.sets[j].length > 40 := by omega
        refine T.seq (T.region ?_)
        refine TO.quiet (q_assign rfl) ?_
        refine TO.nil (T.ret ?_)
        refine Res.one (.bool true) Try.results11 rfl ?_
        exact ⟨congrArg Value.bool ((any_hit hlt8 (show longB _ = true by unfold longB; rw [any_hit hlt59 (decide_eq_true (by omega))]; simp)).symm), rfl⟩
      have hge71 : ¬ qs[k].b.sets[j].length > 40 := by omega
      refine T.skip (T.region ?_)
      refine TO.quiet (q_move rfl) (TO.quiet (q_addN (a := j) (b := 1) rfl rfl (by omega)) (TO.quiet (q_assign rfl) ?_))
      refine TO.nil ?_
      exact ⟨j + 1, by omega, rfl, by omega, hnl, any_snoc hlt59 hj2 (decide_eq_false (by omega)), ⟨rfl, rfl, rfl, trivial⟩⟩
    have hge59 : ¬ j < qs[k].b.sets.length := by omega
    refine T.exit ?_
    refine T.region ?_
    refine TO.quiet (q_move rfl) (TO.quiet (q_addN (a := k) (b := 1) rfl rfl (by omega)) (TO.quiet (q_assign rfl) ?_))
    refine TO.nil ?_
    refine ⟨k + 1, by omega, rfl, by omega, any_snoc hlt8 hany ?_, ⟨rfl, rfl, trivial⟩⟩
    show longB _ = false
    unfold longB; rw [hnl, any_done (by omega) hj2]; rfl
  have hge8 : ¬ k < qs.length := by omega
  refine T.exit ?_
  refine T.seq (T.region ?_)
  refine TO.quiet (q_assign rfl) ?_
  refine TO.nil (T.ret ?_)
  refine Res.one (.bool false) Try.results11 rfl ?_
  exact ⟨congrArg Value.bool ((any_done (by omega) hany).symm), rfl⟩
set_option maxHeartbeats 1000000 in
set_option maxRecDepth 20000 in
theorem longLF (w : World) (b : Option Addr) (c : Nat) (qs : List LaRef) (hS : Sl w b (lasC qs)) (hb : qs.length < 9223372036854775807) :
    PureT Try.prog 12 [.slice b qs.length c] w fun v N => v = .bool (qs.any fun q => longL q.l) ∧ N = [] := by
  refine CallT.enter Try.func12 rfl Try.ntmps12 rfl ?_
  refine T.seq (T.region ?_)
  refine TO.quiet (q_assign rfl) ?_
  refine TO.nil (T.seq (T.seq (T.region ?_)))
  refine TO.quiet (q_assign rfl) ?_
  refine TO.nil (T.block ?_)
  refine T.loop (fun (k : Nat) ρ O => O = [] ∧ k ≤ qs.length ∧ (qs.take k).any (fun q => longL q.l) = false ∧ Heads [(0, (.slice b qs.length c)), (3, .int .i64 (k : Int))] ρ) (fun k => qs.length - k) 0 ?_ ?_
  · exact ⟨rfl, Nat.zero_le _, rfl, ⟨rfl, rfl, trivial⟩⟩
  rintro k ρ O ⟨rfl, hk, hany, hH⟩
  obtain ⟨ρ0, rfl⟩ := hH.elim
  clear hH
  refine T.seq (T.seq (T.region ?_))
  refine TO.quiet (q_move rfl) (TO.quiet (q_move rfl) (TO.quiet (q_len Try.underlying72 rfl) (TO.quiet (q_lss rfl rfl) ?_)))
  refine TO.nil ?_
  refine T.condP rfl (fun hc => ?_) (fun hc => ?_)
  · have hlt7 : k < qs.length := by omega
    refine T.skip (T.seq (T.block (T.seq (T.region ?_))))
    refine TO.quiet (q_move rfl) (TO.quiet (q_move rfl) (TO.quiet (q_ixK (i := k) Try.underlying72 inf29 rfl rfl (Sl.o hS) (by first | assumption | omega | (simp; omega) | simp_all) (by first | (rw [las_len]; omega) | (simp [las_len]; omega) | (simp_all [las_len]; omega))) (TO.quiet (q_fieldEl Try.underlying29 rfl inf27 rfl rfl (Sl.o hS) (by first | (rw [las_len]; omega) | (simp [las_len]; omega) | (simp_all [las_len]; omega))) ?_)))
    refine TO.quiet (q_ld Try.underlying27 rfl rfl (Sl.o hS) (las_get (by first | assumption | omega | (simp; omega) | simp_all) 0 (by decide))) (TO.quiet (q_len Try.underlying27 rfl) (TO.quiet (q_gtr rfl rfl) ?_))
    by_cases hs17 : (qs[k].l.pre.length : Int) > 70
    · refine TO.quiet (QT.toB (q_move rfl) (decide_eq_true hs17)) ?_
      refine TO.passed rfl rfl ?_
      refine TO.passed rfl rfl ?_
      refine TO.passed rfl rfl ?_
      refine TO.passed rfl rfl ?_
      refine TO.passed rfl rfl ?_
      refine TO.passed rfl rfl ?_
      refine TO.passed rfl rfl ?_
      refine TO.quiet (q_pick1 rfl rfl) ?_
      refine TO.nil ?_
      refine T.cond1 rfl ?_
      refine T.seq (T.region ?_)
      refine TO.quiet (q_assign rfl) ?_
      refine TO.nil (T.ret ?_)
      refine Res.one (.bool true) Try.results12 rfl ?_
      exact ⟨congrArg Value.bool ((any_hit hlt7 (show longL _ = true from decide_eq_true (by omega))).symm), rfl⟩
    refine TO.quiet (QT.toB (q_move rfl) (decide_eq_false hs17)) ?_
    refine TO.guarded rfl rfl rfl (LT.of_quiet rfl rfl (q_move rfl) ?_)
    refine TO.guarded rfl rfl rfl (LT.of_quiet rfl rfl (q_move rfl) ?_)
    refine TO.guarded rfl rfl rfl (LT.of_quiet rfl rfl (q_ixK (i := k) Try.underlying72 inf29 rfl rfl (Sl.o hS) (by first | assumption | omega | (simp; omega) | simp_all) (by first | (rw [las_len]; omega) | (simp [las_len]; omega) | (simp_all [las_len]; omega))) ?_)
    refine TO.guarded rfl rfl rfl (LT.of_quiet rfl rfl (q_fieldEl Try.underlying29 rfl inf27 rfl rfl (Sl.o hS) (by first | (rw [las_len]; omega) | (simp [las_len]; omega) | (simp_all [las_len]; omega))) ?_)
    refine TO.guarded rfl rfl rfl (LT.of_quiet rfl rfl (q_ld Try.underlying27 rfl rfl (Sl.o hS) (las_get (by first | assumption | omega | (simp; omega) | simp_all) 1 (by decide))) ?_)
    refine TO.guarded rfl rfl rfl (LT.of_quiet rfl rfl (q_len Try.underlying27 rfl) ?_)
    refine TO.guarded rfl rfl rfl (LT.of_quiet rfl rfl (q_gtr rfl rfl) ?_)
    refine TO.quiet (q_pick0 rfl rfl) ?_
    refine TO.nil ?_
    refine T.condP rfl (fun hc => ?_) (fun hc => ?_)
    · have hlt25 : qs[k].l.loop.length > 70 := by omega
      refine T.seq (T.region ?_)
      refine TO.quiet (q_assign rfl) ?_
      refine TO.nil (T.ret ?_)
      refine Res.one (.bool true) Try.results12 rfl ?_
      exact ⟨congrArg Value.bool ((any_hit hlt7 (show longL _ = true from decide_eq_true (by omega))).symm), rfl⟩
    have hge25 : ¬ qs[k].l.loop.length > 70 := by omega
    refine T.skip (T.region ?_)
    refine TO.quiet (q_move rfl) (TO.quiet (q_addN (a := k) (b := 1) rfl rfl (by omega)) (TO.quiet (q_assign rfl) ?_))
    refine TO.nil ?_
    exact ⟨k + 1, by omega, rfl, by omega, any_snoc hlt7 hany (decide_eq_false (by omega)), ⟨rfl, rfl, trivial⟩⟩
  have hge7 : ¬ k < qs.length := by omega
  refine T.exit ?_
  refine T.seq (T.region ?_)
  refine TO.quiet (q_assign rfl) ?_
  refine TO.nil (T.ret ?_)
  refine Res.one (.bool false) Try.results12 rfl ?_
  exact ⟨congrArg Value.bool ((any_done (by omega) hany).symm), rfl⟩
set_option maxHeartbeats 1000000 in
set_option maxRecDepth 20000 in
theorem fairF (w : World) (l : La) (pb lb : Option Addr) (pc lc : Nat) (hb : l.pre.length ≤ 1000000000000) (hb2 : l.loop.length ≤ 1000000000000) :
    PureT Try.prog 13 [.agg (laCells l pb pc lb lc).toArray] w fun v N => v = .bool (decide (l.n ≤ 16)) ∧ N = [] := by
  refine CallT.enter Try.func13 rfl Try.ntmps13 rfl ?_
  refine T.seq (T.region ?_)
  refine TO.loud rfl (l_box (v := (.agg (laCells l pb pc lb lc).toArray)) (cs := (laCells l pb pc lb lc)) rfl rfl (fun bx1 => ?_))
  refine TO.quiet (q_assign rfl) ?_
  refine TO.nil (T.seq (T.region ?_))
  refine TO.quiet (q_fieldAddr Try.underlying29 rfl inf27 rfl rfl) (TO.quiet (q_load_box 0 Try.underlying27 rfl rfl rfl rfl) (TO.quiet (q_len Try.underlying27 rfl) (TO.quiet (q_fieldAddr Try.underlying29 rfl inf27 rfl rfl) ?_)))
  refine TO.quiet (q_load_box 0 Try.underlying27 rfl rfl rfl rfl) (TO.quiet (q_len Try.underlying27 rfl) (TO.quiet (q_addN (a := l.pre.length) (b := l.loop.length) rfl rfl (by omega)) (TO.quiet (q_leq rfl rfl) ?_)))
  refine TO.quiet (q_assign rfl) ?_
  refine TO.nil (T.ret (Res.drop ?_))
  refine Res.one (.bool (decide (((l.pre.length + l.loop.length : Nat) : Int) ≤ 16))) Try.results13 rfl ?_
  exact ⟨[], Sub.of (List.nil_sublist _), congrArg Value.bool (decide_eq_decide.2 (by show ((l.pre.length + l.loop.length : Nat) : Int) ≤ 16 ↔ l.pre.length + l.loop.length ≤ 16; omega)), rfl⟩
set_option maxHeartbeats 1000000 in
set_option maxRecDepth 20000 in
theorem statesF (w : World) (b : Option Addr) (c : Nat) (xs : List Int) (n : Int) (h : Sl w b (ints xs)) (hb : xs.length ≤ 1000000) :
    PureT Try.prog 64 [.slice b xs.length c, .int .i64 n] w fun v N => v = .bool (rises n (-1) xs) ∧ N = [] := by
  refine CallT.enter Try.func64 rfl Try.ntmps64 rfl ?_
  refine T.seq (T.region ?_)
  refine TO.quiet (q_assign rfl) ?_
  refine TO.nil (T.seq (T.region ?_))
  refine TO.quiet (q_assign rfl) ?_
  refine TO.nil (T.seq (T.seq (T.region ?_)))
  refine TO.quiet (q_move rfl) (TO.quiet (q_len Try.underlying22 rfl) (TO.quiet (q_move rfl) ?_))
  refine TO.nil (T.block ?_)
  refine T.loop (fun (k : Nat) ρ O => ∃ (a : Int), O = [] ∧ k ≤ xs.length ∧ rises n a (xs.drop k) = rises n (-1) xs ∧ Heads [(0, (.slice b xs.length c)), (1, .int .i64 n), (5, .int .i64 a), (8, (.slice b xs.length c)), (9, .int .i64 (xs.length : Int)), (10, .int .i64 (k : Int))] ρ) (fun k => xs.length - k) 0 ?_ ?_
  · exact ⟨-1, rfl, Nat.zero_le _, rfl, ⟨rfl, rfl, rfl, rfl, rfl, rfl, trivial⟩⟩
  rintro k ρ O ⟨a, rfl, hk, hr, hH⟩
  obtain ⟨ρ0, rfl⟩ := hH.elim
  clear hH
  refine T.seq (T.region ?_)
  refine TO.quiet (q_lss rfl rfl) ?_
  refine TO.nil (T.seq ?_)
  refine T.condP rfl (fun hc => ?_) (fun hc => ?_)
  · have hlt11 : k < xs.length := by omega
    refine T.skip (T.seq (T.block (T.seq (T.region ?_))))
    refine TO.quiet (q_ix (i := k) Try.underlying22 inf3 rfl rfl (Sl.o h)) (TO.quiet (q_ld Try.underlying3 rfl rfl (Sl.o h) ints_get) (TO.quiet (q_assign rfl) ?_))
    refine TO.nil (T.seq (T.seq (T.region ?_)))
    refine TO.quiet (q_move rfl) (TO.quiet (q_move rfl) (TO.quiet (q_leq rfl rfl) ?_))
    by_cases hs17 : xs[k] ≤ a
    · refine TO.quiet (QT.toB (q_move rfl) (decide_eq_true hs17)) ?_
      refine TO.passed rfl rfl ?_
      refine TO.passed rfl rfl ?_
      refine TO.passed rfl rfl ?_
      refine TO.quiet (q_pick1 rfl rfl) ?_
      refine TO.nil ?_
      refine T.cond1 rfl ?_
      refine T.seq (T.region ?_)
      refine TO.quiet (q_assign rfl) ?_
      refine TO.nil (T.ret ?_)
      refine Res.one (.bool false) Try.results64 rfl ?_
      exact ⟨congrArg Value.bool (by rw [← hr, rises_no hlt11 (by omega)]), rfl⟩
    refine TO.quiet (QT.toB (q_move rfl) (decide_eq_false hs17)) ?_
    refine TO.guarded rfl rfl rfl (LT.of_quiet rfl rfl (q_move rfl) ?_)
    refine TO.guarded rfl rfl rfl (LT.of_quiet rfl rfl (q_move rfl) ?_)
    refine TO.guarded rfl rfl rfl (LT.of_quiet rfl rfl (q_geq rfl rfl) ?_)
    refine TO.quiet (q_pick0 rfl rfl) ?_
    refine TO.nil ?_
    refine T.condP rfl (fun hc => ?_) (fun hc => ?_)
    · refine T.seq ?_
      refine T.region ?_
      refine TO.quiet (q_assign rfl) ?_
      refine TO.nil (T.ret ?_)
      refine Res.one (.bool false) Try.results64 rfl ?_
      exact ⟨congrArg Value.bool (by rw [← hr, rises_no hlt11 (by omega)]), rfl⟩
    refine T.skip (T.region ?_)
    refine TO.quiet (q_move rfl) (TO.quiet (q_assign rfl) ?_)
    refine TO.nil (T.region ?_)
    refine TO.quiet (q_addN (a := k) (b := 1) rfl rfl (by omega)) (TO.quiet (q_move rfl) ?_)
    refine TO.nil ?_
    exact ⟨k + 1, by omega, xs[k], rfl, by omega, by rw [← hr, rises_yes hlt11 (by omega) (by omega)], ⟨rfl, rfl, rfl, rfl, rfl, rfl, trivial⟩⟩
  have hge11 : ¬ k < xs.length := by omega
  refine T.exit ?_
  refine T.seq (T.region ?_)
  refine TO.quiet (q_assign rfl) ?_
  refine TO.nil (T.ret ?_)
  refine Res.one (.bool true) Try.results64 rfl ?_
  exact ⟨congrArg Value.bool (by rw [← hr, rises_end (by omega)]), rfl⟩
end Go.Proofs.Ytnamoapbienooaa


namespace Go.Proofs.Ytnamoapbienooaa
open Go.Lx Go.RowKit
set_option linter.unusedVariables false
set_option linter.unusedSimpArgs false
set_option maxHeartbeats 1000000 in
set_option maxRecDepth 20000 in
theorem checkF (w : World) (b : Bu) (sb eb tb : Option Addr) (sc ec tc : Nat) (vs : List Value) (h : BuAt w b sb eb tb vs) (hB : BuB b) :
    PureT Try.prog 21 [.agg (buCells b sb sc eb ec tb tc).toArray] w fun v N => v = .int .i64 (checkB b : Int) ∧ N = [] := by
  refine CallT.enter Try.func21 rfl Try.ntmps21 rfl ?_
  have hst := hB.st; have hed := hB.ed; have hse := hB.se
  have hR : RowsR w (.slice sb b.start.length sc :: vs) (b.start :: b.sets) := h.rows.cons h.st
  have hvl := h.rows.1
  refine T.seq (T.region ?_)
  refine TO.loud rfl (l_box (v := (.agg (buCells b sb sc eb ec tb tc).toArray)) (cs := (buCells b sb sc eb ec tb tc)) rfl rfl (fun bx1 => ?_))
  refine TO.quiet (q_assign rfl) ?_
  refine TO.nil (T.seq (T.block (T.seq (T.region ?_))))
  refine TO.quiet (q_fieldAddr Try.underlying26 rfl inf3 rfl rfl) (TO.quiet (q_load_box 0 Try.underlying3 rfl rfl rfl rfl) (TO.quiet (q_lss rfl rfl) ?_))
  by_cases hs11 : b.vars < 0
  · refine TO.quiet (QT.toB (q_move rfl) (decide_eq_true hs11)) ?_
    refine TO.passed rfl rfl ?_
    refine TO.passed rfl rfl ?_
    refine TO.passed rfl rfl ?_
    refine TO.quiet (q_pick1 rfl rfl) (TO.quiet (q_assign rfl) ?_)
    refine TO.nil ?_
    refine T.cond1 rfl ?_
    refine T.seq (T.region ?_)
    refine TO.quiet (q_assign rfl) ?_
    refine TO.nil (T.ret (Res.drop ?_))
    refine Res.one (.int .i64 7) Try.results21 rfl ?_
    refine ⟨[], Sub.of (List.nil_sublist _), congrArg (fun z : Nat => Value.int .i64 (z : Int)) (Eq.symm (a := checkB b) (b := 7) ?_), rfl⟩
    exact checkB_7 (by omega)
  refine TO.quiet (QT.toB (q_move rfl) (decide_eq_false hs11)) ?_
  refine TO.guarded rfl rfl rfl (LT.of_quiet rfl rfl (q_fieldAddr Try.underlying26 rfl inf3 rfl rfl) ?_)
  refine TO.guarded rfl rfl rfl (LT.of_quiet rfl rfl (q_load_box 0 Try.underlying3 rfl rfl rfl rfl) ?_)
  refine TO.guarded rfl rfl rfl (LT.of_quiet rfl rfl (q_gtr rfl rfl) ?_)
  refine TO.quiet (q_pick0 rfl rfl) (TO.quiet (q_assign rfl) ?_)
  refine TO.nil ?_
  refine T.condP rfl (fun hc => ?_) (fun hc => ?_)
  · refine T.seq ?_
    refine T.region ?_
    refine TO.quiet (q_assign rfl) ?_
    refine TO.nil (T.ret (Res.drop ?_))
    refine Res.one (.int .i64 7) Try.results21 rfl ?_
    refine ⟨[], Sub.of (List.nil_sublist _), congrArg (fun z : Nat => Value.int .i64 (z : Int)) (Eq.symm (a := checkB b) (b := 7) ?_), rfl⟩
    exact checkB_7 (by omega)
  refine T.seq (T.region ?_)
  refine TO.quiet (q_fieldAddr Try.underlying26 rfl inf3 rfl rfl) (TO.quiet (q_load_box 0 Try.underlying3 rfl rfl rfl rfl) (TO.quiet (q_lss rfl rfl) (TO.quiet (q_assign rfl) ?_)))
  refine TO.nil ?_
  refine T.condP rfl (fun hc => ?_) (fun hc => ?_)
  · refine T.seq ?_
    refine T.region ?_
    refine TO.quiet (q_assign rfl) ?_
    refine TO.nil (T.ret (Res.drop ?_))
    refine Res.one (.int .i64 1) Try.results21 rfl ?_
    refine ⟨[], Sub.of (List.nil_sublist _), congrArg (fun z : Nat => Value.int .i64 (z : Int)) (Eq.symm (a := checkB b) (b := 1) ?_), rfl⟩
    exact checkB_1 (by omega) (by omega)
  refine T.seq (T.region ?_)
  refine TO.quiet (q_fieldAddr Try.underlying26 rfl inf3 rfl rfl) (TO.quiet (q_load_box 0 Try.underlying3 rfl rfl rfl rfl) (TO.quiet (q_gtr rfl rfl) (TO.quiet (q_assign rfl) ?_)))
  refine TO.nil ?_
  refine T.condP rfl (fun hc => ?_) (fun hc => ?_)
  · refine T.seq ?_
    refine T.region ?_
    refine TO.quiet (q_assign rfl) ?_
    refine TO.nil (T.ret (Res.drop ?_))
    refine Res.one (.int .i64 10) Try.results21 rfl ?_
    refine ⟨[], Sub.of (List.nil_sublist _), congrArg (fun z : Nat => Value.int .i64 (z : Int)) (Eq.symm (a := checkB b) (b := 10) ?_), rfl⟩
    exact checkB_10 (by omega) (by omega) (by omega)
  refine T.seq (T.region ?_)
  refine TO.quiet (q_fieldAddr Try.underlying26 rfl inf24 rfl rfl) (TO.quiet (q_load_box 0 Try.underlying24 rfl rfl rfl rfl) (TO.quiet (q_len Try.underlying24 rfl) (TO.quiet (q_gtr rfl rfl) ?_)))
  refine TO.quiet (q_assign rfl) ?_
  refine TO.nil ?_
  refine T.condP rfl (fun hc => ?_) (fun hc => ?_)
  · have hlt24 : b.sets.length > 8 := by omega
    refine T.seq (T.region ?_)
    refine TO.quiet (q_assign rfl) ?_
    refine TO.nil (T.ret (Res.drop ?_))
    refine Res.one (.int .i64 4) Try.results21 rfl ?_
    refine ⟨[], Sub.of (List.nil_sublist _), congrArg (fun z : Nat => Value.int .i64 (z : Int)) (Eq.symm (a := checkB b) (b := 4) ?_), rfl⟩
    exact checkB_4 (by omega) (by omega) (by omega) (by omega)
  have hge24 : ¬ b.sets.length > 8 := by omega
  refine T.skip (T.seq (T.seq (T.region ?_)))
  refine TO.quiet (q_fieldAddr Try.underlying26 rfl inf22 rfl rfl) (TO.quiet (q_load_box 0 Try.underlying22 rfl rfl rfl rfl) ?_)
  refine TO.loud rfl (l_build1 (v := (.slice sb b.start.length sc)) Try.underlying24 inf22 rfl rfl rfl (fun bx2 => ?_))
  refine TO.quiet (q_fieldAddr Try.underlying26 rfl inf24 rfl rfl) (TO.quiet (q_load_box 1 Try.underlying24 rfl rfl rfl rfl) ?_)
  refine TO.loud rfl (l_append 0 Try.underlying24 Try.underlying24 inf22 rfl rfl rfl rfl (by simp) (by decide) (Src.sl h.out (by rw [hvl]; simp)) (RowsR.one h.rows) (by omega) (by decide) (by decide) (fun bx3 c4 => ?_))
  refine TO.quiet (q_len Try.underlying24 rfl) (TO.quiet (q_move rfl) ?_)
  refine TO.nil (T.block ?_)
  have hR1 : ∀ r ∈ b.start :: b.sets, r.length ≤ 1000000 := fun r hr => by
    rcases List.mem_cons.1 hr with rfl | hr
    · exact hst
    · exact hB.sr r hr
  refine T.loop (fun (k : Nat) ρ O => O = [rowI bx3 c4 22 1 ([(.slice sb b.start.length sc)] ++ vs), oI bx1 26 (buCells b sb sc eb ec tb tc)] ∧ k ≤ 1 + b.sets.length ∧ ((b.start :: b.sets).take k).all (rises b.states (-1)) = true ∧ Heads [(0, (.agg (buCells b sb sc eb ec tb tc).toArray)), (1, (.pointer (some ⟨bx1, 0, none⟩))), (7, .bool (decide (b.vars > 6))), (16, .bool (decide (b.states < 0))), (20, .bool (decide (b.states > 4096))), (24, .bool (decide ((b.sets.length : Int) > 8))), (34, (.slice bx3 (1 + b.sets.length) c4)), (35, .int .i64 (1 + b.sets.length : Int)), (36, .int .i64 (k : Int))] ρ) (fun k => (1 + b.sets.length) - k) 0 ?_ ?_
  · exact ⟨rfl, Nat.zero_le _, rfl, ⟨rfl, rfl, rfl, rfl, rfl, rfl, rfl, rfl, rfl, trivial⟩⟩
  rintro k ρ O ⟨rfl, hk, hall, hH⟩
  obtain ⟨ρ0, rfl⟩ := hH.elim
  clear hH
  refine T.seq (T.region ?_)
  refine TO.quiet (q_lss rfl rfl) ?_
  refine TO.nil (T.seq ?_)
  refine T.condP rfl (fun hc => ?_) (fun hc => ?_)
  · have hlt37 : k < 1 + b.sets.length := by omega
    have hkl : k < (b.start :: b.sets).length := by simp; omega
    obtain ⟨rb, rc, g1, s1⟩ := hR.get hkl
    refine T.skip (T.seq (T.block (T.seq (T.region ?_))))
    refine TO.quiet (q_ix (i := k) Try.underlying24 inf22 rfl rfl (rowO (List.mem_of_getElem? (i := 0) rfl)) (by first | assumption | omega | (simp; omega) | simp_all) (by show k < (Value.slice sb b.start.length sc :: vs).length; rw [hR.1]; exact hkl)) (TO.quiet (q_ld Try.underlying22 rfl rfl (rowO (List.mem_of_getElem? (i := 0) rfl)) g1) (TO.quiet (q_assign rfl) ?_))
    refine TO.nil (T.seq (T.region ?_))
    refine TO.quiet (q_move rfl) (TO.quiet (q_fieldAddr Try.underlying26 rfl inf3 rfl rfl) (TO.quiet (q_load_box 1 Try.underlying3 rfl rfl rfl rfl) ?_))
    have hk43 := fun (w1 : World) (hI : Inv w [rowI bx3 c4 22 1 ([(.slice sb b.start.length sc)] ++ vs), oI bx1 26 (buCells b sb sc eb ec tb tc)] w1) => statesF w1 rb rc (b.start :: b.sets)[k] b.states (hI.sl s1) (hR1 _ (List.getElem_mem hkl))
    refine TO.loud rfl (l_call ent64 (CallT.of_pure hk43) rfl ?_)
    clear hk43
    rintro vr O' ⟨N, rfl, rfl, rfl⟩
    refine TO.quiet (q_not rfl) ?_
    refine TO.nil ?_
    refine T.cond rfl (fun hc => ?_) (fun hc => ?_)
    · refine T.seq ?_
      refine T.region ?_
      refine TO.quiet (q_assign rfl) ?_
      refine TO.nil (T.ret (Res.drop ?_))
      refine Res.one (.int .i64 8) Try.results21 rfl ?_
      refine ⟨[], Sub.of (List.nil_sublist _), congrArg (fun z : Nat => Value.int .i64 (z : Int)) (Eq.symm (a := checkB b) (b := 8) ?_), rfl⟩
      exact checkB_8 (by omega) (by omega) (by omega) (by omega) (all_no hkl (by simpa using hc))
    refine T.skip (T.region ?_)
    refine TO.quiet (q_addN (a := k) (b := 1) rfl rfl (by omega)) (TO.quiet (q_move rfl) ?_)
    refine TO.nil ?_
    exact ⟨k + 1, by omega, rfl, by omega, all_snoc hkl hall (by simpa using hc), ⟨rfl, rfl, rfl, rfl, rfl, rfl, rfl, rfl, rfl, trivial⟩⟩
  have hge37 : ¬ k < 1 + b.sets.length := by omega
  refine T.exit ?_
  refine T.seq (T.seq (T.region ?_))
  refine TO.quiet (q_fieldAddr Try.underlying26 rfl inf23 rfl rfl) (TO.quiet (q_load_box 1 Try.underlying23 rfl rfl rfl rfl) (TO.quiet (q_len Try.underlying23 rfl) (TO.quiet (q_move rfl) ?_)))
  refine TO.nil (T.block ?_)
  refine T.sub (O' := [oI bx1 26 (buCells b sb sc eb ec tb tc)]) (Sub.pick [1] rfl) ?_
  refine T.loopS (fun (j : Nat) ρ O => O = [oI bx1 26 (buCells b sb sc eb ec tb tc)] ∧ j ≤ b.edges.length ∧ edgesE b.states b.vars.toNat (b.edges.drop j) = checkB b ∧ Heads [(0, (.agg (buCells b sb sc eb ec tb tc).toArray)), (1, (.pointer (some ⟨bx1, 0, none⟩))), (7, .bool (decide (b.vars > 6))), (16, .bool (decide (b.states < 0))), (20, .bool (decide (b.states > 4096))), (24, .bool (decide ((b.sets.length : Int) > 8))), (47, (.slice eb b.edges.length ec)), (48, .int .i64 (b.edges.length : Int)), (49, .int .i64 (j : Int))] ρ) (fun j => b.edges.length - j) 0 ?_ ?_
  · exact ⟨rfl, Nat.zero_le _, (checkB_e (by omega) (by omega) (by omega) (by omega) (all_done (by simp; omega) hall)).symm, ⟨rfl, rfl, rfl, rfl, rfl, rfl, rfl, rfl, rfl, trivial⟩⟩
  rintro j ρ O ⟨rfl, hj, he, hH⟩
  obtain ⟨ρ0, rfl⟩ := hH.elim
  clear hH
  refine T.seq (T.region ?_)
  refine TO.quiet (q_lss rfl rfl) ?_
  refine TO.nil (T.seq ?_)
  refine T.condP rfl (fun hc => ?_) (fun hc => ?_)
  · have hlt50 : j < b.edges.length := by omega
    have hpn := hB.pn _ (List.getElem_mem hlt50)
    refine T.skip (T.seq (T.block (T.seq (T.region ?_))))
    refine TO.quiet (q_ixK (i := j) Try.underlying23 inf54 rfl rfl (Sl.o h.ed) (by first | assumption | omega | (simp; omega) | simp_all) (by first | (rw [eds_len]; omega) | (simp [eds_len]; omega) | (simp_all [eds_len]; omega))) (TO.quiet (q_ldK (vs := [.int .i64 b.edges[j].fr, .int .i64 b.edges[j].to, .int .u8 ((b.edges[j].pos : Nat) : Int), .int .u8 ((b.edges[j].neg : Nat) : Int)]) Try.underlying54 rfl inf54 rfl rfl (Nat.succ_pos _) (Sl.o h.ed) (eds_get (by first | assumption | omega | (simp; omega) | simp_all))) ?_)
    refine TO.loud rfl (l_alloc inf54 rfl (fun bx5 => ?_))
    refine TO.loud rfl (l_store_box (v := (.agg #[.int .i64 b.edges[j].fr, .int .i64 b.edges[j].to, .int .u8 ((b.edges[j].pos : Nat) : Int), .int .u8 ((b.edges[j].neg : Nat) : Int)])) (vs := [.int .i64 b.edges[j].fr, .int .i64 b.edges[j].to, .int .u8 ((b.edges[j].pos : Nat) : Int), .int .u8 ((b.edges[j].neg : Nat) : Int)]) 0 inf54 rfl rfl rfl rfl rfl rfl (by simp [putL]) ?_)
    refine TO.nil (T.block (T.seq (T.region ?_)))
    refine TO.quiet (q_fieldAddr Try.underlying54 rfl inf3 rfl rfl) (TO.quiet (q_load_box 0 Try.underlying3 rfl rfl rfl rfl) (TO.quiet (q_lss rfl rfl) ?_))
    by_cases hs57 : b.edges[j].fr < 0
    · refine TO.quiet (QT.toB (q_move rfl) (decide_eq_true hs57)) ?_
      refine TO.passed rfl rfl ?_
      refine TO.passed rfl rfl ?_
      refine TO.passed rfl rfl ?_
      refine TO.passed rfl rfl ?_
      refine TO.passed rfl rfl ?_
      refine TO.quiet (q_pick1 rfl rfl) (TO.quiet (q_move rfl) ?_)
      refine TO.passed rfl rfl ?_
      refine TO.passed rfl rfl ?_
      refine TO.passed rfl rfl ?_
      refine TO.quiet (q_pick1 rfl rfl) (TO.quiet (q_move rfl) ?_)
      refine TO.passed rfl rfl ?_
      refine TO.passed rfl rfl ?_
      refine TO.passed rfl rfl ?_
      refine TO.passed rfl rfl ?_
      refine TO.passed rfl rfl ?_
      refine TO.quiet (q_pick1 rfl rfl) (TO.quiet (q_assign rfl) ?_)
      refine TO.nil ?_
      refine T.cond1 rfl ?_
      refine T.seq (T.region ?_)
      refine TO.quiet (q_assign rfl) ?_
      refine TO.nil (T.ret (Res.drop ?_))
      refine Res.one (.int .i64 8) Try.results21 rfl ?_
      refine ⟨[], Sub.of (List.nil_sublist _), congrArg (fun z : Nat => Value.int .i64 (z : Int)) (Eq.symm (a := checkB b) (b := 8) ?_), rfl⟩
      rw [← he]; exact edges_8 hlt50 (by omega)
    refine TO.quiet (QT.toB (q_move rfl) (decide_eq_false hs57)) ?_
    refine TO.guarded rfl rfl rfl (LT.of_quiet rfl rfl (q_fieldAddr Try.underlying54 rfl inf3 rfl rfl) ?_)
    refine TO.guarded rfl rfl rfl (LT.of_quiet rfl rfl (q_load_box 0 Try.underlying3 rfl rfl rfl rfl) ?_)
    refine TO.guarded rfl rfl rfl (LT.of_quiet rfl rfl (q_fieldAddr Try.underlying26 rfl inf3 rfl rfl) ?_)
    refine TO.guarded rfl rfl rfl (LT.of_quiet rfl rfl (q_load_box 1 Try.underlying3 rfl rfl rfl rfl) ?_)
    refine TO.guarded rfl rfl rfl (LT.of_quiet rfl rfl (q_geq rfl rfl) ?_)
    refine TO.quiet (q_pick0 rfl rfl) ?_
    by_cases hs64 : b.edges[j].fr ≥ b.states
    · refine TO.quiet (QT.toB (q_move rfl) (decide_eq_true hs64)) ?_
      refine TO.passed rfl rfl ?_
      refine TO.passed rfl rfl ?_
      refine TO.passed rfl rfl ?_
      refine TO.quiet (q_pick1 rfl rfl) (TO.quiet (q_move rfl) ?_)
      refine TO.passed rfl rfl ?_
      refine TO.passed rfl rfl ?_
      refine TO.passed rfl rfl ?_
      refine TO.passed rfl rfl ?_
      refine TO.passed rfl rfl ?_
      refine TO.quiet (q_pick1 rfl rfl) (TO.quiet (q_assign rfl) ?_)
      refine TO.nil ?_
      refine T.cond1 rfl ?_
      refine T.seq (T.region ?_)
      refine TO.quiet (q_assign rfl) ?_
      refine TO.nil (T.ret (Res.drop ?_))
      refine Res.one (.int .i64 8) Try.results21 rfl ?_
      refine ⟨[], Sub.of (List.nil_sublist _), congrArg (fun z : Nat => Value.int .i64 (z : Int)) (Eq.symm (a := checkB b) (b := 8) ?_), rfl⟩
      rw [← he]; exact edges_8 hlt50 (by omega)
    refine TO.quiet (QT.toB (q_move rfl) (decide_eq_false hs64)) ?_
    refine TO.guarded rfl rfl rfl (LT.of_quiet rfl rfl (q_fieldAddr Try.underlying54 rfl inf3 rfl rfl) ?_)
    refine TO.guarded rfl rfl rfl (LT.of_quiet rfl rfl (q_load_box 0 Try.underlying3 rfl rfl rfl rfl) ?_)
    refine TO.guarded rfl rfl rfl (LT.of_quiet rfl rfl (q_lss rfl rfl) ?_)
    refine TO.quiet (q_pick0 rfl rfl) ?_
    by_cases hs69 : b.edges[j].to < 0
    · refine TO.quiet (QT.toB (q_move rfl) (decide_eq_true hs69)) ?_
      refine TO.passed rfl rfl ?_
      refine TO.passed rfl rfl ?_
      refine TO.passed rfl rfl ?_
      refine TO.passed rfl rfl ?_
      refine TO.passed rfl rfl ?_
      refine TO.quiet (q_pick1 rfl rfl) (TO.quiet (q_assign rfl) ?_)
      refine TO.nil ?_
      refine T.cond1 rfl ?_
      refine T.seq (T.region ?_)
      refine TO.quiet (q_assign rfl) ?_
      refine TO.nil (T.ret (Res.drop ?_))
      refine Res.one (.int .i64 8) Try.results21 rfl ?_
      refine ⟨[], Sub.of (List.nil_sublist _), congrArg (fun z : Nat => Value.int .i64 (z : Int)) (Eq.symm (a := checkB b) (b := 8) ?_), rfl⟩
      rw [← he]; exact edges_8 hlt50 (by omega)
    refine TO.quiet (QT.toB (q_move rfl) (decide_eq_false hs69)) ?_
    refine TO.guarded rfl rfl rfl (LT.of_quiet rfl rfl (q_fieldAddr Try.underlying54 rfl inf3 rfl rfl) ?_)
    refine TO.guarded rfl rfl rfl (LT.of_quiet rfl rfl (q_load_box 0 Try.underlying3 rfl rfl rfl rfl) ?_)
    refine TO.guarded rfl rfl rfl (LT.of_quiet rfl rfl (q_fieldAddr Try.underlying26 rfl inf3 rfl rfl) ?_)
    refine TO.guarded rfl rfl rfl (LT.of_quiet rfl rfl (q_load_box 1 Try.underlying3 rfl rfl rfl rfl) ?_)
    refine TO.guarded rfl rfl rfl (LT.of_quiet rfl rfl (q_geq rfl rfl) ?_)
    refine TO.quiet (q_pick0 rfl rfl) (TO.quiet (q_assign rfl) ?_)
    refine TO.nil ?_
    refine T.condP rfl (fun hc => ?_) (fun hc => ?_)
    · refine T.seq ?_
      refine T.region ?_
      refine TO.quiet (q_assign rfl) ?_
      refine TO.nil (T.ret (Res.drop ?_))
      refine Res.one (.int .i64 8) Try.results21 rfl ?_
      refine ⟨[], Sub.of (List.nil_sublist _), congrArg (fun z : Nat => Value.int .i64 (z : Int)) (Eq.symm (a := checkB b) (b := 8) ?_), rfl⟩
      rw [← he]; exact edges_8 hlt50 (by omega)
    refine T.seq ?_
    refine T.draws _ [(0, 0), (1, 0), (2, 0), (3, 0), (4, 0), (5, 0), (6, 0), (7, 0), (8, 0), (9, 0), (10, 0), (11, 0), (12, 0), (13, 0), (14, 0), (15, 0), (16, 0), (17, 0), (18, 0)] mixed (by kernel_rfl) (Sub.of (List.Sublist.refl _)) (fun _ _ _ h => h) ?_
    refine DO.quiet rfl (q_fieldAddr Try.underlying54 rfl inf5 rfl rfl) (DO.quiet rfl (q_load_box 0 Try.underlying5 rfl rfl rfl rfl) (DO.quiet rfl (q_fieldAddr Try.underlying54 rfl inf5 rfl rfl) (DO.quiet rfl (q_load_box 0 Try.underlying5 rfl rfl rfl rfl) ?_)))
    refine DO.quiet rfl (q_or (a := b.edges[j].pos) (b := b.edges[j].neg) .u8 rfl rfl (by show _ < 256; omega) (by show _ < 256; omega)) (DO.quiet rfl (q_conv_id Try.underlying5 Try.underlying3 rfl (wrap64_id ⟨by omega, by have := Nat.or_lt_two_pow (n := 8) hpn.1 hpn.2; omega⟩)) (DO.quiet rfl (q_fieldAddr Try.underlying26 rfl inf3 rfl rfl) (DO.quiet rfl (q_load_box 1 Try.underlying3 rfl rfl rfl rfl) ?_)))
    refine DO.quiet rfl (q_shl1 (v := b.vars.toNat) rfl (by show Value.int _ b.vars = _; rw [Int.toNat_of_nonneg (by omega)]) (by omega)) (DO.quiet rfl (q_geq rfl rfl) ?_)
    by_cases hs87 : ((b.edges[j].pos ||| b.edges[j].neg : Nat) : Int) ≥ ((2 ^ b.vars.toNat : Nat) : Int)
    · refine DO.quiet rfl (QT.toB (q_move rfl) (decide_eq_true hs87)) ?_
      refine DO.passed rfl rfl rfl ?_
      refine DO.passed rfl rfl rfl ?_
      refine DO.passed rfl rfl rfl ?_
      refine DO.passed rfl rfl rfl ?_
      refine DO.passed rfl rfl rfl ?_
      refine DO.passed rfl rfl rfl ?_
      refine DO.quiet rfl (q_pick1 rfl rfl) (DO.quiet rfl (q_assign rfl) ?_)
      refine DO.done ?_
      refine T.cond1 rfl ?_
      refine T.seq (T.region ?_)
      refine TO.quiet (q_assign rfl) ?_
      refine TO.nil (T.ret (Res.drop ?_))
      refine Res.one (.int .i64 1) Try.results21 rfl ?_
      refine ⟨[], Sub.of (List.nil_sublist _), congrArg (fun z : Nat => Value.int .i64 (z : Int)) (Eq.symm (a := checkB b) (b := 1) ?_), rfl⟩
      rw [← he]; exact edges_1 hlt50 (by omega) (fun q => by have := or_lt.2 ⟨q.1, q.2.1⟩; have := q.2.2; omega)
    refine DO.quiet rfl (QT.toB (q_move rfl) (decide_eq_false hs87)) ?_
    refine DO.guarded rfl rfl rfl (q_fieldAddr Try.underlying54 rfl inf5 rfl rfl) ?_
    refine DO.guarded rfl rfl rfl (q_load_box 0 Try.underlying5 rfl rfl rfl rfl) ?_
    refine DO.guarded rfl rfl rfl (q_fieldAddr Try.underlying54 rfl inf5 rfl rfl) ?_
    refine DO.guarded rfl rfl rfl (q_load_box 0 Try.underlying5 rfl rfl rfl rfl) ?_
    refine DO.guarded rfl rfl rfl (q_and (a := b.edges[j].pos) (b := b.edges[j].neg) .u8 rfl rfl (by show _ < 256; omega) (by show _ < 256; omega)) ?_
    refine DO.guarded rfl rfl rfl (q_neq rfl rfl) ?_
    refine DO.quiet rfl (q_pick0 rfl rfl) (DO.quiet rfl (q_assign rfl) ?_)
    refine DO.done ?_
    refine T.condP rfl (fun hc => ?_) (fun hc => ?_)
    · have hlt76 : b.edges[j].pos &&& b.edges[j].neg ≠ 0 := by omega
      refine T.seq (T.region ?_)
      refine TO.quiet (q_assign rfl) ?_
      refine TO.nil (T.ret (Res.drop ?_))
      refine Res.one (.int .i64 1) Try.results21 rfl ?_
      refine ⟨[], Sub.of (List.nil_sublist _), congrArg (fun z : Nat => Value.int .i64 (z : Int)) (Eq.symm (a := checkB b) (b := 1) ?_), rfl⟩
      rw [← he]; exact edges_1 hlt50 (by omega) (fun q => by have := or_lt.2 ⟨q.1, q.2.1⟩; have := q.2.2; omega)
    have hge76 : ¬ b.edges[j].pos &&& b.edges[j].neg ≠ 0 := by omega
    refine T.skip (T.region ?_)
    refine TO.quiet (q_addN (a := j) (b := 1) rfl rfl (by omega)) (TO.quiet (q_move rfl) ?_)
    refine TO.nil ?_
    have hpl : b.edges[j].pos ||| b.edges[j].neg < 2 ^ b.vars.toNat := by omega
    exact ⟨j + 1, by omega, [oI bx1 26 (buCells b sb sc eb ec tb tc)], (Sub.pick [1] rfl), rfl, by omega, by rw [← he, edges_0 hlt50 (by omega) ⟨(or_lt.1 hpl).1, (or_lt.1 hpl).2, by omega⟩], ⟨rfl, rfl, rfl, rfl, rfl, rfl, rfl, rfl, rfl, trivial⟩⟩
  have hge50 : ¬ j < b.edges.length := by omega
  refine T.exit ?_
  refine T.seq (T.region ?_)
  refine TO.quiet (q_assign rfl) ?_
  refine TO.nil (T.ret (Res.drop ?_))
  refine Res.one (.int .i64 0) Try.results21 rfl ?_
  refine ⟨[], Sub.of (List.nil_sublist _), congrArg (fun z : Nat => Value.int .i64 (z : Int)) (Eq.symm (a := checkB b) (b := 0) ?_), rfl⟩
  rw [← he, List.drop_eq_nil_of_le (by omega)]; rfl
end Go.Proofs.Ytnamoapbienooaa


namespace Go.Proofs.Ytnamoapbienooaa
open Go.Lx Go.RowKit
set_option linter.unusedVariables false
set_option linter.unusedSimpArgs false
abbrev tarO (nb mb : Option Addr) (nc mn mc : Nat) (full : Int) (nx : List (List Int)) (xc xi xl xs xg xv xp xn : Nat) (ib lb pb : Option Addr) (ic lc pc : Nat) (s : TL) (sb : Option Addr) (sc : Nat) : List Lx.Item := [objI xc (.cells (List.toArray [(.int .i64 (s.clk : Int))]) 3 (0, 0)), objI xi (.cells (List.toArray [(.slice ib nx.length ic)]) 22 (0, 0)), objI xl (.cells (List.toArray [(.slice lb nx.length lc)]) 22 (0, 0)), objI xs (.cells (List.toArray [(.slice sb s.stk.length sc)]) 22 (0, 0)), objI xg (.cells (List.toArray [(.slice nb nx.length nc), (.slice mb mn mc), .int .u64 full]) 79 (0, 0)), objI xv (.cells (List.toArray [(.func (.func 107) #[] #[(.pointer (some ⟨xc, 0, none⟩)), (.pointer (some ⟨xi, 0, none⟩)), (.pointer (some ⟨xl, 0, none⟩)), (.pointer (some ⟨xs, 0, none⟩)), (.pointer (some ⟨xg, 0, none⟩)), (.pointer (some ⟨xv, 0, none⟩)), (.pointer (some ⟨xp, 0, none⟩)), (.pointer (some ⟨xn, 0, none⟩))])]) 104 (0, 0)), objI xp (.cells (List.toArray [(.slice pb nx.length pc)]) 22 (0, 0)), objI xn (.cells (List.toArray [(.int .i64 (s.cnt : Int))]) 3 (0, 0)), rowI ib ic 3 1 (nats s.idx), rowI lb lc 3 1 (nats s.low), rowI sb sc 3 1 (nats s.stk), rowI pb pc 3 1 (ints s.comp)]
set_option maxHeartbeats 1000000 in
set_option maxRecDepth 20000 in
theorem visitF (base : World) (nb mb : Option Addr) (nc mn mc : Nat) (full : Int) (vs : List Value) (nx : List (List Int)) (hS : Sl base nb vs) (hR : RowsR base vs nx) (hn : nx.length ≤ 1000000) (hrl : ∀ r ∈ nx, r.length ≤ 1000000) (hval : ∀ r ∈ nx, ∀ x ∈ r, 0 ≤ x ∧ x < (nx.length : Int)) (xc xi xl xs xg xv xp xn : Nat) (ib lb pb : Option Addr) (ic lc pc : Nat) :
    ∀ (m : Nat) (s : TL) (sb : Option Addr) (sc : Nat) (gray : List Nat) (v : Nat) (hm : s.idx.count 0 = m) (hok : TLok nx.length s) (h0 : TInv nx.length (adjE nx) gray s.ts) (hv : v < nx.length) (hv0 : s.idx[v]'(by rw [hok.li]; exact hv) = 0) (hg : ∀ g ∈ gray, Rch (adjE nx) g v),
    CallT Try.prog base 107 [.int .i64 (v : Int), (.pointer (some ⟨xc, 0, none⟩)), (.pointer (some ⟨xi, 0, none⟩)), (.pointer (some ⟨xl, 0, none⟩)), (.pointer (some ⟨xs, 0, none⟩)), (.pointer (some ⟨xg, 0, none⟩)), (.pointer (some ⟨xv, 0, none⟩)), (.pointer (some ⟨xp, 0, none⟩)), (.pointer (some ⟨xn, 0, none⟩))] (tarO nb mb nc mn mc full nx xc xi xl xs xg xv xp xn ib lb pb ic lc pc s sb sc) (fun _ O' => ∃ s' sb' sc' t, O' = tarO nb mb nc mn mc full nx xc xi xl xs xg xv xp xn ib lb pb ic lc pc s' sb' sc' ∧ VDone nx.length nx gray s v s' t) := by
  intro m
  induction m using Nat.strongRecOn with
  | _ m ih => ?_
  intro s sb sc gray v hm hok h0 hv hv0 hg
  refine CallT.enter Try.func107 rfl Try.ntmps107 rfl ?_
  have hli := hok.li; have hll := hok.ll; have hlc := hok.lc; have hck := hok.ck; have hsk := hok.sk
  obtain ⟨rb, rc, g1, s1⟩ := hR.get hv
  have hrv := hrl _ (List.getElem_mem hv)
  refine T.seq (T.region ?_)
  refine TO.quiet (q_load_box 0 Try.underlying3 rfl rfl rfl rfl) (TO.quiet (q_addN (a := s.clk) (b := 1) rfl rfl (by omega)) ?_)
  refine TO.loud rfl (l_store_box (v := .int .i64 ((s.clk + 1 : Nat) : Int)) (vs := [(.int .i64 ((s.clk + 1 : Nat) : Int))]) 0 inf3 rfl rfl rfl rfl rfl rfl (by simp [putL]) ?_)
  refine TO.nil (T.seq ?_)
  refine T.draws2 [oI xc 3 [(.int .i64 ((s.clk + 1 : Nat) : Int))], oI xi 22 [(.slice ib nx.length ic)], oI xl 22 [(.slice lb nx.length lc)], oI xs 22 [(.slice sb s.stk.length sc)], oI xg 79 [(.slice nb nx.length nc), (.slice mb mn mc), .int .u64 full], oI xv 104 [(.func (.func 107) #[] #[(.pointer (some ⟨xc, 0, none⟩)), (.pointer (some ⟨xi, 0, none⟩)), (.pointer (some ⟨xl, 0, none⟩)), (.pointer (some ⟨xs, 0, none⟩)), (.pointer (some ⟨xg, 0, none⟩)), (.pointer (some ⟨xv, 0, none⟩)), (.pointer (some ⟨xp, 0, none⟩)), (.pointer (some ⟨xn, 0, none⟩))])], oI xp 22 [(.slice pb nx.length pc)], oI xn 3 [(.int .i64 (s.cnt : Int))], rowI lb lc 3 1 (nats s.low), rowI sb sc 3 1 (nats s.stk), rowI pb pc 3 1 (ints s.comp)] [oI xc 3 [(.int .i64 ((s.clk + 1 : Nat) : Int))], oI xi 22 [(.slice ib nx.length ic)], oI xl 22 [(.slice lb nx.length lc)], oI xs 22 [(.slice sb s.stk.length sc)], oI xg 79 [(.slice nb nx.length nc), (.slice mb mn mc), .int .u64 full], oI xv 104 [(.func (.func 107) #[] #[(.pointer (some ⟨xc, 0, none⟩)), (.pointer (some ⟨xi, 0, none⟩)), (.pointer (some ⟨xl, 0, none⟩)), (.pointer (some ⟨xs, 0, none⟩)), (.pointer (some ⟨xg, 0, none⟩)), (.pointer (some ⟨xv, 0, none⟩)), (.pointer (some ⟨xp, 0, none⟩)), (.pointer (some ⟨xn, 0, none⟩))])], oI xp 22 [(.slice pb nx.length pc)], oI xn 3 [(.int .i64 (s.cnt : Int))], rowI ib ic 3 1 (nats s.idx), rowI lb lc 3 1 (nats s.low), rowI sb sc 3 1 (nats s.stk), rowI pb pc 3 1 (ints s.comp)] [(0, 0), (1, 0), (2, 0), (3, 0), (4, 0), (5, 0), (6, 3), (7, 4), (8, 0), (9, 2)] mixed (by kernel_rfl) (Sub.pick [0, 0, 0, 0, 0, 0, 0, 0, 1, 1, 1] rfl) (Sub.pick [0, 0, 0, 0, 0, 0, 0, 0, 0, 0, 0, 0] rfl) (fun _ _ _ h => h) ?_
  refine DO.quiet rfl (q_load_box 1 Try.underlying22 rfl rfl rfl rfl) (DO.quiet rfl (q_move rfl) (DO.quiet rfl (q_load_box 2 Try.underlying22 rfl rfl rfl rfl) (DO.quiet rfl (q_move rfl) ?_)))
  refine DO.quiet rfl (q_load_box 0 Try.underlying3 rfl rfl rfl rfl) (DO.quiet rfl (q_load_box 0 Try.underlying3 rfl rfl rfl rfl) ?_)
  refine DO.quiet2 rfl (q_ix (i := v) Try.underlying22 inf3 rfl rfl (rowO (List.mem_of_getElem? (i := 8) rfl))) ?_
  refine DO.last2 rfl rfl (l_st (j := v) (v := (.int .i64 ((s.clk + 1 : Nat) : Int))) (vs := [(.int .i64 ((s.clk + 1 : Nat) : Int))]) (cs := nats s.idx) 8 inf3 rfl rfl rfl rfl rfl (by simp) rfl (by first | (simp; omega) | (simp_all; omega)) ⟨Sub.pick [0, 0, 0, 0, 0, 0, 0, 0, 1, 1, 1] rfl, ?_⟩)
  refine DO.sub (O' := [oI xc 3 [(.int .i64 ((s.clk + 1 : Nat) : Int))], oI xi 22 [(.slice ib nx.length ic)], oI xl 22 [(.slice lb nx.length lc)], oI xs 22 [(.slice sb s.stk.length sc)], oI xg 79 [(.slice nb nx.length nc), (.slice mb mn mc), .int .u64 full], oI xv 104 [(.func (.func 107) #[] #[(.pointer (some ⟨xc, 0, none⟩)), (.pointer (some ⟨xi, 0, none⟩)), (.pointer (some ⟨xl, 0, none⟩)), (.pointer (some ⟨xs, 0, none⟩)), (.pointer (some ⟨xg, 0, none⟩)), (.pointer (some ⟨xv, 0, none⟩)), (.pointer (some ⟨xp, 0, none⟩)), (.pointer (some ⟨xn, 0, none⟩))])], oI xp 22 [(.slice pb nx.length pc)], oI xn 3 [(.int .i64 (s.cnt : Int))], rowI ib ic 3 1 (nats (s.idx.set v (s.clk + 1))), rowI lb lc 3 1 (nats s.low), rowI sb sc 3 1 (nats s.stk), rowI pb pc 3 1 (ints s.comp)]) (by rw [show putL (nats s.idx) v [(.int .i64 ((s.clk + 1 : Nat) : Int))] = nats (s.idx.set v (s.clk + 1)) from (by simp [putL])]; exact Sub.of (List.Sublist.refl _)) ?_
  refine DO.quiet rfl (q_ix (i := v) Try.underlying22 inf3 rfl rfl (rowO (List.mem_of_getElem? (i := 8) rfl))) ?_
  refine DO.last rfl rfl (l_st (j := v) (v := (.int .i64 ((s.clk + 1 : Nat) : Int))) (vs := [(.int .i64 ((s.clk + 1 : Nat) : Int))]) (cs := nats s.low) 9 inf3 rfl rfl rfl rfl rfl (by simp) rfl (by first | (simp; omega) | (simp_all; omega)) ?_)
  refine DO.sub (O' := [oI xc 3 [(.int .i64 ((s.clk + 1 : Nat) : Int))], oI xi 22 [(.slice ib nx.length ic)], oI xl 22 [(.slice lb nx.length lc)], oI xs 22 [(.slice sb s.stk.length sc)], oI xg 79 [(.slice nb nx.length nc), (.slice mb mn mc), .int .u64 full], oI xv 104 [(.func (.func 107) #[] #[(.pointer (some ⟨xc, 0, none⟩)), (.pointer (some ⟨xi, 0, none⟩)), (.pointer (some ⟨xl, 0, none⟩)), (.pointer (some ⟨xs, 0, none⟩)), (.pointer (some ⟨xg, 0, none⟩)), (.pointer (some ⟨xv, 0, none⟩)), (.pointer (some ⟨xp, 0, none⟩)), (.pointer (some ⟨xn, 0, none⟩))])], oI xp 22 [(.slice pb nx.length pc)], oI xn 3 [(.int .i64 (s.cnt : Int))], rowI ib ic 3 1 (nats (s.idx.set v (s.clk + 1))), rowI lb lc 3 1 (nats (s.low.set v (s.clk + 1))), rowI sb sc 3 1 (nats s.stk), rowI pb pc 3 1 (ints s.comp)]) (by rw [show putL (nats s.low) v [(.int .i64 ((s.clk + 1 : Nat) : Int))] = nats (s.low.set v (s.clk + 1)) from (by simp [putL])]; exact Sub.of (List.Sublist.refl _)) ?_
  refine DO.done ?_
  refine T.seq (T.region ?_)
  refine TO.quiet (q_load_box 3 Try.underlying22 rfl rfl rfl rfl) (TO.quiet (q_move rfl) ?_)
  refine TO.loud rfl (l_build1 (v := .int .i64 (v : Int)) Try.underlying22 inf3 rfl rfl rfl (fun bx1 => ?_))
  refine TO.loud rfl (l_append 11 Try.underlying22 Try.underlying22 inf3 rfl rfl rfl rfl (by simp) (by decide) (Src.row (j := 0) rfl (by simp)) (by simp [oneB]) (by omega) (by decide) (by decide) (fun bx2 c3 => ?_))
  refine TO.loud rfl (l_store_box (v := (.slice bx2 (s.stk.length + 1) c3)) (vs := [(.slice bx2 (s.stk.length + 1) c3)]) 4 inf22 rfl rfl rfl rfl rfl rfl (by simp [putL]) ?_)
  refine TO.sub (O' := [oI xc 3 [(.int .i64 ((s.clk + 1 : Nat) : Int))], oI xi 22 [(.slice ib nx.length ic)], oI xl 22 [(.slice lb nx.length lc)], oI xs 22 [(.slice bx2 (s.stk.length + 1) c3)], oI xg 79 [(.slice nb nx.length nc), (.slice mb mn mc), .int .u64 full], oI xv 104 [(.func (.func 107) #[] #[(.pointer (some ⟨xc, 0, none⟩)), (.pointer (some ⟨xi, 0, none⟩)), (.pointer (some ⟨xl, 0, none⟩)), (.pointer (some ⟨xs, 0, none⟩)), (.pointer (some ⟨xg, 0, none⟩)), (.pointer (some ⟨xv, 0, none⟩)), (.pointer (some ⟨xp, 0, none⟩)), (.pointer (some ⟨xn, 0, none⟩))])], oI xp 22 [(.slice pb nx.length pc)], oI xn 3 [(.int .i64 (s.cnt : Int))], rowI ib ic 3 1 (nats (s.idx.set v (s.clk + 1))), rowI lb lc 3 1 (nats (s.low.set v (s.clk + 1))), rowI bx2 c3 3 1 ((nats s.stk) ++ [.int .i64 (v : Int)]), rowI pb pc 3 1 (ints s.comp)]) (Sub.pick [1, 1, 1, 1, 1, 1, 1, 1, 1, 1, 1, 1] rfl) ?_
  refine TO.nil (T.seq (T.seq (T.region ?_)))
  refine TO.quiet (q_fieldAddr Try.underlying79 rfl inf24 rfl rfl) (TO.quiet (q_load_box 4 Try.underlying24 rfl rfl rfl rfl) (TO.quiet (q_move rfl) (TO.quiet (q_ix (i := v) Try.underlying24 inf22 rfl rfl (Sl.o hS) (by first | assumption | omega | (simp; omega) | simp_all) (by rw [hR.1]; exact hv)) ?_)))
  refine TO.quiet (q_ld Try.underlying22 rfl rfl (Sl.o hS) g1) (TO.quiet (q_len Try.underlying22 rfl) (TO.quiet (q_move rfl) ?_))
  refine TO.nil (T.block ?_)
  refine T.loop (fun (k : Nat) ρ O => ∃ (z : TL) (zb : Option Addr) (zc : Nat) (t : List Nat), O = [oI xc 3 [(.int .i64 (z.clk : Int))], oI xi 22 [(.slice ib nx.length ic)], oI xl 22 [(.slice lb nx.length lc)], oI xs 22 [(.slice zb z.stk.length zc)], oI xg 79 [(.slice nb nx.length nc), (.slice mb mn mc), .int .u64 full], oI xv 104 [(.func (.func 107) #[] #[(.pointer (some ⟨xc, 0, none⟩)), (.pointer (some ⟨xi, 0, none⟩)), (.pointer (some ⟨xl, 0, none⟩)), (.pointer (some ⟨xs, 0, none⟩)), (.pointer (some ⟨xg, 0, none⟩)), (.pointer (some ⟨xv, 0, none⟩)), (.pointer (some ⟨xp, 0, none⟩)), (.pointer (some ⟨xn, 0, none⟩))])], oI xp 22 [(.slice pb nx.length pc)], oI xn 3 [(.int .i64 (z.cnt : Int))], rowI ib ic 3 1 (nats z.idx), rowI lb lc 3 1 (nats z.low), rowI zb zc 3 1 (nats z.stk), rowI pb pc 3 1 (ints z.comp)] ∧ k ≤ nx[v].length ∧ VRun nx.length nx gray s v k z t ∧ Heads [(0, .int .i64 (v : Int)), (1, (.pointer (some ⟨xc, 0, none⟩))), (2, (.pointer (some ⟨xi, 0, none⟩))), (3, (.pointer (some ⟨xl, 0, none⟩))), (4, (.pointer (some ⟨xs, 0, none⟩))), (5, (.pointer (some ⟨xg, 0, none⟩))), (6, (.pointer (some ⟨xv, 0, none⟩))), (7, (.pointer (some ⟨xp, 0, none⟩))), (8, (.pointer (some ⟨xn, 0, none⟩))), (31, (.slice rb nx[v].length rc)), (32, .int .i64 (nx[v].length : Int)), (33, .int .i64 (k : Int))] ρ) (fun k => nx[v].length - k) 0 ?_ ?_
  · exact ⟨{ s with idx := s.idx.set v (s.clk + 1), low := s.low.set v (s.clk + 1), stk := s.stk ++ [v], clk := s.clk + 1 }, bx2, c3, [], (by simp only [List.length_append, List.length_cons, List.length_nil, List.map_append, List.map_cons, List.map_nil]), Nat.zero_le _, VRun.enter hok h0 hv hv0 hg, ⟨rfl, rfl, rfl, rfl, rfl, rfl, rfl, rfl, rfl, rfl, rfl, rfl, trivial⟩⟩
  rintro k ρ O ⟨z, zb, zc, t, rfl, hk, hr, hH⟩
  obtain ⟨ρ0, rfl⟩ := hH.elim
  clear hH
  have hli := hr.ok.li; have hll := hr.ok.ll; have hlc := hr.ok.lc; have hzc := hr.ok.ct
  refine T.seq (T.region ?_)
  refine TO.quiet (q_lss rfl rfl) ?_
  refine TO.nil (T.seq ?_)
  refine T.condP rfl (fun hc => ?_) (fun hc => ?_)
  · have hlt34 : k < nx[v].length := by omega
    obtain ⟨u, hu, hul⟩ : ∃ u : Nat, nx[v][k] = (u : Int) ∧ u < nx.length := by
      have := hval _ (List.getElem_mem hv) _ (List.getElem_mem hlt34)
      exact ⟨nx[v][k].toNat, by omega, by omega⟩
    refine T.skip (T.seq (T.block (T.seq (T.region ?_))))
    refine TO.quiet (q_ix (i := k) Try.underlying22 inf3 rfl rfl (Sl.o s1)) (TO.quiet (q_ld Try.underlying3 rfl rfl (Sl.o s1) (show (ints nx[v])[k]? = _ by rw [ints_get hlt34, hu])) (TO.quiet (q_assign rfl) ?_))
    refine TO.nil (T.seq (T.region ?_))
    refine TO.quiet (q_load_box 1 Try.underlying22 rfl rfl rfl rfl) (TO.quiet (q_move rfl) (TO.quiet (q_ix (i := u) Try.underlying22 inf3 rfl rfl (rowO (List.mem_of_getElem? (i := 8) rfl))) (TO.quiet (q_ld Try.underlying3 rfl rfl (rowO (List.mem_of_getElem? (i := 8) rfl)) nats_get) ?_)))
    refine TO.quiet (q_eql rfl rfl) ?_
    refine TO.nil ?_
    refine T.condP rfl (fun hc => ?_) (fun hc => ?_)
    · have hlt41 : z.idx[u] = 0 := by omega
      refine T.seq (T.region ?_)
      refine TO.quiet (q_load_box 5 Try.underlying104 rfl rfl rfl rfl) (TO.quiet (q_move rfl) ?_)
      have hk44 := CallV.of_fn (first := []) (args := [.int .i64 (u : Int)]) (caps := [(.pointer (some ⟨xc, 0, none⟩)), (.pointer (some ⟨xi, 0, none⟩)), (.pointer (some ⟨xl, 0, none⟩)), (.pointer (some ⟨xs, 0, none⟩)), (.pointer (some ⟨xg, 0, none⟩)), (.pointer (some ⟨xv, 0, none⟩)), (.pointer (some ⟨xp, 0, none⟩)), (.pointer (some ⟨xn, 0, none⟩))]) ent107 (ih _ (by have := hr.lt; omega) z zb zc (gray ++ [v]) u rfl hr.ok hr.lp.inv hul (by omega) (hr.child hg hv hlt34 hu))
      refine TO.loud rfl (l_callG hk44 rfl rfl ?_)
      clear hk44
      rintro vr O' ⟨z2, zb2, zc2, t2, rfl, hd2⟩
      have hli2 := hd2.ok.li; have hll2 := hd2.ok.ll; have hlc2 := hd2.ok.lc
      refine TO.nil ?_
      refine T.draws _ [(0, 0), (1, 0), (2, 0), (3, 0), (4, 0), (5, 0), (6, 0), (7, 0), (8, 0), (9, 0), (10, 0), (11, 0), (12, 2)] mixed (by kernel_rfl) (Sub.of (List.Sublist.refl _)) (fun _ _ _ h => h) ?_
      refine DO.quiet rfl (q_load_box 2 Try.underlying22 rfl rfl rfl rfl) (DO.quiet rfl (q_move rfl) (DO.quiet rfl (q_load_box 2 Try.underlying22 rfl rfl rfl rfl) (DO.quiet rfl (q_move rfl) ?_)))
      refine DO.quiet rfl (q_ix (i := v) Try.underlying22 inf3 rfl rfl (rowO (List.mem_of_getElem? (i := 9) rfl))) (DO.quiet rfl (q_ld Try.underlying3 rfl rfl (rowO (List.mem_of_getElem? (i := 9) rfl)) nats_get) (DO.quiet rfl (q_load_box 2 Try.underlying22 rfl rfl rfl rfl) (DO.quiet rfl (q_move rfl) ?_)))
      refine DO.quiet rfl (q_ix (i := u) Try.underlying22 inf3 rfl rfl (rowO (List.mem_of_getElem? (i := 9) rfl))) (DO.quiet rfl (q_ld Try.underlying3 rfl rfl (rowO (List.mem_of_getElem? (i := 9) rfl)) nats_get) (DO.quiet rfl (q_minN (a := z2.low[v]) (b := z2.low[u]) rfl rfl) (DO.quiet rfl (q_ix (i := v) Try.underlying22 inf3 rfl rfl (rowO (List.mem_of_getElem? (i := 9) rfl))) ?_)))
      refine DO.last rfl rfl (l_st (j := v) (v := .int .i64 ((min z2.low[v] z2.low[u] : Nat) : Int)) (vs := [(.int .i64 ((min z2.low[v] z2.low[u] : Nat) : Int))]) (cs := nats z2.low) 9 inf3 rfl rfl rfl rfl rfl (by simp) rfl (by first | (simp; omega) | (simp_all; omega)) ?_)
      refine DO.sub (O' := [oI xc 3 [(.int .i64 (z2.clk : Int))], oI xi 22 [(.slice ib nx.length ic)], oI xl 22 [(.slice lb nx.length lc)], oI xs 22 [(.slice zb2 z2.stk.length zc2)], oI xg 79 [(.slice nb nx.length nc), (.slice mb mn mc), .int .u64 full], oI xv 104 [(.func (.func 107) #[] #[(.pointer (some ⟨xc, 0, none⟩)), (.pointer (some ⟨xi, 0, none⟩)), (.pointer (some ⟨xl, 0, none⟩)), (.pointer (some ⟨xs, 0, none⟩)), (.pointer (some ⟨xg, 0, none⟩)), (.pointer (some ⟨xv, 0, none⟩)), (.pointer (some ⟨xp, 0, none⟩)), (.pointer (some ⟨xn, 0, none⟩))])], oI xp 22 [(.slice pb nx.length pc)], oI xn 3 [(.int .i64 (z2.cnt : Int))], rowI ib ic 3 1 (nats z2.idx), rowI lb lc 3 1 (nats (z2.low.set v (min z2.low[v] z2.low[u]))), rowI zb2 zc2 3 1 (nats z2.stk), rowI pb pc 3 1 (ints z2.comp)]) (by rw [show putL (nats z2.low) v [(.int .i64 ((min z2.low[v] z2.low[u] : Nat) : Int))] = nats (z2.low.set v (min z2.low[v] z2.low[u])) from (by simp [putL])]; exact Sub.of (List.Sublist.refl _)) ?_
      refine DO.done ?_
      refine T.region ?_
      refine TO.quiet (q_addN (a := k) (b := 1) rfl rfl (by omega)) (TO.quiet (q_move rfl) ?_)
      refine TO.nil ?_
      exact ⟨k + 1, by omega, { z2 with low := z2.low.set v (min z2.low[v] z2.low[u]) }, zb2, zc2, t ++ t2, rfl, by omega, hr.tree h0 hv hv hlt34 hu (by rw [gd (by omega)]; omega) hd2 (by rw [gd (by omega), gd (by omega)]), ⟨rfl, rfl, rfl, rfl, rfl, rfl, rfl, rfl, rfl, rfl, rfl, rfl, trivial⟩⟩
    have hge41 : ¬ z.idx[u] = 0 := by omega
    refine T.seq (T.region ?_)
    refine TO.quiet (q_load_box 6 Try.underlying22 rfl rfl rfl rfl) (TO.quiet (q_move rfl) (TO.quiet (q_ix (i := u) Try.underlying22 inf3 rfl rfl (rowO (List.mem_of_getElem? (i := 11) rfl))) (TO.quiet (q_ld Try.underlying3 rfl rfl (rowO (List.mem_of_getElem? (i := 11) rfl)) ints_get) ?_)))
    refine TO.quiet (q_lss rfl rfl) ?_
    refine TO.nil ?_
    refine T.condP rfl (fun hc => ?_) (fun hc => ?_)
    · refine T.draws _ [(0, 0), (1, 0), (2, 0), (3, 0), (4, 0), (5, 0), (6, 0), (7, 0), (8, 0), (9, 0), (10, 0), (11, 0), (12, 2)] mixed (by kernel_rfl) (Sub.of (List.Sublist.refl _)) (fun _ _ _ h => h) ?_
      refine DO.quiet rfl (q_load_box 2 Try.underlying22 rfl rfl rfl rfl) (DO.quiet rfl (q_move rfl) (DO.quiet rfl (q_load_box 2 Try.underlying22 rfl rfl rfl rfl) (DO.quiet rfl (q_move rfl) ?_)))
      refine DO.quiet rfl (q_ix (i := v) Try.underlying22 inf3 rfl rfl (rowO (List.mem_of_getElem? (i := 9) rfl))) (DO.quiet rfl (q_ld Try.underlying3 rfl rfl (rowO (List.mem_of_getElem? (i := 9) rfl)) nats_get) (DO.quiet rfl (q_load_box 1 Try.underlying22 rfl rfl rfl rfl) (DO.quiet rfl (q_move rfl) ?_)))
      refine DO.quiet rfl (q_ix (i := u) Try.underlying22 inf3 rfl rfl (rowO (List.mem_of_getElem? (i := 8) rfl))) (DO.quiet rfl (q_ld Try.underlying3 rfl rfl (rowO (List.mem_of_getElem? (i := 8) rfl)) nats_get) (DO.quiet rfl (q_minN (a := z.low[v]) (b := z.idx[u]) rfl rfl) (DO.quiet rfl (q_ix (i := v) Try.underlying22 inf3 rfl rfl (rowO (List.mem_of_getElem? (i := 9) rfl))) ?_)))
      refine DO.last rfl rfl (l_st (j := v) (v := .int .i64 ((min z.low[v] z.idx[u] : Nat) : Int)) (vs := [(.int .i64 ((min z.low[v] z.idx[u] : Nat) : Int))]) (cs := nats z.low) 9 inf3 rfl rfl rfl rfl rfl (by simp) rfl (by first | (simp; omega) | (simp_all; omega)) ?_)
      refine DO.sub (O' := [oI xc 3 [(.int .i64 (z.clk : Int))], oI xi 22 [(.slice ib nx.length ic)], oI xl 22 [(.slice lb nx.length lc)], oI xs 22 [(.slice zb z.stk.length zc)], oI xg 79 [(.slice nb nx.length nc), (.slice mb mn mc), .int .u64 full], oI xv 104 [(.func (.func 107) #[] #[(.pointer (some ⟨xc, 0, none⟩)), (.pointer (some ⟨xi, 0, none⟩)), (.pointer (some ⟨xl, 0, none⟩)), (.pointer (some ⟨xs, 0, none⟩)), (.pointer (some ⟨xg, 0, none⟩)), (.pointer (some ⟨xv, 0, none⟩)), (.pointer (some ⟨xp, 0, none⟩)), (.pointer (some ⟨xn, 0, none⟩))])], oI xp 22 [(.slice pb nx.length pc)], oI xn 3 [(.int .i64 (z.cnt : Int))], rowI ib ic 3 1 (nats z.idx), rowI lb lc 3 1 (nats (z.low.set v (min z.low[v] z.idx[u]))), rowI zb zc 3 1 (nats z.stk), rowI pb pc 3 1 (ints z.comp)]) (by rw [show putL (nats z.low) v [(.int .i64 ((min z.low[v] z.idx[u] : Nat) : Int))] = nats (z.low.set v (min z.low[v] z.idx[u])) from (by simp [putL])]; exact Sub.of (List.Sublist.refl _)) ?_
      refine DO.done ?_
      refine T.region ?_
      refine TO.quiet (q_addN (a := k) (b := 1) rfl rfl (by omega)) (TO.quiet (q_move rfl) ?_)
      refine TO.nil ?_
      exact ⟨k + 1, by omega, { z with low := z.low.set v (min z.low[v] z.idx[u]) }, zb, zc, t, rfl, by omega, hr.back h0 hv hv hlt34 hu (by rw [gd (by omega)]; omega) (by rw [gz (by omega)]; omega) (by rw [gd (by omega), gd (by omega)]), ⟨rfl, rfl, rfl, rfl, rfl, rfl, rfl, rfl, rfl, rfl, rfl, rfl, trivial⟩⟩
    refine T.skip (T.region ?_)
    refine TO.quiet (q_addN (a := k) (b := 1) rfl rfl (by omega)) (TO.quiet (q_move rfl) ?_)
    refine TO.nil ?_
    exact ⟨k + 1, by omega, z, zb, zc, t, rfl, by omega, hr.skip h0 hv hlt34 hu (by rw [gd (by omega)]; omega) (by rw [gz (by omega)]; omega), ⟨rfl, rfl, rfl, rfl, rfl, rfl, rfl, rfl, rfl, rfl, rfl, rfl, trivial⟩⟩
  have hge34 : ¬ k < nx[v].length := by omega
  refine T.exit ?_
  refine T.seq (T.seq ?_)
  refine T.draws _ [(0, 0), (1, 0), (2, 0), (3, 0), (4, 0), (5, 0), (6, 0), (7, 0), (8, 0)] mixed (by kernel_rfl) (Sub.of (List.Sublist.refl _)) (fun _ _ _ h => h) ?_
  refine DO.quiet rfl (q_load_box 2 Try.underlying22 rfl rfl rfl rfl) (DO.quiet rfl (q_move rfl) (DO.quiet rfl (q_ix (i := v) Try.underlying22 inf3 rfl rfl (rowO (List.mem_of_getElem? (i := 9) rfl))) (DO.quiet rfl (q_ld Try.underlying3 rfl rfl (rowO (List.mem_of_getElem? (i := 9) rfl)) nats_get) ?_)))
  refine DO.quiet rfl (q_load_box 1 Try.underlying22 rfl rfl rfl rfl) (DO.quiet rfl (q_move rfl) (DO.quiet rfl (q_ix (i := v) Try.underlying22 inf3 rfl rfl (rowO (List.mem_of_getElem? (i := 8) rfl))) (DO.quiet rfl (q_ld Try.underlying3 rfl rfl (rowO (List.mem_of_getElem? (i := 8) rfl)) nats_get) ?_)))
  refine DO.quiet rfl (q_neq rfl rfl) ?_
  refine DO.done ?_
  refine T.condP rfl (fun hc => ?_) (fun hc => ?_)
  · have hlt83 : z.low[v] ≠ z.idx[v] := by omega
    refine T.ret ?_
    refine Res.zero Try.results107 ?_
    exact ⟨z, zb, zc, v :: t, rfl, hr.leave h0 hv hge34 (by rw [gd (by omega), gd (by omega)]; omega)⟩
  have hge83 : ¬ z.low[v] ≠ z.idx[v] := by omega
  have hlow : z.low.getD v 0 = z.idx.getD v 0 := by rw [gd (by omega), gd (by omega)]; omega
  refine T.skip (T.seq (T.block ?_))
  refine T.loop (fun (q : List Nat) ρ O => ∃ (t1 pop : List Nat) (cp : List Int), O = [oI xc 3 [(.int .i64 (z.clk : Int))], oI xi 22 [(.slice ib nx.length ic)], oI xl 22 [(.slice lb nx.length lc)], oI xs 22 [(.slice zb q.length zc)], oI xg 79 [(.slice nb nx.length nc), (.slice mb mn mc), .int .u64 full], oI xv 104 [(.func (.func 107) #[] #[(.pointer (some ⟨xc, 0, none⟩)), (.pointer (some ⟨xi, 0, none⟩)), (.pointer (some ⟨xl, 0, none⟩)), (.pointer (some ⟨xs, 0, none⟩)), (.pointer (some ⟨xg, 0, none⟩)), (.pointer (some ⟨xv, 0, none⟩)), (.pointer (some ⟨xp, 0, none⟩)), (.pointer (some ⟨xn, 0, none⟩))])], oI xp 22 [(.slice pb nx.length pc)], oI xn 3 [(.int .i64 (z.cnt : Int))], rowI ib ic 3 1 (nats z.idx), rowI lb lc 3 1 (nats z.low), rowI zb zc 3 1 (nats q), rowI pb pc 3 1 (ints cp)] ∧ q = s.stk ++ v :: t1 ∧ t = t1 ++ pop ∧ cp.length = nx.length ∧ (∀ x, cp.getD x (-1) = if x ∈ pop then (z.cnt : Int) else z.comp.getD x (-1)) ∧ Heads [(0, .int .i64 (v : Int)), (1, (.pointer (some ⟨xc, 0, none⟩))), (2, (.pointer (some ⟨xi, 0, none⟩))), (3, (.pointer (some ⟨xl, 0, none⟩))), (4, (.pointer (some ⟨xs, 0, none⟩))), (5, (.pointer (some ⟨xg, 0, none⟩))), (6, (.pointer (some ⟨xv, 0, none⟩))), (7, (.pointer (some ⟨xp, 0, none⟩))), (8, (.pointer (some ⟨xn, 0, none⟩)))] ρ) (fun q => q.length) z.stk ?_ ?_
  · exact ⟨t, [], z.comp, rfl, hr.lp.stk, by simp, hlc, by simp, ⟨rfl, rfl, rfl, rfl, rfl, rfl, rfl, rfl, rfl, trivial⟩⟩
  rintro q ρ O ⟨t1, pop, cp, rfl, hq, ht, hcl, hcp, hH⟩
  obtain ⟨ρ0, rfl⟩ := hH.elim
  clear hH
  obtain ⟨st2, u, hst⟩ : ∃ st2 u, q = st2 ++ [u] := by
    rcases List.eq_nil_or_concat q with h | ⟨a, b, h⟩
    · rw [hq] at h; simp at h
    · exact ⟨a, b, h.trans (List.concat_eq_append ..)⟩
  have hql : q.length = st2.length + 1 := by rw [hst]; simp
  have hqg : q[st2.length]? = some u := by rw [hst]; simp
  have hqz : q.length ≤ z.stk.length := by
    have e : z.stk = s.stk ++ v :: t := hr.lp.stk
    rw [hq, e, ht]; simp
  have hqb : q.length ≤ 1000000 := by have := hr.ok.sk; have := hr.ok.ck; omega
  have hus : u ∈ z.stk := by
    have e : z.stk = s.stk ++ v :: t := hr.lp.stk
    have : u ∈ s.stk ++ v :: t1 := by rw [← hq, hst]; simp
    rw [e, ht]; simp at this ⊢
    rcases this with h | h | h
    · exact .inl h
    · exact .inr (.inl h)
    · exact .inr (.inr (.inl h))
  have hul : u < nx.length := hr.lp.inv.vis u ((hr.lp.inv.mem u).1 hus).1
  refine T.have (φ := q.length ≤ zc) (fun w hI => by have := rowP.cap (hI.row (i := 10) rfl); simpa using this) (fun hcap => ?_)
  refine T.block (T.seq (T.region ?_))
  refine TO.quiet (q_load_box 3 Try.underlying22 rfl rfl rfl rfl) (TO.quiet (q_load_box 3 Try.underlying22 rfl rfl rfl rfl) (TO.quiet (q_len Try.underlying22 rfl) (TO.quiet (QT.cast (q_subN (a := q.length) (b := 1) rfl rfl (by omega) (by omega)) (v' := .int .i64 ((st2.length : Nat) : Int)) (by rw [show q.length - 1 = st2.length by omega])) ?_)))
  refine TO.quiet (q_ix (i := st2.length) Try.underlying22 inf3 rfl rfl (rowO (List.mem_of_getElem? (i := 10) rfl))) (TO.quiet (q_ld Try.underlying3 rfl rfl (rowO (List.mem_of_getElem? (i := 10) rfl)) (show (nats q)[st2.length]? = some (.int .i64 ((u : Nat) : Int)) by rw [List.getElem?_map, hqg]; rfl)) (TO.quiet (q_assign rfl) ?_))
  refine TO.nil (T.seq (T.region ?_))
  refine TO.quiet (q_load_box 3 Try.underlying22 rfl rfl rfl rfl) (TO.quiet (q_load_box 3 Try.underlying22 rfl rfl rfl rfl) (TO.quiet (q_len Try.underlying22 rfl) (TO.quiet (QT.cast (q_subN (a := q.length) (b := 1) rfl rfl (by omega) (by omega)) (v' := .int .i64 ((st2.length : Nat) : Int)) (by rw [show q.length - 1 = st2.length by omega])) ?_)))
  refine TO.loud rfl (l_head (m := st2.length) 10 Try.underlying22 inf3 rfl rfl rfl (by omega) ?_)
  refine TO.sub (O' := [oI xc 3 [(.int .i64 (z.clk : Int))], oI xi 22 [(.slice ib nx.length ic)], oI xl 22 [(.slice lb nx.length lc)], oI xs 22 [(.slice zb q.length zc)], oI xg 79 [(.slice nb nx.length nc), (.slice mb mn mc), .int .u64 full], oI xv 104 [(.func (.func 107) #[] #[(.pointer (some ⟨xc, 0, none⟩)), (.pointer (some ⟨xi, 0, none⟩)), (.pointer (some ⟨xl, 0, none⟩)), (.pointer (some ⟨xs, 0, none⟩)), (.pointer (some ⟨xg, 0, none⟩)), (.pointer (some ⟨xv, 0, none⟩)), (.pointer (some ⟨xp, 0, none⟩)), (.pointer (some ⟨xn, 0, none⟩))])], oI xp 22 [(.slice pb nx.length pc)], oI xn 3 [(.int .i64 (z.cnt : Int))], rowI ib ic 3 1 (nats z.idx), rowI lb lc 3 1 (nats z.low), rowI zb zc 3 1 (nats st2), rowI pb pc 3 1 (ints cp)]) (by rw [show (nats q).take (st2.length * 1) = nats st2 from (by rw [Nat.mul_one, ← List.map_take, hst, List.take_left])]; exact Sub.of (List.Sublist.refl _)) ?_
  refine TO.loud rfl (l_store_box (v := (.slice zb st2.length zc)) (vs := [(.slice zb st2.length zc)]) 3 inf22 rfl rfl rfl rfl rfl rfl (by simp [putL]) ?_)
  refine TO.nil (T.seq (T.region ?_))
  refine TO.quiet (q_load_box 6 Try.underlying22 rfl rfl rfl rfl) (TO.quiet (q_move rfl) (TO.quiet (q_load_box 7 Try.underlying3 rfl rfl rfl rfl) (TO.quiet (q_ix (i := u) Try.underlying22 inf3 rfl rfl (rowO (List.mem_of_getElem? (i := 11) rfl))) ?_)))
  refine TO.loud rfl (l_st (j := u) (v := (.int .i64 (z.cnt : Int))) (vs := [(.int .i64 (z.cnt : Int))]) (cs := ints cp) 11 inf3 rfl rfl rfl rfl rfl (by simp) rfl (by first | (simp; omega) | (simp_all; omega)) ?_)
  refine TO.sub (O' := [oI xc 3 [(.int .i64 (z.clk : Int))], oI xi 22 [(.slice ib nx.length ic)], oI xl 22 [(.slice lb nx.length lc)], oI xs 22 [(.slice zb st2.length zc)], oI xg 79 [(.slice nb nx.length nc), (.slice mb mn mc), .int .u64 full], oI xv 104 [(.func (.func 107) #[] #[(.pointer (some ⟨xc, 0, none⟩)), (.pointer (some ⟨xi, 0, none⟩)), (.pointer (some ⟨xl, 0, none⟩)), (.pointer (some ⟨xs, 0, none⟩)), (.pointer (some ⟨xg, 0, none⟩)), (.pointer (some ⟨xv, 0, none⟩)), (.pointer (some ⟨xp, 0, none⟩)), (.pointer (some ⟨xn, 0, none⟩))])], oI xp 22 [(.slice pb nx.length pc)], oI xn 3 [(.int .i64 (z.cnt : Int))], rowI ib ic 3 1 (nats z.idx), rowI lb lc 3 1 (nats z.low), rowI zb zc 3 1 (nats st2), rowI pb pc 3 1 (ints (cp.set u (z.cnt : Int)))]) (by rw [show putL (ints cp) u [(.int .i64 (z.cnt : Int))] = ints (cp.set u (z.cnt : Int)) from (by simp [putL])]; exact Sub.of (List.Sublist.refl _)) ?_
  refine TO.nil (T.seq (T.region ?_))
  refine TO.quiet (q_move rfl) (TO.quiet (q_move rfl) (TO.quiet (q_eql rfl rfl) ?_))
  refine TO.nil ?_
  refine T.condP rfl (fun hc => ?_) (fun hc => ?_)
  · have hlt101 : u = v := by omega
    refine T.exit ?_
    refine T.region ?_
    refine TO.quiet (q_load_box 7 Try.underlying3 rfl rfl rfl rfl) (TO.quiet (q_addN (a := z.cnt) (b := 1) rfl rfl (by omega)) ?_)
    refine TO.loud rfl (l_store_box (v := .int .i64 ((z.cnt + 1 : Nat) : Int)) (vs := [(.int .i64 ((z.cnt + 1 : Nat) : Int))]) 7 inf3 rfl rfl rfl rfl rfl rfl (by simp [putL]) ?_)
    refine TO.nil ?_
    refine Res.zero Try.results107 ?_
    have hnt : v ∉ t1 := fun hm => by
      have := hr.lp.tnew (x := v) (by rw [ht]; exact List.mem_append_left _ hm)
      exact Nat.lt_irrefl _ this
    obtain ⟨h5, h6⟩ := pop_last (hq ▸ hst) (by omega) hnt
    have huv : u = v := by omega
    subst h6 h5 huv
    exact ⟨{ z with comp := cp.set u z.cnt, stk := s.stk, cnt := z.cnt + 1 }, zb, zc, [], rfl, hr.pop h0 hok hv hge34 hlow (by simp [hcl]) (fun x => by rw [fz_pop (by omega) hcp x, ht]; rfl)⟩
  have hge101 : ¬ u = v := by omega
  refine T.skip ?_
  obtain ⟨t1b, ht1, hs2⟩ := pop_split (hq ▸ hst) (by omega)
  exact ⟨st2, by omega, t1b, u :: pop, cp.set u z.cnt, rfl, hs2, by rw [ht, ht1]; simp, by simp [hcl], fz_pop (by omega) hcp, ⟨rfl, rfl, rfl, rfl, rfl, rfl, rfl, rfl, rfl, trivial⟩⟩
end Go.Proofs.Ytnamoapbienooaa


namespace Go.Proofs.Ytnamoapbienooaa
open Go.Lx Go.RowKit
set_option linter.unusedVariables false
set_option linter.unusedSimpArgs false
set_option maxHeartbeats 1000000 in
set_option maxRecDepth 20000 in
theorem componentsF (base : World) (nb mb : Option Addr) (nc mn mc : Nat) (full : Int) (vs : List Value) (nx : List (List Int)) (hS : Sl base nb vs) (hR : RowsR base vs nx) (hn : nx.length ≤ 1000000) (hrl : ∀ r ∈ nx, r.length ≤ 1000000) (hval : ∀ r ∈ nx, ∀ x ∈ r, 0 ≤ x ∧ x < (nx.length : Int)) :
    PureT Try.prog 74 [.agg #[.slice nb nx.length nc, .slice mb mn mc, .int .u64 full]] base fun v N => ∃ cb cc cn cnt, v = .tuple #[.slice cb nx.length cc, .int .i64 ((cnt : Nat) : Int)] ∧ N = [rowI cb cc 3 1 (nats cn)] ∧ cn.length = nx.length ∧ CompN nx cn cnt ∧ cnt ≤ nx.length := by
  refine CallT.enter Try.func74 rfl Try.ntmps74 rfl ?_
  refine T.seq (T.region ?_)
  refine TO.loud rfl (l_box (v := (.agg #[(.slice nb nx.length nc), (.slice mb mn mc), .int .u64 full])) (cs := [(.slice nb nx.length nc), (.slice mb mn mc), .int .u64 full]) rfl rfl (fun bx1 => ?_))
  refine TO.loud rfl (l_alloc inf22 rfl (fun bx2 => ?_))
  refine TO.loud rfl (l_alloc inf3 rfl (fun bx3 => ?_))
  refine TO.nil (T.seq (T.region ?_))
  refine TO.quiet (q_fieldAddr Try.underlying79 rfl inf24 rfl rfl) (TO.quiet (q_load_box 2 Try.underlying24 rfl rfl rfl rfl) (TO.quiet (q_len Try.underlying24 rfl) (TO.quiet (q_assign rfl) ?_)))
  refine TO.nil ?_
  refine T.cut (fun ρ O => ∃ (zA zB zC zD : Nat), O = [oI zC 22 [(.slice (some ⟨zA, 0, none⟩) nx.length nx.length)], oI zD 22 [(.slice (some ⟨zB, 0, none⟩) nx.length nx.length)], rowI (some ⟨zA, 0, none⟩) nx.length 3 1 (List.replicate nx.length (.int .i64 0)), rowI (some ⟨zB, 0, none⟩) nx.length 3 1 (List.replicate nx.length (.int .i64 0)), oI bx3 3 [(.int .i64 0)], oI bx2 22 [(.slice none 0 0)], oI bx1 79 [(.slice nb nx.length nc), (.slice mb mn mc), .int .u64 full]] ∧ Heads [(0, (.agg #[(.slice nb nx.length nc), (.slice mb mn mc), .int .u64 full])), (1, (.pointer (some ⟨bx1, 0, none⟩))), (2, (.pointer (some ⟨bx2, 0, none⟩))), (3, (.pointer (some ⟨bx3, 0, none⟩))), (4, .int .i64 (nx.length : Int)), (5, (.pointer (some ⟨zC, 0, none⟩))), (6, (.pointer (some ⟨zD, 0, none⟩)))] ρ) ?_ ?_
  · refine T.tree [] 8 mixed rfl (Sub.pick [] rfl) (fun _ _ _ h => h) ?_
    refine RO.quietT 0 rfl (by kernel_rfl) (q_move rfl) ?_
    refine RO.quietT 2 rfl (by kernel_rfl) (q_move rfl) ?_
    refine RO.fork [1, 3, 4, 5] (by kernel_rfl) rfl ⟨⟨_, rfl, rfl, l_makeSlice (m := nx.length) Try.underlying22 inf3 rfl rfl (by omega) (by omega) (fun zA => ⟨Sub.pick [] rfl, ?_⟩)⟩, ⟨_, rfl, rfl, l_makeSlice (m := nx.length) Try.underlying22 inf3 rfl rfl (by omega) (by omega) (fun zB => ⟨Sub.pick [] rfl, ?_⟩)⟩, ⟨_, rfl, rfl, l_alloc inf22 rfl (fun zC => ⟨Sub.pick [] rfl, ?_⟩)⟩, ⟨_, rfl, rfl, l_alloc inf22 rfl (fun zD => ⟨Sub.pick [] rfl, ?_⟩)⟩, trivial⟩
    · refine RO.fork [3, 4, 5] (by kernel_rfl) rfl ⟨⟨_, rfl, rfl, l_makeSlice (m := nx.length) Try.underlying22 inf3 rfl rfl (by omega) (by omega) (fun zB => ⟨Sub.pick [] rfl, ?_⟩)⟩, ⟨_, rfl, rfl, l_alloc inf22 rfl (fun zC => ⟨Sub.pick [] rfl, ?_⟩)⟩, ⟨_, rfl, rfl, l_alloc inf22 rfl (fun zD => ⟨Sub.pick [] rfl, ?_⟩)⟩, trivial⟩
      · refine RO.fork [4, 5] (by kernel_rfl) rfl ⟨⟨_, rfl, rfl, l_alloc inf22 rfl (fun zC => ⟨Sub.pick [] rfl, ?_⟩)⟩, ⟨_, rfl, rfl, l_alloc inf22 rfl (fun zD => ⟨Sub.pick [] rfl, ?_⟩)⟩, trivial⟩
        · refine RO.fork [5] (by kernel_rfl) rfl ⟨⟨_, rfl, rfl, l_alloc inf22 rfl (fun zD => ⟨Sub.pick [] rfl, ?_⟩)⟩, trivial⟩
          refine RO.fork [6] (by kernel_rfl) rfl ⟨⟨_, rfl, rfl, l_store_box (v := (.slice (some ⟨zA, 0, none⟩) nx.length nx.length)) (vs := [(.slice (some ⟨zA, 0, none⟩) nx.length nx.length)]) 1 inf22 rfl rfl rfl rfl rfl rfl (by simp [putL]) ⟨Sub.pick [] rfl, ?_⟩⟩, trivial⟩
          refine RO.fork [7] (by kernel_rfl) rfl ⟨⟨_, rfl, rfl, l_store_box (v := (.slice (some ⟨zB, 0, none⟩) nx.length nx.length)) (vs := [(.slice (some ⟨zB, 0, none⟩) nx.length nx.length)]) 0 inf22 rfl rfl rfl rfl rfl rfl (by simp [putL]) ⟨Sub.pick [] rfl, ?_⟩⟩, trivial⟩
          exact RO.fin (by kernel_rfl) ⟨zA, zB, zC, zD, rfl, ⟨rfl, rfl, rfl, rfl, rfl, rfl, rfl, trivial⟩⟩ (Sub.pick [1, 0, 1, 0, 0, 0, 0] rfl)
        refine RO.fork [4] (by kernel_rfl) rfl ⟨⟨_, rfl, rfl, l_alloc inf22 rfl (fun zC => ⟨Sub.pick [] rfl, ?_⟩)⟩, trivial⟩
        refine RO.fork [6] (by kernel_rfl) rfl ⟨⟨_, rfl, rfl, l_store_box (v := (.slice (some ⟨zA, 0, none⟩) nx.length nx.length)) (vs := [(.slice (some ⟨zA, 0, none⟩) nx.length nx.length)]) 0 inf22 rfl rfl rfl rfl rfl rfl (by simp [putL]) ⟨Sub.pick [] rfl, ?_⟩⟩, trivial⟩
        refine RO.fork [7] (by kernel_rfl) rfl ⟨⟨_, rfl, rfl, l_store_box (v := (.slice (some ⟨zB, 0, none⟩) nx.length nx.length)) (vs := [(.slice (some ⟨zB, 0, none⟩) nx.length nx.length)]) 1 inf22 rfl rfl rfl rfl rfl rfl (by simp [putL]) ⟨Sub.pick [] rfl, ?_⟩⟩, trivial⟩
        exact RO.fin (by kernel_rfl) ⟨zA, zB, zC, zD, rfl, ⟨rfl, rfl, rfl, rfl, rfl, rfl, rfl, trivial⟩⟩ (Sub.pick [0, 0, 1, 0, 0, 0, 0] rfl)
      · refine RO.fork [3, 5] (by kernel_rfl) rfl ⟨⟨_, rfl, rfl, l_makeSlice (m := nx.length) Try.underlying22 inf3 rfl rfl (by omega) (by omega) (fun zB => ⟨Sub.pick [] rfl, ?_⟩)⟩, ⟨_, rfl, rfl, l_alloc inf22 rfl (fun zD => ⟨Sub.pick [] rfl, ?_⟩)⟩, trivial⟩
        · refine RO.fork [5] (by kernel_rfl) rfl ⟨⟨_, rfl, rfl, l_alloc inf22 rfl (fun zD => ⟨Sub.pick [] rfl, ?_⟩)⟩, trivial⟩
          refine RO.fork [6] (by kernel_rfl) rfl ⟨⟨_, rfl, rfl, l_store_box (v := (.slice (some ⟨zA, 0, none⟩) nx.length nx.length)) (vs := [(.slice (some ⟨zA, 0, none⟩) nx.length nx.length)]) 2 inf22 rfl rfl rfl rfl rfl rfl (by simp [putL]) ⟨Sub.pick [] rfl, ?_⟩⟩, trivial⟩
          refine RO.fork [7] (by kernel_rfl) rfl ⟨⟨_, rfl, rfl, l_store_box (v := (.slice (some ⟨zB, 0, none⟩) nx.length nx.length)) (vs := [(.slice (some ⟨zB, 0, none⟩) nx.length nx.length)]) 0 inf22 rfl rfl rfl rfl rfl rfl (by simp [putL]) ⟨Sub.pick [] rfl, ?_⟩⟩, trivial⟩
          exact RO.fin (by kernel_rfl) ⟨zA, zB, zC, zD, rfl, ⟨rfl, rfl, rfl, rfl, rfl, rfl, rfl, trivial⟩⟩ (Sub.pick [2, 0, 1, 0, 0, 0, 0] rfl)
        refine RO.fork [3, 6] (by kernel_rfl) rfl ⟨⟨_, rfl, rfl, l_makeSlice (m := nx.length) Try.underlying22 inf3 rfl rfl (by omega) (by omega) (fun zB => ⟨Sub.pick [] rfl, ?_⟩)⟩, ⟨_, rfl, rfl, l_store_box (v := (.slice (some ⟨zA, 0, none⟩) nx.length nx.length)) (vs := [(.slice (some ⟨zA, 0, none⟩) nx.length nx.length)]) 1 inf22 rfl rfl rfl rfl rfl rfl (by simp [putL]) ⟨Sub.pick [] rfl, ?_⟩⟩, trivial⟩
        · refine RO.fork [6] (by kernel_rfl) rfl ⟨⟨_, rfl, rfl, l_store_box (v := (.slice (some ⟨zA, 0, none⟩) nx.length nx.length)) (vs := [(.slice (some ⟨zA, 0, none⟩) nx.length nx.length)]) 2 inf22 rfl rfl rfl rfl rfl rfl (by simp [putL]) ⟨Sub.pick [] rfl, ?_⟩⟩, trivial⟩
          refine RO.fork [7] (by kernel_rfl) rfl ⟨⟨_, rfl, rfl, l_store_box (v := (.slice (some ⟨zB, 0, none⟩) nx.length nx.length)) (vs := [(.slice (some ⟨zB, 0, none⟩) nx.length nx.length)]) 1 inf22 rfl rfl rfl rfl rfl rfl (by simp [putL]) ⟨Sub.pick [] rfl, ?_⟩⟩, trivial⟩
          exact RO.fin (by kernel_rfl) ⟨zA, zB, zC, zD, rfl, ⟨rfl, rfl, rfl, rfl, rfl, rfl, rfl, trivial⟩⟩ (Sub.pick [2, 1, 1, 0, 0, 0, 0] rfl)
        refine RO.fork [3] (by kernel_rfl) rfl ⟨⟨_, rfl, rfl, l_makeSlice (m := nx.length) Try.underlying22 inf3 rfl rfl (by omega) (by omega) (fun zB => ⟨Sub.pick [] rfl, ?_⟩)⟩, trivial⟩
        refine RO.fork [7] (by kernel_rfl) rfl ⟨⟨_, rfl, rfl, l_store_box (v := (.slice (some ⟨zB, 0, none⟩) nx.length nx.length)) (vs := [(.slice (some ⟨zB, 0, none⟩) nx.length nx.length)]) 1 inf22 rfl rfl rfl rfl rfl rfl (by simp [putL]) ⟨Sub.pick [] rfl, ?_⟩⟩, trivial⟩
        exact RO.fin (by kernel_rfl) ⟨zA, zB, zC, zD, rfl, ⟨rfl, rfl, rfl, rfl, rfl, rfl, rfl, trivial⟩⟩ (Sub.pick [2, 1, 1, 0, 0, 0, 0] rfl)
      refine RO.fork [3, 4] (by kernel_rfl) rfl ⟨⟨_, rfl, rfl, l_makeSlice (m := nx.length) Try.underlying22 inf3 rfl rfl (by omega) (by omega) (fun zB => ⟨Sub.pick [] rfl, ?_⟩)⟩, ⟨_, rfl, rfl, l_alloc inf22 rfl (fun zC => ⟨Sub.pick [] rfl, ?_⟩)⟩, trivial⟩
      · refine RO.fork [4] (by kernel_rfl) rfl ⟨⟨_, rfl, rfl, l_alloc inf22 rfl (fun zC => ⟨Sub.pick [] rfl, ?_⟩)⟩, trivial⟩
        refine RO.fork [6] (by kernel_rfl) rfl ⟨⟨_, rfl, rfl, l_store_box (v := (.slice (some ⟨zA, 0, none⟩) nx.length nx.length)) (vs := [(.slice (some ⟨zA, 0, none⟩) nx.length nx.length)]) 0 inf22 rfl rfl rfl rfl rfl rfl (by simp [putL]) ⟨Sub.pick [] rfl, ?_⟩⟩, trivial⟩
        refine RO.fork [7] (by kernel_rfl) rfl ⟨⟨_, rfl, rfl, l_store_box (v := (.slice (some ⟨zB, 0, none⟩) nx.length nx.length)) (vs := [(.slice (some ⟨zB, 0, none⟩) nx.length nx.length)]) 2 inf22 rfl rfl rfl rfl rfl rfl (by simp [putL]) ⟨Sub.pick [] rfl, ?_⟩⟩, trivial⟩
        exact RO.fin (by kernel_rfl) ⟨zA, zB, zC, zD, rfl, ⟨rfl, rfl, rfl, rfl, rfl, rfl, rfl, trivial⟩⟩ (Sub.pick [0, 1, 1, 0, 0, 0, 0] rfl)
      refine RO.fork [3, 6] (by kernel_rfl) rfl ⟨⟨_, rfl, rfl, l_makeSlice (m := nx.length) Try.underlying22 inf3 rfl rfl (by omega) (by omega) (fun zB => ⟨Sub.pick [] rfl, ?_⟩)⟩, ⟨_, rfl, rfl, l_store_box (v := (.slice (some ⟨zA, 0, none⟩) nx.length nx.length)) (vs := [(.slice (some ⟨zA, 0, none⟩) nx.length nx.length)]) 0 inf22 rfl rfl rfl rfl rfl rfl (by simp [putL]) ⟨Sub.pick [] rfl, ?_⟩⟩, trivial⟩
      · refine RO.fork [6] (by kernel_rfl) rfl ⟨⟨_, rfl, rfl, l_store_box (v := (.slice (some ⟨zA, 0, none⟩) nx.length nx.length)) (vs := [(.slice (some ⟨zA, 0, none⟩) nx.length nx.length)]) 1 inf22 rfl rfl rfl rfl rfl rfl (by simp [putL]) ⟨Sub.pick [] rfl, ?_⟩⟩, trivial⟩
        refine RO.fork [7] (by kernel_rfl) rfl ⟨⟨_, rfl, rfl, l_store_box (v := (.slice (some ⟨zB, 0, none⟩) nx.length nx.length)) (vs := [(.slice (some ⟨zB, 0, none⟩) nx.length nx.length)]) 2 inf22 rfl rfl rfl rfl rfl rfl (by simp [putL]) ⟨Sub.pick [] rfl, ?_⟩⟩, trivial⟩
        exact RO.fin (by kernel_rfl) ⟨zA, zB, zC, zD, rfl, ⟨rfl, rfl, rfl, rfl, rfl, rfl, rfl, trivial⟩⟩ (Sub.pick [1, 1, 1, 0, 0, 0, 0] rfl)
      refine RO.fork [3] (by kernel_rfl) rfl ⟨⟨_, rfl, rfl, l_makeSlice (m := nx.length) Try.underlying22 inf3 rfl rfl (by omega) (by omega) (fun zB => ⟨Sub.pick [] rfl, ?_⟩)⟩, trivial⟩
      refine RO.fork [7] (by kernel_rfl) rfl ⟨⟨_, rfl, rfl, l_store_box (v := (.slice (some ⟨zB, 0, none⟩) nx.length nx.length)) (vs := [(.slice (some ⟨zB, 0, none⟩) nx.length nx.length)]) 2 inf22 rfl rfl rfl rfl rfl rfl (by simp [putL]) ⟨Sub.pick [] rfl, ?_⟩⟩, trivial⟩
      exact RO.fin (by kernel_rfl) ⟨zA, zB, zC, zD, rfl, ⟨rfl, rfl, rfl, rfl, rfl, rfl, rfl, trivial⟩⟩ (Sub.pick [1, 1, 1, 0, 0, 0, 0] rfl)
    · refine RO.fork [1, 4, 5] (by kernel_rfl) rfl ⟨⟨_, rfl, rfl, l_makeSlice (m := nx.length) Try.underlying22 inf3 rfl rfl (by omega) (by omega) (fun zA => ⟨Sub.pick [] rfl, ?_⟩)⟩, ⟨_, rfl, rfl, l_alloc inf22 rfl (fun zC => ⟨Sub.pick [] rfl, ?_⟩)⟩, ⟨_, rfl, rfl, l_alloc inf22 rfl (fun zD => ⟨Sub.pick [] rfl, ?_⟩)⟩, trivial⟩
      · refine RO.fork [4, 5] (by kernel_rfl) rfl ⟨⟨_, rfl, rfl, l_alloc inf22 rfl (fun zC => ⟨Sub.pick [] rfl, ?_⟩)⟩, ⟨_, rfl, rfl, l_alloc inf22 rfl (fun zD => ⟨Sub.pick [] rfl, ?_⟩)⟩, trivial⟩
        · refine RO.fork [5] (by kernel_rfl) rfl ⟨⟨_, rfl, rfl, l_alloc inf22 rfl (fun zD => ⟨Sub.pick [] rfl, ?_⟩)⟩, trivial⟩
          refine RO.fork [6] (by kernel_rfl) rfl ⟨⟨_, rfl, rfl, l_store_box (v := (.slice (some ⟨zA, 0, none⟩) nx.length nx.length)) (vs := [(.slice (some ⟨zA, 0, none⟩) nx.length nx.length)]) 1 inf22 rfl rfl rfl rfl rfl rfl (by simp [putL]) ⟨Sub.pick [] rfl, ?_⟩⟩, trivial⟩
          refine RO.fork [7] (by kernel_rfl) rfl ⟨⟨_, rfl, rfl, l_store_box (v := (.slice (some ⟨zB, 0, none⟩) nx.length nx.length)) (vs := [(.slice (some ⟨zB, 0, none⟩) nx.length nx.length)]) 0 inf22 rfl rfl rfl rfl rfl rfl (by simp [putL]) ⟨Sub.pick [] rfl, ?_⟩⟩, trivial⟩
          exact RO.fin (by kernel_rfl) ⟨zA, zB, zC, zD, rfl, ⟨rfl, rfl, rfl, rfl, rfl, rfl, rfl, trivial⟩⟩ (Sub.pick [1, 0, 0, 0, 0, 0, 0] rfl)
        refine RO.fork [4] (by kernel_rfl) rfl ⟨⟨_, rfl, rfl, l_alloc inf22 rfl (fun zC => ⟨Sub.pick [] rfl, ?_⟩)⟩, trivial⟩
        refine RO.fork [6] (by kernel_rfl) rfl ⟨⟨_, rfl, rfl, l_store_box (v := (.slice (some ⟨zA, 0, none⟩) nx.length nx.length)) (vs := [(.slice (some ⟨zA, 0, none⟩) nx.length nx.length)]) 0 inf22 rfl rfl rfl rfl rfl rfl (by simp [putL]) ⟨Sub.pick [] rfl, ?_⟩⟩, trivial⟩
        refine RO.fork [7] (by kernel_rfl) rfl ⟨⟨_, rfl, rfl, l_store_box (v := (.slice (some ⟨zB, 0, none⟩) nx.length nx.length)) (vs := [(.slice (some ⟨zB, 0, none⟩) nx.length nx.length)]) 1 inf22 rfl rfl rfl rfl rfl rfl (by simp [putL]) ⟨Sub.pick [] rfl, ?_⟩⟩, trivial⟩
        exact RO.fin (by kernel_rfl) ⟨zA, zB, zC, zD, rfl, ⟨rfl, rfl, rfl, rfl, rfl, rfl, rfl, trivial⟩⟩ (Sub.pick [0, 0, 0, 0, 0, 0, 0] rfl)
      · refine RO.fork [1, 5] (by kernel_rfl) rfl ⟨⟨_, rfl, rfl, l_makeSlice (m := nx.length) Try.underlying22 inf3 rfl rfl (by omega) (by omega) (fun zA => ⟨Sub.pick [] rfl, ?_⟩)⟩, ⟨_, rfl, rfl, l_alloc inf22 rfl (fun zD => ⟨Sub.pick [] rfl, ?_⟩)⟩, trivial⟩
        · refine RO.fork [5] (by kernel_rfl) rfl ⟨⟨_, rfl, rfl, l_alloc inf22 rfl (fun zD => ⟨Sub.pick [] rfl, ?_⟩)⟩, trivial⟩
          refine RO.fork [6] (by kernel_rfl) rfl ⟨⟨_, rfl, rfl, l_store_box (v := (.slice (some ⟨zA, 0, none⟩) nx.length nx.length)) (vs := [(.slice (some ⟨zA, 0, none⟩) nx.length nx.length)]) 2 inf22 rfl rfl rfl rfl rfl rfl (by simp [putL]) ⟨Sub.pick [] rfl, ?_⟩⟩, trivial⟩
          refine RO.fork [7] (by kernel_rfl) rfl ⟨⟨_, rfl, rfl, l_store_box (v := (.slice (some ⟨zB, 0, none⟩) nx.length nx.length)) (vs := [(.slice (some ⟨zB, 0, none⟩) nx.length nx.length)]) 0 inf22 rfl rfl rfl rfl rfl rfl (by simp [putL]) ⟨Sub.pick [] rfl, ?_⟩⟩, trivial⟩
          exact RO.fin (by kernel_rfl) ⟨zA, zB, zC, zD, rfl, ⟨rfl, rfl, rfl, rfl, rfl, rfl, rfl, trivial⟩⟩ (Sub.pick [2, 0, 0, 0, 0, 0, 0] rfl)
        refine RO.fork [1] (by kernel_rfl) rfl ⟨⟨_, rfl, rfl, l_makeSlice (m := nx.length) Try.underlying22 inf3 rfl rfl (by omega) (by omega) (fun zA => ⟨Sub.pick [] rfl, ?_⟩)⟩, trivial⟩
        refine RO.fork [6] (by kernel_rfl) rfl ⟨⟨_, rfl, rfl, l_store_box (v := (.slice (some ⟨zA, 0, none⟩) nx.length nx.length)) (vs := [(.slice (some ⟨zA, 0, none⟩) nx.length nx.length)]) 2 inf22 rfl rfl rfl rfl rfl rfl (by simp [putL]) ⟨Sub.pick [] rfl, ?_⟩⟩, trivial⟩
        refine RO.fork [7] (by kernel_rfl) rfl ⟨⟨_, rfl, rfl, l_store_box (v := (.slice (some ⟨zB, 0, none⟩) nx.length nx.length)) (vs := [(.slice (some ⟨zB, 0, none⟩) nx.length nx.length)]) 1 inf22 rfl rfl rfl rfl rfl rfl (by simp [putL]) ⟨Sub.pick [] rfl, ?_⟩⟩, trivial⟩
        exact RO.fin (by kernel_rfl) ⟨zA, zB, zC, zD, rfl, ⟨rfl, rfl, rfl, rfl, rfl, rfl, rfl, trivial⟩⟩ (Sub.pick [2, 1, 0, 0, 0, 0, 0] rfl)
      refine RO.fork [1, 4] (by kernel_rfl) rfl ⟨⟨_, rfl, rfl, l_makeSlice (m := nx.length) Try.underlying22 inf3 rfl rfl (by omega) (by omega) (fun zA => ⟨Sub.pick [] rfl, ?_⟩)⟩, ⟨_, rfl, rfl, l_alloc inf22 rfl (fun zC => ⟨Sub.pick [] rfl, ?_⟩)⟩, trivial⟩
      · refine RO.fork [4] (by kernel_rfl) rfl ⟨⟨_, rfl, rfl, l_alloc inf22 rfl (fun zC => ⟨Sub.pick [] rfl, ?_⟩)⟩, trivial⟩
        refine RO.fork [6] (by kernel_rfl) rfl ⟨⟨_, rfl, rfl, l_store_box (v := (.slice (some ⟨zA, 0, none⟩) nx.length nx.length)) (vs := [(.slice (some ⟨zA, 0, none⟩) nx.length nx.length)]) 0 inf22 rfl rfl rfl rfl rfl rfl (by simp [putL]) ⟨Sub.pick [] rfl, ?_⟩⟩, trivial⟩
        refine RO.fork [7] (by kernel_rfl) rfl ⟨⟨_, rfl, rfl, l_store_box (v := (.slice (some ⟨zB, 0, none⟩) nx.length nx.length)) (vs := [(.slice (some ⟨zB, 0, none⟩) nx.length nx.length)]) 2 inf22 rfl rfl rfl rfl rfl rfl (by simp [putL]) ⟨Sub.pick [] rfl, ?_⟩⟩, trivial⟩
        exact RO.fin (by kernel_rfl) ⟨zA, zB, zC, zD, rfl, ⟨rfl, rfl, rfl, rfl, rfl, rfl, rfl, trivial⟩⟩ (Sub.pick [0, 1, 0, 0, 0, 0, 0] rfl)
      refine RO.fork [1] (by kernel_rfl) rfl ⟨⟨_, rfl, rfl, l_makeSlice (m := nx.length) Try.underlying22 inf3 rfl rfl (by omega) (by omega) (fun zA => ⟨Sub.pick [] rfl, ?_⟩)⟩, trivial⟩
      refine RO.fork [6] (by kernel_rfl) rfl ⟨⟨_, rfl, rfl, l_store_box (v := (.slice (some ⟨zA, 0, none⟩) nx.length nx.length)) (vs := [(.slice (some ⟨zA, 0, none⟩) nx.length nx.length)]) 1 inf22 rfl rfl rfl rfl rfl rfl (by simp [putL]) ⟨Sub.pick [] rfl, ?_⟩⟩, trivial⟩
      refine RO.fork [7] (by kernel_rfl) rfl ⟨⟨_, rfl, rfl, l_store_box (v := (.slice (some ⟨zB, 0, none⟩) nx.length nx.length)) (vs := [(.slice (some ⟨zB, 0, none⟩) nx.length nx.length)]) 2 inf22 rfl rfl rfl rfl rfl rfl (by simp [putL]) ⟨Sub.pick [] rfl, ?_⟩⟩, trivial⟩
      exact RO.fin (by kernel_rfl) ⟨zA, zB, zC, zD, rfl, ⟨rfl, rfl, rfl, rfl, rfl, rfl, rfl, trivial⟩⟩ (Sub.pick [1, 1, 0, 0, 0, 0, 0] rfl)
    · refine RO.fork [1, 3, 5] (by kernel_rfl) rfl ⟨⟨_, rfl, rfl, l_makeSlice (m := nx.length) Try.underlying22 inf3 rfl rfl (by omega) (by omega) (fun zA => ⟨Sub.pick [] rfl, ?_⟩)⟩, ⟨_, rfl, rfl, l_makeSlice (m := nx.length) Try.underlying22 inf3 rfl rfl (by omega) (by omega) (fun zB => ⟨Sub.pick [] rfl, ?_⟩)⟩, ⟨_, rfl, rfl, l_alloc inf22 rfl (fun zD => ⟨Sub.pick [] rfl, ?_⟩)⟩, trivial⟩
      · refine RO.fork [3, 5] (by kernel_rfl) rfl ⟨⟨_, rfl, rfl, l_makeSlice (m := nx.length) Try.underlying22 inf3 rfl rfl (by omega) (by omega) (fun zB => ⟨Sub.pick [] rfl, ?_⟩)⟩, ⟨_, rfl, rfl, l_alloc inf22 rfl (fun zD => ⟨Sub.pick [] rfl, ?_⟩)⟩, trivial⟩
        · refine RO.fork [5] (by kernel_rfl) rfl ⟨⟨_, rfl, rfl, l_alloc inf22 rfl (fun zD => ⟨Sub.pick [] rfl, ?_⟩)⟩, trivial⟩
          refine RO.fork [6] (by kernel_rfl) rfl ⟨⟨_, rfl, rfl, l_store_box (v := (.slice (some ⟨zA, 0, none⟩) nx.length nx.length)) (vs := [(.slice (some ⟨zA, 0, none⟩) nx.length nx.length)]) 3 inf22 rfl rfl rfl rfl rfl rfl (by simp [putL]) ⟨Sub.pick [] rfl, ?_⟩⟩, trivial⟩
          refine RO.fork [7] (by kernel_rfl) rfl ⟨⟨_, rfl, rfl, l_store_box (v := (.slice (some ⟨zB, 0, none⟩) nx.length nx.length)) (vs := [(.slice (some ⟨zB, 0, none⟩) nx.length nx.length)]) 0 inf22 rfl rfl rfl rfl rfl rfl (by simp [putL]) ⟨Sub.pick [] rfl, ?_⟩⟩, trivial⟩
          exact RO.fin (by kernel_rfl) ⟨zA, zB, zC, zD, rfl, ⟨rfl, rfl, rfl, rfl, rfl, rfl, rfl, trivial⟩⟩ (Sub.pick [3, 0, 1, 0, 0, 0, 0] rfl)
        refine RO.fork [3, 6] (by kernel_rfl) rfl ⟨⟨_, rfl, rfl, l_makeSlice (m := nx.length) Try.underlying22 inf3 rfl rfl (by omega) (by omega) (fun zB => ⟨Sub.pick [] rfl, ?_⟩)⟩, ⟨_, rfl, rfl, l_store_box (v := (.slice (some ⟨zA, 0, none⟩) nx.length nx.length)) (vs := [(.slice (some ⟨zA, 0, none⟩) nx.length nx.length)]) 2 inf22 rfl rfl rfl rfl rfl rfl (by simp [putL]) ⟨Sub.pick [] rfl, ?_⟩⟩, trivial⟩
        · refine RO.fork [6] (by kernel_rfl) rfl ⟨⟨_, rfl, rfl, l_store_box (v := (.slice (some ⟨zA, 0, none⟩) nx.length nx.length)) (vs := [(.slice (some ⟨zA, 0, none⟩) nx.length nx.length)]) 3 inf22 rfl rfl rfl rfl rfl rfl (by simp [putL]) ⟨Sub.pick [] rfl, ?_⟩⟩, trivial⟩
          refine RO.fork [7] (by kernel_rfl) rfl ⟨⟨_, rfl, rfl, l_store_box (v := (.slice (some ⟨zB, 0, none⟩) nx.length nx.length)) (vs := [(.slice (some ⟨zB, 0, none⟩) nx.length nx.length)]) 1 inf22 rfl rfl rfl rfl rfl rfl (by simp [putL]) ⟨Sub.pick [] rfl, ?_⟩⟩, trivial⟩
          exact RO.fin (by kernel_rfl) ⟨zA, zB, zC, zD, rfl, ⟨rfl, rfl, rfl, rfl, rfl, rfl, rfl, trivial⟩⟩ (Sub.pick [3, 1, 1, 0, 0, 0, 0] rfl)
        refine RO.fork [3] (by kernel_rfl) rfl ⟨⟨_, rfl, rfl, l_makeSlice (m := nx.length) Try.underlying22 inf3 rfl rfl (by omega) (by omega) (fun zB => ⟨Sub.pick [] rfl, ?_⟩)⟩, trivial⟩
        refine RO.fork [7] (by kernel_rfl) rfl ⟨⟨_, rfl, rfl, l_store_box (v := (.slice (some ⟨zB, 0, none⟩) nx.length nx.length)) (vs := [(.slice (some ⟨zB, 0, none⟩) nx.length nx.length)]) 1 inf22 rfl rfl rfl rfl rfl rfl (by simp [putL]) ⟨Sub.pick [] rfl, ?_⟩⟩, trivial⟩
        exact RO.fin (by kernel_rfl) ⟨zA, zB, zC, zD, rfl, ⟨rfl, rfl, rfl, rfl, rfl, rfl, rfl, trivial⟩⟩ (Sub.pick [3, 1, 1, 0, 0, 0, 0] rfl)
      · refine RO.fork [1, 5] (by kernel_rfl) rfl ⟨⟨_, rfl, rfl, l_makeSlice (m := nx.length) Try.underlying22 inf3 rfl rfl (by omega) (by omega) (fun zA => ⟨Sub.pick [] rfl, ?_⟩)⟩, ⟨_, rfl, rfl, l_alloc inf22 rfl (fun zD => ⟨Sub.pick [] rfl, ?_⟩)⟩, trivial⟩
        · refine RO.fork [5] (by kernel_rfl) rfl ⟨⟨_, rfl, rfl, l_alloc inf22 rfl (fun zD => ⟨Sub.pick [] rfl, ?_⟩)⟩, trivial⟩
          refine RO.fork [6] (by kernel_rfl) rfl ⟨⟨_, rfl, rfl, l_store_box (v := (.slice (some ⟨zA, 0, none⟩) nx.length nx.length)) (vs := [(.slice (some ⟨zA, 0, none⟩) nx.length nx.length)]) 3 inf22 rfl rfl rfl rfl rfl rfl (by simp [putL]) ⟨Sub.pick [] rfl, ?_⟩⟩, trivial⟩
          refine RO.fork [7] (by kernel_rfl) rfl ⟨⟨_, rfl, rfl, l_store_box (v := (.slice (some ⟨zB, 0, none⟩) nx.length nx.length)) (vs := [(.slice (some ⟨zB, 0, none⟩) nx.length nx.length)]) 0 inf22 rfl rfl rfl rfl rfl rfl (by simp [putL]) ⟨Sub.pick [] rfl, ?_⟩⟩, trivial⟩
          exact RO.fin (by kernel_rfl) ⟨zA, zB, zC, zD, rfl, ⟨rfl, rfl, rfl, rfl, rfl, rfl, rfl, trivial⟩⟩ (Sub.pick [3, 0, 0, 0, 0, 0, 0] rfl)
        refine RO.fork [1] (by kernel_rfl) rfl ⟨⟨_, rfl, rfl, l_makeSlice (m := nx.length) Try.underlying22 inf3 rfl rfl (by omega) (by omega) (fun zA => ⟨Sub.pick [] rfl, ?_⟩)⟩, trivial⟩
        refine RO.fork [6] (by kernel_rfl) rfl ⟨⟨_, rfl, rfl, l_store_box (v := (.slice (some ⟨zA, 0, none⟩) nx.length nx.length)) (vs := [(.slice (some ⟨zA, 0, none⟩) nx.length nx.length)]) 3 inf22 rfl rfl rfl rfl rfl rfl (by simp [putL]) ⟨Sub.pick [] rfl, ?_⟩⟩, trivial⟩
        refine RO.fork [7] (by kernel_rfl) rfl ⟨⟨_, rfl, rfl, l_store_box (v := (.slice (some ⟨zB, 0, none⟩) nx.length nx.length)) (vs := [(.slice (some ⟨zB, 0, none⟩) nx.length nx.length)]) 1 inf22 rfl rfl rfl rfl rfl rfl (by simp [putL]) ⟨Sub.pick [] rfl, ?_⟩⟩, trivial⟩
        exact RO.fin (by kernel_rfl) ⟨zA, zB, zC, zD, rfl, ⟨rfl, rfl, rfl, rfl, rfl, rfl, rfl, trivial⟩⟩ (Sub.pick [3, 1, 0, 0, 0, 0, 0] rfl)
      refine RO.fork [1, 3] (by kernel_rfl) rfl ⟨⟨_, rfl, rfl, l_makeSlice (m := nx.length) Try.underlying22 inf3 rfl rfl (by omega) (by omega) (fun zA => ⟨Sub.pick [] rfl, ?_⟩)⟩, ⟨_, rfl, rfl, l_makeSlice (m := nx.length) Try.underlying22 inf3 rfl rfl (by omega) (by omega) (fun zB => ⟨Sub.pick [] rfl, ?_⟩)⟩, trivial⟩
      · refine RO.fork [3, 6] (by kernel_rfl) rfl ⟨⟨_, rfl, rfl, l_makeSlice (m := nx.length) Try.underlying22 inf3 rfl rfl (by omega) (by omega) (fun zB => ⟨Sub.pick [] rfl, ?_⟩)⟩, ⟨_, rfl, rfl, l_store_box (v := (.slice (some ⟨zA, 0, none⟩) nx.length nx.length)) (vs := [(.slice (some ⟨zA, 0, none⟩) nx.length nx.length)]) 2 inf22 rfl rfl rfl rfl rfl rfl (by simp [putL]) ⟨Sub.pick [] rfl, ?_⟩⟩, trivial⟩
        · refine RO.fork [6] (by kernel_rfl) rfl ⟨⟨_, rfl, rfl, l_store_box (v := (.slice (some ⟨zA, 0, none⟩) nx.length nx.length)) (vs := [(.slice (some ⟨zA, 0, none⟩) nx.length nx.length)]) 3 inf22 rfl rfl rfl rfl rfl rfl (by simp [putL]) ⟨Sub.pick [] rfl, ?_⟩⟩, trivial⟩
          refine RO.fork [7] (by kernel_rfl) rfl ⟨⟨_, rfl, rfl, l_store_box (v := (.slice (some ⟨zB, 0, none⟩) nx.length nx.length)) (vs := [(.slice (some ⟨zB, 0, none⟩) nx.length nx.length)]) 2 inf22 rfl rfl rfl rfl rfl rfl (by simp [putL]) ⟨Sub.pick [] rfl, ?_⟩⟩, trivial⟩
          exact RO.fin (by kernel_rfl) ⟨zA, zB, zC, zD, rfl, ⟨rfl, rfl, rfl, rfl, rfl, rfl, rfl, trivial⟩⟩ (Sub.pick [3, 2, 1, 0, 0, 0, 0] rfl)
        refine RO.fork [3] (by kernel_rfl) rfl ⟨⟨_, rfl, rfl, l_makeSlice (m := nx.length) Try.underlying22 inf3 rfl rfl (by omega) (by omega) (fun zB => ⟨Sub.pick [] rfl, ?_⟩)⟩, trivial⟩
        refine RO.fork [7] (by kernel_rfl) rfl ⟨⟨_, rfl, rfl, l_store_box (v := (.slice (some ⟨zB, 0, none⟩) nx.length nx.length)) (vs := [(.slice (some ⟨zB, 0, none⟩) nx.length nx.length)]) 2 inf22 rfl rfl rfl rfl rfl rfl (by simp [putL]) ⟨Sub.pick [] rfl, ?_⟩⟩, trivial⟩
        exact RO.fin (by kernel_rfl) ⟨zA, zB, zC, zD, rfl, ⟨rfl, rfl, rfl, rfl, rfl, rfl, rfl, trivial⟩⟩ (Sub.pick [3, 2, 1, 0, 0, 0, 0] rfl)
      refine RO.fork [1] (by kernel_rfl) rfl ⟨⟨_, rfl, rfl, l_makeSlice (m := nx.length) Try.underlying22 inf3 rfl rfl (by omega) (by omega) (fun zA => ⟨Sub.pick [] rfl, ?_⟩)⟩, trivial⟩
      refine RO.fork [6] (by kernel_rfl) rfl ⟨⟨_, rfl, rfl, l_store_box (v := (.slice (some ⟨zA, 0, none⟩) nx.length nx.length)) (vs := [(.slice (some ⟨zA, 0, none⟩) nx.length nx.length)]) 3 inf22 rfl rfl rfl rfl rfl rfl (by simp [putL]) ⟨Sub.pick [] rfl, ?_⟩⟩, trivial⟩
      refine RO.fork [7] (by kernel_rfl) rfl ⟨⟨_, rfl, rfl, l_store_box (v := (.slice (some ⟨zB, 0, none⟩) nx.length nx.length)) (vs := [(.slice (some ⟨zB, 0, none⟩) nx.length nx.length)]) 2 inf22 rfl rfl rfl rfl rfl rfl (by simp [putL]) ⟨Sub.pick [] rfl, ?_⟩⟩, trivial⟩
      exact RO.fin (by kernel_rfl) ⟨zA, zB, zC, zD, rfl, ⟨rfl, rfl, rfl, rfl, rfl, rfl, rfl, trivial⟩⟩ (Sub.pick [3, 2, 0, 0, 0, 0, 0] rfl)
    refine RO.fork [1, 3, 4] (by kernel_rfl) rfl ⟨⟨_, rfl, rfl, l_makeSlice (m := nx.length) Try.underlying22 inf3 rfl rfl (by omega) (by omega) (fun zA => ⟨Sub.pick [] rfl, ?_⟩)⟩, ⟨_, rfl, rfl, l_makeSlice (m := nx.length) Try.underlying22 inf3 rfl rfl (by omega) (by omega) (fun zB => ⟨Sub.pick [] rfl, ?_⟩)⟩, ⟨_, rfl, rfl, l_alloc inf22 rfl (fun zC => ⟨Sub.pick [] rfl, ?_⟩)⟩, trivial⟩
    · refine RO.fork [3, 4] (by kernel_rfl) rfl ⟨⟨_, rfl, rfl, l_makeSlice (m := nx.length) Try.underlying22 inf3 rfl rfl (by omega) (by omega) (fun zB => ⟨Sub.pick [] rfl, ?_⟩)⟩, ⟨_, rfl, rfl, l_alloc inf22 rfl (fun zC => ⟨Sub.pick [] rfl, ?_⟩)⟩, trivial⟩
      · refine RO.fork [4] (by kernel_rfl) rfl ⟨⟨_, rfl, rfl, l_alloc inf22 rfl (fun zC => ⟨Sub.pick [] rfl, ?_⟩)⟩, trivial⟩
        refine RO.fork [6] (by kernel_rfl) rfl ⟨⟨_, rfl, rfl, l_store_box (v := (.slice (some ⟨zA, 0, none⟩) nx.length nx.length)) (vs := [(.slice (some ⟨zA, 0, none⟩) nx.length nx.length)]) 0 inf22 rfl rfl rfl rfl rfl rfl (by simp [putL]) ⟨Sub.pick [] rfl, ?_⟩⟩, trivial⟩
        refine RO.fork [7] (by kernel_rfl) rfl ⟨⟨_, rfl, rfl, l_store_box (v := (.slice (some ⟨zB, 0, none⟩) nx.length nx.length)) (vs := [(.slice (some ⟨zB, 0, none⟩) nx.length nx.length)]) 3 inf22 rfl rfl rfl rfl rfl rfl (by simp [putL]) ⟨Sub.pick [] rfl, ?_⟩⟩, trivial⟩
        exact RO.fin (by kernel_rfl) ⟨zA, zB, zC, zD, rfl, ⟨rfl, rfl, rfl, rfl, rfl, rfl, rfl, trivial⟩⟩ (Sub.pick [0, 2, 1, 0, 0, 0, 0] rfl)
      refine RO.fork [3, 6] (by kernel_rfl) rfl ⟨⟨_, rfl, rfl, l_makeSlice (m := nx.length) Try.underlying22 inf3 rfl rfl (by omega) (by omega) (fun zB => ⟨Sub.pick [] rfl, ?_⟩)⟩, ⟨_, rfl, rfl, l_store_box (v := (.slice (some ⟨zA, 0, none⟩) nx.length nx.length)) (vs := [(.slice (some ⟨zA, 0, none⟩) nx.length nx.length)]) 0 inf22 rfl rfl rfl rfl rfl rfl (by simp [putL]) ⟨Sub.pick [] rfl, ?_⟩⟩, trivial⟩
      · refine RO.fork [6] (by kernel_rfl) rfl ⟨⟨_, rfl, rfl, l_store_box (v := (.slice (some ⟨zA, 0, none⟩) nx.length nx.length)) (vs := [(.slice (some ⟨zA, 0, none⟩) nx.length nx.length)]) 1 inf22 rfl rfl rfl rfl rfl rfl (by simp [putL]) ⟨Sub.pick [] rfl, ?_⟩⟩, trivial⟩
        refine RO.fork [7] (by kernel_rfl) rfl ⟨⟨_, rfl, rfl, l_store_box (v := (.slice (some ⟨zB, 0, none⟩) nx.length nx.length)) (vs := [(.slice (some ⟨zB, 0, none⟩) nx.length nx.length)]) 3 inf22 rfl rfl rfl rfl rfl rfl (by simp [putL]) ⟨Sub.pick [] rfl, ?_⟩⟩, trivial⟩
        exact RO.fin (by kernel_rfl) ⟨zA, zB, zC, zD, rfl, ⟨rfl, rfl, rfl, rfl, rfl, rfl, rfl, trivial⟩⟩ (Sub.pick [1, 2, 1, 0, 0, 0, 0] rfl)
      refine RO.fork [3] (by kernel_rfl) rfl ⟨⟨_, rfl, rfl, l_makeSlice (m := nx.length) Try.underlying22 inf3 rfl rfl (by omega) (by omega) (fun zB => ⟨Sub.pick [] rfl, ?_⟩)⟩, trivial⟩
      refine RO.fork [7] (by kernel_rfl) rfl ⟨⟨_, rfl, rfl, l_store_box (v := (.slice (some ⟨zB, 0, none⟩) nx.length nx.length)) (vs := [(.slice (some ⟨zB, 0, none⟩) nx.length nx.length)]) 3 inf22 rfl rfl rfl rfl rfl rfl (by simp [putL]) ⟨Sub.pick [] rfl, ?_⟩⟩, trivial⟩
      exact RO.fin (by kernel_rfl) ⟨zA, zB, zC, zD, rfl, ⟨rfl, rfl, rfl, rfl, rfl, rfl, rfl, trivial⟩⟩ (Sub.pick [1, 2, 1, 0, 0, 0, 0] rfl)
    · refine RO.fork [1, 4] (by kernel_rfl) rfl ⟨⟨_, rfl, rfl, l_makeSlice (m := nx.length) Try.underlying22 inf3 rfl rfl (by omega) (by omega) (fun zA => ⟨Sub.pick [] rfl, ?_⟩)⟩, ⟨_, rfl, rfl, l_alloc inf22 rfl (fun zC => ⟨Sub.pick [] rfl, ?_⟩)⟩, trivial⟩
      · refine RO.fork [4] (by kernel_rfl) rfl ⟨⟨_, rfl, rfl, l_alloc inf22 rfl (fun zC => ⟨Sub.pick [] rfl, ?_⟩)⟩, trivial⟩
        refine RO.fork [6] (by kernel_rfl) rfl ⟨⟨_, rfl, rfl, l_store_box (v := (.slice (some ⟨zA, 0, none⟩) nx.length nx.length)) (vs := [(.slice (some ⟨zA, 0, none⟩) nx.length nx.length)]) 0 inf22 rfl rfl rfl rfl rfl rfl (by simp [putL]) ⟨Sub.pick [] rfl, ?_⟩⟩, trivial⟩
        refine RO.fork [7] (by kernel_rfl) rfl ⟨⟨_, rfl, rfl, l_store_box (v := (.slice (some ⟨zB, 0, none⟩) nx.length nx.length)) (vs := [(.slice (some ⟨zB, 0, none⟩) nx.length nx.length)]) 3 inf22 rfl rfl rfl rfl rfl rfl (by simp [putL]) ⟨Sub.pick [] rfl, ?_⟩⟩, trivial⟩
        exact RO.fin (by kernel_rfl) ⟨zA, zB, zC, zD, rfl, ⟨rfl, rfl, rfl, rfl, rfl, rfl, rfl, trivial⟩⟩ (Sub.pick [0, 2, 0, 0, 0, 0, 0] rfl)
      refine RO.fork [1] (by kernel_rfl) rfl ⟨⟨_, rfl, rfl, l_makeSlice (m := nx.length) Try.underlying22 inf3 rfl rfl (by omega) (by omega) (fun zA => ⟨Sub.pick [] rfl, ?_⟩)⟩, trivial⟩
      refine RO.fork [6] (by kernel_rfl) rfl ⟨⟨_, rfl, rfl, l_store_box (v := (.slice (some ⟨zA, 0, none⟩) nx.length nx.length)) (vs := [(.slice (some ⟨zA, 0, none⟩) nx.length nx.length)]) 1 inf22 rfl rfl rfl rfl rfl rfl (by simp [putL]) ⟨Sub.pick [] rfl, ?_⟩⟩, trivial⟩
      refine RO.fork [7] (by kernel_rfl) rfl ⟨⟨_, rfl, rfl, l_store_box (v := (.slice (some ⟨zB, 0, none⟩) nx.length nx.length)) (vs := [(.slice (some ⟨zB, 0, none⟩) nx.length nx.length)]) 3 inf22 rfl rfl rfl rfl rfl rfl (by simp [putL]) ⟨Sub.pick [] rfl, ?_⟩⟩, trivial⟩
      exact RO.fin (by kernel_rfl) ⟨zA, zB, zC, zD, rfl, ⟨rfl, rfl, rfl, rfl, rfl, rfl, rfl, trivial⟩⟩ (Sub.pick [1, 2, 0, 0, 0, 0, 0] rfl)
    refine RO.fork [1, 3] (by kernel_rfl) rfl ⟨⟨_, rfl, rfl, l_makeSlice (m := nx.length) Try.underlying22 inf3 rfl rfl (by omega) (by omega) (fun zA => ⟨Sub.pick [] rfl, ?_⟩)⟩, ⟨_, rfl, rfl, l_makeSlice (m := nx.length) Try.underlying22 inf3 rfl rfl (by omega) (by omega) (fun zB => ⟨Sub.pick [] rfl, ?_⟩)⟩, trivial⟩
    · refine RO.fork [3, 6] (by kernel_rfl) rfl ⟨⟨_, rfl, rfl, l_makeSlice (m := nx.length) Try.underlying22 inf3 rfl rfl (by omega) (by omega) (fun zB => ⟨Sub.pick [] rfl, ?_⟩)⟩, ⟨_, rfl, rfl, l_store_box (v := (.slice (some ⟨zA, 0, none⟩) nx.length nx.length)) (vs := [(.slice (some ⟨zA, 0, none⟩) nx.length nx.length)]) 1 inf22 rfl rfl rfl rfl rfl rfl (by simp [putL]) ⟨Sub.pick [] rfl, ?_⟩⟩, trivial⟩
      · refine RO.fork [6] (by kernel_rfl) rfl ⟨⟨_, rfl, rfl, l_store_box (v := (.slice (some ⟨zA, 0, none⟩) nx.length nx.length)) (vs := [(.slice (some ⟨zA, 0, none⟩) nx.length nx.length)]) 2 inf22 rfl rfl rfl rfl rfl rfl (by simp [putL]) ⟨Sub.pick [] rfl, ?_⟩⟩, trivial⟩
        refine RO.fork [7] (by kernel_rfl) rfl ⟨⟨_, rfl, rfl, l_store_box (v := (.slice (some ⟨zB, 0, none⟩) nx.length nx.length)) (vs := [(.slice (some ⟨zB, 0, none⟩) nx.length nx.length)]) 3 inf22 rfl rfl rfl rfl rfl rfl (by simp [putL]) ⟨Sub.pick [] rfl, ?_⟩⟩, trivial⟩
        exact RO.fin (by kernel_rfl) ⟨zA, zB, zC, zD, rfl, ⟨rfl, rfl, rfl, rfl, rfl, rfl, rfl, trivial⟩⟩ (Sub.pick [2, 2, 1, 0, 0, 0, 0] rfl)
      refine RO.fork [3] (by kernel_rfl) rfl ⟨⟨_, rfl, rfl, l_makeSlice (m := nx.length) Try.underlying22 inf3 rfl rfl (by omega) (by omega) (fun zB => ⟨Sub.pick [] rfl, ?_⟩)⟩, trivial⟩
      refine RO.fork [7] (by kernel_rfl) rfl ⟨⟨_, rfl, rfl, l_store_box (v := (.slice (some ⟨zB, 0, none⟩) nx.length nx.length)) (vs := [(.slice (some ⟨zB, 0, none⟩) nx.length nx.length)]) 3 inf22 rfl rfl rfl rfl rfl rfl (by simp [putL]) ⟨Sub.pick [] rfl, ?_⟩⟩, trivial⟩
      exact RO.fin (by kernel_rfl) ⟨zA, zB, zC, zD, rfl, ⟨rfl, rfl, rfl, rfl, rfl, rfl, rfl, trivial⟩⟩ (Sub.pick [2, 2, 1, 0, 0, 0, 0] rfl)
    refine RO.fork [1] (by kernel_rfl) rfl ⟨⟨_, rfl, rfl, l_makeSlice (m := nx.length) Try.underlying22 inf3 rfl rfl (by omega) (by omega) (fun zA => ⟨Sub.pick [] rfl, ?_⟩)⟩, trivial⟩
    refine RO.fork [6] (by kernel_rfl) rfl ⟨⟨_, rfl, rfl, l_store_box (v := (.slice (some ⟨zA, 0, none⟩) nx.length nx.length)) (vs := [(.slice (some ⟨zA, 0, none⟩) nx.length nx.length)]) 2 inf22 rfl rfl rfl rfl rfl rfl (by simp [putL]) ⟨Sub.pick [] rfl, ?_⟩⟩, trivial⟩
    refine RO.fork [7] (by kernel_rfl) rfl ⟨⟨_, rfl, rfl, l_store_box (v := (.slice (some ⟨zB, 0, none⟩) nx.length nx.length)) (vs := [(.slice (some ⟨zB, 0, none⟩) nx.length nx.length)]) 3 inf22 rfl rfl rfl rfl rfl rfl (by simp [putL]) ⟨Sub.pick [] rfl, ?_⟩⟩, trivial⟩
    exact RO.fin (by kernel_rfl) ⟨zA, zB, zC, zD, rfl, ⟨rfl, rfl, rfl, rfl, rfl, rfl, rfl, trivial⟩⟩ (Sub.pick [2, 2, 0, 0, 0, 0, 0] rfl)
  rintro ρ O ⟨zA, zB, zC, zD, rfl, hH⟩
  obtain ⟨ρ0, rfl⟩ := hH.elim
  clear hH
  refine T.seq (T.region ?_)
  refine TO.quiet (q_move rfl) ?_
  refine TO.loud rfl (l_makeSlice (m := nx.length) Try.underlying22 inf3 rfl rfl (by omega) (by omega) (fun bx4 => ?_))
  refine TO.loud rfl (l_store_box (v := (.slice (some ⟨bx4, 0, none⟩) nx.length nx.length)) (vs := [(.slice (some ⟨bx4, 0, none⟩) nx.length nx.length)]) 6 inf22 rfl rfl rfl rfl rfl rfl (by simp [putL]) ?_)
  refine TO.nil (T.seq (T.seq (T.region ?_)))
  refine TO.quiet (q_load_box 6 Try.underlying22 rfl rfl rfl rfl) (TO.quiet (q_len Try.underlying22 rfl) (TO.quiet (q_move rfl) ?_))
  refine TO.nil (T.block ?_)
  refine T.loop (fun (k : Nat) ρ O => ∃ (cp : List Int), O = [rowI (some ⟨bx4, 0, none⟩) nx.length 3 1 (ints cp), oI zC 22 [(.slice (some ⟨zA, 0, none⟩) nx.length nx.length)], oI zD 22 [(.slice (some ⟨zB, 0, none⟩) nx.length nx.length)], rowI (some ⟨zA, 0, none⟩) nx.length 3 1 (List.replicate nx.length (.int .i64 0)), rowI (some ⟨zB, 0, none⟩) nx.length 3 1 (List.replicate nx.length (.int .i64 0)), oI bx3 3 [(.int .i64 0)], oI bx2 22 [(.slice (some ⟨bx4, 0, none⟩) nx.length nx.length)], oI bx1 79 [(.slice nb nx.length nc), (.slice mb mn mc), .int .u64 full]] ∧ k ≤ nx.length ∧ cp.length = nx.length ∧ cp.take k = List.replicate k (-1) ∧ Heads [(0, (.agg #[(.slice nb nx.length nc), (.slice mb mn mc), .int .u64 full])), (1, (.pointer (some ⟨bx1, 0, none⟩))), (2, (.pointer (some ⟨bx2, 0, none⟩))), (3, (.pointer (some ⟨bx3, 0, none⟩))), (4, .int .i64 (nx.length : Int)), (5, (.pointer (some ⟨zC, 0, none⟩))), (6, (.pointer (some ⟨zD, 0, none⟩))), (22, .int .i64 (nx.length : Int)), (23, .int .i64 (k : Int))] ρ) (fun k => nx.length - k) 0 ?_ ?_
  · exact ⟨List.replicate nx.length 0, by simp [putL], Nat.zero_le _, by simp, by simp, ⟨rfl, rfl, rfl, rfl, rfl, rfl, rfl, rfl, rfl, trivial⟩⟩
  rintro k ρ O ⟨cp, rfl, hk, hcl, hcp, hH⟩
  obtain ⟨ρ0, rfl⟩ := hH.elim
  clear hH
  refine T.seq (T.region ?_)
  refine TO.quiet (q_lss rfl rfl) ?_
  refine TO.nil (T.seq ?_)
  refine T.condP rfl (fun hc => ?_) (fun hc => ?_)
  · have hlt24 : k < nx.length := by omega
    refine T.skip (T.seq (T.block (T.seq (T.region ?_))))
    refine TO.quiet (q_move rfl) (TO.quiet (q_assign rfl) ?_)
    refine TO.nil (T.region ?_)
    refine TO.quiet (q_load_box 6 Try.underlying22 rfl rfl rfl rfl) (TO.quiet (q_move rfl) (TO.quiet (q_ix (i := k) Try.underlying22 inf3 rfl rfl (rowO (List.mem_of_getElem? (i := 0) rfl))) ?_))
    refine TO.loud rfl (l_st (j := k) (v := .int .i64 (-1)) (vs := [(.int .i64 (-1))]) (cs := ints cp) 0 inf3 rfl rfl rfl rfl rfl (by simp) rfl (by first | (simp; omega) | (simp_all; omega)) ?_)
    refine TO.sub (O' := [rowI (some ⟨bx4, 0, none⟩) nx.length 3 1 (ints (cp.set k (-1))), oI zC 22 [(.slice (some ⟨zA, 0, none⟩) nx.length nx.length)], oI zD 22 [(.slice (some ⟨zB, 0, none⟩) nx.length nx.length)], rowI (some ⟨zA, 0, none⟩) nx.length 3 1 (List.replicate nx.length (.int .i64 0)), rowI (some ⟨zB, 0, none⟩) nx.length 3 1 (List.replicate nx.length (.int .i64 0)), oI bx3 3 [(.int .i64 0)], oI bx2 22 [(.slice (some ⟨bx4, 0, none⟩) nx.length nx.length)], oI bx1 79 [(.slice nb nx.length nc), (.slice mb mn mc), .int .u64 full]]) (by rw [show putL (ints cp) k [(.int .i64 (-1))] = ints (cp.set k (-1)) from (by simp [putL])]; exact Sub.of (List.Sublist.refl _)) ?_
    refine TO.nil (T.region ?_)
    refine TO.quiet (q_addN (a := k) (b := 1) rfl rfl (by omega)) (TO.quiet (q_move rfl) ?_)
    refine TO.nil ?_
    exact ⟨k + 1, by omega, cp.set k (-1), rfl, by omega, by simp [hcl], set_take hcp (by omega), ⟨rfl, rfl, rfl, rfl, rfl, rfl, rfl, rfl, rfl, trivial⟩⟩
  have hge24 : ¬ k < nx.length := by omega
  refine T.exit ?_
  refine T.seq (T.region ?_)
  refine TO.loud rfl (l_alloc inf22 rfl (fun bx5 => ?_))
  refine TO.nil (T.seq (T.region ?_))
  refine TO.loud rfl (l_alloc inf3 rfl (fun bx6 => ?_))
  refine TO.loud rfl (l_store_box (v := .int .i64 0) (vs := [(.int .i64 0)]) 0 inf3 rfl rfl rfl rfl rfl rfl (by simp [putL]) ?_)
  refine TO.nil (T.seq (T.region ?_))
  refine TO.loud rfl (l_alloc inf104 rfl (fun bx7 => ?_))
  refine TO.nil (T.seq (T.region ?_))
  refine TO.quiet (q_makeFunc) ?_
  refine TO.loud rfl (l_store_box (v := (.func (.func 107) #[] #[(.pointer (some ⟨bx6, 0, none⟩)), (.pointer (some ⟨zC, 0, none⟩)), (.pointer (some ⟨zD, 0, none⟩)), (.pointer (some ⟨bx5, 0, none⟩)), (.pointer (some ⟨bx1, 0, none⟩)), (.pointer (some ⟨bx7, 0, none⟩)), (.pointer (some ⟨bx2, 0, none⟩)), (.pointer (some ⟨bx3, 0, none⟩))])) (vs := [(.func (.func 107) #[] #[(.pointer (some ⟨bx6, 0, none⟩)), (.pointer (some ⟨zC, 0, none⟩)), (.pointer (some ⟨zD, 0, none⟩)), (.pointer (some ⟨bx5, 0, none⟩)), (.pointer (some ⟨bx1, 0, none⟩)), (.pointer (some ⟨bx7, 0, none⟩)), (.pointer (some ⟨bx2, 0, none⟩)), (.pointer (some ⟨bx3, 0, none⟩))])]) 0 inf104 rfl rfl rfl rfl rfl rfl (by simp [putL]) ?_)
  refine TO.nil (T.seq (T.seq (T.region ?_)))
  refine TO.quiet (q_move rfl) (TO.quiet (q_move rfl) ?_)
  refine TO.nil (T.block ?_)
  have hcpe : cp = List.replicate nx.length (-1) := by rw [List.take_of_length_le (by omega)] at hcp; rw [hcp]; congr 1; omega
  subst hcpe
  refine T.nilRow 3 1 ?_
  refine T.sub (O' := [oI bx6 3 [(.int .i64 0)], oI zC 22 [(.slice (some ⟨zA, 0, none⟩) nx.length nx.length)], oI zD 22 [(.slice (some ⟨zB, 0, none⟩) nx.length nx.length)], oI bx5 22 [(.slice none 0 0)], oI bx1 79 [(.slice nb nx.length nc), (.slice mb mn mc), .int .u64 full], oI bx7 104 [(.func (.func 107) #[] #[(.pointer (some ⟨bx6, 0, none⟩)), (.pointer (some ⟨zC, 0, none⟩)), (.pointer (some ⟨zD, 0, none⟩)), (.pointer (some ⟨bx5, 0, none⟩)), (.pointer (some ⟨bx1, 0, none⟩)), (.pointer (some ⟨bx7, 0, none⟩)), (.pointer (some ⟨bx2, 0, none⟩)), (.pointer (some ⟨bx3, 0, none⟩))])], oI bx2 22 [(.slice (some ⟨bx4, 0, none⟩) nx.length nx.length)], oI bx3 3 [(.int .i64 0)], rowI (some ⟨zA, 0, none⟩) nx.length 3 1 (List.replicate nx.length (.int .i64 0)), rowI (some ⟨zB, 0, none⟩) nx.length 3 1 (List.replicate nx.length (.int .i64 0)), rowI none 0 3 1 [], rowI (some ⟨bx4, 0, none⟩) nx.length 3 1 (ints (List.replicate nx.length (-1)))]) (Sub.pick [2, 4, 4, 2, 7, 1, 5, 4, 2, 2, 0, 0] rfl) ?_
  refine T.loop (fun (k : Nat) ρ O => ∃ (s : TL) (sb : Option Addr) (sc : Nat), O = [oI bx6 3 [(.int .i64 (s.clk : Int))], oI zC 22 [(.slice (some ⟨zA, 0, none⟩) nx.length nx.length)], oI zD 22 [(.slice (some ⟨zB, 0, none⟩) nx.length nx.length)], oI bx5 22 [(.slice sb s.stk.length sc)], oI bx1 79 [(.slice nb nx.length nc), (.slice mb mn mc), .int .u64 full], oI bx7 104 [(.func (.func 107) #[] #[(.pointer (some ⟨bx6, 0, none⟩)), (.pointer (some ⟨zC, 0, none⟩)), (.pointer (some ⟨zD, 0, none⟩)), (.pointer (some ⟨bx5, 0, none⟩)), (.pointer (some ⟨bx1, 0, none⟩)), (.pointer (some ⟨bx7, 0, none⟩)), (.pointer (some ⟨bx2, 0, none⟩)), (.pointer (some ⟨bx3, 0, none⟩))])], oI bx2 22 [(.slice (some ⟨bx4, 0, none⟩) nx.length nx.length)], oI bx3 3 [(.int .i64 (s.cnt : Int))], rowI (some ⟨zA, 0, none⟩) nx.length 3 1 (nats s.idx), rowI (some ⟨zB, 0, none⟩) nx.length 3 1 (nats s.low), rowI sb sc 3 1 (nats s.stk), rowI (some ⟨bx4, 0, none⟩) nx.length 3 1 (ints s.comp)] ∧ k ≤ nx.length ∧ TLok nx.length s ∧ TInv nx.length (adjE nx) [] s.ts ∧ (∀ x, x < k → s.idx.getD x 0 ≠ 0) ∧ Heads [(0, (.agg #[(.slice nb nx.length nc), (.slice mb mn mc), .int .u64 full])), (1, (.pointer (some ⟨bx1, 0, none⟩))), (2, (.pointer (some ⟨bx2, 0, none⟩))), (3, (.pointer (some ⟨bx3, 0, none⟩))), (4, .int .i64 (nx.length : Int)), (5, (.pointer (some ⟨zC, 0, none⟩))), (6, (.pointer (some ⟨zD, 0, none⟩))), (8, (.pointer (some ⟨bx5, 0, none⟩))), (9, (.pointer (some ⟨bx6, 0, none⟩))), (10, (.pointer (some ⟨bx7, 0, none⟩))), (31, .int .i64 (nx.length : Int)), (32, .int .i64 (k : Int))] ρ) (fun k => nx.length - k) 0 ?_ ?_
  · refine ⟨{ idx := List.replicate nx.length 0, low := List.replicate nx.length 0, comp := List.replicate nx.length (-1), stk := [], clk := 0, cnt := 0 }, none, 0, by simp only [List.map_replicate, List.map_nil, List.length_nil]; rfl, Nat.zero_le _, tlok_start _, tinv_start _, fun x hx => absurd hx (by omega), ⟨rfl, rfl, rfl, rfl, rfl, rfl, rfl, rfl, rfl, rfl, rfl, rfl, trivial⟩⟩
  rintro k ρ O ⟨s, sb, sc, rfl, hk, hok, hinv, hvis, hH⟩
  obtain ⟨ρ0, rfl⟩ := hH.elim
  clear hH
  have hli := hok.li
  refine T.seq (T.region ?_)
  refine TO.quiet (q_lss rfl rfl) ?_
  refine TO.nil (T.seq ?_)
  refine T.condP rfl (fun hc => ?_) (fun hc => ?_)
  · have hlt33 : k < nx.length := by omega
    refine T.skip (T.seq (T.block (T.seq (T.region ?_))))
    refine TO.quiet (q_move rfl) (TO.quiet (q_assign rfl) ?_)
    refine TO.nil (T.seq (T.region ?_))
    refine TO.quiet (q_load_box 1 Try.underlying22 rfl rfl rfl rfl) (TO.quiet (q_move rfl) (TO.quiet (q_ix (i := k) Try.underlying22 inf3 rfl rfl (rowO (List.mem_of_getElem? (i := 8) rfl))) (TO.quiet (q_ld Try.underlying3 rfl rfl (rowO (List.mem_of_getElem? (i := 8) rfl)) nats_get) ?_)))
    refine TO.quiet (q_eql rfl rfl) ?_
    refine TO.nil ?_
    refine T.condP rfl (fun hc => ?_) (fun hc => ?_)
    · have hlt39 : s.idx[k] = 0 := by omega
      refine T.region ?_
      refine TO.quiet (q_load_box 5 Try.underlying104 rfl rfl rfl rfl) (TO.quiet (q_move rfl) ?_)
      have hk42 := CallV.of_fn (first := []) (args := [.int .i64 (k : Int)]) (caps := [(.pointer (some ⟨bx6, 0, none⟩)), (.pointer (some ⟨zC, 0, none⟩)), (.pointer (some ⟨zD, 0, none⟩)), (.pointer (some ⟨bx5, 0, none⟩)), (.pointer (some ⟨bx1, 0, none⟩)), (.pointer (some ⟨bx7, 0, none⟩)), (.pointer (some ⟨bx2, 0, none⟩)), (.pointer (some ⟨bx3, 0, none⟩))]) ent107 (visitF base nb mb nc mn mc full vs nx hS hR hn hrl hval bx6 zC zD bx5 bx1 bx7 bx2 bx3 (some ⟨zA, 0, none⟩) (some ⟨zB, 0, none⟩) (some ⟨bx4, 0, none⟩) nx.length nx.length nx.length _ s sb sc [] k rfl hok hinv hlt33 (by omega) (fun g hg => (List.not_mem_nil hg).elim))
      refine TO.loud rfl (l_callG hk42 rfl rfl ?_)
      clear hk42
      rintro vr O' ⟨s2, sb2, sc2, t2, rfl, hd⟩
      refine TO.nil (T.region ?_)
      refine TO.quiet (q_addN (a := k) (b := 1) rfl rfl (by omega)) (TO.quiet (q_move rfl) ?_)
      refine TO.nil ?_
      exact ⟨k + 1, by omega, s2, sb2, sc2, rfl, by omega, hd.ok, hd.inv, vis_step hd.ext hvis hd.post.1, ⟨rfl, rfl, rfl, rfl, rfl, rfl, rfl, rfl, rfl, rfl, rfl, rfl, trivial⟩⟩
    have hge39 : ¬ s.idx[k] = 0 := by omega
    refine T.skip (T.region ?_)
    refine TO.quiet (q_addN (a := k) (b := 1) rfl rfl (by omega)) (TO.quiet (q_move rfl) ?_)
    refine TO.nil ?_
    exact ⟨k + 1, by omega, s, sb, sc, rfl, by omega, hok, hinv, vis_snoc hvis (by rw [gd (by omega)]; omega), ⟨rfl, rfl, rfl, rfl, rfl, rfl, rfl, rfl, rfl, rfl, rfl, rfl, trivial⟩⟩
  have hge33 : ¬ k < nx.length := by omega
  refine T.exit ?_
  refine T.seq ?_
  refine T.draws _ [(0, 0), (1, 0), (2, 1), (3, 2)] mixed (by kernel_rfl) (Sub.of (List.Sublist.refl _)) (fun _ _ _ h => h) ?_
  refine DO.quiet rfl (q_load_box 6 Try.underlying22 rfl rfl rfl rfl) (DO.quiet rfl (q_load_box 7 Try.underlying3 rfl rfl rfl rfl) ?_)
  refine DO.loud rfl rfl (l_store_box (v := (.slice (some ⟨bx4, 0, none⟩) nx.length nx.length)) (vs := [(.slice (some ⟨bx4, 0, none⟩) nx.length nx.length)]) 6 inf22 rfl rfl rfl rfl rfl rfl (by simp [putL]) ⟨Sub.pick [0, 0, 0, 0, 0, 0, 0, 0, 0, 0, 0, 0] rfl, ?_⟩)
  refine DO.last rfl rfl (l_store_box (v := (.int .i64 (s.cnt : Int))) (vs := [(.int .i64 (s.cnt : Int))]) 7 inf3 rfl rfl rfl rfl rfl rfl (by simp [putL]) ?_)
  refine DO.done ?_
  refine T.ret (Res.drop ?_)
  refine Res.cell2s (i := 6) (j := 7) Try.results74 Try.underlying22 rfl Try.underlying3 rfl rfl rfl rfl rfl ?_
  have hco := hinv.done (fun v hv => hvis v (by omega))
  have e := ints_nats (cp := s.comp) (fun v hv => (hco.pos v (by rw [← hok.lc]; exact hv)).1)
  exact ⟨[rowI (some ⟨bx4, 0, none⟩) nx.length 3 1 (ints s.comp)], (Sub.pick [11] rfl), _, _, s.comp.map Int.toNat, s.cnt, rfl, by rw [e], by simp [hok.lc], comp_nats hok.lc hco hval, by have := hok.ct; omega⟩
end Go.Proofs.Ytnamoapbienooaa


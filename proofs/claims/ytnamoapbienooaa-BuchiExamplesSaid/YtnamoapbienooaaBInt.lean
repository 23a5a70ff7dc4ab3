/- Contracts of functions of the program (BInt): what each call answers and that it leaves memory as it was. Conditions: those each theorem names. -/
import Derived.Test.YtnamoapbienooaaInt
import Derived.Test.YtnamoapbienooaaBPai
set_option linter.unusedSectionVars false
set_option linter.unusedSimpArgs false
set_option linter.unusedVariables false
set_option linter.unnecessarySimpa false
namespace Go.Proofs.Ytnamoapbienooaa
open Go.Lx Go.RowKit
set_option linter.unusedVariables false
set_option linter.unusedSimpArgs false
def pvP (n : Nat) (first second : List Int) (one two : Bool) (v : Nat) : Bool := (!one || decide (((v / n : Nat) : Int) ∈ first)) && (!two || decide (((v % n : Nat) : Int) ∈ second))
set_option maxHeartbeats 1000000 in
set_option maxRecDepth 20000 in
theorem pairsF (base : World) (a b : Bu) (sA eA tA : Option Addr) (sAc eAc tAc : Nat) (za zn : Nat) (ha0 : 0 ≤ a.states) (ha4 : a.states ≤ 4096) (hb4 : b.states.toNat ≤ 4096) (first second : List Int) (one two : Bool) (fb gb : Option Addr) (fc gc : Nat) (hF : Sl base fb (ints first)) (hG : Sl base gb (ints second)) (hfl : first.length ≤ 1000000) (hgl : second.length ≤ 1000000) :
    CallT Try.prog base 94 [.slice fb first.length fc, .slice gb second.length gc, .bool one, .bool two, .pointer (some ⟨za, 0, none⟩), .pointer (some ⟨zn, 0, none⟩)] [oI za 26 (buCells a sA sAc eA eAc tA tAc), oI zn 3 [(.int .i64 ((b.states.toNat : Nat) : Int))]] (fun v O' => ∃ rb rc, v = .slice rb (pickI (pvP b.states.toNat first second one two) (inAll a b)).length rc ∧ O' = [rowI rb rc 3 1 (ints (pickI (pvP b.states.toNat first second one two) (inAll a b))), oI za 26 (buCells a sA sAc eA eAc tA tAc), oI zn 3 [(.int .i64 ((b.states.toNat : Nat) : Int))]]) := by
  refine CallT.enter Try.func94 rfl Try.ntmps94 rfl ?_
  refine T.seq (T.region ?_)
  refine TO.quiet (q_assign rfl) ?_
  refine TO.nil (T.seq (T.seq (T.region ?_)))
  refine TO.quiet (q_fieldAddr Try.underlying26 rfl inf3 rfl rfl) (TO.quiet (QT.cast (q_load_box 0 Try.underlying3 rfl rfl rfl rfl) (v' := .int .i64 ((a.states.toNat : Nat) : Int)) (by show Value.int _ _ = _; rw [Int.toNat_of_nonneg ha0])) (TO.quiet (q_move rfl) ?_))
  refine TO.nil (T.block ?_)
  refine T.nilRow 3 1 ?_
  refine T.loopS (fun (s : Nat) ρ O => ∃ (rb : Option Addr) (rc : Nat), O = [rowI rb rc 3 1 (ints (pickI (pvP b.states.toNat first second one two) (s * b.states.toNat))), oI za 26 (buCells a sA sAc eA eAc tA tAc), oI zn 3 [(.int .i64 ((b.states.toNat : Nat) : Int))]] ∧ s ≤ a.states.toNat ∧ Heads [(0, (.slice fb first.length fc)), (1, (.slice gb second.length gc)), (2, .bool one), (3, .bool two), (4, (.pointer (some ⟨za, 0, none⟩))), (5, (.pointer (some ⟨zn, 0, none⟩))), (10, (.slice rb ((pickI (pvP b.states.toNat first second one two) (s * b.states.toNat)).length) rc)), (14, .int .i64 ((a.states.toNat : Nat) : Int)), (15, .int .i64 (s : Int))] ρ) (fun s => a.states.toNat - s) 0 ?_ ?_
  · exact ⟨none, 0, (by rw [Nat.zero_mul]; rfl), Nat.zero_le _, ⟨rfl, rfl, rfl, rfl, rfl, rfl, (by rw [Nat.zero_mul]; rfl), rfl, rfl, trivial⟩⟩
  rintro s ρ O ⟨rb, rc, rfl, hs, hH⟩
  obtain ⟨ρ0, rfl⟩ := hH.elim
  clear hH
  refine T.seq (T.region ?_)
  refine TO.quiet (q_lss rfl rfl) ?_
  refine TO.nil (T.seq ?_)
  refine T.condP rfl (fun hc => ?_) (fun hc => ?_)
  · have hlt16 : s < a.states.toNat := by omega
    refine T.skip (T.seq (T.block (T.seq (T.region ?_))))
    refine TO.quiet (q_move rfl) (TO.quiet (q_assign rfl) ?_)
    refine TO.nil (T.seq (T.region ?_))
    refine TO.quiet (q_load_box 2 Try.underlying3 rfl rfl rfl rfl) (TO.quiet (q_move rfl) ?_)
    refine TO.nil (T.block ?_)
    refine T.loopS (fun (t : Nat) ρ O => ∃ (rb : Option Addr) (rc : Nat), O = [rowI rb rc 3 1 (ints (pickI (pvP b.states.toNat first second one two) (s * b.states.toNat + t))), oI za 26 (buCells a sA sAc eA eAc tA tAc), oI zn 3 [(.int .i64 ((b.states.toNat : Nat) : Int))]] ∧ t ≤ b.states.toNat ∧ Heads [(0, (.slice fb first.length fc)), (1, (.slice gb second.length gc)), (2, .bool one), (3, .bool two), (4, (.pointer (some ⟨za, 0, none⟩))), (5, (.pointer (some ⟨zn, 0, none⟩))), (10, (.slice rb ((pickI (pvP b.states.toNat first second one two) (s * b.states.toNat + t)).length) rc)), (11, .int .i64 (s : Int)), (14, .int .i64 ((a.states.toNat : Nat) : Int)), (15, .int .i64 (s : Int)), (18, (.int .i64 ((b.states.toNat : Nat) : Int))), (19, .int .i64 (t : Int))] ρ) (fun t => b.states.toNat - t) 0 ?_ ?_
    · exact ⟨rb, rc, rfl, Nat.zero_le _, ⟨rfl, rfl, rfl, rfl, rfl, rfl, rfl, rfl, rfl, rfl, rfl, rfl, trivial⟩⟩
    rintro t ρ O ⟨rb, rc, rfl, ht, hH⟩
    obtain ⟨ρ0, rfl⟩ := hH.elim
    clear hH
    have hpl := pickI_len (pvP b.states.toNat first second one two) (s * b.states.toNat + t)
    have hsn : s * b.states.toNat ≤ 4096 * 4096 := Nat.mul_le_mul (by omega) (by omega)
    refine T.seq (T.region ?_)
    refine TO.quiet (q_lss rfl rfl) ?_
    refine TO.nil (T.seq ?_)
    refine T.condP rfl (fun hc => ?_) (fun hc => ?_)
    · have hlt20 : t < b.states.toNat := by omega
      refine T.skip (T.seq (T.block (T.seq (T.region ?_))))
      refine TO.quiet (q_move rfl) (TO.quiet (q_assign rfl) ?_)
      refine TO.nil (T.seq (T.region ?_))
      refine TO.quiet (q_move rfl) (TO.quiet (q_not rfl) ?_)
      by_cases hs24 : (!one) = true
      · refine TO.quiet (QT.toB (q_move rfl) (hs24)) ?_
        refine TO.passed rfl rfl ?_
        refine TO.passed rfl rfl ?_
        refine TO.passed rfl rfl ?_
        refine TO.quiet (q_pick1 rfl rfl) (TO.quiet (q_move rfl) ?_)
        refine TO.guarded rfl rfl rfl (LT.of_quiet rfl rfl (q_move rfl) ?_)
        refine TO.guarded rfl rfl rfl (LT.of_quiet rfl rfl (q_not rfl) ?_)
        by_cases hs32 : (!two) = true
        · refine TO.guarded rfl rfl rfl (LT.of_quiet rfl rfl (QT.toB (q_move rfl) (hs32)) ?_)
          refine TO.passed rfl rfl ?_
          refine TO.passed rfl rfl ?_
          refine TO.passed rfl rfl ?_
          refine TO.guarded rfl rfl rfl (LT.of_quiet rfl rfl (q_pick1 rfl rfl) ?_)
          refine TO.quiet (q_pick1 rfl rfl) ?_
          refine TO.nil ?_
          refine T.cond1 rfl ?_
          refine T.region ?_
          refine TO.quiet (q_move rfl) (TO.quiet (q_move rfl) (TO.quiet (q_load_box 2 Try.underlying3 rfl rfl rfl rfl) (TO.quiet (q_mulN (a := s) (b := b.states.toNat) rfl rfl (by omega)) ?_)))
          refine TO.quiet (q_move rfl) (TO.quiet (q_addN (a := (s * b.states.toNat)) (b := t) rfl rfl (by omega)) ?_)
          refine TO.loud rfl (l_build1 (v := .int .i64 (((s * b.states.toNat) + t : Nat) : Int)) Try.underlying22 inf3 rfl rfl rfl (fun bx1 => ?_))
          refine TO.loud rfl (l_append 1 Try.underlying22 Try.underlying22 inf3 rfl rfl rfl rfl (by simp) (by decide) (Src.row (j := 0) rfl (by simp)) (by simp [oneB]) (by omega) (by decide) (by decide) (fun bx2 c3 => ?_))
          refine TO.quiet (q_assign rfl) ?_
          refine TO.nil (T.region ?_)
          refine TO.quiet (q_addN (a := t) (b := 1) rfl rfl (by omega)) (TO.quiet (q_move rfl) ?_)
          refine TO.nil ?_
          have hpd := pair_div (n := b.states.toNat) (s := s) hlt20
          have hpv : (pvP b.states.toNat first second one two) (s * b.states.toNat + t) = true := by unfold pvP; rw [hpd.1, hpd.2]; simp_all
          have hpy : pickI (pvP b.states.toNat first second one two) (s * b.states.toNat + (t + 1)) = (pickI (pvP b.states.toNat first second one two) (s * b.states.toNat + t)) ++ [((s * b.states.toNat + t : Nat) : Int)] := pickI_yes hpv
          refine ⟨t + 1, by omega, [rowI bx2 c3 3 1 ((ints (pickI (pvP b.states.toNat first second one two) (s * b.states.toNat + t))) ++ [.int .i64 (((s * b.states.toNat) + t : Nat) : Int)]), oI za 26 (buCells a sA sAc eA eAc tA tAc), oI zn 3 [(.int .i64 ((b.states.toNat : Nat) : Int))]], (by exact Sub.d (.k (.k (.k .z)))), bx2, c3, ?_, by omega, ⟨rfl, rfl, rfl, rfl, rfl, rfl, (by rw [hpy, List.length_append]; rfl), rfl, rfl, rfl, rfl, rfl, trivial⟩⟩
          rw [hpy, show ints ((pickI (pvP b.states.toNat first second one two) (s * b.states.toNat + t)) ++ [((s * b.states.toNat + t : Nat) : Int)]) = ints (pickI (pvP b.states.toNat first second one two) (s * b.states.toNat + t)) ++ [.int .i64 ((s * b.states.toNat + t : Nat) : Int)] from List.map_append]
        refine TO.guarded rfl rfl rfl (LT.of_quiet rfl rfl (QT.toB (q_move rfl) (Bool.eq_false_iff.2 hs32)) ?_)
        refine TO.guarded rfl rfl rfl (LT.of_quiet rfl rfl (q_move rfl) ?_)
        refine TO.guarded rfl rfl rfl (LT.of_quiet rfl rfl (q_move rfl) ?_)
        have hk35 := fun (w1 : World) (hI : Inv base [rowI rb rc 3 1 (ints (pickI (pvP b.states.toNat first second one two) (s * b.states.toNat + t))), oI za 26 (buCells a sA sAc eA eAc tA tAc), oI zn 3 [(.int .i64 ((b.states.toNat : Nat) : Int))]] w1) => containsI w1 gb gc second ((t : Nat) : Int) (hI.sl hG) (by omega)
        refine TO.guarded rfl rfl rfl (l_call ent95 (CallT.of_pure hk35) rfl ?_)
        clear hk35
        rintro vr O' ⟨N, rfl, rfl, rfl⟩
        refine TO.guarded rfl rfl rfl (LT.of_quiet rfl rfl (q_pick0 rfl rfl) ?_)
        refine TO.quiet (q_pick1 rfl rfl) ?_
        refine TO.nil ?_
        refine T.condP rfl (fun hc => ?_) (fun hc => ?_)
        · refine T.region ?_
          refine TO.quiet (q_move rfl) (TO.quiet (q_move rfl) (TO.quiet (q_load_box 2 Try.underlying3 rfl rfl rfl rfl) (TO.quiet (q_mulN (a := s) (b := b.states.toNat) rfl rfl (by omega)) ?_)))
          refine TO.quiet (q_move rfl) (TO.quiet (q_addN (a := (s * b.states.toNat)) (b := t) rfl rfl (by omega)) ?_)
          refine TO.loud rfl (l_build1 (v := .int .i64 (((s * b.states.toNat) + t : Nat) : Int)) Try.underlying22 inf3 rfl rfl rfl (fun bx4 => ?_))
          refine TO.loud rfl (l_append 1 Try.underlying22 Try.underlying22 inf3 rfl rfl rfl rfl (by simp) (by decide) (Src.row (j := 0) rfl (by simp)) (by simp [oneB]) (by omega) (by decide) (by decide) (fun bx5 c6 => ?_))
          refine TO.quiet (q_assign rfl) ?_
          refine TO.nil (T.region ?_)
          refine TO.quiet (q_addN (a := t) (b := 1) rfl rfl (by omega)) (TO.quiet (q_move rfl) ?_)
          refine TO.nil ?_
          have hpd := pair_div (n := b.states.toNat) (s := s) hlt20
          have hpv : (pvP b.states.toNat first second one two) (s * b.states.toNat + t) = true := by unfold pvP; rw [hpd.1, hpd.2]; simp_all
          have hpy : pickI (pvP b.states.toNat first second one two) (s * b.states.toNat + (t + 1)) = (pickI (pvP b.states.toNat first second one two) (s * b.states.toNat + t)) ++ [((s * b.states.toNat + t : Nat) : Int)] := pickI_yes hpv
          refine ⟨t + 1, by omega, [rowI bx5 c6 3 1 ((ints (pickI (pvP b.states.toNat first second one two) (s * b.states.toNat + t))) ++ [.int .i64 (((s * b.states.toNat) + t : Nat) : Int)]), oI za 26 (buCells a sA sAc eA eAc tA tAc), oI zn 3 [(.int .i64 ((b.states.toNat : Nat) : Int))]], (by exact Sub.d (.k (.k (.k .z)))), bx5, c6, ?_, by omega, ⟨rfl, rfl, rfl, rfl, rfl, rfl, (by rw [hpy, List.length_append]; rfl), rfl, rfl, rfl, rfl, rfl, trivial⟩⟩
          rw [hpy, show ints ((pickI (pvP b.states.toNat first second one two) (s * b.states.toNat + t)) ++ [((s * b.states.toNat + t : Nat) : Int)]) = ints (pickI (pvP b.states.toNat first second one two) (s * b.states.toNat + t)) ++ [.int .i64 ((s * b.states.toNat + t : Nat) : Int)] from List.map_append]
        refine T.skip (T.region ?_)
        refine TO.quiet (q_addN (a := t) (b := 1) rfl rfl (by omega)) (TO.quiet (q_move rfl) ?_)
        refine TO.nil ?_
        have hpd := pair_div (n := b.states.toNat) (s := s) hlt20
        have hpv : ¬ (pvP b.states.toNat first second one two) (s * b.states.toNat + t) = true := by unfold pvP; rw [hpd.1, hpd.2]; simp_all
        have hpy : pickI (pvP b.states.toNat first second one two) (s * b.states.toNat + (t + 1)) = (pickI (pvP b.states.toNat first second one two) (s * b.states.toNat + t)) := pickI_no hpv
        refine ⟨t + 1, by omega, [rowI rb rc 3 1 (ints (pickI (pvP b.states.toNat first second one two) (s * b.states.toNat + t))), oI za 26 (buCells a sA sAc eA eAc tA tAc), oI zn 3 [(.int .i64 ((b.states.toNat : Nat) : Int))]], (by exact Sub.rf), rb, rc, ?_, by omega, ⟨rfl, rfl, rfl, rfl, rfl, rfl, (by rw [hpy]; rfl), rfl, rfl, rfl, rfl, rfl, trivial⟩⟩
        rw [hpy]
      refine TO.quiet (QT.toB (q_move rfl) (Bool.eq_false_iff.2 hs24)) ?_
      refine TO.guarded rfl rfl rfl (LT.of_quiet rfl rfl (q_move rfl) ?_)
      refine TO.guarded rfl rfl rfl (LT.of_quiet rfl rfl (q_move rfl) ?_)
      have hk27 := fun (w1 : World) (hI : Inv base [rowI rb rc 3 1 (ints (pickI (pvP b.states.toNat first second one two) (s * b.states.toNat + t))), oI za 26 (buCells a sA sAc eA eAc tA tAc), oI zn 3 [(.int .i64 ((b.states.toNat : Nat) : Int))]] w1) => containsI w1 fb fc first ((s : Nat) : Int) (hI.sl hF) (by omega)
      refine TO.guarded rfl rfl rfl (l_call ent95 (CallT.of_pure hk27) rfl ?_)
      clear hk27
      rintro vr O' ⟨N, rfl, rfl, rfl⟩
      refine TO.quiet (q_pick0 rfl rfl) ?_
      by_cases hs29 : ((s : Nat) : Int) ∈ first
      · refine TO.quiet (QT.toB (q_move rfl) (decide_eq_true hs29)) ?_
        refine TO.guarded rfl rfl rfl (LT.of_quiet rfl rfl (q_move rfl) ?_)
        refine TO.guarded rfl rfl rfl (LT.of_quiet rfl rfl (q_not rfl) ?_)
        by_cases hs32 : (!two) = true
        · refine TO.guarded rfl rfl rfl (LT.of_quiet rfl rfl (QT.toB (q_move rfl) (hs32)) ?_)
          refine TO.passed rfl rfl ?_
          refine TO.passed rfl rfl ?_
          refine TO.passed rfl rfl ?_
          refine TO.guarded rfl rfl rfl (LT.of_quiet rfl rfl (q_pick1 rfl rfl) ?_)
          refine TO.quiet (q_pick1 rfl rfl) ?_
          refine TO.nil ?_
          refine T.cond1 rfl ?_
          refine T.region ?_
          refine TO.quiet (q_move rfl) (TO.quiet (q_move rfl) (TO.quiet (q_load_box 2 Try.underlying3 rfl rfl rfl rfl) (TO.quiet (q_mulN (a := s) (b := b.states.toNat) rfl rfl (by omega)) ?_)))
          refine TO.quiet (q_move rfl) (TO.quiet (q_addN (a := (s * b.states.toNat)) (b := t) rfl rfl (by omega)) ?_)
          refine TO.loud rfl (l_build1 (v := .int .i64 (((s * b.states.toNat) + t : Nat) : Int)) Try.underlying22 inf3 rfl rfl rfl (fun bx7 => ?_))
          refine TO.loud rfl (l_append 1 Try.underlying22 Try.underlying22 inf3 rfl rfl rfl rfl (by simp) (by decide) (Src.row (j := 0) rfl (by simp)) (by simp [oneB]) (by omega) (by decide) (by decide) (fun bx8 c9 => ?_))
          refine TO.quiet (q_assign rfl) ?_
          refine TO.nil (T.region ?_)
          refine TO.quiet (q_addN (a := t) (b := 1) rfl rfl (by omega)) (TO.quiet (q_move rfl) ?_)
          refine TO.nil ?_
          have hpd := pair_div (n := b.states.toNat) (s := s) hlt20
          have hpv : (pvP b.states.toNat first second one two) (s * b.states.toNat + t) = true := by unfold pvP; rw [hpd.1, hpd.2]; simp_all
          have hpy : pickI (pvP b.states.toNat first second one two) (s * b.states.toNat + (t + 1)) = (pickI (pvP b.states.toNat first second one two) (s * b.states.toNat + t)) ++ [((s * b.states.toNat + t : Nat) : Int)] := pickI_yes hpv
          refine ⟨t + 1, by omega, [rowI bx8 c9 3 1 ((ints (pickI (pvP b.states.toNat first second one two) (s * b.states.toNat + t))) ++ [.int .i64 (((s * b.states.toNat) + t : Nat) : Int)]), oI za 26 (buCells a sA sAc eA eAc tA tAc), oI zn 3 [(.int .i64 ((b.states.toNat : Nat) : Int))]], (by exact Sub.d (.k (.k (.k .z)))), bx8, c9, ?_, by omega, ⟨rfl, rfl, rfl, rfl, rfl, rfl, (by rw [hpy, List.length_append]; rfl), rfl, rfl, rfl, rfl, rfl, trivial⟩⟩
          rw [hpy, show ints ((pickI (pvP b.states.toNat first second one two) (s * b.states.toNat + t)) ++ [((s * b.states.toNat + t : Nat) : Int)]) = ints (pickI (pvP b.states.toNat first second one two) (s * b.states.toNat + t)) ++ [.int .i64 ((s * b.states.toNat + t : Nat) : Int)] from List.map_append]
        refine TO.guarded rfl rfl rfl (LT.of_quiet rfl rfl (QT.toB (q_move rfl) (Bool.eq_false_iff.2 hs32)) ?_)
        refine TO.guarded rfl rfl rfl (LT.of_quiet rfl rfl (q_move rfl) ?_)
        refine TO.guarded rfl rfl rfl (LT.of_quiet rfl rfl (q_move rfl) ?_)
        have hk35 := fun (w1 : World) (hI : Inv base [rowI rb rc 3 1 (ints (pickI (pvP b.states.toNat first second one two) (s * b.states.toNat + t))), oI za 26 (buCells a sA sAc eA eAc tA tAc), oI zn 3 [(.int .i64 ((b.states.toNat : Nat) : Int))]] w1) => containsI w1 gb gc second ((t : Nat) : Int) (hI.sl hG) (by omega)
        refine TO.guarded rfl rfl rfl (l_call ent95 (CallT.of_pure hk35) rfl ?_)
        clear hk35
        rintro vr O' ⟨N, rfl, rfl, rfl⟩
        refine TO.guarded rfl rfl rfl (LT.of_quiet rfl rfl (q_pick0 rfl rfl) ?_)
        refine TO.quiet (q_pick1 rfl rfl) ?_
        refine TO.nil ?_
        refine T.condP rfl (fun hc => ?_) (fun hc => ?_)
        · refine T.region ?_
          refine TO.quiet (q_move rfl) (TO.quiet (q_move rfl) (TO.quiet (q_load_box 2 Try.underlying3 rfl rfl rfl rfl) (TO.quiet (q_mulN (a := s) (b := b.states.toNat) rfl rfl (by omega)) ?_)))
          refine TO.quiet (q_move rfl) (TO.quiet (q_addN (a := (s * b.states.toNat)) (b := t) rfl rfl (by omega)) ?_)
          refine TO.loud rfl (l_build1 (v := .int .i64 (((s * b.states.toNat) + t : Nat) : Int)) Try.underlying22 inf3 rfl rfl rfl (fun bx10 => ?_))
          refine TO.loud rfl (l_append 1 Try.underlying22 Try.underlying22 inf3 rfl rfl rfl rfl (by simp) (by decide) (Src.row (j := 0) rfl (by simp)) (by simp [oneB]) (by omega) (by decide) (by decide) (fun bx11 c12 => ?_))
          refine TO.quiet (q_assign rfl) ?_
          refine TO.nil (T.region ?_)
          refine TO.quiet (q_addN (a := t) (b := 1) rfl rfl (by omega)) (TO.quiet (q_move rfl) ?_)
          refine TO.nil ?_
          have hpd := pair_div (n := b.states.toNat) (s := s) hlt20
          have hpv : (pvP b.states.toNat first second one two) (s * b.states.toNat + t) = true := by unfold pvP; rw [hpd.1, hpd.2]; simp_all
          have hpy : pickI (pvP b.states.toNat first second one two) (s * b.states.toNat + (t + 1)) = (pickI (pvP b.states.toNat first second one two) (s * b.states.toNat + t)) ++ [((s * b.states.toNat + t : Nat) : Int)] := pickI_yes hpv
          refine ⟨t + 1, by omega, [rowI bx11 c12 3 1 ((ints (pickI (pvP b.states.toNat first second one two) (s * b.states.toNat + t))) ++ [.int .i64 (((s * b.states.toNat) + t : Nat) : Int)]), oI za 26 (buCells a sA sAc eA eAc tA tAc), oI zn 3 [(.int .i64 ((b.states.toNat : Nat) : Int))]], (by exact Sub.d (.k (.k (.k .z)))), bx11, c12, ?_, by omega, ⟨rfl, rfl, rfl, rfl, rfl, rfl, (by rw [hpy, List.length_append]; rfl), rfl, rfl, rfl, rfl, rfl, trivial⟩⟩
          rw [hpy, show ints ((pickI (pvP b.states.toNat first second one two) (s * b.states.toNat + t)) ++ [((s * b.states.toNat + t : Nat) : Int)]) = ints (pickI (pvP b.states.toNat first second one two) (s * b.states.toNat + t)) ++ [.int .i64 ((s * b.states.toNat + t : Nat) : Int)] from List.map_append]
        refine T.skip (T.region ?_)
        refine TO.quiet (q_addN (a := t) (b := 1) rfl rfl (by omega)) (TO.quiet (q_move rfl) ?_)
        refine TO.nil ?_
        have hpd := pair_div (n := b.states.toNat) (s := s) hlt20
        have hpv : ¬ (pvP b.states.toNat first second one two) (s * b.states.toNat + t) = true := by unfold pvP; rw [hpd.1, hpd.2]; simp_all
        have hpy : pickI (pvP b.states.toNat first second one two) (s * b.states.toNat + (t + 1)) = (pickI (pvP b.states.toNat first second one two) (s * b.states.toNat + t)) := pickI_no hpv
        refine ⟨t + 1, by omega, [rowI rb rc 3 1 (ints (pickI (pvP b.states.toNat first second one two) (s * b.states.toNat + t))), oI za 26 (buCells a sA sAc eA eAc tA tAc), oI zn 3 [(.int .i64 ((b.states.toNat : Nat) : Int))]], (by exact Sub.rf), rb, rc, ?_, by omega, ⟨rfl, rfl, rfl, rfl, rfl, rfl, (by rw [hpy]; rfl), rfl, rfl, rfl, rfl, rfl, trivial⟩⟩
        rw [hpy]
      refine TO.quiet (QT.toB (q_move rfl) (decide_eq_false hs29)) ?_
      refine TO.passed rfl rfl ?_
      refine TO.passed rfl rfl ?_
      refine TO.passed rfl rfl ?_
      refine TO.passed rfl rfl ?_
      refine TO.passed rfl rfl ?_
      refine TO.passed rfl rfl ?_
      refine TO.passed rfl rfl ?_
      refine TO.quiet (q_pick0 rfl rfl) ?_
      refine TO.nil ?_
      refine T.cond0 rfl ?_
      refine T.skip (T.region ?_)
      refine TO.quiet (q_addN (a := t) (b := 1) rfl rfl (by omega)) (TO.quiet (q_move rfl) ?_)
      refine TO.nil ?_
      have hpd := pair_div (n := b.states.toNat) (s := s) hlt20
      have hpv : ¬ (pvP b.states.toNat first second one two) (s * b.states.toNat + t) = true := by unfold pvP; rw [hpd.1, hpd.2]; simp_all
      have hpy : pickI (pvP b.states.toNat first second one two) (s * b.states.toNat + (t + 1)) = (pickI (pvP b.states.toNat first second one two) (s * b.states.toNat + t)) := pickI_no hpv
      refine ⟨t + 1, by omega, [rowI rb rc 3 1 (ints (pickI (pvP b.states.toNat first second one two) (s * b.states.toNat + t))), oI za 26 (buCells a sA sAc eA eAc tA tAc), oI zn 3 [(.int .i64 ((b.states.toNat : Nat) : Int))]], (by exact Sub.rf), rb, rc, ?_, by omega, ⟨rfl, rfl, rfl, rfl, rfl, rfl, (by rw [hpy]; rfl), rfl, rfl, rfl, rfl, rfl, trivial⟩⟩
      rw [hpy]
    have hge20 : ¬ t < b.states.toNat := by omega
    refine T.exit ?_
    refine T.region ?_
    refine TO.quiet (q_addN (a := s) (b := 1) rfl rfl (by omega)) (TO.quiet (q_move rfl) ?_)
    refine TO.nil ?_
    have hte : s * b.states.toNat + t = (s + 1) * b.states.toNat := by rw [Nat.succ_mul]; omega
    have hpp : (pickI (pvP b.states.toNat first second one two) (s * b.states.toNat + t)) = (pickI (pvP b.states.toNat first second one two) ((s + 1) * b.states.toNat)) := by rw [hte]
    exact ⟨s + 1, by omega, [rowI rb rc 3 1 (ints (pickI (pvP b.states.toNat first second one two) (s * b.states.toNat + t))), oI za 26 (buCells a sA sAc eA eAc tA tAc), oI zn 3 [(.int .i64 ((b.states.toNat : Nat) : Int))]], (by exact Sub.rf), rb, rc, (by rw [hpp]), by omega, ⟨rfl, rfl, rfl, rfl, rfl, rfl, (by rw [hpp]; rfl), rfl, rfl, trivial⟩⟩
  have hge16 : ¬ s < a.states.toNat := by omega
  refine T.exit ?_
  refine T.seq (T.region ?_)
  refine TO.quiet (q_move rfl) (TO.quiet (q_assign rfl) ?_)
  refine TO.nil (T.ret (Res.drop ?_))
  refine Res.one (.slice rb ((pickI (pvP b.states.toNat first second one two) (s * b.states.toNat)).length) rc) Try.results94 rfl ?_
  have hse : s = a.states.toNat := by omega
  subst hse
  exact ⟨[rowI rb rc 3 1 (ints (pickI (pvP b.states.toNat first second one two) (inAll a b))), oI za 26 (buCells a sA sAc eA eAc tA tAc), oI zn 3 [(.int .i64 ((b.states.toNat : Nat) : Int))]], Sub.rf, rb, rc, rfl, rfl⟩
set_option maxHeartbeats 4000000 in
set_option maxRecDepth 20000 in
theorem intersectF (w : World) (a : Bu) (sA eA tA : Option Addr) (sAc eAc tAc : Nat) (vA : List Value) (hA : BuAt w a sA eA tA vA) (hAB : BuB a) (b : Bu) (sb eb tb : Option Addr) (sc ec tc : Nat) (vs : List Value) (h : BuAt w b sb eb tb vs) (hB : BuB b) (hAe : a.edges.length ≤ 1000) (hBe : b.edges.length ≤ 1000) :
    PureT Try.prog 42 [.agg (buCells a sA sAc eA eAc tA tAc).toArray, .agg (buCells b sb sc eb ec tb tc).toArray] w fun v N => ∃ sb2 eb2 tb2 sc2 ec2 tc2 qs, v = .tuple #[.agg (buCells (inrB a b) sb2 sc2 eb2 ec2 tb2 tc2).toArray, .int .i64 ((inE a b : Nat) : Int)] ∧ N = [rowI sb2 sc2 3 1 (ints (inrB a b).start), rowI eb2 ec2 54 4 (edsC (inrB a b).edges), rowI tb2 tc2 22 1 (vals qs)] ++ itms 3 qs ∧ nums qs = (inrB a b).sets := by
  refine CallT.enter Try.func42 rfl Try.ntmps42 rfl ?_
  have hAst := hAB.st; have hAed := hAB.ed; have hAse := hAB.se; have hBst := hB.st; have hBse := hB.se
  refine T.seq (T.region ?_)
  refine TO.loud rfl (l_box (v := (.agg (buCells a sA sAc eA eAc tA tAc).toArray)) (cs := (buCells a sA sAc eA eAc tA tAc)) rfl rfl (fun bx1 => ?_))
  refine TO.loud rfl (l_box (v := (.agg (buCells b sb sc eb ec tb tc).toArray)) (cs := (buCells b sb sc eb ec tb tc)) rfl rfl (fun bx2 => ?_))
  refine TO.loud rfl (l_alloc inf26 rfl (fun bx3 => ?_))
  refine TO.quiet (q_assign rfl) ?_
  refine TO.nil (T.seq (T.seq (T.region ?_)))
  refine TO.quiet (q_load_boxAgg 2 Try.underlying26 rfl inf26 rfl rfl rfl) (TO.quiet (q_load_boxAgg 1 Try.underlying26 rfl inf26 rfl rfl rfl) ?_)
  have hk21 := fun (w1 : World) (hI : Inv w [oI bx3 26 [(.int .i64 0), (.int .i64 0), (.slice none 0 0), (.slice none 0 0), (.slice none 0 0)], oI bx2 26 (buCells b sb sc eb ec tb tc), oI bx1 26 (buCells a sA sAc eA eAc tA tAc)] w1) => pairF w1 a sA eA tA sAc eAc tAc vA (hI.bu hA) hAB b sb eb tb sc ec tc vs (hI.bu h) hB
  refine TO.loud rfl (l_call ent90 (CallT.of_pure hk21) rfl ?_)
  clear hk21
  rintro vr O' ⟨N, rfl, rfl, rfl⟩
  refine TO.quiet (q_assign rfl) ?_
  refine TO.nil (T.seq (T.region ?_))
  refine TO.quiet (q_move rfl) (TO.quiet (q_neq rfl rfl) ?_)
  refine TO.nil ?_
  refine T.condP rfl (fun hc => ?_) (fun hc => ?_)
  · have hlt23 : pairE a b ≠ 0 := by omega
    refine T.seq ?_
    refine T.nilRow 22 1 ?_
    refine T.nilRow 54 4 ?_
    refine T.nilRow 3 1 ?_
    refine T.region ?_
    refine TO.quiet (q_load_boxAgg 3 Try.underlying26 rfl inf26 rfl rfl rfl) (TO.quiet (q_move rfl) ?_)
    refine TO.loud rfl (l_store_box (v := (.agg #[(.int .i64 0), (.int .i64 0), (.slice none 0 0), (.slice none 0 0), (.slice none 0 0)])) (vs := [(.int .i64 0), (.int .i64 0), (.slice none 0 0), (.slice none 0 0), (.slice none 0 0)]) 3 inf26 rfl rfl rfl rfl rfl rfl (by simp [putL]) ?_)
    refine TO.quiet (q_assign rfl) ?_
    refine TO.nil (T.ret (Res.drop ?_))
    refine Res.cell1b (.int .i64 ((pairE a b : Nat) : Int)) (i := 3) Try.results42 Try.underlying26 rfl inf26 rfl rfl rfl rfl ?_
    have hE9 : inE a b = pairE a b := by unfold inE; rw [if_pos (by omega)]
    have hz9 : inrB a b = zeroBu := by unfold inrB; rw [if_neg (by rw [hE9]; omega)]
    refine ⟨[rowI none 0 3 1 [], rowI none 0 54 4 [], rowI none 0 22 1 []] ++ itms 3 [], ?_, none, none, none, 0, 0, 0, [], ?_, ?_, ?_⟩
    · exact Sub.cnt [oI bx3 26 [(.int .i64 0), (.int .i64 0), (.slice none 0 0), (.slice none 0 0), (.slice none 0 0)], oI bx2 26 (buCells b sb sc eb ec tb tc), oI bx1 26 (buCells a sA sAc eA eAc tA tAc)] (by intro a; simp only [itms, oI, List.set_cons_zero, List.set_cons_succ, putL, List.cons_append, List.nil_append, List.append_nil, List.append_assoc, List.map_append, List.map_cons, List.map_nil, cnt_append, cnt_cons, cnt_nil, buCells, laCells] <;> omega)
    · rw [hz9, hE9]; rfl
    · rw [hz9]; rfl
    · rw [hz9]; rfl
  have hge23 : ¬ pairE a b ≠ 0 := by omega
  refine T.skip (T.seq ?_)
  obtain ⟨hva, hvb, hvv⟩ := pairE_zero (a := a) (b := b) (by omega)
  have ha0 := hva.n0; have ha4 := hva.n4; have hb0 := hvb.n0; have hb4 := hvb.n4; have ha8 := hva.m8; have hb8 := hvb.m8
  have hnn : a.states.toNat * b.states.toNat ≤ 4096 * 4096 := Nat.mul_le_mul (by omega) (by omega)
  refine T.region ?_
  refine TO.quiet (q_fieldAddr Try.underlying26 rfl inf3 rfl rfl) (TO.quiet (QT.cast (q_load_box 1 Try.underlying3 rfl rfl rfl rfl) (v' := .int .i64 ((b.states.toNat : Nat) : Int)) (by show Value.int _ _ = _; rw [Int.toNat_of_nonneg hb0])) ?_)
  refine TO.loud rfl (l_alloc inf3 rfl (fun bx4 => ?_))
  refine TO.loud rfl (l_store_box (v := .int .i64 ((b.states.toNat : Nat) : Int)) (vs := [(.int .i64 ((b.states.toNat : Nat) : Int))]) 0 inf3 rfl rfl rfl rfl rfl rfl (by simp [putL]) ?_)
  refine TO.nil (T.seq (T.block (T.seq (T.region ?_))))
  refine TO.quiet (q_fieldAddr Try.underlying26 rfl inf3 rfl rfl) (TO.quiet (QT.cast (q_load_box 3 Try.underlying3 rfl rfl rfl rfl) (v' := .int .i64 ((a.states.toNat : Nat) : Int)) (by show Value.int _ _ = _; rw [Int.toNat_of_nonneg ha0])) (TO.quiet (q_load_box 0 Try.underlying3 rfl rfl rfl rfl) (TO.quiet (q_mulN (a := a.states.toNat) (b := b.states.toNat) rfl rfl (by omega)) ?_)))
  refine TO.quiet (q_gtr rfl rfl) (TO.quiet (q_assign rfl) ?_)
  refine TO.nil ?_
  refine T.condP rfl (fun hc => ?_) (fun hc => ?_)
  · have hlt28 : a.states.toNat * b.states.toNat > 4096 := by omega
    refine T.seq ?_
    refine T.nilRow 22 1 ?_
    refine T.nilRow 54 4 ?_
    refine T.nilRow 3 1 ?_
    refine T.region ?_
    refine TO.quiet (q_load_boxAgg 4 Try.underlying26 rfl inf26 rfl rfl rfl) ?_
    refine TO.loud rfl (l_store_box (v := (.agg #[(.int .i64 0), (.int .i64 0), (.slice none 0 0), (.slice none 0 0), (.slice none 0 0)])) (vs := [(.int .i64 0), (.int .i64 0), (.slice none 0 0), (.slice none 0 0), (.slice none 0 0)]) 4 inf26 rfl rfl rfl rfl rfl rfl (by simp [putL]) ?_)
    refine TO.quiet (q_assign rfl) ?_
    refine TO.nil (T.ret (Res.drop ?_))
    refine Res.cell1b (.int .i64 10) (i := 4) Try.results42 Try.underlying26 rfl inf26 rfl rfl rfl rfl ?_
    have hE9 : inE a b = 10 := by unfold inE; rw [if_neg (by omega), if_pos (by unfold inAll; omega)]
    have hz9 : inrB a b = zeroBu := by unfold inrB; rw [if_neg (by rw [hE9]; omega)]
    refine ⟨[rowI none 0 3 1 [], rowI none 0 54 4 [], rowI none 0 22 1 []] ++ itms 3 [], ?_, none, none, none, 0, 0, 0, [], ?_, ?_, ?_⟩
    · exact Sub.cnt [oI bx4 3 [(.int .i64 ((b.states.toNat : Nat) : Int))], oI bx3 26 [(.int .i64 0), (.int .i64 0), (.slice none 0 0), (.slice none 0 0), (.slice none 0 0)], oI bx2 26 (buCells b sb sc eb ec tb tc), oI bx1 26 (buCells a sA sAc eA eAc tA tAc)] (by intro a; simp only [itms, oI, List.set_cons_zero, List.set_cons_succ, putL, List.cons_append, List.nil_append, List.append_nil, List.append_assoc, List.map_append, List.map_cons, List.map_nil, cnt_append, cnt_cons, cnt_nil, buCells, laCells] <;> omega)
    · rw [hz9, hE9]; rfl
    · rw [hz9]; rfl
    · rw [hz9]; rfl
  have hge28 : ¬ a.states.toNat * b.states.toNat > 4096 := by omega
  refine T.seq (T.region ?_)
  refine TO.quiet (q_fieldAddr Try.underlying26 rfl inf24 rfl rfl) (TO.quiet (q_load_box 3 Try.underlying24 rfl rfl rfl rfl) (TO.quiet (q_len Try.underlying24 rfl) (TO.quiet (q_fieldAddr Try.underlying26 rfl inf24 rfl rfl) ?_)))
  refine TO.quiet (q_load_box 2 Try.underlying24 rfl rfl rfl rfl) (TO.quiet (q_len Try.underlying24 rfl) (TO.quiet (q_addN (a := a.sets.length) (b := b.sets.length) rfl rfl (by omega)) (TO.quiet (q_gtr rfl rfl) ?_)))
  refine TO.quiet (q_assign rfl) ?_
  refine TO.nil ?_
  refine T.condP rfl (fun hc => ?_) (fun hc => ?_)
  · have hlt35 : a.sets.length + b.sets.length > 8 := by omega
    refine T.seq ?_
    refine T.nilRow 22 1 ?_
    refine T.nilRow 54 4 ?_
    refine T.nilRow 3 1 ?_
    refine T.region ?_
    refine TO.quiet (q_load_boxAgg 4 Try.underlying26 rfl inf26 rfl rfl rfl) ?_
    refine TO.loud rfl (l_store_box (v := (.agg #[(.int .i64 0), (.int .i64 0), (.slice none 0 0), (.slice none 0 0), (.slice none 0 0)])) (vs := [(.int .i64 0), (.int .i64 0), (.slice none 0 0), (.slice none 0 0), (.slice none 0 0)]) 4 inf26 rfl rfl rfl rfl rfl rfl (by simp [putL]) ?_)
    refine TO.quiet (q_assign rfl) ?_
    refine TO.nil (T.ret (Res.drop ?_))
    refine Res.cell1b (.int .i64 4) (i := 4) Try.results42 Try.underlying26 rfl inf26 rfl rfl rfl rfl ?_
    have hE9 : inE a b = 4 := by unfold inE; rw [if_neg (by omega), if_neg (by unfold inAll; omega), if_pos (by omega)]
    have hz9 : inrB a b = zeroBu := by unfold inrB; rw [if_neg (by rw [hE9]; omega)]
    refine ⟨[rowI none 0 3 1 [], rowI none 0 54 4 [], rowI none 0 22 1 []] ++ itms 3 [], ?_, none, none, none, 0, 0, 0, [], ?_, ?_, ?_⟩
    · exact Sub.cnt [oI bx4 3 [(.int .i64 ((b.states.toNat : Nat) : Int))], oI bx3 26 [(.int .i64 0), (.int .i64 0), (.slice none 0 0), (.slice none 0 0), (.slice none 0 0)], oI bx2 26 (buCells b sb sc eb ec tb tc), oI bx1 26 (buCells a sA sAc eA eAc tA tAc)] (by intro a; simp only [itms, oI, List.set_cons_zero, List.set_cons_succ, putL, List.cons_append, List.nil_append, List.append_nil, List.append_assoc, List.map_append, List.map_cons, List.map_nil, cnt_append, cnt_cons, cnt_nil, buCells, laCells] <;> omega)
    · rw [hz9, hE9]; rfl
    · rw [hz9]; rfl
    · rw [hz9]; rfl
  have hge35 : ¬ a.sets.length + b.sets.length > 8 := by omega
  refine T.skip (T.seq (T.region ?_))
  refine TO.quiet (q_fieldAddr Try.underlying26 rfl inf3 rfl rfl) (TO.quiet (q_load_box 3 Try.underlying3 rfl rfl rfl rfl) (TO.quiet (q_fieldAddr Try.underlying26 rfl inf3 rfl rfl) (TO.quiet (QT.cast (q_load_box 3 Try.underlying3 rfl rfl rfl rfl) (v' := .int .i64 ((a.states.toNat : Nat) : Int)) (by show Value.int _ _ = _; rw [Int.toNat_of_nonneg ha0])) ?_)))
  refine TO.quiet (q_load_box 0 Try.underlying3 rfl rfl rfl rfl) (TO.quiet (q_mulN (a := a.states.toNat) (b := b.states.toNat) rfl rfl (by omega)) (TO.quiet (q_build (cs := [(.int .i64 a.vars), .int .i64 ((a.states.toNat * b.states.toNat : Nat) : Int), (.slice none 0 0), (.slice none 0 0), (.slice none 0 0)]) plan26 inf26 (by kernel_rfl)) ?_))
  refine TO.loud rfl (l_store_box (v := (.agg #[(.int .i64 a.vars), .int .i64 ((a.states.toNat * b.states.toNat : Nat) : Int), (.slice none 0 0), (.slice none 0 0), (.slice none 0 0)])) (vs := [(.int .i64 a.vars), .int .i64 ((a.states.toNat * b.states.toNat : Nat) : Int), (.slice none 0 0), (.slice none 0 0), (.slice none 0 0)]) 1 inf26 rfl rfl rfl rfl rfl rfl (by simp [putL]) ?_)
  refine TO.nil (T.seq (T.region ?_))
  refine TO.quiet (q_makeFunc) (TO.quiet (q_assign rfl) ?_)
  refine TO.nil (T.seq (T.region ?_))
  refine TO.quiet (q_move rfl) (TO.quiet (q_fieldAddr Try.underlying26 rfl inf22 rfl rfl) (TO.quiet (q_load_box 3 Try.underlying22 rfl rfl rfl rfl) (TO.quiet (q_fieldAddr Try.underlying26 rfl inf22 rfl rfl) ?_)))
  refine TO.quiet (q_load_box 2 Try.underlying22 rfl rfl rfl rfl) ?_
  have hk58 := ((CallV.of_fn (first := []) (args := [.slice sA (a.start).length sAc, .slice sb (b.start).length sc, .bool true, .bool true]) (caps := [.pointer (some ⟨bx1, 0, none⟩), .pointer (some ⟨bx4, 0, none⟩)]) ent94 (by
    have h9 := pairsF w a b sA eA tA sAc eAc tAc bx1 bx4 ha0 ha4 (by omega) a.start b.start true true sA sb sAc sc hA.st h.st hAst hBst
    rw [show pvP b.states.toNat a.start b.start true true = (stP a b) from (by funext v; unfold pvP stP; simp)] at h9; exact h9)).under (B := [oI bx3 26 [(.int .i64 a.vars), .int .i64 ((a.states.toNat * b.states.toNat : Nat) : Int), (.slice none 0 0), (.slice none 0 0), (.slice none 0 0)], oI bx2 26 (buCells b sb sc eb ec tb tc)]) (O := [oI bx4 3 [(.int .i64 ((b.states.toNat : Nat) : Int))], oI bx3 26 [(.int .i64 a.vars), .int .i64 ((a.states.toNat * b.states.toNat : Nat) : Int), (.slice none 0 0), (.slice none 0 0), (.slice none 0 0)], oI bx2 26 (buCells b sb sc eb ec tb tc), oI bx1 26 (buCells a sA sAc eA eAc tA tAc)]) (Sub.pick [3, 0, 0, 0] rfl))
  refine TO.loud rfl (l_callG hk58 rfl rfl ?_)
  clear hk58
  rintro vr O' ⟨A1, rfl, rs, cs, rfl, rfl⟩
  refine TO.quiet (q_fieldAddr Try.underlying26 rfl inf22 rfl rfl) ?_
  refine TO.loud rfl (l_store_box (v := (.slice rs ((pickI (stP a b) (inAll a b)).length) cs)) (vs := [(.slice rs ((pickI (stP a b) (inAll a b)).length) cs)]) 3 inf22 rfl rfl rfl rfl rfl rfl (by simp [putL]) ?_)
  refine TO.nil (T.seq (T.seq (T.region ?_)))
  refine TO.quiet (q_fieldAddr Try.underlying26 rfl inf24 rfl rfl) (TO.quiet (q_load_box 1 Try.underlying24 rfl rfl rfl rfl) (TO.quiet (q_len Try.underlying24 rfl) (TO.quiet (q_move rfl) ?_)))
  refine TO.nil (T.block ?_)
  refine T.nilRow 22 1 ?_
  refine T.sub (O' := [rowI none 0 22 1 [], rowI rs cs 3 1 (ints (pickI (stP a b) (inAll a b))), oI bx1 26 (buCells a sA sAc eA eAc tA tAc), oI bx4 3 [(.int .i64 ((b.states.toNat : Nat) : Int))], oI bx3 26 [(.int .i64 a.vars), .int .i64 ((a.states.toNat * b.states.toNat : Nat) : Int), (.slice rs ((pickI (stP a b) (inAll a b)).length) cs), (.slice none 0 0), (.slice none 0 0)], oI bx2 26 (buCells b sb sc eb ec tb tc)] ++ itms 3 []) (Sub.of (List.Sublist.refl _)) ?_
  refine T.loop (fun (k5 : Nat) ρ O => ∃ (q5 : List Rec) (tb5 : Option Addr) (tc5 : Nat), O = ([rowI tb5 tc5 22 1 (vals q5), rowI rs cs 3 1 (ints (pickI (stP a b) (inAll a b))), oI bx1 26 (buCells a sA sAc eA eAc tA tAc), oI bx4 3 [(.int .i64 ((b.states.toNat : Nat) : Int))], oI bx3 26 [(.int .i64 a.vars), .int .i64 ((a.states.toNat * b.states.toNat : Nat) : Int), (.slice rs ((pickI (stP a b) (inAll a b)).length) cs), (.slice none 0 0), (.slice tb5 k5 tc5)], oI bx2 26 (buCells b sb sc eb ec tb tc)] ++ (itms 3 q5)) ∧ k5 ≤ a.sets.length ∧ nums q5 = (a.sets.take k5).map (fun S => (pickI (faP b.states.toNat S) (inAll a b))) ∧ Heads [(0, (.agg (buCells a sA sAc eA eAc tA tAc).toArray)), (1, (.agg (buCells b sb sc eb ec tb tc).toArray)), (2, (.pointer (some ⟨bx1, 0, none⟩))), (3, (.pointer (some ⟨bx2, 0, none⟩))), (4, (.pointer (some ⟨bx3, 0, none⟩))), (5, .int .i64 0), (6, .int .i64 ((pairE a b : Nat) : Int)), (7, (.pointer (some ⟨bx4, 0, none⟩))), (8, (.func (.func 94) #[] #[(.pointer (some ⟨bx1, 0, none⟩)), (.pointer (some ⟨bx4, 0, none⟩))])), (28, .bool (decide (((a.states.toNat * b.states.toNat : Nat) : Int) > 4096))), (35, .bool (decide (((a.sets.length + b.sets.length : Nat) : Int) > 8))), (61, (.slice tA a.sets.length tAc)), (62, .int .i64 (a.sets.length : Int)), (63, .int .i64 (k5 : Int))] ρ) (fun k5 => a.sets.length - k5) 0 ?_ ?_
  · exact ⟨[], none, 0, rfl, Nat.zero_le _, rfl, ⟨rfl, rfl, rfl, rfl, rfl, rfl, rfl, rfl, rfl, rfl, rfl, rfl, rfl, rfl, trivial⟩⟩
  rintro k5 ρ O ⟨q5, tb5, tc5, rfl, hk5, hq5, hH⟩
  obtain ⟨ρ0, rfl⟩ := hH.elim
  clear hH
  have hq5l : q5.length = k5 := by have h9 := congrArg List.length hq5; simp [nums] at h9; omega
  refine T.seq (T.region ?_)
  refine TO.quiet (q_lss rfl rfl) ?_
  refine TO.nil (T.seq ?_)
  refine T.condP rfl (fun hc => ?_) (fun hc => ?_)
  · have hlt64 : k5 < a.sets.length := by omega
    obtain ⟨sak, sac, g1, s1⟩ := hA.rows.get hlt64
    refine T.skip (T.seq (T.block (T.seq (T.region ?_))))
    refine TO.quiet (q_ix (i := k5) Try.underlying24 inf22 rfl rfl (Sl.o hA.out) (by first | assumption | omega | (simp; omega) | simp_all) (by rw [hA.rows.1]; exact hlt64)) (TO.quiet (q_ld Try.underlying22 rfl rfl (Sl.o hA.out) g1) (TO.quiet (q_assign rfl) ?_))
    refine TO.nil ?_
    refine T.draws [oI bx1 26 (buCells a sA sAc eA eAc tA tAc), oI bx4 3 [(.int .i64 ((b.states.toNat : Nat) : Int))], oI bx3 26 [(.int .i64 a.vars), .int .i64 ((a.states.toNat * b.states.toNat : Nat) : Int), (.slice rs ((pickI (stP a b) (inAll a b)).length) cs), (.slice none 0 0), (.slice tb5 k5 tc5)], oI bx2 26 (buCells b sb sc eb ec tb tc)] [(0, 0), (1, 0), (2, 0), (3, 0), (4, 1), (5, 1), (6, 2), (7, 2), (8, 2)] mixed (by kernel_rfl) (by exact Sub.d (.d (.k (.k (.k (.k .z)))))) (fun _ _ _ h => h) ?_
    refine DO.quiet rfl (q_fieldAddr Try.underlying26 rfl inf24 rfl rfl) (DO.quiet rfl (q_load_box 2 Try.underlying24 rfl rfl rfl rfl) (DO.quiet rfl (q_move rfl) (DO.quiet rfl (q_move rfl) ?_)))
    have hk71 := ((CallV.of_fn (first := []) (args := [.slice sak (a.sets[k5]).length sac, .slice none (([] : List Int)).length 0, .bool true, .bool false]) (caps := [.pointer (some ⟨bx1, 0, none⟩), .pointer (some ⟨bx4, 0, none⟩)]) ent94 (by
      have h9 := pairsF w a b sA eA tA sAc eAc tAc bx1 bx4 ha0 ha4 (by omega) a.sets[k5] ([] : List Int) true false sak none sac 0 s1 (Sl.nil _ _) (hAB.sr _ (List.getElem_mem hlt64)) (Nat.zero_le _)
      rw [show pvP b.states.toNat a.sets[k5] ([] : List Int) true false = (faP b.states.toNat a.sets[k5]) from (by funext v; unfold pvP faP; simp)] at h9; exact h9)).under (B := [rowI tb5 tc5 22 1 (vals q5), rowI rs cs 3 1 (ints (pickI (stP a b) (inAll a b))), oI bx3 26 [(.int .i64 a.vars), .int .i64 ((a.states.toNat * b.states.toNat : Nat) : Int), (.slice rs ((pickI (stP a b) (inAll a b)).length) cs), (.slice none 0 0), (.slice tb5 k5 tc5)], oI bx2 26 (buCells b sb sc eb ec tb tc)] ++ (itms 3 q5)) (O := ([rowI tb5 tc5 22 1 (vals q5), rowI rs cs 3 1 (ints (pickI (stP a b) (inAll a b))), oI bx1 26 (buCells a sA sAc eA eAc tA tAc), oI bx4 3 [(.int .i64 ((b.states.toNat : Nat) : Int))], oI bx3 26 [(.int .i64 a.vars), .int .i64 ((a.states.toNat * b.states.toNat : Nat) : Int), (.slice rs ((pickI (stP a b) (inAll a b)).length) cs), (.slice none 0 0), (.slice tb5 k5 tc5)], oI bx2 26 (buCells b sb sc eb ec tb tc)] ++ (itms 3 q5))) (Sub.pickR [2, 2, 0, 0, 0, 0] [rowI tb5 tc5 22 1 (vals q5), rowI rs cs 3 1 (ints (pickI (stP a b) (inAll a b))), oI bx1 26 (buCells a sA sAc eA eAc tA tAc), oI bx4 3 [(.int .i64 ((b.states.toNat : Nat) : Int))], oI bx3 26 [(.int .i64 a.vars), .int .i64 ((a.states.toNat * b.states.toNat : Nat) : Int), (.slice rs ((pickI (stP a b) (inAll a b)).length) cs), (.slice none 0 0), (.slice tb5 k5 tc5)], oI bx2 26 (buCells b sb sc eb ec tb tc)] (itms 3 q5) rfl rfl))
    refine DO.loud rfl rfl (l_callG hk71 rfl rfl ?_)
    clear hk71
    rintro vr O' ⟨A1, rfl, r1, c1, rfl, rfl⟩
    refine ⟨by exact Sub.d (.k (.k (.d (.d (.k (.k .z)))))), ?_⟩
    refine DO.loud rfl rfl (l_build1 (v := (.slice r1 ((pickI (faP b.states.toNat a.sets[k5]) (inAll a b)).length) c1)) Try.underlying24 inf22 rfl rfl rfl (fun bx5 => ⟨by exact Sub.d (.d (.k (.k (.d (.d (.k (.k .z))))))), ?_⟩))
    refine DO.last rfl rfl (l_append 4 Try.underlying24 Try.underlying24 inf22 rfl rfl rfl rfl (by simp [vals]; omega) (by decide) (Src.row (j := 0) rfl (by simp)) (by simp [oneB]) (by omega) (by decide) (by decide) (fun bx6 c7 => ?_))
    refine DO.last rfl rfl (LT.of_quiet rfl rfl (q_fieldAddr Try.underlying26 rfl inf24 rfl rfl) ?_)
    refine DO.last rfl rfl (l_store_box (v := (.slice bx6 (k5 + 1) c7)) (vs := [(.slice bx6 (k5 + 1) c7)]) 6 inf24 rfl rfl rfl rfl rfl rfl (by simp [putL]) ?_)
    refine DO.sub (O' := [rowI r1 c1 3 1 (ints (pickI (faP b.states.toNat a.sets[k5]) (inAll a b))), rowI bx6 c7 22 1 ((vals q5) ++ [(.slice r1 ((pickI (faP b.states.toNat a.sets[k5]) (inAll a b)).length) c1)]), rowI rs cs 3 1 (ints (pickI (stP a b) (inAll a b))), oI bx1 26 (buCells a sA sAc eA eAc tA tAc), oI bx4 3 [(.int .i64 ((b.states.toNat : Nat) : Int))], oI bx3 26 [(.int .i64 a.vars), .int .i64 ((a.states.toNat * b.states.toNat : Nat) : Int), (.slice rs ((pickI (stP a b) (inAll a b)).length) cs), (.slice none 0 0), (.slice bx6 (k5 + 1) c7)], oI bx2 26 (buCells b sb sc eb ec tb tc)] ++ itms 3 q5) (Sub.pickR [1, 3, 3, 1, 1, 1, 1] [rowI (some ⟨bx5, 0, none⟩) 1 22 1 [(.slice r1 ((pickI (faP b.states.toNat a.sets[k5]) (inAll a b)).length) c1)], rowI r1 c1 3 1 (ints (pickI (faP b.states.toNat a.sets[k5]) (inAll a b))), oI bx1 26 (buCells a sA sAc eA eAc tA tAc), oI bx4 3 [(.int .i64 ((b.states.toNat : Nat) : Int))], rowI bx6 c7 22 1 ((vals q5) ++ [(.slice r1 ((pickI (faP b.states.toNat a.sets[k5]) (inAll a b)).length) c1)]), rowI rs cs 3 1 (ints (pickI (stP a b) (inAll a b))), oI bx3 26 [(.int .i64 a.vars), .int .i64 ((a.states.toNat * b.states.toNat : Nat) : Int), (.slice rs ((pickI (stP a b) (inAll a b)).length) cs), (.slice none 0 0), (.slice bx6 (k5 + 1) c7)], oI bx2 26 (buCells b sb sc eb ec tb tc)] (itms 3 q5) rfl rfl) ?_
    refine DO.sub (O' := [rowI bx6 c7 22 1 ((vals q5) ++ [(.slice r1 ((pickI (faP b.states.toNat a.sets[k5]) (inAll a b)).length) c1)]), rowI rs cs 3 1 (ints (pickI (stP a b) (inAll a b))), oI bx1 26 (buCells a sA sAc eA eAc tA tAc), oI bx4 3 [(.int .i64 ((b.states.toNat : Nat) : Int))], oI bx3 26 [(.int .i64 a.vars), .int .i64 ((a.states.toNat * b.states.toNat : Nat) : Int), (.slice rs ((pickI (stP a b) (inAll a b)).length) cs), (.slice none 0 0), (.slice bx6 (k5 + 1) c7)], oI bx2 26 (buCells b sb sc eb ec tb tc)] ++ itms 3 (q5 ++ [⟨r1, c1, (pickI (faP b.states.toNat a.sets[k5]) (inAll a b))⟩])) (Sub.cnt [] (by intro a; simp only [itms, Rec.itm, oI, List.set_cons_zero, List.set_cons_succ, putL, List.cons_append, List.nil_append, List.append_nil, List.append_assoc, List.map_append, List.map_cons, List.map_nil, cnt_append, cnt_cons, cnt_nil, buCells, laCells] <;> omega)) ?_
    refine DO.done ?_
    refine T.region ?_
    refine TO.quiet (q_addN (a := k5) (b := 1) rfl rfl (by omega)) (TO.quiet (q_move rfl) ?_)
    refine TO.nil ?_
    exact ⟨k5 + 1, by omega, q5 ++ [⟨r1, c1, (pickI (faP b.states.toNat a.sets[k5]) (inAll a b))⟩], bx6, c7, (by simp only [vals, List.map_append, List.map_cons, List.map_nil]; rfl), by omega, (by rw [List.take_succ_eq_append_getElem hlt64, List.map_append, ← hq5]; simp [nums]), ⟨rfl, rfl, rfl, rfl, rfl, rfl, rfl, rfl, rfl, rfl, rfl, rfl, rfl, rfl, trivial⟩⟩
  have hge64 : ¬ k5 < a.sets.length := by omega
  refine T.exit ?_
  refine T.seq (T.seq (T.region ?_))
  refine TO.quiet (q_fieldAddr Try.underlying26 rfl inf24 rfl rfl) (TO.quiet (q_load_box 5 Try.underlying24 rfl rfl rfl rfl) (TO.quiet (q_len Try.underlying24 rfl) (TO.quiet (q_move rfl) ?_)))
  refine TO.nil (T.block ?_)
  refine T.sub (O' := [rowI tb5 tc5 22 1 (vals q5), rowI rs cs 3 1 (ints (pickI (stP a b) (inAll a b))), oI bx1 26 (buCells a sA sAc eA eAc tA tAc), oI bx4 3 [(.int .i64 ((b.states.toNat : Nat) : Int))], oI bx3 26 [(.int .i64 a.vars), .int .i64 ((a.states.toNat * b.states.toNat : Nat) : Int), (.slice rs ((pickI (stP a b) (inAll a b)).length) cs), (.slice none 0 0), (.slice tb5 k5 tc5)], oI bx2 26 (buCells b sb sc eb ec tb tc)] ++ itms 3 q5) (by exact Sub.rf) ?_
  refine T.loop (fun (k7 : Nat) ρ O => ∃ (q5 : List Rec) (tb5 : Option Addr) (tc5 : Nat), O = ([rowI tb5 tc5 22 1 (vals q5), rowI rs cs 3 1 (ints (pickI (stP a b) (inAll a b))), oI bx1 26 (buCells a sA sAc eA eAc tA tAc), oI bx4 3 [(.int .i64 ((b.states.toNat : Nat) : Int))], oI bx3 26 [(.int .i64 a.vars), .int .i64 ((a.states.toNat * b.states.toNat : Nat) : Int), (.slice rs ((pickI (stP a b) (inAll a b)).length) cs), (.slice none 0 0), (.slice tb5 (a.sets.length + k7) tc5)], oI bx2 26 (buCells b sb sc eb ec tb tc)] ++ (itms 3 q5)) ∧ k7 ≤ b.sets.length ∧ nums q5 = a.sets.map (fun S => (pickI (faP b.states.toNat S) (inAll a b))) ++ (b.sets.take k7).map (fun S => (pickI (fbP b.states.toNat S) (inAll a b))) ∧ Heads [(0, (.agg (buCells a sA sAc eA eAc tA tAc).toArray)), (1, (.agg (buCells b sb sc eb ec tb tc).toArray)), (2, (.pointer (some ⟨bx1, 0, none⟩))), (3, (.pointer (some ⟨bx2, 0, none⟩))), (4, (.pointer (some ⟨bx3, 0, none⟩))), (5, .int .i64 0), (6, .int .i64 ((pairE a b : Nat) : Int)), (7, (.pointer (some ⟨bx4, 0, none⟩))), (8, (.func (.func 94) #[] #[(.pointer (some ⟨bx1, 0, none⟩)), (.pointer (some ⟨bx4, 0, none⟩))])), (28, .bool (decide (((a.states.toNat * b.states.toNat : Nat) : Int) > 4096))), (35, .bool (decide (((a.sets.length + b.sets.length : Nat) : Int) > 8))), (77, (.slice tb b.sets.length tc)), (78, .int .i64 (b.sets.length : Int)), (79, .int .i64 (k7 : Int))] ρ) (fun k7 => b.sets.length - k7) 0 ?_ ?_
  · exact ⟨q5, tb5, tc5, (by rw [show k5 = a.sets.length by omega]; rfl), Nat.zero_le _, (by rw [hq5, show k5 = a.sets.length by omega, List.take_length, List.take_zero, List.map_nil, List.append_nil]), ⟨rfl, rfl, rfl, rfl, rfl, rfl, rfl, rfl, rfl, rfl, rfl, rfl, rfl, rfl, trivial⟩⟩
  rintro k7 ρ O ⟨q5, tb5, tc5, rfl, hk7, hq5, hH⟩
  obtain ⟨ρ0, rfl⟩ := hH.elim
  clear hH
  have hq5l : q5.length = (a.sets.length + k7) := by have h9 := congrArg List.length hq5; simp [nums] at h9; omega
  refine T.seq (T.region ?_)
  refine TO.quiet (q_lss rfl rfl) ?_
  refine TO.nil (T.seq ?_)
  refine T.condP rfl (fun hc => ?_) (fun hc => ?_)
  · have hlt80 : k7 < b.sets.length := by omega
    obtain ⟨sbk, sck, g2, s2⟩ := h.rows.get hlt80
    refine T.skip (T.seq (T.block (T.seq (T.region ?_))))
    refine TO.quiet (q_ix (i := k7) Try.underlying24 inf22 rfl rfl (Sl.o h.out) (by first | assumption | omega | (simp; omega) | simp_all) (by rw [h.rows.1]; exact hlt80)) (TO.quiet (q_ld Try.underlying22 rfl rfl (Sl.o h.out) g2) (TO.quiet (q_assign rfl) ?_))
    refine TO.nil ?_
    refine T.draws [oI bx1 26 (buCells a sA sAc eA eAc tA tAc), oI bx4 3 [(.int .i64 ((b.states.toNat : Nat) : Int))], oI bx3 26 [(.int .i64 a.vars), .int .i64 ((a.states.toNat * b.states.toNat : Nat) : Int), (.slice rs ((pickI (stP a b) (inAll a b)).length) cs), (.slice none 0 0), (.slice tb5 (a.sets.length + k7) tc5)], oI bx2 26 (buCells b sb sc eb ec tb tc)] [(0, 0), (1, 0), (2, 0), (3, 0), (4, 1), (5, 1), (6, 2), (7, 2), (8, 2)] mixed (by kernel_rfl) (by exact Sub.d (.d (.k (.k (.k (.k .z)))))) (fun _ _ _ h => h) ?_
    refine DO.quiet rfl (q_fieldAddr Try.underlying26 rfl inf24 rfl rfl) (DO.quiet rfl (q_load_box 2 Try.underlying24 rfl rfl rfl rfl) (DO.quiet rfl (q_move rfl) (DO.quiet rfl (q_move rfl) ?_)))
    have hk87 := ((CallV.of_fn (first := []) (args := [.slice none (([] : List Int)).length 0, .slice sbk (b.sets[k7]).length sck, .bool false, .bool true]) (caps := [.pointer (some ⟨bx1, 0, none⟩), .pointer (some ⟨bx4, 0, none⟩)]) ent94 (by
      have h9 := pairsF w a b sA eA tA sAc eAc tAc bx1 bx4 ha0 ha4 (by omega) ([] : List Int) b.sets[k7] false true none sbk 0 sck (Sl.nil _ _) s2 (Nat.zero_le _) (hB.sr _ (List.getElem_mem hlt80))
      rw [show pvP b.states.toNat ([] : List Int) b.sets[k7] false true = (fbP b.states.toNat b.sets[k7]) from (by funext v; unfold pvP fbP; simp)] at h9; exact h9)).under (B := [rowI tb5 tc5 22 1 (vals q5), rowI rs cs 3 1 (ints (pickI (stP a b) (inAll a b))), oI bx3 26 [(.int .i64 a.vars), .int .i64 ((a.states.toNat * b.states.toNat : Nat) : Int), (.slice rs ((pickI (stP a b) (inAll a b)).length) cs), (.slice none 0 0), (.slice tb5 (a.sets.length + k7) tc5)], oI bx2 26 (buCells b sb sc eb ec tb tc)] ++ (itms 3 q5)) (O := ([rowI tb5 tc5 22 1 (vals q5), rowI rs cs 3 1 (ints (pickI (stP a b) (inAll a b))), oI bx1 26 (buCells a sA sAc eA eAc tA tAc), oI bx4 3 [(.int .i64 ((b.states.toNat : Nat) : Int))], oI bx3 26 [(.int .i64 a.vars), .int .i64 ((a.states.toNat * b.states.toNat : Nat) : Int), (.slice rs ((pickI (stP a b) (inAll a b)).length) cs), (.slice none 0 0), (.slice tb5 (a.sets.length + k7) tc5)], oI bx2 26 (buCells b sb sc eb ec tb tc)] ++ (itms 3 q5))) (Sub.pickR [2, 2, 0, 0, 0, 0] [rowI tb5 tc5 22 1 (vals q5), rowI rs cs 3 1 (ints (pickI (stP a b) (inAll a b))), oI bx1 26 (buCells a sA sAc eA eAc tA tAc), oI bx4 3 [(.int .i64 ((b.states.toNat : Nat) : Int))], oI bx3 26 [(.int .i64 a.vars), .int .i64 ((a.states.toNat * b.states.toNat : Nat) : Int), (.slice rs ((pickI (stP a b) (inAll a b)).length) cs), (.slice none 0 0), (.slice tb5 (a.sets.length + k7) tc5)], oI bx2 26 (buCells b sb sc eb ec tb tc)] (itms 3 q5) rfl rfl))
    refine DO.loud rfl rfl (l_callG hk87 rfl rfl ?_)
    clear hk87
    rintro vr O' ⟨A1, rfl, r2, c2, rfl, rfl⟩
    refine ⟨by exact Sub.d (.k (.k (.d (.d (.k (.k .z)))))), ?_⟩
    refine DO.loud rfl rfl (l_build1 (v := (.slice r2 ((pickI (fbP b.states.toNat b.sets[k7]) (inAll a b)).length) c2)) Try.underlying24 inf22 rfl rfl rfl (fun bx8 => ⟨by exact Sub.d (.d (.k (.k (.d (.d (.k (.k .z))))))), ?_⟩))
    refine DO.last rfl rfl (l_append 4 Try.underlying24 Try.underlying24 inf22 rfl rfl rfl rfl (by simp [vals]; omega) (by decide) (Src.row (j := 0) rfl (by simp)) (by simp [oneB]) (by omega) (by decide) (by decide) (fun bx9 c10 => ?_))
    refine DO.last rfl rfl (LT.of_quiet rfl rfl (q_fieldAddr Try.underlying26 rfl inf24 rfl rfl) ?_)
    refine DO.last rfl rfl (l_store_box (v := (.slice bx9 ((a.sets.length + k7) + 1) c10)) (vs := [(.slice bx9 ((a.sets.length + k7) + 1) c10)]) 6 inf24 rfl rfl rfl rfl rfl rfl (by simp [putL]) ?_)
    refine DO.sub (O' := [rowI r2 c2 3 1 (ints (pickI (fbP b.states.toNat b.sets[k7]) (inAll a b))), rowI bx9 c10 22 1 ((vals q5) ++ [(.slice r2 ((pickI (fbP b.states.toNat b.sets[k7]) (inAll a b)).length) c2)]), rowI rs cs 3 1 (ints (pickI (stP a b) (inAll a b))), oI bx1 26 (buCells a sA sAc eA eAc tA tAc), oI bx4 3 [(.int .i64 ((b.states.toNat : Nat) : Int))], oI bx3 26 [(.int .i64 a.vars), .int .i64 ((a.states.toNat * b.states.toNat : Nat) : Int), (.slice rs ((pickI (stP a b) (inAll a b)).length) cs), (.slice none 0 0), (.slice bx9 ((a.sets.length + k7) + 1) c10)], oI bx2 26 (buCells b sb sc eb ec tb tc)] ++ itms 3 q5) (Sub.pickR [1, 3, 3, 1, 1, 1, 1] [rowI (some ⟨bx8, 0, none⟩) 1 22 1 [(.slice r2 ((pickI (fbP b.states.toNat b.sets[k7]) (inAll a b)).length) c2)], rowI r2 c2 3 1 (ints (pickI (fbP b.states.toNat b.sets[k7]) (inAll a b))), oI bx1 26 (buCells a sA sAc eA eAc tA tAc), oI bx4 3 [(.int .i64 ((b.states.toNat : Nat) : Int))], rowI bx9 c10 22 1 ((vals q5) ++ [(.slice r2 ((pickI (fbP b.states.toNat b.sets[k7]) (inAll a b)).length) c2)]), rowI rs cs 3 1 (ints (pickI (stP a b) (inAll a b))), oI bx3 26 [(.int .i64 a.vars), .int .i64 ((a.states.toNat * b.states.toNat : Nat) : Int), (.slice rs ((pickI (stP a b) (inAll a b)).length) cs), (.slice none 0 0), (.slice bx9 ((a.sets.length + k7) + 1) c10)], oI bx2 26 (buCells b sb sc eb ec tb tc)] (itms 3 q5) rfl rfl) ?_
    refine DO.sub (O' := [rowI bx9 c10 22 1 ((vals q5) ++ [(.slice r2 ((pickI (fbP b.states.toNat b.sets[k7]) (inAll a b)).length) c2)]), rowI rs cs 3 1 (ints (pickI (stP a b) (inAll a b))), oI bx1 26 (buCells a sA sAc eA eAc tA tAc), oI bx4 3 [(.int .i64 ((b.states.toNat : Nat) : Int))], oI bx3 26 [(.int .i64 a.vars), .int .i64 ((a.states.toNat * b.states.toNat : Nat) : Int), (.slice rs ((pickI (stP a b) (inAll a b)).length) cs), (.slice none 0 0), (.slice bx9 ((a.sets.length + k7) + 1) c10)], oI bx2 26 (buCells b sb sc eb ec tb tc)] ++ itms 3 (q5 ++ [⟨r2, c2, (pickI (fbP b.states.toNat b.sets[k7]) (inAll a b))⟩])) (Sub.cnt [] (by intro a; simp only [itms, Rec.itm, oI, List.set_cons_zero, List.set_cons_succ, putL, List.cons_append, List.nil_append, List.append_nil, List.append_assoc, List.map_append, List.map_cons, List.map_nil, cnt_append, cnt_cons, cnt_nil, buCells, laCells] <;> omega)) ?_
    refine DO.done ?_
    refine T.region ?_
    refine TO.quiet (q_addN (a := k7) (b := 1) rfl rfl (by omega)) (TO.quiet (q_move rfl) ?_)
    refine TO.nil ?_
    exact ⟨k7 + 1, by omega, q5 ++ [⟨r2, c2, (pickI (fbP b.states.toNat b.sets[k7]) (inAll a b))⟩], bx9, c10, (by simp only [vals, List.map_append, List.map_cons, List.map_nil]; rfl), by omega, (by rw [List.take_succ_eq_append_getElem hlt80, List.map_append, ← List.append_assoc, ← hq5]; simp [nums]), ⟨rfl, rfl, rfl, rfl, rfl, rfl, rfl, rfl, rfl, rfl, rfl, rfl, rfl, rfl, trivial⟩⟩
  have hge80 : ¬ k7 < b.sets.length := by omega
  refine T.exit ?_
  refine T.seq (T.seq ?_)
  have hk7e : k7 = b.sets.length := by omega
  refine T.region ?_
  refine TO.quiet (q_fieldAddr Try.underlying26 rfl inf23 rfl rfl) (TO.quiet (q_load_box 2 Try.underlying23 rfl rfl rfl rfl) (TO.quiet (q_len Try.underlying23 rfl) (TO.quiet (q_move rfl) ?_)))
  refine TO.nil (T.block ?_)
  refine T.nilRow 54 4 ?_
  refine T.loopS (fun (i : Nat) ρ O => ∃ (eb6 : Option Addr) (ec6 : Nat), O = ([rowI eb6 ec6 54 4 (edsC (inT a b i 0)), rowI tb5 tc5 22 1 (vals q5), rowI rs cs 3 1 (ints (pickI (stP a b) (inAll a b))), oI bx1 26 (buCells a sA sAc eA eAc tA tAc), oI bx4 3 [(.int .i64 ((b.states.toNat : Nat) : Int))], oI bx3 26 [(.int .i64 a.vars), .int .i64 ((a.states.toNat * b.states.toNat : Nat) : Int), (.slice rs ((pickI (stP a b) (inAll a b)).length) cs), (.slice eb6 ((inT a b i 0).length) ec6), (.slice tb5 (a.sets.length + k7) tc5)], oI bx2 26 (buCells b sb sc eb ec tb tc)] ++ (itms 3 q5)) ∧ i ≤ a.edges.length ∧ Heads [(0, (.agg (buCells a sA sAc eA eAc tA tAc).toArray)), (1, (.agg (buCells b sb sc eb ec tb tc).toArray)), (2, (.pointer (some ⟨bx1, 0, none⟩))), (3, (.pointer (some ⟨bx2, 0, none⟩))), (4, (.pointer (some ⟨bx3, 0, none⟩))), (5, .int .i64 0), (6, .int .i64 ((pairE a b : Nat) : Int)), (7, (.pointer (some ⟨bx4, 0, none⟩))), (8, (.func (.func 94) #[] #[(.pointer (some ⟨bx1, 0, none⟩)), (.pointer (some ⟨bx4, 0, none⟩))])), (28, .bool (decide (((a.states.toNat * b.states.toNat : Nat) : Int) > 4096))), (35, .bool (decide (((a.sets.length + b.sets.length : Nat) : Int) > 8))), (93, (.slice eA a.edges.length eAc)), (94, .int .i64 (a.edges.length : Int)), (95, .int .i64 (i : Int))] ρ) (fun i => a.edges.length - i) 0 ?_ ?_
  · exact ⟨none, 0, by rw [inT_zero]; rfl, Nat.zero_le _, ⟨rfl, rfl, rfl, rfl, rfl, rfl, rfl, rfl, rfl, rfl, rfl, rfl, rfl, rfl, trivial⟩⟩
  rintro i ρ O ⟨eb6, ec6, rfl, hi, hH⟩
  obtain ⟨ρ0, rfl⟩ := hH.elim
  clear hH
  refine T.seq (T.region ?_)
  refine TO.quiet (q_lss rfl rfl) ?_
  refine TO.nil (T.seq ?_)
  refine T.condP rfl (fun hc => ?_) (fun hc => ?_)
  · have hlt96 : i < a.edges.length := by omega
    refine T.skip (T.seq (T.block (T.seq (T.region ?_))))
    refine TO.quiet (q_ixK (i := i) Try.underlying23 inf54 rfl rfl (Sl.o hA.ed) (by first | assumption | omega | (simp; omega) | simp_all) (by first | (rw [eds_len]; omega) | (simp [eds_len]; omega) | (simp_all [eds_len]; omega))) (TO.quiet (q_ldK (vs := [.int .i64 a.edges[i].fr, .int .i64 a.edges[i].to, .int .u8 ((a.edges[i].pos : Nat) : Int), .int .u8 ((a.edges[i].neg : Nat) : Int)]) Try.underlying54 rfl inf54 rfl rfl (Nat.succ_pos _) (Sl.o hA.ed) (eds_get (by first | assumption | omega | (simp; omega) | simp_all))) ?_)
    refine TO.loud rfl (l_alloc inf54 rfl (fun bx11 => ?_))
    refine TO.loud rfl (l_store_box (v := (.agg #[.int .i64 a.edges[i].fr, .int .i64 a.edges[i].to, .int .u8 ((a.edges[i].pos : Nat) : Int), .int .u8 ((a.edges[i].neg : Nat) : Int)])) (vs := [.int .i64 a.edges[i].fr, .int .i64 a.edges[i].to, .int .u8 ((a.edges[i].pos : Nat) : Int), .int .u8 ((a.edges[i].neg : Nat) : Int)]) 0 inf54 rfl rfl rfl rfl rfl rfl (by simp [putL]) ?_)
    refine TO.nil (T.seq (T.region ?_))
    refine TO.quiet (q_fieldAddr Try.underlying26 rfl inf23 rfl rfl) (TO.quiet (q_load_box 7 Try.underlying23 rfl rfl rfl rfl) (TO.quiet (q_len Try.underlying23 rfl) (TO.quiet (q_move rfl) ?_)))
    refine TO.nil (T.block ?_)
    refine T.sub (O' := [rowI eb6 ec6 54 4 (edsC (inT a b i 0)), oI bx11 54 [.int .i64 a.edges[i].fr, .int .i64 a.edges[i].to, .int .u8 ((a.edges[i].pos : Nat) : Int), .int .u8 ((a.edges[i].neg : Nat) : Int)], rowI tb5 tc5 22 1 (vals q5), rowI rs cs 3 1 (ints (pickI (stP a b) (inAll a b))), oI bx1 26 (buCells a sA sAc eA eAc tA tAc), oI bx4 3 [(.int .i64 ((b.states.toNat : Nat) : Int))], oI bx3 26 [(.int .i64 a.vars), .int .i64 ((a.states.toNat * b.states.toNat : Nat) : Int), (.slice rs ((pickI (stP a b) (inAll a b)).length) cs), (.slice eb6 ((inT a b i 0).length) ec6), (.slice tb5 (a.sets.length + k7) tc5)], oI bx2 26 (buCells b sb sc eb ec tb tc)] ++ itms 3 q5) (Sub.pickR [1, 0, 0, 0, 0, 0, 0, 0] [oI bx11 54 [.int .i64 a.edges[i].fr, .int .i64 a.edges[i].to, .int .u8 ((a.edges[i].pos : Nat) : Int), .int .u8 ((a.edges[i].neg : Nat) : Int)], rowI eb6 ec6 54 4 (edsC (inT a b i 0)), rowI tb5 tc5 22 1 (vals q5), rowI rs cs 3 1 (ints (pickI (stP a b) (inAll a b))), oI bx1 26 (buCells a sA sAc eA eAc tA tAc), oI bx4 3 [(.int .i64 ((b.states.toNat : Nat) : Int))], oI bx3 26 [(.int .i64 a.vars), .int .i64 ((a.states.toNat * b.states.toNat : Nat) : Int), (.slice rs ((pickI (stP a b) (inAll a b)).length) cs), (.slice eb6 ((inT a b i 0).length) ec6), (.slice tb5 (a.sets.length + k7) tc5)], oI bx2 26 (buCells b sb sc eb ec tb tc)] (itms 3 q5) rfl rfl) ?_
    refine T.loopS (fun (j : Nat) ρ O => ∃ (eb6 : Option Addr) (ec6 : Nat), O = ([rowI eb6 ec6 54 4 (edsC (inT a b i j)), oI bx11 54 [.int .i64 a.edges[i].fr, .int .i64 a.edges[i].to, .int .u8 ((a.edges[i].pos : Nat) : Int), .int .u8 ((a.edges[i].neg : Nat) : Int)], rowI tb5 tc5 22 1 (vals q5), rowI rs cs 3 1 (ints (pickI (stP a b) (inAll a b))), oI bx1 26 (buCells a sA sAc eA eAc tA tAc), oI bx4 3 [(.int .i64 ((b.states.toNat : Nat) : Int))], oI bx3 26 [(.int .i64 a.vars), .int .i64 ((a.states.toNat * b.states.toNat : Nat) : Int), (.slice rs ((pickI (stP a b) (inAll a b)).length) cs), (.slice eb6 ((inT a b i j).length) ec6), (.slice tb5 (a.sets.length + k7) tc5)], oI bx2 26 (buCells b sb sc eb ec tb tc)] ++ (itms 3 q5)) ∧ j ≤ b.edges.length ∧ Heads [(0, (.agg (buCells a sA sAc eA eAc tA tAc).toArray)), (1, (.agg (buCells b sb sc eb ec tb tc).toArray)), (2, (.pointer (some ⟨bx1, 0, none⟩))), (3, (.pointer (some ⟨bx2, 0, none⟩))), (4, (.pointer (some ⟨bx3, 0, none⟩))), (5, .int .i64 0), (6, .int .i64 ((pairE a b : Nat) : Int)), (7, (.pointer (some ⟨bx4, 0, none⟩))), (8, (.func (.func 94) #[] #[(.pointer (some ⟨bx1, 0, none⟩)), (.pointer (some ⟨bx4, 0, none⟩))])), (14, (.pointer (some ⟨bx11, 0, none⟩))), (28, .bool (decide (((a.states.toNat * b.states.toNat : Nat) : Int) > 4096))), (35, .bool (decide (((a.sets.length + b.sets.length : Nat) : Int) > 8))), (93, (.slice eA a.edges.length eAc)), (94, .int .i64 (a.edges.length : Int)), (95, .int .i64 (i : Int)), (100, (.slice eb b.edges.length ec)), (101, .int .i64 (b.edges.length : Int)), (102, .int .i64 (j : Int))] ρ) (fun j => b.edges.length - j) 0 ?_ ?_
    · exact ⟨eb6, ec6, rfl, Nat.zero_le _, ⟨rfl, rfl, rfl, rfl, rfl, rfl, rfl, rfl, rfl, rfl, rfl, rfl, rfl, rfl, rfl, rfl, rfl, rfl, trivial⟩⟩
    rintro j ρ O ⟨eb6, ec6, rfl, hj, hH⟩
    obtain ⟨ρ0, rfl⟩ := hH.elim
    clear hH
    have hil := inT_len (i := i) (j := j) hAe hBe
    refine T.seq (T.region ?_)
    refine TO.quiet (q_lss rfl rfl) ?_
    refine TO.nil (T.seq ?_)
    refine T.condP rfl (fun hc => ?_) (fun hc => ?_)
    · have hlt103 : j < b.edges.length := by omega
      refine T.skip (T.seq (T.block (T.seq (T.region ?_))))
      refine TO.quiet (q_ixK (i := j) Try.underlying23 inf54 rfl rfl (Sl.o h.ed) (by first | assumption | omega | (simp; omega) | simp_all) (by first | (rw [eds_len]; omega) | (simp [eds_len]; omega) | (simp_all [eds_len]; omega))) (TO.quiet (q_ldK (vs := [.int .i64 b.edges[j].fr, .int .i64 b.edges[j].to, .int .u8 ((b.edges[j].pos : Nat) : Int), .int .u8 ((b.edges[j].neg : Nat) : Int)]) Try.underlying54 rfl inf54 rfl rfl (Nat.succ_pos _) (Sl.o h.ed) (eds_get (by first | assumption | omega | (simp; omega) | simp_all))) ?_)
      refine TO.loud rfl (l_alloc inf54 rfl (fun bx12 => ?_))
      refine TO.loud rfl (l_store_box (v := (.agg #[.int .i64 b.edges[j].fr, .int .i64 b.edges[j].to, .int .u8 ((b.edges[j].pos : Nat) : Int), .int .u8 ((b.edges[j].neg : Nat) : Int)])) (vs := [.int .i64 b.edges[j].fr, .int .i64 b.edges[j].to, .int .u8 ((b.edges[j].pos : Nat) : Int), .int .u8 ((b.edges[j].neg : Nat) : Int)]) 0 inf54 rfl rfl rfl rfl rfl rfl (by simp [putL]) ?_)
      refine TO.nil (T.seq (T.region ?_))
      refine TO.quiet (q_fieldAddr Try.underlying54 rfl inf5 rfl rfl) (TO.quiet (q_load_box 2 Try.underlying5 rfl rfl rfl rfl) (TO.quiet (q_fieldAddr Try.underlying54 rfl inf5 rfl rfl) (TO.quiet (q_load_box 2 Try.underlying5 rfl rfl rfl rfl) ?_)))
      refine TO.quiet (q_build (cs := [.int .u8 ((a.edges[i].pos : Nat) : Int), .int .u8 ((a.edges[i].neg : Nat) : Int)]) plan116 inf116 (by kernel_rfl)) (TO.quiet (q_fieldAddr Try.underlying54 rfl inf5 rfl rfl) (TO.quiet (q_load_box 0 Try.underlying5 rfl rfl rfl rfl) (TO.quiet (q_fieldAddr Try.underlying54 rfl inf5 rfl rfl) ?_)))
      refine TO.quiet (q_load_box 0 Try.underlying5 rfl rfl rfl rfl) (TO.quiet (q_build (cs := [.int .u8 ((b.edges[j].pos : Nat) : Int), .int .u8 ((b.edges[j].neg : Nat) : Int)]) plan116 inf116 (by kernel_rfl)) ?_)
      have hk117 := fun (w1 : World) (hI : Inv w ([oI bx12 54 [.int .i64 b.edges[j].fr, .int .i64 b.edges[j].to, .int .u8 ((b.edges[j].pos : Nat) : Int), .int .u8 ((b.edges[j].neg : Nat) : Int)], rowI eb6 ec6 54 4 (edsC (inT a b i j)), oI bx11 54 [.int .i64 a.edges[i].fr, .int .i64 a.edges[i].to, .int .u8 ((a.edges[i].pos : Nat) : Int), .int .u8 ((a.edges[i].neg : Nat) : Int)], rowI tb5 tc5 22 1 (vals q5), rowI rs cs 3 1 (ints (pickI (stP a b) (inAll a b))), oI bx1 26 (buCells a sA sAc eA eAc tA tAc), oI bx4 3 [(.int .i64 ((b.states.toNat : Nat) : Int))], oI bx3 26 [(.int .i64 a.vars), .int .i64 ((a.states.toNat * b.states.toNat : Nat) : Int), (.slice rs ((pickI (stP a b) (inAll a b)).length) cs), (.slice eb6 ((inT a b i j).length) ec6), (.slice tb5 (a.sets.length + k7) tc5)], oI bx2 26 (buCells b sb sc eb ec tb tc)] ++ (itms 3 q5)) w1) => cubeF w1 a.edges[i].pos a.edges[i].neg b.edges[j].pos b.edges[j].neg (hAB.pn _ (List.getElem_mem hlt96)).1 (hAB.pn _ (List.getElem_mem hlt96)).2 (hB.pn _ (List.getElem_mem hlt103)).1 (hB.pn _ (List.getElem_mem hlt103)).2
      refine TO.loud rfl (l_call ent96 (CallT.of_pure hk117) rfl ?_)
      clear hk117
      rintro vr O' ⟨N, rfl, cp, cn, rfl, rfl, hcub⟩
      refine TO.quiet (q_move rfl) (TO.quiet (q_extract (vs := _) rfl rfl) (TO.quiet (q_extract (vs := _) rfl rfl) ?_))
      refine TO.loud rfl (l_alloc inf116 rfl (fun bx13 => ?_))
      refine TO.loud rfl (l_store_box (v := (.agg #[.int .u8 ((cp : Nat) : Int), .int .u8 ((cn : Nat) : Int)])) (vs := [.int .u8 ((cp : Nat) : Int), .int .u8 ((cn : Nat) : Int)]) 0 inf116 rfl rfl rfl rfl rfl rfl (by simp [putL]) ?_)
      refine TO.quiet (q_assign rfl) ?_
      refine TO.nil (T.seq (T.region ?_))
      refine TO.quiet (q_move rfl) ?_
      refine TO.nil ?_
      refine T.condP rfl (fun hc => ?_) (fun hc => ?_)
      · have hok := hc
        obtain ⟨hcp, hcn⟩ := hcub hok
        have hae := hva.ed _ (List.getElem_mem hlt96)
        have hbe := hvb.ed _ (List.getElem_mem hlt103)
        obtain ⟨f1, hf1⟩ : ∃ n : Nat, a.edges[i].fr = (n : Int) := ⟨a.edges[i].fr.toNat, by omega⟩
        obtain ⟨t1, ht1⟩ : ∃ n : Nat, a.edges[i].to = (n : Int) := ⟨a.edges[i].to.toNat, by omega⟩
        have hm1 : f1 * b.states.toNat ≤ 4096 * 4096 := Nat.mul_le_mul (by omega) (by omega)
        have hm2 : t1 * b.states.toNat ≤ 4096 * 4096 := Nat.mul_le_mul (by omega) (by omega)
        have hm3 : a.edges[i].fr * ((b.states.toNat : Nat) : Int) = ((f1 * b.states.toNat : Nat) : Int) := by rw [hf1, Int.natCast_mul]
        have hm4 : a.edges[i].to * ((b.states.toNat : Nat) : Int) = ((t1 * b.states.toNat : Nat) : Int) := by rw [ht1, Int.natCast_mul]
        refine T.region ?_
        refine TO.quiet (q_fieldAddr Try.underlying26 rfl inf23 rfl rfl) (TO.quiet (q_load_box 8 Try.underlying23 rfl rfl rfl rfl) (TO.quiet (q_fieldAddr Try.underlying54 rfl inf3 rfl rfl) (TO.quiet (q_load_box 3 Try.underlying3 rfl rfl rfl rfl) ?_)))
        refine TO.quiet (q_load_box 7 Try.underlying3 rfl rfl rfl rfl) (TO.quiet (q_mul64 rfl rfl (by omega)) (TO.quiet (q_fieldAddr Try.underlying54 rfl inf3 rfl rfl) (TO.quiet (q_load_box 1 Try.underlying3 rfl rfl rfl rfl) ?_)))
        refine TO.quiet (q_add64 rfl rfl (by omega)) (TO.quiet (q_fieldAddr Try.underlying54 rfl inf3 rfl rfl) (TO.quiet (q_load_box 3 Try.underlying3 rfl rfl rfl rfl) (TO.quiet (q_load_box 7 Try.underlying3 rfl rfl rfl rfl) ?_)))
        refine TO.quiet (q_mul64 rfl rfl (by omega)) (TO.quiet (q_fieldAddr Try.underlying54 rfl inf3 rfl rfl) (TO.quiet (q_load_box 1 Try.underlying3 rfl rfl rfl rfl) (TO.quiet (q_add64 rfl rfl (by omega)) ?_)))
        refine TO.quiet (q_fieldAddr Try.underlying116 rfl inf5 rfl rfl) (TO.quiet (QT.cast (q_load_box 0 Try.underlying5 rfl rfl rfl rfl) (v' := .int .u8 ((a.edges[i].pos ||| b.edges[j].pos : Nat) : Int)) (by show Value.int _ _ = _; rw [hcp])) (TO.quiet (q_fieldAddr Try.underlying116 rfl inf5 rfl rfl) (TO.quiet (QT.cast (q_load_box 0 Try.underlying5 rfl rfl rfl rfl) (v' := .int .u8 ((a.edges[i].neg ||| b.edges[j].neg : Nat) : Int)) (by show Value.int _ _ = _; rw [hcn])) ?_)))
        refine TO.quiet (q_build (cs := [.int .i64 ((a.edges[i].fr * ((b.states.toNat : Nat) : Int)) + b.edges[j].fr), .int .i64 ((a.edges[i].to * ((b.states.toNat : Nat) : Int)) + b.edges[j].to), .int .u8 ((a.edges[i].pos ||| b.edges[j].pos : Nat) : Int), .int .u8 ((a.edges[i].neg ||| b.edges[j].neg : Nat) : Int)]) plan54 inf54 (by kernel_rfl)) ?_
        refine TO.loud rfl (l_buildSlice (m := 1) (parts := [(0, _)]) (cs := [.int .i64 ((a.edges[i].fr * ((b.states.toNat : Nat) : Int)) + b.edges[j].fr), .int .i64 ((a.edges[i].to * ((b.states.toNat : Nat) : Int)) + b.edges[j].to), .int .u8 ((a.edges[i].pos ||| b.edges[j].pos : Nat) : Int), .int .u8 ((a.edges[i].neg ||| b.edges[j].neg : Nat) : Int)]) Try.underlying23 inf54 (by decide) (by kernel_rfl) rfl (fun bx14 => ?_))
        refine TO.loud rfl (l_append 3 Try.underlying23 Try.underlying23 inf54 rfl rfl rfl rfl (by rw [eds_len]) (by decide) (Src.row (j := 0) rfl (by simp)) (by simp [oneB]) (by omega) (by decide) (by decide) (fun bx15 c16 => ?_))
        refine TO.quiet (q_fieldAddr Try.underlying26 rfl inf23 rfl rfl) ?_
        refine TO.loud rfl (l_store_box (v := (.slice bx15 (((inT a b i j).length) + 1) c16)) (vs := [(.slice bx15 (((inT a b i j).length) + 1) c16)]) 9 inf23 rfl rfl rfl rfl rfl rfl (by simp [putL]) ?_)
        refine TO.nil (T.region ?_)
        refine TO.quiet (q_addN (a := j) (b := 1) rfl rfl (by omega)) (TO.quiet (q_move rfl) ?_)
        refine TO.nil ?_
        refine ⟨j + 1, by omega, ([rowI bx15 c16 54 4 ((edsC (inT a b i j)) ++ [.int .i64 ((a.edges[i].fr * ((b.states.toNat : Nat) : Int)) + b.edges[j].fr), .int .i64 ((a.edges[i].to * ((b.states.toNat : Nat) : Int)) + b.edges[j].to), .int .u8 ((a.edges[i].pos ||| b.edges[j].pos : Nat) : Int), .int .u8 ((a.edges[i].neg ||| b.edges[j].neg : Nat) : Int)]), oI bx11 54 [.int .i64 a.edges[i].fr, .int .i64 a.edges[i].to, .int .u8 ((a.edges[i].pos : Nat) : Int), .int .u8 ((a.edges[i].neg : Nat) : Int)], rowI tb5 tc5 22 1 (vals q5), rowI rs cs 3 1 (ints (pickI (stP a b) (inAll a b))), oI bx1 26 (buCells a sA sAc eA eAc tA tAc), oI bx4 3 [(.int .i64 ((b.states.toNat : Nat) : Int))], oI bx3 26 [(.int .i64 a.vars), .int .i64 ((a.states.toNat * b.states.toNat : Nat) : Int), (.slice rs ((pickI (stP a b) (inAll a b)).length) cs), (.slice bx15 (((inT a b i j).length) + 1) c16), (.slice tb5 (a.sets.length + k7) tc5)], oI bx2 26 (buCells b sb sc eb ec tb tc)] ++ (itms 3 q5)), (by exact Sub.d (.d (.d (.k (.k (.k (.k (.k (.k (.k (.k .rf))))))))))), bx15, c16, ?_, by omega, ⟨rfl, rfl, rfl, rfl, rfl, rfl, rfl, rfl, rfl, rfl, rfl, rfl, rfl, rfl, rfl, rfl, rfl, rfl, trivial⟩⟩
        rw [inT_yes hlt96 hlt103 (by unfold okE; exact decide_eq_true hok), eds_append, show ((inT a b i j) ++ [inE1 b.states.toNat a.edges[i] b.edges[j]]).length = (inT a b i j).length + 1 by simp] <;> rfl
      have hno := hc
      refine T.skip (T.region ?_)
      refine TO.quiet (q_addN (a := j) (b := 1) rfl rfl (by omega)) (TO.quiet (q_move rfl) ?_)
      refine TO.nil ?_
      refine ⟨j + 1, by omega, ([rowI eb6 ec6 54 4 (edsC (inT a b i j)), oI bx11 54 [.int .i64 a.edges[i].fr, .int .i64 a.edges[i].to, .int .u8 ((a.edges[i].pos : Nat) : Int), .int .u8 ((a.edges[i].neg : Nat) : Int)], rowI tb5 tc5 22 1 (vals q5), rowI rs cs 3 1 (ints (pickI (stP a b) (inAll a b))), oI bx1 26 (buCells a sA sAc eA eAc tA tAc), oI bx4 3 [(.int .i64 ((b.states.toNat : Nat) : Int))], oI bx3 26 [(.int .i64 a.vars), .int .i64 ((a.states.toNat * b.states.toNat : Nat) : Int), (.slice rs ((pickI (stP a b) (inAll a b)).length) cs), (.slice eb6 ((inT a b i j).length) ec6), (.slice tb5 (a.sets.length + k7) tc5)], oI bx2 26 (buCells b sb sc eb ec tb tc)] ++ (itms 3 q5)), (by exact Sub.d (.d (.k (.k (.k (.k (.k (.k (.k (.k .rf)))))))))), eb6, ec6, ?_, by omega, ⟨rfl, rfl, rfl, rfl, rfl, rfl, rfl, rfl, rfl, rfl, rfl, rfl, rfl, rfl, rfl, rfl, rfl, rfl, trivial⟩⟩
      rw [inT_no hlt96 hlt103 (by unfold okE; rw [decide_eq_true_iff]; exact hno)]
    have hge103 : ¬ j < b.edges.length := by omega
    refine T.exit ?_
    refine T.region ?_
    refine TO.quiet (q_addN (a := i) (b := 1) rfl rfl (by omega)) (TO.quiet (q_move rfl) ?_)
    refine TO.nil ?_
    have hje : j = b.edges.length := by omega
    refine ⟨i + 1, by omega, ([rowI eb6 ec6 54 4 (edsC (inT a b i j)), rowI tb5 tc5 22 1 (vals q5), rowI rs cs 3 1 (ints (pickI (stP a b) (inAll a b))), oI bx1 26 (buCells a sA sAc eA eAc tA tAc), oI bx4 3 [(.int .i64 ((b.states.toNat : Nat) : Int))], oI bx3 26 [(.int .i64 a.vars), .int .i64 ((a.states.toNat * b.states.toNat : Nat) : Int), (.slice rs ((pickI (stP a b) (inAll a b)).length) cs), (.slice eb6 ((inT a b i j).length) ec6), (.slice tb5 (a.sets.length + k7) tc5)], oI bx2 26 (buCells b sb sc eb ec tb tc)] ++ (itms 3 q5)), (by exact Sub.k (.d (.k (.k (.k (.k (.k (.k .rf)))))))), eb6, ec6, ?_, by omega, ⟨rfl, rfl, rfl, rfl, rfl, rfl, rfl, rfl, rfl, rfl, rfl, rfl, rfl, rfl, trivial⟩⟩
    rw [← inT_row hlt96, hje]
  have hge96 : ¬ i < a.edges.length := by omega
  refine T.exit ?_
  refine T.seq (T.region ?_)
  refine TO.quiet (q_load_boxAgg 5 Try.underlying26 rfl inf26 rfl rfl rfl) ?_
  refine TO.loud rfl (l_store_box (v := (.agg #[(.int .i64 a.vars), .int .i64 ((a.states.toNat * b.states.toNat : Nat) : Int), (.slice rs ((pickI (stP a b) (inAll a b)).length) cs), (.slice eb6 ((inT a b i 0).length) ec6), (.slice tb5 (a.sets.length + k7) tc5)])) (vs := [(.int .i64 a.vars), .int .i64 ((a.states.toNat * b.states.toNat : Nat) : Int), (.slice rs ((pickI (stP a b) (inAll a b)).length) cs), (.slice eb6 ((inT a b i 0).length) ec6), (.slice tb5 (a.sets.length + k7) tc5)]) 5 inf26 rfl rfl rfl rfl rfl rfl (by simp [putL]) ?_)
  refine TO.quiet (q_assign rfl) ?_
  refine TO.nil (T.ret (Res.drop ?_))
  refine Res.cell1b (.int .i64 0) (i := 5) Try.results42 Try.underlying26 rfl inf26 rfl rfl rfl rfl ?_
  have hE0 : inE a b = 0 := by unfold inE; rw [if_neg (by omega), if_neg (by unfold inAll; omega), if_neg (by omega)]
  have hin : inrB a b = interB a b := by unfold inrB; rw [if_pos hE0]
  have hie9 : i = a.edges.length := by omega
  have hde : (interB a b).edges = inT a b i 0 := by rw [hie9]; exact (inT_all a b).symm
  have hset : nums q5 = (interB a b).sets := by rw [hq5, hk7e, List.take_length]; rfl
  have hsl : (interB a b).sets.length = a.sets.length + k7 := by rw [← hset]; simp [nums, hq5l]
  refine ⟨[rowI rs cs 3 1 (ints (pickI (stP a b) (inAll a b))), rowI eb6 ec6 54 4 (edsC (inT a b i 0)), rowI tb5 tc5 22 1 (vals q5)] ++ itms 3 q5, Sub.cnt [oI bx1 26 (buCells a sA sAc eA eAc tA tAc), oI bx4 3 [(.int .i64 ((b.states.toNat : Nat) : Int))], oI bx3 26 [(.int .i64 a.vars), .int .i64 ((a.states.toNat * b.states.toNat : Nat) : Int), (.slice rs ((pickI (stP a b) (inAll a b)).length) cs), (.slice eb6 ((inT a b i 0).length) ec6), (.slice tb5 (a.sets.length + k7) tc5)], oI bx2 26 (buCells b sb sc eb ec tb tc)] (by intro a; simp only [itms, oI, List.set_cons_zero, List.set_cons_succ, putL, List.cons_append, List.nil_append, List.append_nil, List.append_assoc, List.map_append, List.map_cons, List.map_nil, cnt_append, cnt_cons, cnt_nil, buCells, laCells] <;> omega), rs, eb6, tb5, cs, ec6, tc5, q5, ?_, ?_, ?_⟩
  · rw [hin, hE0]; simp only [buCells, hde, hsl]; rfl
  · rw [hin, hde]; rfl
  · rw [hin]; exact hset
end Go.Proofs.Ytnamoapbienooaa


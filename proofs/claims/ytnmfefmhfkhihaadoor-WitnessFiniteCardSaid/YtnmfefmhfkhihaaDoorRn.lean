/- Contracts of functions of the program (Facts, Kit, Check, Shelf, Str, Min, Ren, Rn): what each call answers and that it leaves memory as it was. Conditions: those each theorem names. -/
import Derived.Test.YtnmfefmhfkhihaaDoorCoreK
import Derived.Test.YtnmfefmhfkhihaaDoorRows
import Derived.Test.YtnmfefmhfkhihaaDoorWtC
import Derived.Shelf.Strconv.Itoa3
import Derived.Test.YtnmfefmhfkhihaaDoorProg
set_option linter.unusedSectionVars false
set_option linter.unusedSimpArgs false
set_option linter.unusedVariables false
set_option linter.unnecessarySimpa false
namespace Go.Proofs.YtnmfefmhfkhihaaDoor
open Go.Lx Go.RowKit
theorem mixed : Tryd.prog.follows .mixedOrders = true := by kernel_rfl
theorem inf3 : Inf Tryd.prog 3 (.int .i64 0) 1 8 := by unfold Inf; kernel_rfl
theorem inf4 : Inf Tryd.prog 4 (.bool false) 1 1 := by unfold Inf; kernel_rfl
theorem inf5 : Inf Tryd.prog 5 (.int .u8 0) 1 1 := by unfold Inf; kernel_rfl
theorem inf22 : Inf Tryd.prog 22 ((.slice none 0 0)) 1 24 := by unfold Inf; kernel_rfl
theorem inf23 : Inf Tryd.prog 23 ((.slice none 0 0)) 1 24 := by unfold Inf; kernel_rfl
theorem inf25 : Inf Tryd.prog 25 ((.agg #[(.int .i64 0), (.int .i64 0), (.slice none 0 0), (.slice none 0 0)])) 4 64 := by unfold Inf; kernel_rfl
theorem inf26 : Inf Tryd.prog 26 (.int .u64 0) 1 8 := by unfold Inf; kernel_rfl
theorem inf29 : Inf Tryd.prog 29 ((.slice none 0 0)) 1 24 := by unfold Inf; kernel_rfl
theorem inf30 : Inf Tryd.prog 30 (.int .i64 0) 1 8 := by unfold Inf; kernel_rfl
theorem inf33 : Inf Tryd.prog 33 ((.slice none 0 0)) 1 24 := by unfold Inf; kernel_rfl
theorem inf41 : Inf Tryd.prog 41 ((.slice none 0 0)) 1 24 := by unfold Inf; kernel_rfl
theorem inf62 : Inf Tryd.prog 62 ((.slice none 0 0)) 1 24 := by unfold Inf; kernel_rfl
theorem inf70 : Inf Tryd.prog 70 ((.agg #[(.int .i64 0), (.slice none 0 0)])) 2 32 := by unfold Inf; kernel_rfl
theorem inf74 : Inf Tryd.prog 74 (.nilFunc) 1 8 := by unfold Inf; kernel_rfl
theorem inf96 : Inf Tryd.prog 96 (.pointer none) 1 8 := by unfold Inf; kernel_rfl
theorem inf103 : Inf Tryd.prog 103 ((.agg #[(.int .i64 0), (.int .i64 0)])) 2 16 := by unfold Inf; kernel_rfl
theorem inf104 : Inf Tryd.prog 104 ((.slice none 0 0)) 1 24 := by unfold Inf; kernel_rfl
theorem inf105 : Inf Tryd.prog 105 (.map none) 1 8 := by unfold Inf; kernel_rfl
theorem inf107 : Inf Tryd.prog 107 ((.agg #[(.int .i64 0), (.int .i64 0), (.slice none 0 0), (.slice none 0 0), (.int .i64 0), (.int .i64 0), (.slice none 0 0), (.slice none 0 0), (.slice none 0 0), (.map none)])) 10 160 := by unfold Inf; kernel_rfl
theorem inf108 : Inf Tryd.prog 108 (.map none) 1 8 := by unfold Inf; kernel_rfl
theorem inf110 : Inf Tryd.prog 110 (.nilFunc) 1 8 := by unfold Inf; kernel_rfl
theorem inf128 : Inf Tryd.prog 128 ((.agg #[(.int .u8 0), (.int .u8 0), (.int .u8 0), (.int .u8 0), (.int .u8 0), (.int .u8 0), (.int .u8 0), (.int .u8 0), (.int .u8 0), (.int .u8 0), (.int .u8 0), (.int .u8 0), (.int .u8 0), (.int .u8 0), (.int .u8 0), (.int .u8 0), (.int .u8 0), (.int .u8 0), (.int .u8 0), (.int .u8 0), (.int .u8 0), (.int .u8 0), (.int .u8 0), (.int .u8 0)])) 24 24 := by unfold Inf; kernel_rfl
theorem plan25 : Plan Tryd.prog 25 [(0, 1), (1, 1), (2, 1), (3, 1)] := ⟨_, Tryd.underlying25, fun w => by simp [run_sizeOf' inf3, run_sizeOf' inf22, run_sizeOf' inf23]⟩
theorem plan70 : Plan Tryd.prog 70 [(0, 1), (1, 1)] := ⟨_, Tryd.underlying70, fun w => by simp [run_sizeOf' inf3, run_sizeOf' inf29]⟩
theorem plan103 : Plan Tryd.prog 103 [(0, 1), (1, 1)] := ⟨_, Tryd.underlying103, fun w => by simp [run_sizeOf' inf3]⟩
theorem plan107 : Plan Tryd.prog 107 [(0, 4), (4, 4), (8, 1), (9, 1)] := ⟨_, Tryd.underlying107, fun w => by simp [run_sizeOf' inf25, run_sizeOf' inf104, run_sizeOf' inf105]⟩
theorem ent10 : Lx.Enters Tryd.prog 10 Tryd.f10 := ⟨Tryd.func10, by kernel_rfl, rfl⟩
theorem ent11 : Lx.Enters Tryd.prog 11 Tryd.f11 := ⟨Tryd.func11, by kernel_rfl, rfl⟩
theorem ent14 : Lx.Enters Tryd.prog 14 Tryd.f14 := ⟨Tryd.func14, by kernel_rfl, rfl⟩
theorem ent15 : Lx.Enters Tryd.prog 15 Tryd.f15 := ⟨Tryd.func15, by kernel_rfl, rfl⟩
theorem ent16 : Lx.Enters Tryd.prog 16 Tryd.f16 := ⟨Tryd.func16, by kernel_rfl, rfl⟩
theorem ent17 : Lx.Enters Tryd.prog 17 Tryd.f17 := ⟨Tryd.func17, by kernel_rfl, rfl⟩
theorem ent20 : Lx.Enters Tryd.prog 20 Tryd.f20 := ⟨Tryd.func20, by kernel_rfl, rfl⟩
theorem ent21 : Lx.Enters Tryd.prog 21 Tryd.f21 := ⟨Tryd.func21, by kernel_rfl, rfl⟩
theorem ent22 : Lx.Enters Tryd.prog 22 Tryd.f22 := ⟨Tryd.func22, by kernel_rfl, rfl⟩
theorem ent23 : Lx.Enters Tryd.prog 23 Tryd.f23 := ⟨Tryd.func23, by kernel_rfl, rfl⟩
theorem ent30 : Lx.Enters Tryd.prog 30 Tryd.f30 := ⟨Tryd.func30, by kernel_rfl, rfl⟩
theorem ent31 : Lx.Enters Tryd.prog 31 Tryd.f31 := ⟨Tryd.func31, by kernel_rfl, rfl⟩
theorem ent33 : Lx.Enters Tryd.prog 33 Tryd.f33 := ⟨Tryd.func33, by kernel_rfl, rfl⟩
theorem ent36 : Lx.Enters Tryd.prog 36 Tryd.f36 := ⟨Tryd.func36, by kernel_rfl, rfl⟩
theorem ent37 : Lx.Enters Tryd.prog 37 Tryd.f37 := ⟨Tryd.func37, by kernel_rfl, rfl⟩
theorem ent38 : Lx.Enters Tryd.prog 38 Tryd.f38 := ⟨Tryd.func38, by kernel_rfl, rfl⟩
theorem ent39 : Lx.Enters Tryd.prog 39 Tryd.f39 := ⟨Tryd.func39, by kernel_rfl, rfl⟩
theorem ent40 : Lx.Enters Tryd.prog 40 Tryd.f40 := ⟨Tryd.func40, by kernel_rfl, rfl⟩
theorem ent42 : Lx.Enters Tryd.prog 42 Tryd.f42 := ⟨Tryd.func42, by kernel_rfl, rfl⟩
theorem ent43 : Lx.Enters Tryd.prog 43 Tryd.f43 := ⟨Tryd.func43, by kernel_rfl, rfl⟩
theorem ent44 : Lx.Enters Tryd.prog 44 Tryd.f44 := ⟨Tryd.func44, by kernel_rfl, rfl⟩
theorem ent45 : Lx.Enters Tryd.prog 45 Tryd.f45 := ⟨Tryd.func45, by kernel_rfl, rfl⟩
theorem ent46 : Lx.Enters Tryd.prog 46 Tryd.f46 := ⟨Tryd.func46, by kernel_rfl, rfl⟩
theorem ent47 : Lx.Enters Tryd.prog 47 Tryd.f47 := ⟨Tryd.func47, by kernel_rfl, rfl⟩
theorem ent53 : Lx.Enters Tryd.prog 53 Tryd.f53 := ⟨Tryd.func53, by kernel_rfl, rfl⟩
theorem ent56 : Lx.Enters Tryd.prog 56 Tryd.f56 := ⟨Tryd.func56, by kernel_rfl, rfl⟩
theorem ent57 : Lx.Enters Tryd.prog 57 Tryd.f57 := ⟨Tryd.func57, by kernel_rfl, rfl⟩
theorem ent59 : Lx.Enters Tryd.prog 59 Tryd.f59 := ⟨Tryd.func59, by kernel_rfl, rfl⟩
theorem ent60 : Lx.Enters Tryd.prog 60 Tryd.f60 := ⟨Tryd.func60, by kernel_rfl, rfl⟩
theorem ent61 : Lx.Enters Tryd.prog 61 Tryd.f61 := ⟨Tryd.func61, by kernel_rfl, rfl⟩
theorem ent62 : Lx.Enters Tryd.prog 62 Tryd.f62 := ⟨Tryd.func62, by kernel_rfl, rfl⟩
theorem ent63 : Lx.Enters Tryd.prog 63 Tryd.f63 := ⟨Tryd.func63, by kernel_rfl, rfl⟩
theorem ent64 : Lx.Enters Tryd.prog 64 Tryd.f64 := ⟨Tryd.func64, by kernel_rfl, rfl⟩
theorem ent65 : Lx.Enters Tryd.prog 65 Tryd.f65 := ⟨Tryd.func65, by kernel_rfl, rfl⟩
theorem ent66 : Lx.Enters Tryd.prog 66 Tryd.f66 := ⟨Tryd.func66, by kernel_rfl, rfl⟩
theorem ent67 : Lx.Enters Tryd.prog 67 Tryd.f67 := ⟨Tryd.func67, by kernel_rfl, rfl⟩
theorem ent68 : Lx.Enters Tryd.prog 68 Tryd.f68 := ⟨Tryd.func68, by kernel_rfl, rfl⟩
theorem ent73 : Lx.Enters Tryd.prog 73 Tryd.f73 := ⟨Tryd.func73, by kernel_rfl, rfl⟩
theorem ent74 : Lx.Enters Tryd.prog 74 Tryd.f74 := ⟨Tryd.func74, by kernel_rfl, rfl⟩
theorem ent75 : Lx.Enters Tryd.prog 75 Tryd.f75 := ⟨Tryd.func75, by kernel_rfl, rfl⟩
theorem ent77 : Lx.Enters Tryd.prog 77 Tryd.f77 := ⟨Tryd.func77, by kernel_rfl, rfl⟩
theorem ent78 : Lx.Enters Tryd.prog 78 Tryd.f78 := ⟨Tryd.func78, by kernel_rfl, rfl⟩
theorem ent82 : Lx.Enters Tryd.prog 82 Tryd.f82 := ⟨Tryd.func82, by kernel_rfl, rfl⟩
theorem ent83 : Lx.Enters Tryd.prog 83 Tryd.f83 := ⟨Tryd.func83, by kernel_rfl, rfl⟩
theorem ent84 : Lx.Enters Tryd.prog 84 Tryd.f84 := ⟨Tryd.func84, by kernel_rfl, rfl⟩
theorem ent85 : Lx.Enters Tryd.prog 85 Tryd.f85 := ⟨Tryd.func85, by kernel_rfl, rfl⟩
theorem ent88 : Lx.Enters Tryd.prog 88 Tryd.f88 := ⟨Tryd.func88, by kernel_rfl, rfl⟩
theorem ent89 : Lx.Enters Tryd.prog 89 Tryd.f89 := ⟨Tryd.func89, by kernel_rfl, rfl⟩
theorem ent90 : Lx.Enters Tryd.prog 90 Tryd.f90 := ⟨Tryd.func90, by kernel_rfl, rfl⟩
theorem ent91 : Lx.Enters Tryd.prog 91 Tryd.f91 := ⟨Tryd.func91, by kernel_rfl, rfl⟩
theorem ent92 : Lx.Enters Tryd.prog 92 Tryd.f92 := ⟨Tryd.func92, by kernel_rfl, rfl⟩
theorem ent94 : Lx.Enters Tryd.prog 94 Tryd.f94 := ⟨Tryd.func94, by kernel_rfl, rfl⟩
theorem ent95 : Lx.Enters Tryd.prog 95 Tryd.f95 := ⟨Tryd.func95, by kernel_rfl, rfl⟩
theorem ent96 : Lx.Enters Tryd.prog 96 Tryd.f96 := ⟨Tryd.func96, by kernel_rfl, rfl⟩
theorem ent102 : Lx.Enters Tryd.prog 102 Tryd.f102 := ⟨Tryd.func102, by kernel_rfl, rfl⟩
theorem ent103 : Lx.Enters Tryd.prog 103 Tryd.f103 := ⟨Tryd.func103, by kernel_rfl, rfl⟩
theorem ent106 : Lx.Enters Tryd.prog 106 Tryd.f106 := ⟨Tryd.func106, by kernel_rfl, rfl⟩
theorem ent107 : Lx.Enters Tryd.prog 107 Tryd.f107 := ⟨Tryd.func107, by kernel_rfl, rfl⟩
end Go.Proofs.YtnmfefmhfkhihaaDoor


namespace Go.Proofs.YtnmfefmhfkhihaaDoor
open Go.Lx Go.RowKit
set_option linter.unusedVariables false
set_option linter.unusedSimpArgs false
set_option maxHeartbeats 1000000 in
set_option maxRecDepth 20000 in
theorem equalBytes (w : World) (b1 b2 : Option Addr) (c1 c2 : Nat) (xs ys : List Nat) (h1 : Sl w b1 (byts xs)) (h2 : Sl w b2 (byts ys)) (hb : xs.length < 9223372036854775807) :
    PureT Tryd.prog 16 [(.slice b1 xs.length c1), (.slice b2 ys.length c2)] w fun v N => v = .bool (decide (xs = ys)) ∧ N = [] := by
  refine CallT.enter Tryd.func16 rfl Tryd.ntmps16 rfl ?_
  refine T.seq (T.region ?_)
  refine TO.quiet (q_assign rfl) ?_
  refine TO.nil (T.seq (T.seq (T.region ?_)))
  refine TO.quiet (q_move rfl) (TO.quiet (q_len Tryd.underlying29 rfl) (TO.quiet (q_move rfl) (TO.quiet (q_len Tryd.underlying29 rfl) ?_)))
  refine TO.quiet (q_neq rfl rfl) ?_
  refine TO.nil ?_
  refine T.condP rfl (fun hc => ?_) (fun hc => ?_)
  · have hlt10 : xs.length ≠ ys.length := by omega
    have hlen : xs.length ≠ ys.length := by omega
    refine T.seq (T.region ?_)
    refine TO.quiet (q_assign rfl) ?_
    refine TO.nil (T.ret ?_)
    refine Res.one (.bool false) Tryd.results16 rfl ?_
    exact ⟨congrArg Value.bool (decide_eq_false (fun e => hlen (by rw [e]))).symm, rfl⟩
  have hge10 : ¬ xs.length ≠ ys.length := by omega
  have hlen : xs.length = ys.length := by omega
  refine T.skip (T.seq (T.seq (T.region ?_)))
  refine TO.quiet (q_assign rfl) ?_
  refine TO.nil (T.block ?_)
  refine T.loop (fun (k : Nat) ρ O => O = [] ∧ k ≤ xs.length ∧ xs.take k = ys.take k ∧ Heads [(0, (.slice b1 xs.length c1)), (1, (.slice b2 ys.length c2)), (5, .int .i64 (k : Int))] ρ) (fun k => xs.length - k) 0 ?_ ?_
  · exact ⟨rfl, Nat.zero_le _, rfl, ⟨rfl, rfl, rfl, trivial⟩⟩
  rintro k ρ O ⟨rfl, hk, he, hH⟩
  obtain ⟨ρ0, rfl⟩ := hH.elim
  clear hH
  refine T.seq (T.seq (T.region ?_))
  refine TO.quiet (q_move rfl) (TO.quiet (q_move rfl) (TO.quiet (q_len Tryd.underlying29 rfl) (TO.quiet (q_lss rfl rfl) ?_)))
  refine TO.nil ?_
  refine T.condP rfl (fun hc => ?_) (fun hc => ?_)
  · have hlt14 : k < xs.length := by omega
    have hlt : k < xs.length := by omega
    have hlt2 : k < ys.length := by omega
    obtain ⟨kb1, ko1, rfl⟩ := h1.addr (i := k) (by simpa using hlt)
    obtain ⟨kb2, ko2, rfl⟩ := h2.addr (i := k) (by simpa using hlt2)
    refine T.skip (T.seq (T.block (T.seq ?_)))
    refine T.draws _ [(0, 0), (1, 0), (2, 0), (3, 0), (4, 0), (5, 0), (6, 0), (7, 0), (8, 0)] mixed (by kernel_rfl) (Sub.of (List.Sublist.refl _)) (fun _ _ _ h => h) ?_
    refine DO.quiet rfl (q_move rfl) (DO.quiet rfl (q_move rfl) (DO.quiet rfl (q_idx Tryd.underlying29 inf5 rfl rfl hlt) (DO.quiet rfl (q_load_sl Tryd.underlying5 rfl rfl h1 (byts_get hlt)) ?_)))
    refine DO.quiet rfl (q_move rfl) (DO.quiet rfl (q_move rfl) (DO.quiet rfl (q_idx Tryd.underlying29 inf5 rfl rfl hlt2) (DO.quiet rfl (q_load_sl Tryd.underlying5 rfl rfl h2 (byts_get hlt2)) ?_)))
    refine DO.quiet rfl (q_neq rfl rfl) ?_
    refine DO.done ?_
    refine T.condP (p := ¬ xs[k] = ys[k]) (congrArg Value.bool (decide_eq_decide.2 (by omega))) (fun hc => ?_) (fun hc => ?_)
    · have hlt25 : xs[k] ≠ ys[k] := by omega
      refine T.seq (T.region ?_)
      refine TO.quiet (q_assign rfl) ?_
      refine TO.nil (T.ret ?_)
      refine Res.one (.bool false) Tryd.results16 rfl ?_
      exact ⟨congrArg Value.bool (decide_eq_false (fun e => hc (by subst e; rfl))).symm, rfl⟩
    have hge25 : ¬ xs[k] ≠ ys[k] := by omega
    refine T.skip (T.region ?_)
    refine TO.quiet (q_move rfl) (TO.quiet (q_inc rfl rfl (by omega)) (TO.quiet (q_assign rfl) ?_))
    refine TO.nil ?_
    refine ⟨k + 1, by omega, rfl, by omega, ?_, ⟨rfl, rfl, rfl, trivial⟩⟩
    rw [List.take_succ_eq_append_getElem hlt, List.take_succ_eq_append_getElem hlt2, he]
    exact congrArg _ (congrArg (fun z => [z]) (Classical.not_not.1 hc))
  have hge14 : ¬ k < xs.length := by omega
  refine T.exit ?_
  refine T.seq (T.region ?_)
  refine TO.quiet (q_assign rfl) ?_
  refine TO.nil (T.ret ?_)
  refine Res.one (.bool true) Tryd.results16 rfl ?_
  exact ⟨congrArg Value.bool (decide_eq_true (show xs = ys by rw [List.take_of_length_le (by omega), List.take_of_length_le (by omega)] at he; exact he)).symm, rfl⟩
end Go.Proofs.YtnmfefmhfkhihaaDoor


namespace Go.Proofs.YtnmfefmhfkhihaaDoor
open Go.Lx Go.RowKit
set_option linter.unusedVariables false
set_option linter.unusedSimpArgs false
set_option maxHeartbeats 1000000 in
set_option maxRecDepth 20000 in
theorem lettersF (w : World) (v : Int) (h0 : 0 ≤ v) (h6 : v ≤ 6) : PureT Tryd.prog 37 [.int .i64 v] w fun x N => x = .int .i64 ((2 ^ v.toNat : Nat) : Int) ∧ N = [] := by
  refine CallT.enter Tryd.func37 rfl Tryd.ntmps37 rfl ?_
  refine T.seq (T.region ?_)
  refine TO.quiet (q_assign rfl) ?_
  refine TO.nil (T.seq (T.region ?_))
  refine TO.quiet (q_move rfl) (TO.quiet (q_conv_id Tryd.underlying3 Tryd.underlying58 rfl (show IntKind.u64.wrap v = v by unfold IntKind.wrap; simp [IntKind.bits, IntKind.signed]; omega)) (TO.quiet (q_shl1 (v := v.toNat) rfl (by show Value.int _ v = _; rw [Int.toNat_of_nonneg h0]) (by omega)) (TO.quiet (q_assign rfl) ?_)))
  refine TO.nil (T.ret ?_)
  refine Res.one (.int .i64 ((2 ^ v.toNat : Nat) : Int)) Tryd.results37 rfl ?_
  exact ⟨rfl, rfl⟩
set_option maxHeartbeats 1000000 in
set_option maxRecDepth 20000 in
theorem slicesMin (w : World) (b : Option Addr) (c : Nat) (xs : List Int) (h : Sl w b (ints xs)) (h0 : 0 < xs.length) (hb : xs.length < 9223372036854775807) : PureT Tryd.prog 56 [.slice b xs.length c] w fun v N => (∃ m, v = .int .i64 m ∧ m ∈ xs ∧ ∀ x ∈ xs, m ≤ x) ∧ N = [] := by
  refine CallT.enter Tryd.func56 rfl Tryd.ntmps56 rfl ?_
  refine T.seq (T.region ?_)
  refine TO.quiet (q_assign rfl) ?_
  refine TO.nil (T.seq (T.seq (T.region ?_)))
  refine TO.quiet (q_move rfl) (TO.quiet (q_len Tryd.underlying41 rfl) (TO.quiet (q_lss rfl rfl) ?_))
  refine TO.nil ?_
  refine T.condP rfl (fun hc => ?_) (fun hc => ?_)
  · exact absurd hc (by omega)
  have hge7 : ¬ xs.length < 1 := by omega
  refine T.skip (T.seq (T.region ?_))
  refine TO.quiet (q_move rfl) (TO.quiet (q_ix (i := 0) Tryd.underlying41 inf3 rfl rfl (Sl.o h)) (TO.quiet (q_ld Tryd.underlying3 rfl rfl (Sl.o h) ints_get) (TO.quiet (q_assign rfl) ?_)))
  refine TO.nil (T.seq (T.seq (T.region ?_)))
  refine TO.quiet (q_assign rfl) ?_
  refine TO.nil (T.block ?_)
  refine T.loop (fun (k : Nat) ρ O => ∃ (m : Int), O = [] ∧ 1 ≤ k ∧ k ≤ xs.length ∧ m ∈ xs.take k ∧ (∀ x ∈ xs.take k, m ≤ x) ∧ Heads [(0, (.slice b xs.length c)), (2, .int .i64 0), (3, .int .i64 m), (4, .int .i64 (k : Int))] ρ) (fun k => xs.length - k) 1 ?_ ?_
  · refine ⟨xs[0], rfl, Nat.le_refl _, h0, ?_, ?_, ⟨rfl, rfl, rfl, rfl, trivial⟩⟩
    · show xs[0] ∈ xs.take (0 + 1)
      rw [List.take_succ_eq_append_getElem h0]; simp
    · show ∀ x ∈ xs.take (0 + 1), _
      rw [List.take_succ_eq_append_getElem h0]; simp
  rintro k ρ O ⟨m, rfl, hk1, hk, hm, hall, hH⟩
  obtain ⟨ρ0, rfl⟩ := hH.elim
  clear hH
  refine T.seq (T.seq (T.region ?_))
  refine TO.quiet (q_move rfl) (TO.quiet (q_move rfl) (TO.quiet (q_len Tryd.underlying41 rfl) (TO.quiet (q_lss rfl rfl) ?_)))
  refine TO.nil ?_
  refine T.condP rfl (fun hc => ?_) (fun hc => ?_)
  · have hlt15 : k < xs.length := by omega
    refine T.skip (T.seq (T.block (T.region ?_)))
    refine TO.quiet (q_move rfl) (TO.quiet (q_move rfl) (TO.quiet (q_move rfl) (TO.quiet (q_ix (i := k) Tryd.underlying41 inf3 rfl rfl (Sl.o h)) ?_)))
    refine TO.quiet (q_ld Tryd.underlying3 rfl rfl (Sl.o h) ints_get) (TO.quiet (q_min rfl rfl) (TO.quiet (q_assign rfl) ?_))
    refine TO.nil (T.region ?_)
    refine TO.quiet (q_move rfl) (TO.quiet (q_inc rfl rfl (by omega)) (TO.quiet (q_assign rfl) ?_))
    refine TO.nil ?_
    refine ⟨k + 1, by omega, if xs[k] < m then xs[k] else m, rfl, by omega, by omega, ?_, ?_, ⟨rfl, rfl, rfl, rfl, trivial⟩⟩
    · rw [List.take_succ_eq_append_getElem hlt15]; split
      · exact List.mem_append_right _ (List.mem_singleton.2 rfl)
      · exact List.mem_append_left _ hm
    · rw [List.take_succ_eq_append_getElem hlt15]
      intro x hx
      rcases List.mem_append.1 hx with hx | hx
      · have := hall x hx; split <;> omega
      · rw [List.mem_singleton] at hx; subst hx; split <;> omega
  have hge15 : ¬ k < xs.length := by omega
  refine T.exit ?_
  refine T.seq (T.region ?_)
  refine TO.quiet (q_move rfl) (TO.quiet (q_assign rfl) ?_)
  refine TO.nil (T.ret ?_)
  refine Res.one (.int .i64 m) Tryd.results56 rfl ?_
  rw [List.take_of_length_le (by omega)] at hm hall
  exact ⟨⟨m, rfl, hm, hall⟩, rfl⟩
set_option maxHeartbeats 1000000 in
set_option maxRecDepth 20000 in
theorem slicesMax (w : World) (b : Option Addr) (c : Nat) (xs : List Int) (h : Sl w b (ints xs)) (h0 : 0 < xs.length) (hb : xs.length < 9223372036854775807) : PureT Tryd.prog 57 [.slice b xs.length c] w fun v N => (∃ m, v = .int .i64 m ∧ m ∈ xs ∧ ∀ x ∈ xs, x ≤ m) ∧ N = [] := by
  refine CallT.enter Tryd.func57 rfl Tryd.ntmps57 rfl ?_
  refine T.seq (T.region ?_)
  refine TO.quiet (q_assign rfl) ?_
  refine TO.nil (T.seq (T.seq (T.region ?_)))
  refine TO.quiet (q_move rfl) (TO.quiet (q_len Tryd.underlying41 rfl) (TO.quiet (q_lss rfl rfl) ?_))
  refine TO.nil ?_
  refine T.condP rfl (fun hc => ?_) (fun hc => ?_)
  · exact absurd hc (by omega)
  have hge7 : ¬ xs.length < 1 := by omega
  refine T.skip (T.seq (T.region ?_))
  refine TO.quiet (q_move rfl) (TO.quiet (q_ix (i := 0) Tryd.underlying41 inf3 rfl rfl (Sl.o h)) (TO.quiet (q_ld Tryd.underlying3 rfl rfl (Sl.o h) ints_get) (TO.quiet (q_assign rfl) ?_)))
  refine TO.nil (T.seq (T.seq (T.region ?_)))
  refine TO.quiet (q_assign rfl) ?_
  refine TO.nil (T.block ?_)
  refine T.loop (fun (k : Nat) ρ O => ∃ (m : Int), O = [] ∧ 1 ≤ k ∧ k ≤ xs.length ∧ m ∈ xs.take k ∧ (∀ x ∈ xs.take k, x ≤ m) ∧ Heads [(0, (.slice b xs.length c)), (2, .int .i64 0), (3, .int .i64 m), (4, .int .i64 (k : Int))] ρ) (fun k => xs.length - k) 1 ?_ ?_
  · refine ⟨xs[0], rfl, Nat.le_refl _, h0, ?_, ?_, ⟨rfl, rfl, rfl, rfl, trivial⟩⟩
    · show xs[0] ∈ xs.take (0 + 1)
      rw [List.take_succ_eq_append_getElem h0]; simp
    · show ∀ x ∈ xs.take (0 + 1), _
      rw [List.take_succ_eq_append_getElem h0]; simp
  rintro k ρ O ⟨m, rfl, hk1, hk, hm, hall, hH⟩
  obtain ⟨ρ0, rfl⟩ := hH.elim
  clear hH
  refine T.seq (T.seq (T.region ?_))
  refine TO.quiet (q_move rfl) (TO.quiet (q_move rfl) (TO.quiet (q_len Tryd.underlying41 rfl) (TO.quiet (q_lss rfl rfl) ?_)))
  refine TO.nil ?_
  refine T.condP rfl (fun hc => ?_) (fun hc => ?_)
  · have hlt15 : k < xs.length := by omega
    refine T.skip (T.seq (T.block (T.region ?_)))
    refine TO.quiet (q_move rfl) (TO.quiet (q_move rfl) (TO.quiet (q_move rfl) (TO.quiet (q_ix (i := k) Tryd.underlying41 inf3 rfl rfl (Sl.o h)) ?_)))
    refine TO.quiet (q_ld Tryd.underlying3 rfl rfl (Sl.o h) ints_get) (TO.quiet (q_max rfl rfl) (TO.quiet (q_assign rfl) ?_))
    refine TO.nil (T.region ?_)
    refine TO.quiet (q_move rfl) (TO.quiet (q_inc rfl rfl (by omega)) (TO.quiet (q_assign rfl) ?_))
    refine TO.nil ?_
    refine ⟨k + 1, by omega, if xs[k] > m then xs[k] else m, rfl, by omega, by omega, ?_, ?_, ⟨rfl, rfl, rfl, rfl, trivial⟩⟩
    · rw [List.take_succ_eq_append_getElem hlt15]; split
      · exact List.mem_append_right _ (List.mem_singleton.2 rfl)
      · exact List.mem_append_left _ hm
    · rw [List.take_succ_eq_append_getElem hlt15]
      intro x hx
      rcases List.mem_append.1 hx with hx | hx
      · have := hall x hx; split <;> omega
      · rw [List.mem_singleton] at hx; subst hx; split <;> omega
  have hge15 : ¬ k < xs.length := by omega
  refine T.exit ?_
  refine T.seq (T.region ?_)
  refine TO.quiet (q_move rfl) (TO.quiet (q_assign rfl) ?_)
  refine TO.nil (T.ret ?_)
  refine Res.one (.int .i64 m) Tryd.results57 rfl ?_
  rw [List.take_of_length_le (by omega)] at hm hall
  exact ⟨⟨m, rfl, hm, hall⟩, rfl⟩
set_option maxHeartbeats 1000000 in
set_option maxRecDepth 20000 in
theorem subsetCheck (w : World) (d : DFA) (nb fb : Option Addr) (nc fc : Nat) (vs : List Value) (h : DfaAt w d nb vs fb) (hb : d.next.length < 9223372036854775807) (hbr : ∀ r ∈ d.next, r.length < 9223372036854775807) (hbf : d.final.length < 9223372036854775807) :
    PureT Tryd.prog 33 [.agg (dfaCells d nb nc fb fc).toArray] w fun v N => v = .int .i64 (checkD d : Int) ∧ N = [] := by
  refine CallT.enter Tryd.func33 rfl Tryd.ntmps33 rfl ?_
  have hvl := h.rows.1
  refine T.seq (T.region ?_)
  refine TO.loud rfl (l_box (v := (.agg #[(.int .i64 d.vars), (.int .i64 d.start), (.slice nb d.next.length nc), (.slice fb d.final.length fc)])) (cs := [(.int .i64 d.vars), (.int .i64 d.start), (.slice nb d.next.length nc), (.slice fb d.final.length fc)]) rfl rfl (fun b1 => ?_))
  refine TO.quiet (q_assign rfl) ?_
  refine TO.nil (T.seq (T.region ?_))
  refine TO.quiet (q_fieldAddr Tryd.underlying25 rfl inf22 rfl rfl) (TO.quiet (q_load_box 0 Tryd.underlying22 rfl rfl rfl rfl) (TO.quiet (q_len Tryd.underlying22 rfl) (TO.quiet (q_assign rfl) ?_)))
  refine TO.nil (T.seq (T.block (T.seq (T.region ?_))))
  refine TO.quiet (q_fieldAddr Tryd.underlying25 rfl inf3 rfl rfl) (TO.quiet (q_load_box 0 Tryd.underlying3 rfl rfl rfl rfl) ?_)
  by_cases hv0 : d.vars < 0
  · refine TO.quiet (QT.toB (q_lss rfl rfl) (decide_eq_true hv0)) ?_
    refine TO.quiet (q_move rfl) ?_
    refine TO.passed rfl rfl ?_
    refine TO.passed rfl rfl ?_
    refine TO.passed rfl rfl ?_
    refine TO.quiet (q_pick1 rfl rfl) (TO.quiet (q_assign rfl) ?_)
    refine TO.nil ?_
    refine T.cond1 rfl ?_
    refine T.seq (T.region ?_)
    refine TO.quiet (q_assign rfl) ?_
    refine TO.nil (T.ret (Res.drop ?_))
    refine Res.one (.int .i64 7) Tryd.results33 rfl ?_
    refine ⟨[], Sub.of (List.nil_sublist _), congrArg (fun z : Nat => Value.int .i64 (z : Int)) (show 7 = checkD d from Eq.symm ?_), rfl⟩
    unfold checkD
    rw [if_pos (by omega)]
  refine TO.quiet (QT.toB (q_lss rfl rfl) (decide_eq_false hv0)) (TO.quiet (q_move rfl) ?_)
  refine TO.guarded rfl rfl rfl (LT.of_quiet rfl rfl (q_fieldAddr Tryd.underlying25 rfl inf3 rfl rfl) ?_)
  refine TO.guarded rfl rfl rfl (LT.of_quiet rfl rfl (q_load_box 0 Tryd.underlying3 rfl rfl rfl rfl) ?_)
  by_cases hv6 : 6 < d.vars
  · refine TO.guarded rfl rfl rfl (LT.of_quiet rfl rfl (QT.toB (q_gtr rfl rfl) (decide_eq_true hv6)) ?_)
    refine TO.quiet (q_pick0 rfl rfl) (TO.quiet (q_assign rfl) ?_)
    refine TO.nil ?_
    refine T.cond1 rfl ?_
    refine T.seq (T.region ?_)
    refine TO.quiet (q_assign rfl) ?_
    refine TO.nil (T.ret (Res.drop ?_))
    refine Res.one (.int .i64 7) Tryd.results33 rfl ?_
    refine ⟨[], Sub.of (List.nil_sublist _), congrArg (fun z : Nat => Value.int .i64 (z : Int)) (show 7 = checkD d from Eq.symm ?_), rfl⟩
    unfold checkD
    rw [if_pos (by omega)]
  refine TO.guarded rfl rfl rfl (LT.of_quiet rfl rfl (QT.toB (q_gtr rfl rfl) (decide_eq_false hv6)) ?_)
  refine TO.quiet (q_pick0 rfl rfl) (TO.quiet (q_assign rfl) ?_)
  refine TO.nil ?_
  refine T.cond0 rfl ?_
  refine T.seq (T.region ?_)
  refine TO.quiet (q_move rfl) (TO.quiet (q_eql rfl rfl) (TO.quiet (q_assign rfl) ?_))
  refine TO.nil ?_
  refine T.condP rfl (fun hc => ?_) (fun hc => ?_)
  · have hlt18 : d.next.length = 0 := by omega
    refine T.seq (T.region ?_)
    refine TO.quiet (q_assign rfl) ?_
    refine TO.nil (T.ret (Res.drop ?_))
    refine Res.one (.int .i64 3) Tryd.results33 rfl ?_
    refine ⟨[], Sub.of (List.nil_sublist _), congrArg (fun z : Nat => Value.int .i64 (z : Int)) (show 3 = checkD d from Eq.symm ?_), rfl⟩
    unfold checkD
    rw [if_neg (by simp; omega), if_pos hlt18]
  have hge18 : ¬ d.next.length = 0 := by omega
  refine T.seq (T.region ?_)
  refine TO.quiet (q_move rfl) (TO.quiet (q_gtr rfl rfl) (TO.quiet (q_assign rfl) ?_))
  refine TO.nil ?_
  refine T.condP rfl (fun hc => ?_) (fun hc => ?_)
  · have hlt21 : d.next.length > 4096 := by omega
    refine T.seq (T.region ?_)
    refine TO.quiet (q_assign rfl) ?_
    refine TO.nil (T.ret (Res.drop ?_))
    refine Res.one (.int .i64 4) Tryd.results33 rfl ?_
    refine ⟨[], Sub.of (List.nil_sublist _), congrArg (fun z : Nat => Value.int .i64 (z : Int)) (show 4 = checkD d from Eq.symm ?_), rfl⟩
    unfold checkD
    rw [if_neg (by simp; omega), if_neg hge18, if_pos hlt21]
  have hge21 : ¬ d.next.length > 4096 := by omega
  refine T.seq (T.region ?_)
  refine TO.quiet (q_fieldAddr Tryd.underlying25 rfl inf23 rfl rfl) (TO.quiet (q_load_box 0 Tryd.underlying23 rfl rfl rfl rfl) (TO.quiet (q_len Tryd.underlying23 rfl) (TO.quiet (q_move rfl) ?_)))
  refine TO.quiet (q_neq rfl rfl) (TO.quiet (q_assign rfl) ?_)
  refine TO.nil ?_
  refine T.condP rfl (fun hc => ?_) (fun hc => ?_)
  · have hlt24 : d.final.length ≠ d.next.length := by omega
    refine T.seq (T.region ?_)
    refine TO.quiet (q_assign rfl) ?_
    refine TO.nil (T.ret (Res.drop ?_))
    refine Res.one (.int .i64 2) Tryd.results33 rfl ?_
    refine ⟨[], Sub.of (List.nil_sublist _), congrArg (fun z : Nat => Value.int .i64 (z : Int)) (show 2 = checkD d from Eq.symm ?_), rfl⟩
    unfold checkD
    rw [if_neg (by simp; omega), if_neg hge18, if_neg hge21, if_pos hlt24]
  have hge24 : ¬ d.final.length ≠ d.next.length := by omega
  refine T.seq (T.region ?_)
  refine TO.quiet (q_fieldAddr Tryd.underlying25 rfl inf3 rfl rfl) (TO.quiet (q_load_box 0 Tryd.underlying3 rfl rfl rfl rfl) ?_)
  by_cases hs0 : d.start < 0
  · refine TO.quiet (QT.toB (q_lss rfl rfl) (decide_eq_true hs0)) ?_
    refine TO.quiet (q_move rfl) ?_
    refine TO.passed rfl rfl ?_
    refine TO.passed rfl rfl ?_
    refine TO.passed rfl rfl ?_
    refine TO.passed rfl rfl ?_
    refine TO.quiet (q_pick1 rfl rfl) (TO.quiet (q_assign rfl) ?_)
    refine TO.nil ?_
    refine T.cond1 rfl ?_
    refine T.seq (T.region ?_)
    refine TO.quiet (q_assign rfl) ?_
    refine TO.nil (T.ret (Res.drop ?_))
    refine Res.one (.int .i64 8) Tryd.results33 rfl ?_
    refine ⟨[], Sub.of (List.nil_sublist _), congrArg (fun z : Nat => Value.int .i64 (z : Int)) (show 8 = checkD d from Eq.symm ?_), rfl⟩
    unfold checkD
    rw [if_neg (by simp; omega), if_neg hge18, if_neg hge21, if_neg (by simpa using hge24), if_pos (by omega)]
  refine TO.quiet (QT.toB (q_lss rfl rfl) (decide_eq_false hs0)) (TO.quiet (q_move rfl) ?_)
  refine TO.guarded rfl rfl rfl (LT.of_quiet rfl rfl (q_fieldAddr Tryd.underlying25 rfl inf3 rfl rfl) ?_)
  refine TO.guarded rfl rfl rfl (LT.of_quiet rfl rfl (q_load_box 0 Tryd.underlying3 rfl rfl rfl rfl) ?_)
  refine TO.guarded rfl rfl rfl (LT.of_quiet rfl rfl (q_move rfl) ?_)
  by_cases hs1 : (d.next.length : Int) ≤ d.start
  · refine TO.guarded rfl rfl rfl (LT.of_quiet rfl rfl (QT.toB (q_geq rfl rfl) (decide_eq_true hs1)) ?_)
    refine TO.quiet (q_pick0 rfl rfl) (TO.quiet (q_assign rfl) ?_)
    refine TO.nil ?_
    refine T.cond1 rfl ?_
    refine T.seq (T.region ?_)
    refine TO.quiet (q_assign rfl) ?_
    refine TO.nil (T.ret (Res.drop ?_))
    refine Res.one (.int .i64 8) Tryd.results33 rfl ?_
    refine ⟨[], Sub.of (List.nil_sublist _), congrArg (fun z : Nat => Value.int .i64 (z : Int)) (show 8 = checkD d from Eq.symm ?_), rfl⟩
    unfold checkD
    rw [if_neg (by simp; omega), if_neg hge18, if_neg hge21, if_neg (by simpa using hge24), if_pos (by omega)]
  refine TO.guarded rfl rfl rfl (LT.of_quiet rfl rfl (QT.toB (q_geq rfl rfl) (decide_eq_false hs1)) ?_)
  refine TO.quiet (q_pick0 rfl rfl) (TO.quiet (q_assign rfl) ?_)
  refine TO.nil ?_
  refine T.cond0 rfl ?_
  refine T.skip (T.seq (T.seq (T.region ?_)))
  refine TO.quiet (q_fieldAddr Tryd.underlying25 rfl inf22 rfl rfl) (TO.quiet (q_load_box 0 Tryd.underlying22 rfl rfl rfl rfl) (TO.quiet (q_len Tryd.underlying22 rfl) (TO.quiet (q_move rfl) ?_)))
  refine TO.nil (T.block ?_)
  refine T.loop (fun (k : Nat) ρ O => O = [oI b1 25 [(.int .i64 d.vars), (.int .i64 d.start), (.slice nb d.next.length nc), (.slice fb d.final.length fc)]] ∧ k ≤ d.next.length ∧ rowsE (2 ^ d.vars.toNat) d.next.length (d.next.drop k) = checkD d ∧ Heads [(0, (.agg #[(.int .i64 d.vars), (.int .i64 d.start), (.slice nb d.next.length nc), (.slice fb d.final.length fc)])), (1, (.pointer (some ⟨b1, 0, none⟩))), (3, .int .i64 (d.next.length : Int)), (9, .bool false), (18, .bool (decide ((d.next.length : Int) = 0))), (21, .bool (decide ((d.next.length : Int) > 4096))), (24, .bool (decide ((d.final.length : Int) ≠ (d.next.length : Int)))), (30, .bool false), (41, (.slice nb d.next.length nc)), (42, .int .i64 (d.next.length : Int)), (43, .int .i64 (k : Int))] ρ) (fun k => d.next.length - k) 0 ?_ ?_
  · refine ⟨rfl, Nat.zero_le _, ?_, ⟨rfl, rfl, rfl, rfl, rfl, rfl, rfl, rfl, rfl, rfl, rfl, trivial⟩⟩
    unfold checkD
    rw [if_neg (by simp; omega), if_neg hge18, if_neg hge21, if_neg (by simpa using hge24), if_neg (by omega)]; rfl
  rintro k ρ O ⟨rfl, hk, hr, hH⟩
  obtain ⟨ρ0, rfl⟩ := hH.elim
  clear hH
  refine T.seq (T.region ?_)
  refine TO.quiet (q_lss rfl rfl) ?_
  refine TO.nil (T.seq ?_)
  refine T.condP rfl (fun hc => ?_) (fun hc => ?_)
  · have hlt44 : k < d.next.length := by omega
    obtain ⟨vb1, vc1, g1, s1⟩ := h.rows.get hlt44
    have hrl := hbr _ (List.getElem_mem hlt44)
    refine T.skip (T.seq (T.block (T.seq (T.region ?_))))
    refine TO.quiet (q_ix (i := k) Tryd.underlying22 inf41 rfl rfl (Sl.o h.outer)) (TO.quiet (q_ld Tryd.underlying41 rfl rfl (Sl.o h.outer) g1) (TO.quiet (q_assign rfl) ?_))
    refine TO.nil (T.seq (T.seq (T.region ?_)))
    refine TO.quiet (q_move rfl) (TO.quiet (q_len Tryd.underlying41 rfl) (TO.quiet (q_fieldAddr Tryd.underlying25 rfl inf3 rfl rfl) (TO.quiet (q_load_box 0 Tryd.underlying3 rfl rfl rfl rfl) ?_)))
    refine TO.quiet (q_shl1 (v := d.vars.toNat) rfl (by show Value.int _ d.vars = _; rw [Int.toNat_of_nonneg (by omega)]) (by omega)) (TO.quiet (q_neq rfl rfl) ?_)
    refine TO.nil ?_
    refine T.condP rfl (fun hc => ?_) (fun hc => ?_)
    · have hlt52 : d.next[k].length ≠ 2 ^ d.vars.toNat := by omega
      refine T.seq (T.region ?_)
      refine TO.quiet (q_assign rfl) ?_
      refine TO.nil (T.ret (Res.drop ?_))
      refine Res.one (.int .i64 2) Tryd.results33 rfl ?_
      refine ⟨[], Sub.of (List.nil_sublist _), congrArg (fun z : Nat => Value.int .i64 (z : Int)) (show 2 = checkD d from Eq.symm ?_), rfl⟩
      rw [← hr, rowsE_at hlt44, if_pos hlt52]
    have hge52 : ¬ d.next[k].length ≠ 2 ^ d.vars.toNat := by omega
    have hrpos : 0 < d.next[k].length := by
      have := Nat.pow_pos (n := d.vars.toNat) (show 0 < 2 by omega)
      omega
    refine T.skip (T.seq (T.region ?_))
    refine TO.quiet (q_move rfl) ?_
    have hk54 := fun (w1 : World) (hI : Inv w [oI b1 25 [(.int .i64 d.vars), (.int .i64 d.start), (.slice nb d.next.length nc), (.slice fb d.final.length fc)]] w1) => slicesMin w1 vb1 vc1 d.next[k] (hI.sl s1) hrpos hrl
    refine TO.loud rfl (l_call ent56 (CallT.of_pure hk54) rfl ?_)
    clear hk54
    rintro v O' ⟨N, rfl, ⟨m1, rfl, hm1, hall1⟩, rfl⟩
    by_cases he0 : m1 < 0
    · refine TO.quiet (QT.toB (q_lss rfl rfl) (decide_eq_true he0)) ?_
      refine TO.quiet (q_move rfl) ?_
      refine TO.passed rfl rfl ?_
      refine TO.passed rfl rfl ?_
      refine TO.passed rfl rfl ?_
      refine TO.passed rfl rfl ?_
      refine TO.quiet (q_pick1 rfl rfl) ?_
      refine TO.nil ?_
      refine T.cond1 rfl ?_
      refine T.seq (T.region ?_)
      refine TO.quiet (q_assign rfl) ?_
      refine TO.nil (T.ret (Res.drop ?_))
      refine Res.one (.int .i64 8) Tryd.results33 rfl ?_
      refine ⟨[], Sub.of (List.nil_sublist _), congrArg (fun z : Nat => Value.int .i64 (z : Int)) (show 8 = checkD d from Eq.symm ?_), rfl⟩
      rw [← hr, rowsE_at hlt44, if_neg (by simpa using hge52), if_neg ?_]
      intro hh
      simp only [rowOk, List.all_eq_true, Bool.and_eq_true, decide_eq_true_eq] at hh
      have := hh _ hm1; omega
    refine TO.quiet (QT.toB (q_lss rfl rfl) (decide_eq_false he0)) (TO.quiet (q_move rfl) ?_)
    refine TO.guarded rfl rfl rfl (LT.of_quiet rfl rfl (q_move rfl) ?_)
    have hk58 := fun (w1 : World) (hI : Inv w [oI b1 25 [(.int .i64 d.vars), (.int .i64 d.start), (.slice nb d.next.length nc), (.slice fb d.final.length fc)]] w1) => slicesMax w1 vb1 vc1 d.next[k] (hI.sl s1) hrpos hrl
    refine TO.guarded rfl rfl rfl (l_call ent57 (CallT.of_pure hk58) rfl ?_)
    clear hk58
    rintro v O' ⟨N, rfl, ⟨m2, rfl, hm2, hall2⟩, rfl⟩
    refine TO.guarded rfl rfl rfl (LT.of_quiet rfl rfl (q_move rfl) ?_)
    by_cases he1 : (d.next.length : Int) ≤ m2
    · refine TO.guarded rfl rfl rfl (LT.of_quiet rfl rfl (QT.toB (q_geq rfl rfl) (decide_eq_true he1)) ?_)
      refine TO.quiet (q_pick0 rfl rfl) ?_
      refine TO.nil ?_
      refine T.cond1 rfl ?_
      refine T.seq (T.region ?_)
      refine TO.quiet (q_assign rfl) ?_
      refine TO.nil (T.ret (Res.drop ?_))
      refine Res.one (.int .i64 8) Tryd.results33 rfl ?_
      refine ⟨[], Sub.of (List.nil_sublist _), congrArg (fun z : Nat => Value.int .i64 (z : Int)) (show 8 = checkD d from Eq.symm ?_), rfl⟩
      rw [← hr, rowsE_at hlt44, if_neg (by simpa using hge52), if_neg ?_]
      intro hh
      simp only [rowOk, List.all_eq_true, Bool.and_eq_true, decide_eq_true_eq] at hh
      have := hh _ hm2; omega
    refine TO.guarded rfl rfl rfl (LT.of_quiet rfl rfl (QT.toB (q_geq rfl rfl) (decide_eq_false he1)) ?_)
    refine TO.quiet (q_pick0 rfl rfl) ?_
    refine TO.nil ?_
    refine T.cond0 rfl ?_
    refine T.skip (T.region ?_)
    refine TO.quiet (q_inc rfl rfl (by omega)) (TO.quiet (q_move rfl) ?_)
    refine TO.nil ?_
    refine ⟨k + 1, by omega, rfl, by omega, ?_, ⟨rfl, rfl, rfl, rfl, rfl, rfl, rfl, rfl, rfl, rfl, rfl, trivial⟩⟩
    rw [← hr, rowsE_at hlt44, if_neg (by simpa using hge52), if_pos ?_]
    simp only [rowOk, List.all_eq_true, Bool.and_eq_true, decide_eq_true_eq]
    intro x hx
    have := hall1 x hx; have := hall2 x hx; omega
  have hge44 : ¬ k < d.next.length := by omega
  refine T.exit ?_
  refine T.seq (T.region ?_)
  refine TO.quiet (q_assign rfl) ?_
  refine TO.nil (T.ret (Res.drop ?_))
  refine Res.one (.int .i64 0) Tryd.results33 rfl ?_
  refine ⟨[], Sub.of (List.nil_sublist _), congrArg (fun z : Nat => Value.int .i64 (z : Int)) (show 0 = checkD d from Eq.symm ?_), rfl⟩
  rw [← hr, rowsE_end (by omega)]
end Go.Proofs.YtnmfefmhfkhihaaDoor


namespace Go.Proofs
open Go.Shelf
def Tryd.lays283_ren : Go.Shelf.Ren := ⟨fun | 283 => 90 | n => n, fun | 3 => 3 | 9 => 9 | 4 => 4 | n => n, fun | n => n⟩
theorem Tryd.lays283 : Go.Proofs.Lays.n283 Tryd.prog Tryd.lays283_ren := {
  mixed := by kernel_rfl
  f283 := Tryd.func90.trans (congrArg some (by kernel_rfl))
  t3 := Tryd.underlying3
  a3 := Tryd.isAgg3
  z3 := Tryd.sizeOf3
  v3 := Tryd.zeroValue3
  t4 := Tryd.underlying4
  a4 := Tryd.isAgg4
  z4 := Tryd.sizeOf4
  v4 := Tryd.zeroValue4
  t9 := Tryd.underlying9
  a9 := Tryd.isAgg9
  z9 := Tryd.sizeOf9
  v9 := Tryd.zeroValue9 }
open Go.RowKit Go.Sort Go.Lib in
theorem Tryd.internal_strconv_small (i : Nat) (h : i < 100) (w : World) :
    Calls Tryd.prog 90 #[.int .i64 i] w fun e w' => e = .returned (.string ⟨(Lib.decDigits i).toArray⟩) ∧ w' = w := Any.internal_strconv_small Tryd.lays283 i h w
def Tryd.laysM284_ren : Go.Shelf.Ren := ⟨fun | 284 => 91 | 129 => 98 | 317 => 97 | 318 => 99 | n => n, fun | 53 => 26 | 3 => 3 | 212 => 135 | 0 => 0 | 4 => 4 | 46 => 58 | 5 => 5 | 9 => 9 | n => n, fun | 17 => 0 | n => n⟩
theorem Tryd.laysM284 : Go.Proofs.LaysM.n284 Tryd.prog Tryd.laysM284_ren := {
  mixed := by kernel_rfl
  f129 := Tryd.func98.trans (congrArg some (by kernel_rfl))
  f284 := Tryd.func91.trans (congrArg some (by kernel_rfl))
  f317 := Tryd.func97.trans (congrArg some (by kernel_rfl))
  f318 := Tryd.func99.trans (congrArg some (by kernel_rfl))
  t0 := Tryd.underlying0
  a0 := Tryd.isAgg0
  z0 := Tryd.sizeOf0
  v0 := Tryd.zeroValue0
  t3 := Tryd.underlying3
  a3 := Tryd.isAgg3
  z3 := Tryd.sizeOf3
  v3 := Tryd.zeroValue3
  t4 := Tryd.underlying4
  a4 := Tryd.isAgg4
  z4 := Tryd.sizeOf4
  v4 := Tryd.zeroValue4
  t5 := Tryd.underlying5
  a5 := Tryd.isAgg5
  z5 := Tryd.sizeOf5
  v5 := Tryd.zeroValue5
  t9 := Tryd.underlying9
  a9 := Tryd.isAgg9
  z9 := Tryd.sizeOf9
  v9 := Tryd.zeroValue9
  t46 := Tryd.underlying58
  a46 := Tryd.isAgg58
  z46 := Tryd.sizeOf58
  v46 := Tryd.zeroValue58
  t53 := Tryd.underlying26
  a53 := Tryd.isAgg26
  z53 := Tryd.sizeOf26
  v53 := Tryd.zeroValue26
  t212 := Tryd.underlying135
  a212 := Tryd.isAgg135
  z212 := Tryd.sizeOf135
  v212 := Tryd.zeroValue135
  g17 := by kernel_rfl
  i0 := by kernel_rfl
  i3 := by kernel_rfl
  i4 := by kernel_rfl
  i5 := by kernel_rfl
  i9 := by kernel_rfl
  i46 := by kernel_rfl
  i53 := by kernel_rfl
  i212 := by kernel_rfl
  m17 := by kernel_rfl }
open Go.RowKit Go.Sort Go.Lib in
theorem Tryd.internal_strconv_numDigits (u : Nat) (h1 : 1 ≤ u) (h2 : u < 18446744073709551616) (w : World) (htab : Lib.TabIs Tryd.prog w "internal/strconv.uint64pow10" .u64 Lib.pow10Tab) :
    Calls Tryd.prog 91 #[.int .u64 u] w fun e w' => e = .returned (.int .i64 (Lib.nDigits u)) ∧ w' = w := Any.internal_strconv_numDigits Tryd.laysM284 u h1 h2 w htab
def Tryd.lays285_ren : Go.Shelf.Ren := ⟨fun | 285 => 92 | n => n, fun | 37 => 29 | 53 => 26 | 3 => 3 | 4 => 4 | 51 => 136 | 9 => 9 | 5 => 5 | 0 => 0 | n => n, fun | n => n⟩
theorem Tryd.lays285 : Go.Proofs.Lays.n285 Tryd.prog Tryd.lays285_ren := {
  mixed := by kernel_rfl
  f285 := Tryd.func92.trans (congrArg some (by kernel_rfl))
  t0 := Tryd.underlying0
  a0 := Tryd.isAgg0
  z0 := Tryd.sizeOf0
  v0 := Tryd.zeroValue0
  t3 := Tryd.underlying3
  a3 := Tryd.isAgg3
  z3 := Tryd.sizeOf3
  v3 := Tryd.zeroValue3
  t4 := Tryd.underlying4
  a4 := Tryd.isAgg4
  z4 := Tryd.sizeOf4
  v4 := Tryd.zeroValue4
  t5 := Tryd.underlying5
  a5 := Tryd.isAgg5
  z5 := Tryd.sizeOf5
  v5 := Tryd.zeroValue5
  t9 := Tryd.underlying9
  a9 := Tryd.isAgg9
  z9 := Tryd.sizeOf9
  v9 := Tryd.zeroValue9
  t37 := Tryd.underlying29
  a37 := Tryd.isAgg29
  z37 := Tryd.sizeOf29
  v37 := Tryd.zeroValue29
  t51 := Tryd.underlying136
  a51 := Tryd.isAgg136
  z51 := Tryd.sizeOf136
  v51 := Tryd.zeroValue136
  t53 := Tryd.underlying26
  a53 := Tryd.isAgg26
  z53 := Tryd.sizeOf26
  v53 := Tryd.zeroValue26 }
open Go.RowKit Go.Sort Go.Lib in
theorem Tryd.internal_strconv_formatBase10 (blk off cap : Nat) (u : Nat) (d : Array UInt8) (w : World) (hH : Holds (fun (b : UInt8) => Value.int .u8 (b.toNat : Int)) w blk off d) (hu : u < 10 ^ d.size) (hu64 : u < 18446744073709551616) (hsz : d.size < 4611686018427387904) :
    Calls Tryd.prog 92 #[.slice (some ⟨blk, off, none⟩) d.size cap, .int .u64 u] w fun e w' =>
      e = .returned (.tuple #[]) ∧ ∃ (n v' : Nat) (dk : Array UInt8), w' = (putRow (fun (b : UInt8) => Value.int .u8 (b.toNat : Int)) w blk off dk).drewN n ∧ FmtInv d.size u 0 v' dk := Any.internal_strconv_formatBase10 Tryd.lays285 blk off cap u d w hH hu hu64 hsz
def Tryd.laysM171_ren : Go.Shelf.Ren := ⟨fun | 171 => 65 | 243 => 76 | 246 => 86 | 283 => 90 | 284 => 91 | 285 => 92 | 286 => 93 | 129 => 98 | 317 => 97 | 318 => 99 | 319 => 100 | 320 => 101 | 337 => 104 | 338 => 105 | n => n, fun | 3 => 3 | 9 => 9 | 2 => 2 | 4 => 4 | 171 => 128 | 0 => 0 | 53 => 26 | 37 => 29 | 5 => 5 | 173 => 131 | 212 => 135 | 51 => 136 | 20 => 20 | 213 => 137 | 46 => 58 | 232 => 141 | 233 => 142 | n => n, fun | 17 => 0 | 18 => 1 | 19 => 2 | n => n⟩
theorem Tryd.laysM171 : Go.Proofs.LaysM.n171 Tryd.prog Tryd.laysM171_ren := {
  mixed := by kernel_rfl
  f129 := Tryd.func98.trans (congrArg some (by kernel_rfl))
  f171 := Tryd.func65.trans (congrArg some (by kernel_rfl))
  f243 := Tryd.func76.trans (congrArg some (by kernel_rfl))
  f246 := Tryd.func86.trans (congrArg some (by kernel_rfl))
  f283 := Tryd.func90.trans (congrArg some (by kernel_rfl))
  f284 := Tryd.func91.trans (congrArg some (by kernel_rfl))
  f285 := Tryd.func92.trans (congrArg some (by kernel_rfl))
  f286 := Tryd.func93.trans (congrArg some (by kernel_rfl))
  f317 := Tryd.func97.trans (congrArg some (by kernel_rfl))
  f318 := Tryd.func99.trans (congrArg some (by kernel_rfl))
  f319 := Tryd.func100.trans (congrArg some (by kernel_rfl))
  f320 := Tryd.func101.trans (congrArg some (by kernel_rfl))
  f337 := Tryd.func104.trans (congrArg some (by kernel_rfl))
  f338 := Tryd.func105.trans (congrArg some (by kernel_rfl))
  t0 := Tryd.underlying0
  a0 := Tryd.isAgg0
  z0 := Tryd.sizeOf0
  v0 := Tryd.zeroValue0
  t2 := Tryd.underlying2
  a2 := Tryd.isAgg2
  z2 := Tryd.sizeOf2
  v2 := Tryd.zeroValue2
  t3 := Tryd.underlying3
  a3 := Tryd.isAgg3
  z3 := Tryd.sizeOf3
  v3 := Tryd.zeroValue3
  t4 := Tryd.underlying4
  a4 := Tryd.isAgg4
  z4 := Tryd.sizeOf4
  v4 := Tryd.zeroValue4
  t5 := Tryd.underlying5
  a5 := Tryd.isAgg5
  z5 := Tryd.sizeOf5
  v5 := Tryd.zeroValue5
  t9 := Tryd.underlying9
  a9 := Tryd.isAgg9
  z9 := Tryd.sizeOf9
  v9 := Tryd.zeroValue9
  t20 := Tryd.underlying20
  a20 := Tryd.isAgg20
  z20 := Tryd.sizeOf20
  v20 := Tryd.zeroValue20
  t37 := Tryd.underlying29
  a37 := Tryd.isAgg29
  z37 := Tryd.sizeOf29
  v37 := Tryd.zeroValue29
  t46 := Tryd.underlying58
  a46 := Tryd.isAgg58
  z46 := Tryd.sizeOf58
  v46 := Tryd.zeroValue58
  t51 := Tryd.underlying136
  a51 := Tryd.isAgg136
  z51 := Tryd.sizeOf136
  v51 := Tryd.zeroValue136
  t53 := Tryd.underlying26
  a53 := Tryd.isAgg26
  z53 := Tryd.sizeOf26
  v53 := Tryd.zeroValue26
  t171 := Tryd.underlying128
  a171 := Tryd.isAgg128
  z171 := Tryd.sizeOf128
  v171 := Tryd.zeroValue128
  t173 := Tryd.underlying131
  a173 := Tryd.isAgg131
  z173 := Tryd.sizeOf131
  v173 := Tryd.zeroValue131
  t212 := Tryd.underlying135
  a212 := Tryd.isAgg135
  z212 := Tryd.sizeOf135
  v212 := Tryd.zeroValue135
  t213 := Tryd.underlying137
  a213 := Tryd.isAgg137
  z213 := Tryd.sizeOf137
  t232 := Tryd.underlying141
  a232 := Tryd.isAgg141
  z232 := Tryd.sizeOf141
  v232 := Tryd.zeroValue141
  t233 := Tryd.underlying142
  a233 := Tryd.isAgg142
  z233 := Tryd.sizeOf142
  v233 := Tryd.zeroValue142
  g17 := by kernel_rfl
  g18 := by kernel_rfl
  g19 := by kernel_rfl
  i0 := by kernel_rfl
  i2 := by kernel_rfl
  i3 := by kernel_rfl
  i4 := by kernel_rfl
  i5 := by kernel_rfl
  i9 := by kernel_rfl
  i20 := by kernel_rfl
  i37 := by kernel_rfl
  i46 := by kernel_rfl
  i51 := by kernel_rfl
  i53 := by kernel_rfl
  i171 := by kernel_rfl
  i173 := by kernel_rfl
  i212 := by kernel_rfl
  i232 := by kernel_rfl
  i233 := by kernel_rfl
  m17 := by kernel_rfl
  m18 := by kernel_rfl
  m19 := by kernel_rfl }
open Go.RowKit Go.Sort Go.Lib in
theorem Tryd.strconv_Itoa (n : Int) (h0 : -9223372036854775808 ≤ n) (h1 : n ≤ 9223372036854775807) (w : World) (htab : Lib.TabIs Tryd.prog w "internal/strconv.uint64pow10" .u64 Lib.pow10Tab) :
    Calls Tryd.prog 65 #[.int .i64 n] w fun e w' => e = .returned (.string ⟨(Lib.itoa n).toArray⟩) ∧ ∃ k os, w' = grow (w.drewN k) os := Any.strconv_Itoa Tryd.laysM171 n h0 h1 w htab
end Go.Proofs


namespace Go.Proofs.YtnmfefmhfkhihaaDoor
open Go.Lx Go.RowKit
set_option linter.unusedVariables false
set_option linter.unusedSimpArgs false
theorem smallF (w : World) (i : Nat) (h : i < 100) : PureT Tryd.prog 90 [.int .i64 (i : Int)] w fun v N => v = str (Lib.decDigits i) ∧ N = [] := fun w1 M hI =>
  (Go.Proofs.Tryd.internal_strconv_small i h w1).mono (by rintro e w' ⟨rfl, rfl⟩; exact ⟨_, [], rfl, hI, rfl, rfl⟩)
theorem ndF (w : World) [t : Tab Tryd.prog w] (n : Nat) (h1 : 1 ≤ n) (hn : n < 1000000000000) : PureT Tryd.prog 91 [.int .u64 (n : Int)] w fun v N => v = .int .i64 (Lib.nDigits n : Int) ∧ N = [] := fun w1 M hI =>
  (Go.Proofs.Tryd.internal_strconv_numDigits n h1 (by omega) w1 (Tab.is (hI.tab (P := Tryd.prog)))).mono (by rintro e w' ⟨rfl, rfl⟩; exact ⟨_, [], rfl, hI, rfl, rfl⟩)
set_option maxHeartbeats 1000000 in
set_option maxRecDepth 20000 in
theorem appUintG (base : World) [Tab Tryd.prog base] (b : Option Addr) (c c' m n : Nat) (l : List UInt8) (hl : l.length = m) (hn : n < 1000000000000) (h100 : 100 ≤ n) (hm : m ≤ 1000000) :
    CallT Tryd.prog base 107 [.slice b m c, .int .u64 (n : Int), .int .i64 10] [rowI b c 5 1 (cells8 l)] (fun v O' => ∃ b' c', v = .slice b' (m + (Lib.decDigits n).length) c' ∧ ∃ k cs, O' = [objI k (.cells cs 128 (0, 0)), rowI b' c' 5 1 (cells8 (l ++ Lib.decDigits n))]) := by
  have h20 : Lib.nDigits n ≤ 20 := by have := Lib.numDigits_eq n (by omega) (by omega); split at this <;> omega
  have h01 : 1 ≤ Lib.nDigits n := by rw [Lib.nDigits_big (by omega)]; omega
  refine CallT.enter Tryd.func107 rfl Tryd.ntmps107 rfl ?_
  refine T.seq (T.region ?_)
  refine TO.quiet (q_assign rfl) ?_
  refine TO.nil (T.seq (T.seq (T.region ?_)))
  refine TO.quiet (q_move rfl) (TO.quiet (q_eql rfl rfl) ?_)
  refine TO.nil ?_
  refine T.cond1 rfl ?_
  refine T.seq (T.seq (T.region ?_))
  refine TO.quiet (q_move rfl) (TO.quiet (q_lss rfl rfl) ?_)
  refine TO.nil ?_
  refine T.cond0 (congrArg Value.bool (decide_eq_false (show ¬ (n : Int) < 100 by omega))) ?_
  refine T.skip (T.seq (T.region ?_))
  refine TO.loud rfl (l_alloc inf128 rfl (fun bA => ?_))
  refine TO.nil (T.seq (T.region ?_))
  refine TO.quiet (q_move rfl) ?_
  refine TO.loud rfl (l_call ent91 (CallT.of_pure (fun w1 hI => by haveI := hI.tab (P := Tryd.prog); exact ndF w1 n (by omega) hn)) rfl ?_)
  rintro v O' ⟨N, rfl, rfl, rfl⟩
  refine TO.quiet (q_assign rfl) ?_
  refine TO.nil (T.seq (T.region ?_))
  refine TO.quiet (q_move rfl) (TO.quiet (q_sliceA Tryd.underlying128 inf5 rfl rfl (by omega) h01) (TO.quiet (q_move rfl) ?_))
  have hk := (formatT (base := base) (b := bA) (T := 128) (n := n) (fun j hj => Lib.zeros24_at j hj) (by omega) hn Go.Proofs.Tryd.internal_strconv_formatBase10).under (O := [objI bA (.cells Lib.zeros24 128 (0, 0)), rowI b c 5 1 (cells8 l)]) (B := [rowI b c 5 1 (cells8 l)]) (Sub.of (List.Sublist.refl _))
  refine TO.loud rfl (l_call ent92 hk rfl ?_)
  clear hk
  rintro v O' ⟨O1, rfl, rfl, cs, rfl, hcs⟩
  refine TO.nil (T.seq (T.region ?_))
  refine TO.quiet (q_move rfl) (TO.quiet (q_move rfl) (TO.quiet (q_sliceA Tryd.underlying128 inf5 rfl rfl (by omega) h01) ?_))
  refine TO.loud rfl (l_appendA (new := cells8 (Lib.decDigits n)) 0 1 Tryd.underlying29 Tryd.underlying29 inf5 rfl rfl rfl rfl (by simp [cells8, hl]) (by simp [cells8, Lib.decDigits_length]) rfl hcs (cells8_one _) (by omega) (by decide) (by decide) (fun b2 c2 => ?_))
  refine TO.quiet (q_assign rfl) ?_
  refine TO.nil (T.ret ?_)
  refine Res.one (.slice b2 (m + Lib.nDigits n) c2) Tryd.results107 rfl ?_
  refine ⟨b2, c2, by rw [Lib.decDigits_length], bA, cs, ?_⟩
  rw [show cells8 (l ++ Lib.decDigits n) = cells8 l ++ cells8 (Lib.decDigits n) from List.map_append]; rfl
set_option maxHeartbeats 1000000 in
set_option maxRecDepth 20000 in
theorem appUintS (base : World) (b : Option Addr) (c c' m n : Nat) (l : List UInt8) (hl : l.length = m) (hn : n < 100) (hm : m ≤ 1000000) :
    CallT Tryd.prog base 107 [.slice b m c, .int .u64 (n : Int), .int .i64 10] [rowI b c 5 1 (cells8 l)] (fun v O' => ∃ b' c', v = .slice b' (m + (Lib.decDigits n).length) c' ∧ O' = [rowI b' c' 5 1 (cells8 (l ++ Lib.decDigits n))]) := by
  refine CallT.enter Tryd.func107 rfl Tryd.ntmps107 rfl ?_
  refine T.seq (T.region ?_)
  refine TO.quiet (q_assign rfl) ?_
  refine TO.nil (T.seq (T.seq (T.region ?_)))
  refine TO.quiet (q_move rfl) (TO.quiet (q_eql rfl rfl) ?_)
  refine TO.nil ?_
  refine T.cond1 rfl ?_
  refine T.seq (T.seq (T.region ?_))
  refine TO.quiet (q_move rfl) (TO.quiet (q_lss rfl rfl) ?_)
  refine TO.nil ?_
  refine T.cond1 (congrArg Value.bool (decide_eq_true (show (n : Int) < 100 by omega))) ?_
  refine T.seq (T.region ?_)
  refine TO.quiet (q_move rfl) (TO.quiet (q_move rfl) (TO.quiet (q_conv_id Tryd.underlying26 Tryd.underlying3 rfl (show IntKind.i64.wrap (n : Int) = (n : Int) from wrap64_id (by omega))) ?_))
  have hk16 := fun (w1 : World) (hI : Inv base [rowI b c 5 1 (cells8 l)] w1) => smallF w1 n hn
  refine TO.loud rfl (l_call ent90 (CallT.of_pure hk16) rfl ?_)
  clear hk16
  rintro v O' ⟨N, rfl, rfl, rfl⟩
  refine TO.loud rfl (l_appendS (s := Lib.decDigits n) 0 Tryd.underlying29 Tryd.underlying9 inf5 rfl rfl rfl rfl (by simp [hl]) rfl (by have := dec_len 1 n (by omega); omega) (by decide) (by decide) (fun b2 c2 => ?_))
  refine TO.quiet (q_assign rfl) ?_
  refine TO.nil (T.ret ?_)
  refine Res.one (.slice b2 (m + (Lib.decDigits n).length) c2) Tryd.results107 rfl ?_
  exact ⟨b2, c2, rfl, by rw [show cells8 (l ++ Lib.decDigits n) = cells8 l ++ cells8 (Lib.decDigits n) from List.map_append]; rfl⟩
theorem appUintF (base : World) [Tab Tryd.prog base] (b : Option Addr) (c c' m n : Nat) (l : List UInt8) (hl : l.length = m) (hn : n < 1000000000000) (hm : m ≤ 1000000) :
    CallT Tryd.prog base 107 [.slice b m c, .int .u64 (n : Int), .int .i64 10] [rowI b c 5 1 (cells8 l)] (fun v O' => ∃ b' c', v = .slice b' (m + (Lib.decDigits n).length) c' ∧ O' = [rowI b' c' 5 1 (cells8 (l ++ Lib.decDigits n))]) := by
  by_cases h : n < 100
  · exact appUintS base b c c' m n l hl h hm
  · exact (appUintG base b c c' m n l hl hn (by omega) hm).drop fun v O' ⟨b', c', h1, k, cs, h2⟩ => ⟨_, h2 ▸ Sub.of (List.sublist_cons_self _ _), b', c', h1, rfl⟩
set_option maxHeartbeats 1000000 in
set_option maxRecDepth 20000 in
theorem appIntF (base : World) [Tab Tryd.prog base] (b : Option Addr) (c c' m n : Nat) (l : List UInt8) (hl : l.length = m) (hn : n < 1000000000000) (hm : m ≤ 1000000) :
    CallT Tryd.prog base 106 [.slice b m c, .int .i64 (n : Int), .int .i64 10] [rowI b c 5 1 (cells8 l)] (fun v O' => ∃ b' c', v = .slice b' (m + (Lib.decDigits n).length) c' ∧ O' = [rowI b' c' 5 1 (cells8 (l ++ Lib.decDigits n))]) := by
  refine CallT.enter Tryd.func106 rfl Tryd.ntmps106 rfl ?_
  refine T.seq (T.region ?_)
  refine TO.quiet (q_assign rfl) ?_
  refine TO.nil (T.seq (T.region ?_))
  refine TO.quiet (q_move rfl) (TO.quiet (q_conv_id Tryd.underlying2 Tryd.underlying26 rfl (show IntKind.u64.wrap (n : Int) = (n : Int) by unfold IntKind.wrap; simp [IntKind.bits, IntKind.signed]; omega)) (TO.quiet (q_assign rfl) ?_))
  refine TO.nil (T.seq (T.seq (T.region ?_)))
  refine TO.quiet (q_move rfl) (TO.quiet (q_lss rfl rfl) ?_)
  refine TO.nil ?_
  refine T.cond0 (congrArg Value.bool (decide_eq_false (show ¬ (n : Int) < 0 by omega))) ?_
  refine T.skip (T.seq (T.region ?_))
  refine TO.quiet (q_move rfl) (TO.quiet (q_move rfl) (TO.quiet (q_move rfl) ?_))
  have hk20 := appUintF base b c c' m n l hl hn hm
  refine TO.loud rfl (l_call ent107 hk20 rfl ?_)
  clear hk20
  rintro v O' ⟨b2, c2, rfl, rfl⟩
  refine TO.quiet (q_assign rfl) ?_
  refine TO.nil (T.ret ?_)
  refine Res.one (.slice b2 (m + (Lib.decDigits n).length) c2) Tryd.results106 rfl ?_
  exact ⟨b2, c2, rfl, rfl⟩
set_option maxHeartbeats 1000000 in
set_option maxRecDepth 20000 in
theorem appF (base : World) [Tab Tryd.prog base] (b : Option Addr) (c c' m n : Nat) (l : List UInt8) (hl : l.length = m) (hn : n < 1000000000000) (hm : m ≤ 1000000) :
    CallT Tryd.prog base 103 [.slice b m c, .int .i64 (n : Int), .int .i64 10] [rowI b c 5 1 (cells8 l)] (fun v O' => ∃ b' c', v = .slice b' (m + (Lib.decDigits n).length) c' ∧ O' = [rowI b' c' 5 1 (cells8 (l ++ Lib.decDigits n))]) := by
  refine CallT.enter Tryd.func103 rfl Tryd.ntmps103 rfl ?_
  refine T.seq (T.region ?_)
  refine TO.quiet (q_assign rfl) ?_
  refine TO.nil (T.seq (T.region ?_))
  refine TO.quiet (q_move rfl) (TO.quiet (q_move rfl) (TO.quiet (q_move rfl) ?_))
  have hk10 := appIntF base b c c' m n l hl hn hm
  refine TO.loud rfl (l_call ent106 hk10 rfl ?_)
  clear hk10
  rintro v O' ⟨b2, c2, rfl, rfl⟩
  refine TO.quiet (q_assign rfl) ?_
  refine TO.nil (T.ret ?_)
  refine Res.one (.slice b2 (m + (Lib.decDigits n).length) c2) Tryd.results103 rfl ?_
  exact ⟨b2, c2, rfl, rfl⟩
theorem itoaF (w : World) [Tab Tryd.prog w] (n : Nat) (hn : n < 1000000000000) : PureT Tryd.prog 65 [.int .i64 (n : Int)] w fun v N => v = str (Lib.decDigits n) ∧ N = [] := fun w1 M hI =>
  (Go.Proofs.Tryd.strconv_Itoa n (by omega) (by omega) w1 (Tab.is (hI.tab (P := Tryd.prog)))).mono (by rintro e w' ⟨rfl, k, os, rfl⟩; exact ⟨_, [], rfl, hI.grow k os, by rw [Lib.itoa_nonneg]; rfl, rfl⟩)
end Go.Proofs.YtnmfefmhfkhihaaDoor


namespace Go.Proofs.YtnmfefmhfkhihaaDoor
open Go.Lx Go.RowKit
set_option linter.unusedVariables false
set_option linter.unusedSimpArgs false
set_option maxHeartbeats 1000000 in
set_option maxRecDepth 20000 in
theorem giveHit (base : World) [Tab Tryd.prog base] (bx m : Nat) (ks : List (List UInt8)) (key : List UInt8) (hk : key ∈ ks) (hb : ks.length < 1000000) :
    CallT Tryd.prog base 102 [str key, .pointer (some ⟨bx, 0, none⟩)] [objI bx (.cells #[.map (some m)] 108 (0, 0)), mapI str (fun n : Nat => Value.int .i64 (n : Int)) m ks.zipIdx] (fun v O' => v = .int .i64 ((ix key (add ks key) : Nat) : Int) ∧ O' = [objI bx (.cells #[.map (some m)] 108 (0, 0)), mapI str (fun n : Nat => Value.int .i64 (n : Int)) m (add ks key).zipIdx]) := by
  refine CallT.enter Tryd.func102 rfl Tryd.ntmps102 rfl ?_
  refine T.seq (T.region ?_)
  refine TO.quiet (q_assign rfl) ?_
  refine TO.nil (T.seq (T.region ?_))
  refine TO.quiet (q_load_box 0 Tryd.underlying108 rfl rfl rfl rfl) (TO.quiet (q_move rfl) (TO.quiet (QT.cast (q_lookupOk (a := key) Tryd.underlying108 inf3 (KeyOk.string Tryd.underlying9) rfl rfl (List.mem_of_getElem? (i := 1) rfl)) (v' := (.tuple #[.int .i64 ((ix key ks : Nat) : Int), .bool true])) (by rw [look_zip]; simp [hk])) (TO.quiet (q_move rfl) ?_)))
  refine TO.quiet (q_extract (vs := _) rfl rfl) (TO.quiet (q_extract (vs := _) rfl rfl) (TO.quiet (q_assign rfl) (TO.quiet (q_assign rfl) ?_)))
  refine TO.nil (T.seq (T.seq (T.region ?_)))
  refine TO.quiet (q_move rfl) (TO.quiet (q_not rfl) ?_)
  refine TO.nil ?_
  refine T.cond0 rfl ?_
  refine T.skip (T.seq (T.region ?_))
  refine TO.quiet (q_move rfl) (TO.quiet (q_assign rfl) ?_)
  refine TO.nil (T.ret ?_)
  refine Res.one (.int .i64 ((ix key ks : Nat) : Int)) Tryd.results102 rfl ?_
  have ha : add ks key = ks := if_pos hk
  rw [ha]; exact ⟨rfl, rfl⟩
set_option maxHeartbeats 1000000 in
set_option maxRecDepth 20000 in
theorem giveMiss (base : World) [Tab Tryd.prog base] (bx m : Nat) (ks : List (List UInt8)) (key : List UInt8) (hk : key ∉ ks) (hb : ks.length < 1000000) :
    CallT Tryd.prog base 102 [str key, .pointer (some ⟨bx, 0, none⟩)] [objI bx (.cells #[.map (some m)] 108 (0, 0)), mapI str (fun n : Nat => Value.int .i64 (n : Int)) m ks.zipIdx] (fun v O' => v = .int .i64 ((ix key (add ks key) : Nat) : Int) ∧ O' = [objI bx (.cells #[.map (some m)] 108 (0, 0)), mapI str (fun n : Nat => Value.int .i64 (n : Int)) m (add ks key).zipIdx]) := by
  refine CallT.enter Tryd.func102 rfl Tryd.ntmps102 rfl ?_
  refine T.seq (T.region ?_)
  refine TO.quiet (q_assign rfl) ?_
  refine TO.nil (T.seq (T.region ?_))
  refine TO.quiet (q_load_box 0 Tryd.underlying108 rfl rfl rfl rfl) (TO.quiet (q_move rfl) (TO.quiet (QT.cast (q_lookupOk (a := key) Tryd.underlying108 inf3 (KeyOk.string Tryd.underlying9) rfl rfl (List.mem_of_getElem? (i := 1) rfl)) (v' := (.tuple #[.int .i64 0, .bool false])) (by rw [look_zip]; simp [hk])) (TO.quiet (q_move rfl) ?_)))
  refine TO.quiet (q_extract (vs := _) rfl rfl) (TO.quiet (q_extract (vs := _) rfl rfl) (TO.quiet (q_assign rfl) (TO.quiet (q_assign rfl) ?_)))
  refine TO.nil (T.seq (T.seq (T.region ?_)))
  refine TO.quiet (q_move rfl) (TO.quiet (q_not rfl) ?_)
  refine TO.nil ?_
  refine T.cond1 rfl ?_
  refine T.seq (T.region ?_)
  refine TO.quiet (q_load_box 0 Tryd.underlying108 rfl rfl rfl rfl) (TO.quiet (QT.cast (q_lenMap Tryd.underlying108 rfl (List.mem_of_getElem? (i := 1) rfl)) (v' := .int .i64 ((ks.length : Nat) : Int)) (by simp)) (TO.quiet (q_assign rfl) ?_))
  refine TO.nil (T.region ?_)
  refine TO.quiet (q_load_box 0 Tryd.underlying108 rfl rfl rfl rfl) (TO.quiet (q_move rfl) (TO.quiet (q_move rfl) ?_))
  refine TO.loud rfl (l_mapPut (a := key) (v := ks.length) 1 Tryd.underlying108 (KeyOk.string Tryd.underlying9) rfl rfl rfl rfl (by rw [zipIdx_fst]; exact hk) ?_)
  refine TO.nil (T.seq (T.region ?_))
  refine TO.quiet (q_move rfl) (TO.quiet (q_assign rfl) ?_)
  refine TO.nil (T.ret ?_)
  refine Res.one (.int .i64 ((ks.length : Nat) : Int)) Tryd.results102 rfl ?_
  have ha : add ks key = ks ++ [key] := if_neg hk
  rw [ha]
  refine ⟨by rw [ix_append_right hk]; simp [ix], ?_⟩
  rw [show (ks ++ [key]).zipIdx = ks.zipIdx ++ [(key, ks.length)] by rw [List.zipIdx_append]; simp]; rfl
theorem give (base : World) [Tab Tryd.prog base] (bx m : Nat) (ks : List (List UInt8)) (key : List UInt8) (hb : ks.length < 1000000) :
    CallT Tryd.prog base 102 [str key, .pointer (some ⟨bx, 0, none⟩)] [objI bx (.cells #[.map (some m)] 108 (0, 0)), mapI str (fun n : Nat => Value.int .i64 (n : Int)) m ks.zipIdx] (fun v O' => v = .int .i64 ((ix key (add ks key) : Nat) : Int) ∧ O' = [objI bx (.cells #[.map (some m)] 108 (0, 0)), mapI str (fun n : Nat => Value.int .i64 (n : Int)) m (add ks key).zipIdx]) := by
  by_cases hk : key ∈ ks
  · exact giveHit base bx m ks key hk hb
  · exact giveMiss base bx m ks key hk hb
set_option maxHeartbeats 1000000 in
set_option maxRecDepth 20000 in
theorem rowsF (w : World) [Tab Tryd.prog w] (d : DFA) (nb fb : Option Addr) (nc fc : Nat) : PureT Tryd.prog 85 [.agg (dfaCells d nb nc fb fc).toArray] w fun v N => ∃ b, v = .func (.func 89) #[] #[.pointer (some ⟨b, 0, none⟩)] ∧ N = [oI b 25 [(.int .i64 d.vars), (.int .i64 d.start), (.slice nb d.next.length nc), (.slice fb d.final.length fc)]] := by
  refine CallT.enter Tryd.func85 rfl Tryd.ntmps85 rfl ?_
  refine T.seq (T.region ?_)
  refine TO.loud rfl (l_box (v := (.agg #[(.int .i64 d.vars), (.int .i64 d.start), (.slice nb d.next.length nc), (.slice fb d.final.length fc)])) (cs := [(.int .i64 d.vars), (.int .i64 d.start), (.slice nb d.next.length nc), (.slice fb d.final.length fc)]) rfl rfl (fun b1 => ?_))
  refine TO.quiet (q_assign rfl) ?_
  refine TO.nil (T.seq (T.region ?_))
  refine TO.quiet (q_makeFunc) (TO.quiet (q_assign rfl) ?_)
  refine TO.nil (T.ret ?_)
  refine Res.one (.func (.func 89) #[] #[(.pointer (some ⟨b1, 0, none⟩))]) Tryd.results85 rfl ?_
  exact ⟨b1, rfl, rfl⟩
set_option maxHeartbeats 1000000 in
set_option maxRecDepth 20000 in
theorem rows1 (base : World) [Tab Tryd.prog base] (d : DFA) (nb fb : Option Addr) (nc fc : Nat) (vs : List Value) (h : DfaAt base d nb vs fb) (hb : d.next.length < 9223372036854775807) (bx : Nat) (yv : Value) (J : Nat → List Lx.Item → Prop) (Q : List Lx.Item → Prop)
    (hy : ∀ k (hk : k < d.next.length) (vb : Option Addr) (vc : Nat) (O : List Lx.Item), vs[k]? = some (.slice vb d.next[k].length vc) → Sl base vb (ints d.next[k]) → J k O →
      CallV Tryd.prog base yv [.int .i64 (k : Int), .slice vb d.next[k].length vc] O (fun v O' => (v = .bool true ∧ J (k + 1) O') ∨ (v = .bool false ∧ Q O')))
    (O : List Lx.Item) (h0 : J 0 O) : CallT Tryd.prog base 89 [yv, .pointer (some ⟨bx, 0, none⟩)] (oI bx 25 [(.int .i64 d.vars), (.int .i64 d.start), (.slice nb d.next.length nc), (.slice fb d.final.length fc)] :: O) (fun _ O' => J d.next.length O' ∨ Q O') := by
  refine CallT.enter Tryd.func89 rfl Tryd.ntmps89 rfl ?_
  have hvl := h.rows.1
  refine T.seq (T.region ?_)
  refine TO.quiet (q_fieldAddr Tryd.underlying25 rfl inf22 rfl rfl) (TO.quiet (q_load_box 0 Tryd.underlying22 rfl rfl rfl rfl) (TO.quiet (q_len Tryd.underlying22 rfl) (TO.quiet (q_move rfl) ?_)))
  refine TO.nil (T.block ?_)
  refine T.loop (fun (k : Nat) ρ O => ∃ (O1 : List Lx.Item), O = ([oI bx 25 [(.int .i64 d.vars), (.int .i64 d.start), (.slice nb d.next.length nc), (.slice fb d.final.length fc)]] ++ O1) ∧ k ≤ d.next.length ∧ J k O1 ∧ Heads [(0, yv), (1, (.pointer (some ⟨bx, 0, none⟩))), (6, (.slice nb d.next.length nc)), (7, .int .i64 (d.next.length : Int)), (8, .int .i64 (k : Int))] ρ) (fun k => d.next.length - k) 0 ?_ ?_
  · exact ⟨O, rfl, Nat.zero_le _, h0, ⟨rfl, rfl, rfl, rfl, rfl, trivial⟩⟩
  rintro k ρ O ⟨O1, rfl, hk, hJ, hH⟩
  obtain ⟨ρ0, rfl⟩ := hH.elim
  clear hH
  refine T.seq (T.region ?_)
  refine TO.quiet (q_lss rfl rfl) ?_
  refine TO.nil (T.seq ?_)
  refine T.condP rfl (fun hc => ?_) (fun hc => ?_)
  · have hlt9 : k < d.next.length := by omega
    obtain ⟨vb, vc, g1, s1⟩ := h.rows.get hlt9
    refine T.skip (T.seq (T.block (T.seq (T.region ?_))))
    refine TO.quiet (q_move rfl) (TO.quiet (q_ix (i := k) Tryd.underlying22 inf41 rfl rfl (Sl.o h.outer)) (TO.quiet (q_ld Tryd.underlying41 rfl rfl (Sl.o h.outer) g1) (TO.quiet (q_assign rfl) ?_)))
    refine TO.quiet (q_assign rfl) ?_
    refine TO.nil (T.seq (T.region ?_))
    refine TO.quiet (q_move rfl) (TO.quiet (q_move rfl) (TO.quiet (q_move rfl) ?_))
    have hk16 := CallV.under (B := [oI bx 25 [(.int .i64 d.vars), (.int .i64 d.start), (.slice nb d.next.length nc), (.slice fb d.final.length fc)]]) (O := ([oI bx 25 [(.int .i64 d.vars), (.int .i64 d.start), (.slice nb d.next.length nc), (.slice fb d.final.length fc)]] ++ O1)) (hy k hlt9 vb vc O1 g1 s1 hJ) (Sub.cnt [] (by intro a; simp only [itms, oI, List.set_cons_zero, List.set_cons_succ, putL, List.cons_append, List.nil_append, List.append_nil, List.append_assoc, List.map_append, List.map_cons, List.map_nil, cnt_append, cnt_cons, cnt_nil] <;> omega))
    refine TO.loud rfl (l_callG hk16 rfl rfl ?_)
    clear hk16
    rintro v O' ⟨O2, rfl, ⟨rfl, hJ2⟩ | ⟨rfl, hQ2⟩⟩
    · refine TO.quiet (q_not rfl) ?_
      refine TO.nil ?_
      refine T.cond0 rfl ?_
      refine T.skip ?_
      refine T.sub (O' := oI bx 25 [(.int .i64 d.vars), (.int .i64 d.start), (.slice nb d.next.length nc), (.slice fb d.final.length fc)] :: O2) (Sub.cnt [] (by intro a; simp only [itms, oI, List.set_cons_zero, List.set_cons_succ, putL, List.cons_append, List.nil_append, List.append_nil, List.append_assoc, List.map_append, List.map_cons, List.map_nil, cnt_append, cnt_cons, cnt_nil] <;> omega)) ?_
      refine T.region ?_
      refine TO.quiet (q_inc rfl rfl (by omega)) (TO.quiet (q_move rfl) ?_)
      refine TO.nil ?_
      exact ⟨k + 1, by omega, O2, rfl, by omega, hJ2, ⟨rfl, rfl, rfl, rfl, rfl, trivial⟩⟩
    refine TO.quiet (q_not rfl) ?_
    refine TO.nil ?_
    refine T.cond1 rfl ?_
    refine T.ret (Res.drop ?_)
    refine Res.zero Tryd.results89 ?_
    exact ⟨O2, Sub.cnt [oI bx 25 [(.int .i64 d.vars), (.int .i64 d.start), (.slice nb d.next.length nc), (.slice fb d.final.length fc)]] (by intro a; simp only [itms, oI, List.set_cons_zero, List.set_cons_succ, putL, List.cons_append, List.nil_append, List.append_nil, List.append_assoc, List.map_append, List.map_cons, List.map_nil, cnt_append, cnt_cons, cnt_nil] <;> omega), .inr hQ2⟩
  have hge9 : ¬ k < d.next.length := by omega
  refine T.exit ?_
  refine Res.drop ?_
  refine Res.zero Tryd.results89 ?_
  have hke : k = d.next.length := by omega
  subst hke
  exact ⟨O1, Sub.cnt [oI bx 25 [(.int .i64 d.vars), (.int .i64 d.start), (.slice nb d.next.length nc), (.slice fb d.final.length fc)]] (by intro a; simp only [itms, oI, List.set_cons_zero, List.set_cons_succ, putL, List.cons_append, List.nil_append, List.append_nil, List.append_assoc, List.map_append, List.map_cons, List.map_nil, cnt_append, cnt_cons, cnt_nil] <;> omega), .inl hJ⟩
set_option maxHeartbeats 1000000 in
set_option maxRecDepth 20000 in
theorem refineC (w : World) [Tab Tryd.prog w] (d : DFA) (nb fb : Option Addr) (nc fc : Nat) (vs : List Value) (h : DfaAt w d nb vs fb) (hv : Valid d) (cb : Option Addr) (cc : Nat) (cs : List Nat) (hcs : Sl w cb (nats cs)) (hcl : cs.length = d.next.length) (hc9 : ∀ x ∈ cs, x < 10000) :
    PureT Tryd.prog 95 [.agg (dfaCells d nb nc fb fc).toArray, .slice cb d.next.length cc] w fun v N => ∃ b c, v = .slice b d.next.length c ∧ N = [rowI b c 3 1 (nats (refineF d cs))] := by
  refine CallT.enter Tryd.func95 rfl Tryd.ntmps95 rfl ?_
  have hb : d.next.length < 9223372036854775807 := by have := hv.n4; omega
  have hvl := h.rows.1
  have hn4 := hv.n4
  refine T.seq (T.region ?_)
  refine TO.loud rfl (l_box (v := (.agg #[(.int .i64 d.vars), (.int .i64 d.start), (.slice nb d.next.length nc), (.slice fb d.final.length fc)])) (cs := [(.int .i64 d.vars), (.int .i64 d.start), (.slice nb d.next.length nc), (.slice fb d.final.length fc)]) rfl rfl (fun b1 => ?_))
  refine TO.loud rfl (l_box (v := (.slice cb d.next.length cc)) (cs := [(.slice cb d.next.length cc)]) rfl rfl (fun b2 => ?_))
  refine TO.quiet (q_assign rfl) ?_
  refine TO.nil (T.seq (T.region ?_))
  refine TO.loud rfl (l_makeMap str (fun n : Nat => Value.int .i64 (n : Int)) (fun m3 => ?_))
  refine TO.loud rfl (l_alloc inf108 rfl (fun b4 => ?_))
  refine TO.loud rfl (l_store_box (v := (.map (some m3))) (vs := [(.map (some m3))]) 0 inf108 rfl rfl rfl rfl rfl rfl (by simp [putL]) ?_)
  refine TO.nil (T.seq (T.region ?_))
  refine TO.quiet (q_makeFunc) ?_
  refine TO.loud rfl (l_alloc inf110 rfl (fun b5 => ?_))
  refine TO.loud rfl (l_store_box (v := (.func (.func 102) #[] #[(.pointer (some ⟨b4, 0, none⟩))])) (vs := [(.func (.func 102) #[] #[(.pointer (some ⟨b4, 0, none⟩))])]) 0 inf110 rfl rfl rfl rfl rfl rfl (by simp [putL]) ?_)
  refine TO.nil (T.seq (T.region ?_))
  refine TO.quiet (q_load_box 3 Tryd.underlying41 rfl rfl rfl rfl) (TO.quiet (q_len Tryd.underlying41 rfl) ?_)
  refine TO.loud rfl (l_makeSlice (m := d.next.length) Tryd.underlying41 inf3 rfl rfl (by omega) (by omega) (fun b6 => ?_))
  refine TO.loud rfl (l_alloc inf41 rfl (fun b7 => ?_))
  refine TO.loud rfl (l_store_box (v := (.slice (some ⟨b6, 0, none⟩) d.next.length d.next.length)) (vs := [(.slice (some ⟨b6, 0, none⟩) d.next.length d.next.length)]) 0 inf41 rfl rfl rfl rfl rfl rfl (by simp [putL]) ?_)
  refine TO.nil (T.seq (T.seq (T.region ?_)))
  refine TO.quiet (q_load_boxAgg 6 Tryd.underlying25 rfl inf25 rfl rfl rfl) ?_
  have hk19 := fun (w1 : World) (hI : Inv w [oI b7 41 [(.slice (some ⟨b6, 0, none⟩) d.next.length d.next.length)], rowI (some ⟨b6, 0, none⟩) d.next.length 3 1 (List.replicate d.next.length (.int .i64 0)), oI b5 110 [(.func (.func 102) #[] #[(.pointer (some ⟨b4, 0, none⟩))])], oI b4 108 [(.map (some m3))], mapI str (fun n : Nat => Value.int .i64 (n : Int)) m3 [], oI b2 41 [(.slice cb d.next.length cc)], oI b1 25 [(.int .i64 d.vars), (.int .i64 d.start), (.slice nb d.next.length nc), (.slice fb d.final.length fc)]] w1) => (haveI := Inv.tab (P := Tryd.prog) hI; rowsF w1 d nb fb nc fc)
  refine TO.loud rfl (l_call ent85 (CallT.of_pure hk19) rfl ?_)
  clear hk19
  rintro v O' ⟨N, rfl, bR, rfl, rfl⟩
  refine TO.nil (T.block ?_)
  refine T.rangeFunc (first := []) (caps := [(.pointer (some ⟨bR, 0, none⟩))]) rfl ent89 (fun yl yq yhq => ?_)
  refine CallT.mono (CallT.sub (O' := oI bR 25 [(.int .i64 d.vars), (.int .i64 d.start), (.slice nb d.next.length nc), (.slice fb d.final.length fc)] :: (objI yl (lp yq none) :: [oI b7 41 [(.slice (some ⟨b6, 0, none⟩) d.next.length d.next.length)], rowI (some ⟨b6, 0, none⟩) d.next.length 3 1 (List.replicate d.next.length (.int .i64 0)), oI b5 110 [(.func (.func 102) #[] #[(.pointer (some ⟨b4, 0, none⟩))])], oI b4 108 [(.map (some m3))], mapI str (fun n : Nat => Value.int .i64 (n : Int)) m3 [], oI b2 41 [(.slice cb d.next.length cc)], oI b1 25 [(.int .i64 d.vars), (.int .i64 d.start), (.slice nb d.next.length nc), (.slice fb d.final.length fc)]])) (Sub.pick [1, 0, 0, 0, 0, 0, 0, 0, 0] rfl) (rows1 w d nb fb nc fc vs h hb bR (.func (.yield yl) #[] #[]) (fun k O => ∃ (xs : List Nat) (ks : List (List UInt8)), O = objI yl (lp yq none) :: [oI b7 41 [(.slice (some ⟨b6, 0, none⟩) d.next.length d.next.length)], rowI (some ⟨b6, 0, none⟩) d.next.length 3 1 (nats xs), oI b5 110 [(.func (.func 102) #[] #[(.pointer (some ⟨b4, 0, none⟩))])], oI b4 108 [(.map (some m3))], mapI str (fun n : Nat => Value.int .i64 (n : Int)) m3 ks.zipIdx, oI b2 41 [(.slice cb d.next.length cc)], oI b1 25 [(.int .i64 d.vars), (.int .i64 d.start), (.slice nb d.next.length nc), (.slice fb d.final.length fc)]] ∧ k ≤ d.next.length ∧ xs.length = d.next.length ∧ ks = dd ((keysD d cs).take k) ∧ (∀ s, s < k → xs[s]? = some (ix (keyD d cs s) ks))) (fun _ => False) ?_ _ ?_)) ?_
  · intro k hlt vb vc O g1 s1 hJ
    obtain ⟨xs, ks, rfl, hk, hxl, hks, hall⟩ := hJ
    refine CallV.yield yhq rfl rfl ?_
    have hkc : k < cs.length := by omega
    have hrow : d.next[k].length = 2 ^ d.vars.toNat := hv.len _ (List.getElem_mem hlt)
    have hrl : d.next[k].length ≤ 64 := by
      rw [hrow]; have := hv.v6; have := hv.v0
      exact Nat.le_trans (Nat.pow_le_pow_right (by omega) (show d.vars.toNat ≤ 6 by omega)) (by decide)
    have hks9 : ks.length < 1000000 := by
      have h1 := dd_length ((keysD d cs).take k)
      have h2 : ((keysD d cs).take k).length ≤ d.next.length := by rw [List.length_take]; simp [keysD]; omega
      rw [hks]; omega
    have hto : ∀ j (hj : j < d.next[k].length), 0 ≤ d.next[k][j] ∧ d.next[k][j].toNat < cs.length := fun j hj => by have := hv.ok _ (List.getElem_mem hlt) _ (List.getElem_mem hj); omega
    have hck : cs[k] < 10000 := hc9 _ (List.getElem_mem hkc)
    have hr9 : ∀ x ∈ rowK cs d.next[k], x < 10000 := rowK_lt hc9
    refine T.seq (T.region ?_)
    refine TO.quiet (q_assign rfl) ?_
    refine TO.nil (T.region ?_)
    refine TO.quiet (q_assign rfl) ?_
    refine TO.nil (T.block (T.seq ?_))
    refine T.nilRow 5 1 ?_
    refine T.region ?_
    refine TO.quiet (q_load_box 6 Tryd.underlying41 rfl rfl rfl rfl) (TO.quiet (q_move rfl) (TO.quiet (q_ix (i := k) Tryd.underlying41 inf3 rfl rfl (Sl.o hcs)) (TO.quiet (q_ld Tryd.underlying3 rfl rfl (Sl.o hcs) nats_get) ?_)))
    have hk26 := CallT.under (B := [oI b7 41 [(.slice (some ⟨b6, 0, none⟩) d.next.length d.next.length)], rowI (some ⟨b6, 0, none⟩) d.next.length 3 1 (nats xs), oI b5 110 [(.func (.func 102) #[] #[(.pointer (some ⟨b4, 0, none⟩))])], oI b4 108 [(.map (some m3))], mapI str (fun n : Nat => Value.int .i64 (n : Int)) m3 ks.zipIdx, oI b2 41 [(.slice cb d.next.length cc)], oI b1 25 [(.int .i64 d.vars), (.int .i64 d.start), (.slice nb d.next.length nc), (.slice fb d.final.length fc)]]) (O := [rowI none 0 5 1 (cells8 []), oI b7 41 [(.slice (some ⟨b6, 0, none⟩) d.next.length d.next.length)], rowI (some ⟨b6, 0, none⟩) d.next.length 3 1 (nats xs), oI b5 110 [(.func (.func 102) #[] #[(.pointer (some ⟨b4, 0, none⟩))])], oI b4 108 [(.map (some m3))], mapI str (fun n : Nat => Value.int .i64 (n : Int)) m3 ks.zipIdx, oI b2 41 [(.slice cb d.next.length cc)], oI b1 25 [(.int .i64 d.vars), (.int .i64 d.start), (.slice nb d.next.length nc), (.slice fb d.final.length fc)]]) (appF w none 0 0 0 cs[k] [] rfl (Nat.lt_trans hck (by decide)) (by omega)) (Sub.pick [0, 0, 0, 0, 0, 0, 0, 0] rfl)
    refine TO.loud rfl (l_call ent103 hk26 rfl ?_)
    clear hk26
    rintro v O' ⟨A1, rfl, kb, kc, rfl, rfl⟩
    refine TO.quiet (q_assign rfl) ?_
    refine TO.nil (T.seq (T.seq (T.region ?_)))
    refine TO.quiet (q_move rfl) (TO.quiet (q_len Tryd.underlying41 rfl) (TO.quiet (q_move rfl) ?_))
    refine TO.nil (T.block ?_)
    refine T.loop (fun (j : Nat) ρ O => ∃ (kb : Option Addr) (kc m : Nat), O = [rowI kb kc 5 1 (cells8 (keyK cs[k] (List.take j (rowK cs d.next[k])))), oI b7 41 [(.slice (some ⟨b6, 0, none⟩) d.next.length d.next.length)], rowI (some ⟨b6, 0, none⟩) d.next.length 3 1 (nats xs), oI b5 110 [(.func (.func 102) #[] #[(.pointer (some ⟨b4, 0, none⟩))])], oI b4 108 [(.map (some m3))], mapI str (fun n : Nat => Value.int .i64 (n : Int)) m3 ks.zipIdx, oI b2 41 [(.slice cb d.next.length cc)], oI b1 25 [(.int .i64 d.vars), (.int .i64 d.start), (.slice nb d.next.length nc), (.slice fb d.final.length fc)]] ∧ j ≤ d.next[k].length ∧ m = (keyK cs[k] (List.take j (rowK cs d.next[k]))).length ∧ Heads [(0, (.agg #[(.int .i64 d.vars), (.int .i64 d.start), (.slice nb d.next.length nc), (.slice fb d.final.length fc)])), (1, (.slice cb d.next.length cc)), (2, (.pointer (some ⟨b1, 0, none⟩))), (3, (.pointer (some ⟨b2, 0, none⟩))), (4, (.slice none 0 0)), (5, (.pointer (some ⟨b4, 0, none⟩))), (6, (.pointer (some ⟨b5, 0, none⟩))), (7, (.pointer (some ⟨b7, 0, none⟩))), (8, .int .i64 (k : Int)), (9, (.slice vb d.next[k].length vc)), (10, (.slice kb m kc)), (27, (.slice vb d.next[k].length vc)), (28, .int .i64 (d.next[k].length : Int)), (29, .int .i64 (j : Int))] ρ) (fun j => d.next[k].length - j) 0 ?_ ?_
    · refine ⟨kb, kc, _, ?_, Nat.zero_le _, ?_, ⟨rfl, rfl, rfl, rfl, rfl, rfl, rfl, rfl, rfl, rfl, rfl, rfl, rfl, rfl, trivial⟩⟩
      · rw [show keyK cs[k] (List.take 0 (rowK cs d.next[k])) = [] ++ Lib.decDigits cs[k] by simp [keyK, tailK]]
        rfl
      · simp [keyK, tailK]
    rintro j ρ O ⟨kb, kc, m, rfl, hj, hm, hH⟩
    obtain ⟨ρ0, rfl⟩ := hH.elim
    clear hH
    have hm9 : m ≤ 324 := by
      have := keyK_len hck (fun x hx => hr9 x (List.mem_of_mem_take hx) : ∀ x ∈ List.take j (rowK cs d.next[k]), x < 10000)
      rw [List.length_take] at this; omega
    refine T.seq (T.region ?_)
    refine TO.quiet (q_lss rfl rfl) ?_
    refine TO.nil (T.seq ?_)
    refine T.condP rfl (fun hc => ?_) (fun hc => ?_)
    · have hlt30 : j < d.next[k].length := by omega
      have htj := (hto j hlt30).2
      refine T.skip (T.seq (T.block (T.seq (T.region ?_))))
      refine TO.quiet (q_ix (i := j) Tryd.underlying41 inf3 rfl rfl (Sl.o s1)) (TO.quiet (q_ld Tryd.underlying3 rfl rfl (Sl.o s1) ints_get) (TO.quiet (q_assign rfl) ?_))
      refine TO.nil ?_
      refine T.draws [oI b2 41 [(.slice cb d.next.length cc)]] [(0, 0), (3, 0), (4, 0), (5, 0), (6, 0), (1, 1), (2, 1), (7, 2), (8, 2)] mixed (by kernel_rfl) (Sub.pick [6] rfl) (fun _ _ _ h => h) ?_
      refine DO.quiet rfl (q_move rfl) (DO.quiet rfl (q_load_box 0 Tryd.underlying41 rfl rfl rfl rfl) (DO.quiet rfl (q_move rfl) (DO.quiet rfl (q_ixz (i := d.next[k][j]) Tryd.underlying41 inf3 rfl rfl (Sl.o hcs) (hto j hlt30).1 (hcl ▸ (hto j hlt30).2) (by rw [List.length_map]; exact (hto j hlt30).2)) ?_)))
      refine DO.quiet rfl (q_ld Tryd.underlying3 rfl rfl (Sl.o hcs) (nats_get (hto j hlt30).2)) ?_
      refine DO.loud rfl rfl (l_build1 (v := .int .u8 32) Tryd.underlying29 inf5 rfl rfl rfl (fun b8 => ⟨Sub.pick [7] rfl, ?_⟩))
      refine DO.loud rfl rfl (l_append 1 Tryd.underlying29 Tryd.underlying29 inf5 rfl rfl rfl rfl (by rw [List.length_map, ← hm, Nat.mul_one]) (by decide) (Src.row (j := 0) rfl (by simp)) (by simp [oneB]) (by omega) (by decide) (by decide) (fun b9 c10 => ⟨Sub.pick [7] rfl, ?_⟩))
      have hk40 := CallT.under (B := [rowI (some ⟨b8, 0, none⟩) 1 5 1 [.int .u8 32], oI b7 41 [(.slice (some ⟨b6, 0, none⟩) d.next.length d.next.length)], rowI (some ⟨b6, 0, none⟩) d.next.length 3 1 (nats xs), oI b5 110 [(.func (.func 102) #[] #[(.pointer (some ⟨b4, 0, none⟩))])], oI b4 108 [(.map (some m3))], mapI str (fun n : Nat => Value.int .i64 (n : Int)) m3 ks.zipIdx, oI b2 41 [(.slice cb d.next.length cc)], oI b1 25 [(.int .i64 d.vars), (.int .i64 d.start), (.slice nb d.next.length nc), (.slice fb d.final.length fc)]]) (O := [rowI (some ⟨b8, 0, none⟩) 1 5 1 [.int .u8 32], rowI b9 c10 5 1 ((cells8 (keyK cs[k] (List.take j (rowK cs d.next[k])))) ++ [.int .u8 32]), oI b7 41 [(.slice (some ⟨b6, 0, none⟩) d.next.length d.next.length)], rowI (some ⟨b6, 0, none⟩) d.next.length 3 1 (nats xs), oI b5 110 [(.func (.func 102) #[] #[(.pointer (some ⟨b4, 0, none⟩))])], oI b4 108 [(.map (some m3))], mapI str (fun n : Nat => Value.int .i64 (n : Int)) m3 ks.zipIdx, oI b2 41 [(.slice cb d.next.length cc)], oI b1 25 [(.int .i64 d.vars), (.int .i64 d.start), (.slice nb d.next.length nc), (.slice fb d.final.length fc)]]) (appF w b9 c10 c10 (m + 1) cs[d.next[k][j].toNat] (keyK cs[k] (List.take j (rowK cs d.next[k])) ++ [32]) (by rw [List.length_append, ← hm]; rfl) (Nat.lt_trans (hc9 _ (List.getElem_mem (hto j hlt30).2)) (by decide)) (by omega)) (by rw [cells8_snoc]; exact (Sub.pick [1, 0, 0, 0, 0, 0, 0, 0, 0] rfl))
      refine DO.last rfl rfl (l_call ent103 hk40 rfl ?_)
      clear hk40
      rintro v O' ⟨A1, rfl, kb3, kc3, rfl, rfl⟩
      refine DO.sub (O' := [rowI kb3 kc3 5 1 (cells8 (keyK cs[k] (List.take j (rowK cs d.next[k])) ++ [32] ++ Lib.decDigits cs[d.next[k][j].toNat])), oI b7 41 [(.slice (some ⟨b6, 0, none⟩) d.next.length d.next.length)], rowI (some ⟨b6, 0, none⟩) d.next.length 3 1 (nats xs), oI b5 110 [(.func (.func 102) #[] #[(.pointer (some ⟨b4, 0, none⟩))])], oI b4 108 [(.map (some m3))], mapI str (fun n : Nat => Value.int .i64 (n : Int)) m3 ks.zipIdx, oI b2 41 [(.slice cb d.next.length cc)], oI b1 25 [(.int .i64 d.vars), (.int .i64 d.start), (.slice nb d.next.length nc), (.slice fb d.final.length fc)]]) (Sub.pick [0, 1, 1, 1, 1, 1, 1, 1] rfl) ?_
      refine DO.last rfl rfl (LT.of_quiet rfl rfl (q_assign rfl) ?_)
      refine DO.done ?_
      refine T.region ?_
      refine TO.quiet (q_inc rfl rfl (by omega)) (TO.quiet (q_move rfl) ?_)
      refine TO.nil ?_
      have hst := keyK_row (a := cs[k]) hlt30 (hto j hlt30).2
      refine ⟨j + 1, by omega, kb3, kc3, _, by rw [hst], by omega, ?_, ⟨rfl, rfl, rfl, rfl, rfl, rfl, rfl, rfl, rfl, rfl, rfl, rfl, rfl, rfl, trivial⟩⟩
      rw [hst, List.length_append, List.length_append, ← hm]; rfl
    have hge30 : ¬ j < d.next[k].length := by omega
    refine T.exit ?_
    have hjf : j = d.next[k].length := by omega
    have hfull : List.take j (rowK cs d.next[k]) = rowK cs d.next[k] := List.take_of_length_le (by simp [rowK]; omega)
    have hKE : keyD d cs k = keyK cs[k] (rowK cs d.next[k]) := keyD_eq hlt hkc
    refine T.draws [rowI kb kc 5 1 (cells8 (keyK cs[k] (List.take j (rowK cs d.next[k])))), oI b7 41 [(.slice (some ⟨b6, 0, none⟩) d.next.length d.next.length)], rowI (some ⟨b6, 0, none⟩) d.next.length 3 1 (nats xs), oI b5 110 [(.func (.func 102) #[] #[(.pointer (some ⟨b4, 0, none⟩))])], oI b4 108 [(.map (some m3))], oI b2 41 [(.slice cb d.next.length cc)], oI b1 25 [(.int .i64 d.vars), (.int .i64 d.start), (.slice nb d.next.length nc), (.slice fb d.final.length fc)]] [(0, 0), (1, 0), (2, 0), (3, 0), (4, 0), (5, 1), (6, 0), (7, 2)] mixed (by kernel_rfl) (Sub.pick [0, 0, 0, 0, 0, 1, 1] rfl) (fun _ _ _ h => h) ?_
    refine DO.quiet rfl (q_load_box 1 Tryd.underlying41 rfl rfl rfl rfl) (DO.quiet rfl (q_move rfl) (DO.quiet rfl (q_load_box 3 Tryd.underlying110 rfl rfl rfl rfl) (DO.quiet rfl (q_move rfl) ?_)))
    refine DO.quiet rfl (q_b2s (l := keyK cs[k] (List.take j (rowK cs d.next[k]))) Tryd.underlying29 Tryd.underlying9 Tryd.underlying5 rfl (List.mem_of_getElem? (i := 0) rfl) hm.symm) ?_
    have hk47 := CallV.of_fn (first := []) (args := [str (keyK cs[k] (List.take j (rowK cs d.next[k])))]) (caps := [(.pointer (some ⟨b4, 0, none⟩))]) ent102 (CallT.under (B := [rowI kb kc 5 1 (cells8 (keyK cs[k] (List.take j (rowK cs d.next[k])))), oI b7 41 [(.slice (some ⟨b6, 0, none⟩) d.next.length d.next.length)], rowI (some ⟨b6, 0, none⟩) d.next.length 3 1 (nats xs), oI b5 110 [(.func (.func 102) #[] #[(.pointer (some ⟨b4, 0, none⟩))])], oI b2 41 [(.slice cb d.next.length cc)], oI b1 25 [(.int .i64 d.vars), (.int .i64 d.start), (.slice nb d.next.length nc), (.slice fb d.final.length fc)]]) (O := [rowI kb kc 5 1 (cells8 (keyK cs[k] (List.take j (rowK cs d.next[k])))), oI b7 41 [(.slice (some ⟨b6, 0, none⟩) d.next.length d.next.length)], rowI (some ⟨b6, 0, none⟩) d.next.length 3 1 (nats xs), oI b5 110 [(.func (.func 102) #[] #[(.pointer (some ⟨b4, 0, none⟩))])], oI b4 108 [(.map (some m3))], mapI str (fun n : Nat => Value.int .i64 (n : Int)) m3 ks.zipIdx, oI b2 41 [(.slice cb d.next.length cc)], oI b1 25 [(.int .i64 d.vars), (.int .i64 d.start), (.slice nb d.next.length nc), (.slice fb d.final.length fc)]]) (give w b4 m3 ks (keyK cs[k] (List.take j (rowK cs d.next[k]))) hks9) (Sub.pick [4, 4, 0, 0, 0, 0, 0, 0] rfl))
    refine DO.loud rfl rfl (l_callG hk47 rfl rfl ?_)
    clear hk47
    rintro v O' ⟨A1, rfl, rfl, rfl⟩
    refine ⟨Sub.pick [2, 2, 2, 2, 0, 1, 1] rfl, ?_⟩
    refine DO.sub (O' := [rowI kb kc 5 1 (cells8 (keyK cs[k] (List.take j (rowK cs d.next[k])))), oI b7 41 [(.slice (some ⟨b6, 0, none⟩) d.next.length d.next.length)], rowI (some ⟨b6, 0, none⟩) d.next.length 3 1 (nats xs), oI b5 110 [(.func (.func 102) #[] #[(.pointer (some ⟨b4, 0, none⟩))])], oI b4 108 [(.map (some m3))], mapI str (fun n : Nat => Value.int .i64 (n : Int)) m3 ((add ks (keyK cs[k] (List.take j (rowK cs d.next[k])))).zipIdx), oI b2 41 [(.slice cb d.next.length cc)], oI b1 25 [(.int .i64 d.vars), (.int .i64 d.start), (.slice nb d.next.length nc), (.slice fb d.final.length fc)]]) (Sub.pick [2, 2, 2, 2, 0, 0, 0, 0] rfl) ?_
    refine DO.quiet rfl (q_ix (i := k) Tryd.underlying41 inf3 rfl rfl (rowO (List.mem_of_getElem? (i := 2) rfl))) ?_
    refine DO.last rfl rfl (l_st (j := k) (v := .int .i64 ((ix (keyK cs[k] (List.take j (rowK cs d.next[k]))) (add ks (keyK cs[k] (List.take j (rowK cs d.next[k])))) : Nat) : Int)) (vs := [(.int .i64 ((ix (keyK cs[k] (List.take j (rowK cs d.next[k]))) (add ks (keyK cs[k] (List.take j (rowK cs d.next[k])))) : Nat) : Int))]) (cs := nats xs) 2 inf3 rfl rfl rfl rfl rfl (by simp) rfl (by first | (simp; omega) | (simp_all; omega)) ?_)
    refine DO.sub (O' := [rowI kb kc 5 1 (cells8 (keyK cs[k] (List.take j (rowK cs d.next[k])))), oI b7 41 [(.slice (some ⟨b6, 0, none⟩) d.next.length d.next.length)], rowI (some ⟨b6, 0, none⟩) d.next.length 3 1 (nats (xs.set k (ix (keyK cs[k] (List.take j (rowK cs d.next[k]))) (add ks (keyK cs[k] (List.take j (rowK cs d.next[k]))))))), oI b5 110 [(.func (.func 102) #[] #[(.pointer (some ⟨b4, 0, none⟩))])], oI b4 108 [(.map (some m3))], mapI str (fun n : Nat => Value.int .i64 (n : Int)) m3 ((add ks (keyK cs[k] (List.take j (rowK cs d.next[k])))).zipIdx), oI b2 41 [(.slice cb d.next.length cc)], oI b1 25 [(.int .i64 d.vars), (.int .i64 d.start), (.slice nb d.next.length nc), (.slice fb d.final.length fc)]]) (by rw [show putL (nats xs) k [(.int .i64 ((ix (keyK cs[k] (List.take j (rowK cs d.next[k]))) (add ks (keyK cs[k] (List.take j (rowK cs d.next[k])))) : Nat) : Int))] = nats (xs.set k (ix (keyK cs[k] (List.take j (rowK cs d.next[k]))) (add ks (keyK cs[k] (List.take j (rowK cs d.next[k])))))) from by simp [putL]]; exact Sub.of (List.Sublist.refl _)) ?_
    refine DO.sub (O' := [oI b7 41 [(.slice (some ⟨b6, 0, none⟩) d.next.length d.next.length)], rowI (some ⟨b6, 0, none⟩) d.next.length 3 1 (nats (xs.set k (ix (keyK cs[k] (List.take j (rowK cs d.next[k]))) (add ks (keyK cs[k] (List.take j (rowK cs d.next[k]))))))), oI b5 110 [(.func (.func 102) #[] #[(.pointer (some ⟨b4, 0, none⟩))])], oI b4 108 [(.map (some m3))], mapI str (fun n : Nat => Value.int .i64 (n : Int)) m3 ((add ks (keyK cs[k] (List.take j (rowK cs d.next[k])))).zipIdx), oI b2 41 [(.slice cb d.next.length cc)], oI b1 25 [(.int .i64 d.vars), (.int .i64 d.start), (.slice nb d.next.length nc), (.slice fb d.final.length fc)]]) (Sub.pick [1, 1, 1, 1, 1, 1, 1] rfl) ?_
    refine DO.done ?_
    refine .inl ⟨rfl, xs.set k (ix (keyK cs[k] (List.take j (rowK cs d.next[k]))) (add ks (keyK cs[k] (List.take j (rowK cs d.next[k]))))), add ks (keyK cs[k] (List.take j (rowK cs d.next[k]))), rfl, by omega, by simp [hxl], ?_, ?_⟩
    · rw [keysD_take hlt, dd_snoc, ← hks, hKE, hfull]
    · intro s hs
      by_cases e : s = k
      · subst e; rw [List.getElem?_set_self (by omega), hKE, hfull]
      · rw [List.getElem?_set_ne (fun h => e h.symm), hall s (by omega)]
        refine congrArg some (ix_prefix (add_prefix _ _) ?_).symm
        rw [hks]; exact mem_dd.2 (keyD_mem (by omega) (by omega))
  · refine ⟨List.replicate d.next.length 0, [], ?_, Nat.zero_le _, by simp, by simp [dd], fun s hs => absurd hs (by omega)⟩
    simp
  rintro v O' (⟨xs, ks, rfl, hk, hxl, hks, hall⟩ | hF)
  rotate_left
  · exact hF.elim
  refine ⟨none, _, rfl, ?_⟩
  refine T.seq (T.region ?_)
  refine TO.quiet (q_load_box 0 Tryd.underlying41 rfl rfl rfl rfl) (TO.quiet (q_assign rfl) ?_)
  refine TO.nil (T.ret (Res.drop ?_))
  refine Res.one (.slice (some ⟨b6, 0, none⟩) d.next.length d.next.length) Tryd.results95 rfl ?_
  have hx : xs = refineF d cs := by
    apply List.ext_getElem?
    intro s
    by_cases hs : s < d.next.length
    · rw [hall s hs, hks, List.take_of_length_le (by simp [keysD])]; simp [refineF, keysD, hs]
    · rw [List.getElem?_eq_none (by omega), List.getElem?_eq_none (by simp [refineF, keysD]; omega)]
  exact ⟨[rowI (some ⟨b6, 0, none⟩) d.next.length 3 1 (nats xs)], (Sub.pick [1] rfl), _, _, rfl, by rw [hx]⟩
set_option maxHeartbeats 1000000 in
set_option maxRecDepth 20000 in
theorem beginC (w : World) [Tab Tryd.prog w] (d : DFA) (nb fb : Option Addr) (nc fc : Nat) (vs : List Value) (h : DfaAt w d nb vs fb) (hv : Valid d) :
    PureT Tryd.prog 94 [.agg (dfaCells d nb nc fb fc).toArray] w fun v N => ∃ b c, v = .slice b d.next.length c ∧ N = [rowI b c 3 1 (nats (beginF d))] := by
  refine CallT.enter Tryd.func94 rfl Tryd.ntmps94 rfl ?_
  have hn4 := hv.n4
  have hn0 := hv.n0
  have hfl := hv.fin
  refine T.seq (T.region ?_)
  refine TO.loud rfl (l_box (v := (.agg #[(.int .i64 d.vars), (.int .i64 d.start), (.slice nb d.next.length nc), (.slice fb d.final.length fc)])) (cs := [(.int .i64 d.vars), (.int .i64 d.start), (.slice nb d.next.length nc), (.slice fb d.final.length fc)]) rfl rfl (fun b1 => ?_))
  refine TO.quiet (q_assign rfl) ?_
  refine TO.nil (T.seq (T.region ?_))
  refine TO.quiet (q_fieldAddr Tryd.underlying25 rfl inf22 rfl rfl) (TO.quiet (q_load_box 0 Tryd.underlying22 rfl rfl rfl rfl) (TO.quiet (q_len Tryd.underlying22 rfl) ?_))
  refine TO.loud rfl (l_makeSlice (m := d.next.length) Tryd.underlying41 inf3 rfl rfl (by omega) (by omega) (fun b2 => ?_))
  refine TO.quiet (q_assign rfl) ?_
  refine TO.nil (T.seq (T.seq (T.region ?_)))
  refine TO.quiet (q_move rfl) (TO.quiet (q_len Tryd.underlying41 rfl) (TO.quiet (q_move rfl) ?_))
  refine TO.nil (T.block ?_)
  refine T.loop (fun (k : Nat) ρ O => ∃ (xs : List Nat), O = [rowI (some ⟨b2, 0, none⟩) d.next.length 3 1 (nats xs), oI b1 25 [(.int .i64 d.vars), (.int .i64 d.start), (.slice nb d.next.length nc), (.slice fb d.final.length fc)]] ∧ k ≤ d.next.length ∧ xs.length = d.next.length ∧ (∀ s, s < k → xs[s]? = some (if d.final.getD s false ≠ d.final.getD 0 false then 1 else 0)) ∧ (∀ s, k ≤ s → s < d.next.length → xs[s]? = some 0) ∧ Heads [(0, (.agg #[(.int .i64 d.vars), (.int .i64 d.start), (.slice nb d.next.length nc), (.slice fb d.final.length fc)])), (1, (.pointer (some ⟨b1, 0, none⟩))), (2, (.slice none 0 0)), (3, (.slice (some ⟨b2, 0, none⟩) d.next.length d.next.length)), (10, .int .i64 (d.next.length : Int)), (11, .int .i64 (k : Int))] ρ) (fun k => d.next.length - k) 0 ?_ ?_
  · refine ⟨List.replicate d.next.length 0, by simp, Nat.zero_le _, by simp, fun s hs => absurd hs (by omega), fun s _ hs => by simp [hs], ⟨rfl, rfl, rfl, rfl, rfl, rfl, trivial⟩⟩
  rintro k ρ O ⟨xs, rfl, hk, hxl, hdone, htodo, hH⟩
  obtain ⟨ρ0, rfl⟩ := hH.elim
  clear hH
  refine T.seq (T.region ?_)
  refine TO.quiet (q_lss rfl rfl) ?_
  refine TO.nil (T.seq ?_)
  refine T.condP rfl (fun hc => ?_) (fun hc => ?_)
  · have hlt12 : k < d.next.length := by omega
    have hkf : k < d.final.length := by omega
    have h0f : 0 < d.final.length := by omega
    have hkx : k < xs.length := by omega
    refine T.skip (T.seq (T.block (T.seq (T.region ?_))))
    refine TO.quiet (q_move rfl) (TO.quiet (q_assign rfl) ?_)
    refine TO.nil (T.seq ?_)
    refine T.draws [oI b1 25 [(.int .i64 d.vars), (.int .i64 d.start), (.slice nb d.next.length nc), (.slice fb d.final.length fc)]] [(0, 0), (1, 0), (2, 0), (3, 0), (4, 0), (5, 0), (6, 0), (7, 0), (8, 0), (9, 0)] mixed (by kernel_rfl) (Sub.pick [1] rfl) (fun _ _ _ h => h) ?_
    refine DO.quiet rfl (q_fieldAddr Tryd.underlying25 rfl inf23 rfl rfl) (DO.quiet rfl (q_load_box 0 Tryd.underlying23 rfl rfl rfl rfl) (DO.quiet rfl (q_move rfl) (DO.quiet rfl (q_ix (i := k) Tryd.underlying23 inf4 rfl rfl (Sl.o h.final)) ?_)))
    refine DO.quiet rfl (q_ld Tryd.underlying4 rfl rfl (Sl.o h.final) bools_get) (DO.quiet rfl (q_fieldAddr Tryd.underlying25 rfl inf23 rfl rfl) (DO.quiet rfl (q_load_box 0 Tryd.underlying23 rfl rfl rfl rfl) (DO.quiet rfl (q_ix (i := 0) Tryd.underlying23 inf4 rfl rfl (Sl.o h.final)) ?_)))
    refine DO.quiet rfl (q_ld Tryd.underlying4 rfl rfl (Sl.o h.final) bools_get) (DO.quiet rfl (q_bneq Tryd.underlying4 rfl rfl) ?_)
    refine DO.done ?_
    refine T.condP (p := ¬ d.final[k] = d.final[0]) (congrArg Value.bool (by cases d.final[k] <;> cases d.final[0] <;> rfl)) (fun hc => ?_) (fun hc => ?_)
    · refine T.region ?_
      refine TO.quiet (q_move rfl) (TO.quiet (q_move rfl) (TO.quiet (q_ix (i := k) Tryd.underlying41 inf3 rfl rfl (rowO (List.mem_of_getElem? (i := 0) rfl))) ?_))
      refine TO.loud rfl (l_st (j := k) (v := .int .i64 1) (vs := [(.int .i64 1)]) (cs := nats xs) 0 inf3 rfl rfl rfl rfl rfl (by simp) rfl (by first | (simp; omega) | (simp_all; omega)) ?_)
      refine TO.sub (O' := [rowI (some ⟨b2, 0, none⟩) d.next.length 3 1 (nats (xs.set k 1)), oI b1 25 [(.int .i64 d.vars), (.int .i64 d.start), (.slice nb d.next.length nc), (.slice fb d.final.length fc)]]) (by rw [show putL (nats xs) k [(.int .i64 1)] = nats (xs.set k 1) from by simp [putL]]; exact Sub.of (List.Sublist.refl _)) ?_
      refine TO.nil (T.region ?_)
      refine TO.quiet (q_inc rfl rfl (by omega)) (TO.quiet (q_move rfl) ?_)
      refine TO.nil ?_
      refine ⟨k + 1, by omega, xs.set k 1, rfl, by omega, by simp [hxl], fun s hs => ?_, fun s h1 h2 => ?_, ⟨rfl, rfl, rfl, rfl, rfl, rfl, trivial⟩⟩
      · by_cases e : s = k
        · subst e; rw [List.getElem?_set_self (by omega)]; simp [hkf, h0f, hc]
        · rw [List.getElem?_set_ne (fun h => e h.symm)]; exact hdone s (by omega)
      · rw [List.getElem?_set_ne (by omega)]; exact htodo s (by omega) h2
    refine T.skip (T.region ?_)
    refine TO.quiet (q_inc rfl rfl (by omega)) (TO.quiet (q_move rfl) ?_)
    refine TO.nil ?_
    refine ⟨k + 1, by omega, xs, rfl, by omega, hxl, fun s hs => ?_, fun s h1 h2 => htodo s (by omega) h2, ⟨rfl, rfl, rfl, rfl, rfl, rfl, trivial⟩⟩
    by_cases e : s = k
    · subst e; rw [htodo _ (Nat.le_refl _) hlt12]; simp [hkf, h0f, Classical.not_not.1 hc]
    · exact hdone s (by omega)
  have hge12 : ¬ k < d.next.length := by omega
  refine T.exit ?_
  refine T.seq (T.region ?_)
  refine TO.quiet (q_move rfl) (TO.quiet (q_assign rfl) ?_)
  refine TO.nil (T.ret (Res.drop ?_))
  refine Res.one (.slice (some ⟨b2, 0, none⟩) d.next.length d.next.length) Tryd.results94 rfl ?_
  have hx : xs = beginF d := by
    apply List.ext_getElem?
    intro s
    by_cases hs : s < d.next.length
    · rw [hdone s (by omega)]; simp [beginF, hs]
    · rw [List.getElem?_eq_none (by omega), List.getElem?_eq_none (by simp [beginF]; omega)]
  exact ⟨[rowI (some ⟨b2, 0, none⟩) d.next.length 3 1 (nats xs)], (Sub.pick [0] rfl), _, _, rfl, by rw [hx]⟩
set_option maxHeartbeats 1000000 in
set_option maxRecDepth 20000 in
theorem slicesEqual (w : World) [Tab Tryd.prog w] (b1 b2 : Option Addr) (c1 c2 n : Nat) (xs ys : List Nat) (h1 : Sl w b1 (nats xs)) (h2 : Sl w b2 (nats ys)) (hx : xs.length = n) (hy : ys.length = n) (hb : n < 9223372036854775807) :
    PureT Tryd.prog 96 [.slice b1 n c1, .slice b2 n c2] w fun v N => v = .bool (decide (xs = ys)) ∧ N = [] := by
  refine CallT.enter Tryd.func96 rfl Tryd.ntmps96 rfl ?_
  refine T.seq (T.region ?_)
  refine TO.quiet (q_assign rfl) ?_
  refine TO.nil (T.seq (T.seq (T.region ?_)))
  refine TO.quiet (q_move rfl) (TO.quiet (q_len Tryd.underlying41 rfl) (TO.quiet (q_move rfl) (TO.quiet (q_len Tryd.underlying41 rfl) ?_)))
  refine TO.quiet (q_neq rfl rfl) ?_
  refine TO.nil ?_
  refine T.condP rfl (fun hc => ?_) (fun hc => ?_)
  · exact absurd hc (by omega)
  have hge10 : ¬ n ≠ n := by omega
  refine T.skip (T.seq (T.seq (T.region ?_)))
  refine TO.quiet (q_move rfl) (TO.quiet (q_len Tryd.underlying41 rfl) (TO.quiet (q_move rfl) ?_))
  refine TO.nil (T.block ?_)
  refine T.loop (fun (k : Nat) ρ O => O = [] ∧ k ≤ n ∧ xs.take k = ys.take k ∧ Heads [(0, (.slice b1 n c1)), (1, (.slice b2 n c2)), (12, .int .i64 (n : Int)), (13, .int .i64 (k : Int))] ρ) (fun k => n - k) 0 ?_ ?_
  · exact ⟨rfl, Nat.zero_le _, rfl, ⟨rfl, rfl, rfl, rfl, trivial⟩⟩
  rintro k ρ O ⟨rfl, hk, he, hH⟩
  obtain ⟨ρ0, rfl⟩ := hH.elim
  clear hH
  refine T.seq (T.region ?_)
  refine TO.quiet (q_lss rfl rfl) ?_
  refine TO.nil (T.seq ?_)
  refine T.condP rfl (fun hc => ?_) (fun hc => ?_)
  · have hlt14 : k < n := by omega
    have hkx : k < xs.length := by omega
    have hky : k < ys.length := by omega
    refine T.skip (T.seq (T.block (T.seq (T.region ?_))))
    refine TO.quiet (q_move rfl) (TO.quiet (q_assign rfl) ?_)
    refine TO.nil (T.seq ?_)
    refine T.draws _ [(0, 0), (1, 0), (2, 0), (3, 0), (4, 0), (5, 0), (6, 0), (7, 0), (8, 0)] mixed (by kernel_rfl) (Sub.of (List.Sublist.refl _)) (fun _ _ _ h => h) ?_
    refine DO.quiet rfl (q_move rfl) (DO.quiet rfl (q_move rfl) (DO.quiet rfl (q_ix (i := k) Tryd.underlying41 inf3 rfl rfl (Sl.o h1)) (DO.quiet rfl (q_ld Tryd.underlying3 rfl rfl (Sl.o h1) nats_get) ?_)))
    refine DO.quiet rfl (q_move rfl) (DO.quiet rfl (q_move rfl) (DO.quiet rfl (q_ix (i := k) Tryd.underlying41 inf3 rfl rfl (Sl.o h2)) (DO.quiet rfl (q_ld Tryd.underlying3 rfl rfl (Sl.o h2) nats_get) ?_)))
    refine DO.quiet rfl (q_neq rfl rfl) ?_
    refine DO.done ?_
    refine T.condP (p := ¬ xs[k] = ys[k]) (congrArg Value.bool (decide_eq_decide.2 (by omega))) (fun hc => ?_) (fun hc => ?_)
    · have hlt24 : xs[k] ≠ ys[k] := by omega
      refine T.seq (T.region ?_)
      refine TO.quiet (q_assign rfl) ?_
      refine TO.nil (T.ret ?_)
      refine Res.one (.bool false) Tryd.results96 rfl ?_
      exact ⟨congrArg Value.bool (decide_eq_false (fun e => hc (by subst e; rfl))).symm, rfl⟩
    have hge24 : ¬ xs[k] ≠ ys[k] := by omega
    refine T.skip (T.region ?_)
    refine TO.quiet (q_inc rfl rfl (by omega)) (TO.quiet (q_move rfl) ?_)
    refine TO.nil ?_
    refine ⟨k + 1, by omega, rfl, by omega, ?_, ⟨rfl, rfl, rfl, rfl, trivial⟩⟩
    rw [List.take_succ_eq_append_getElem hkx, List.take_succ_eq_append_getElem hky, he]
    exact congrArg _ (congrArg (fun z => [z]) (Classical.not_not.1 hc))
  have hge14 : ¬ k < n := by omega
  refine T.exit ?_
  refine T.seq (T.region ?_)
  refine TO.quiet (q_assign rfl) ?_
  refine TO.nil (T.ret ?_)
  refine Res.one (.bool true) Tryd.results96 rfl ?_
  exact ⟨congrArg Value.bool (decide_eq_true (show xs = ys by rw [List.take_of_length_le (by omega), List.take_of_length_le (by omega)] at he; exact he)).symm, rfl⟩
set_option maxHeartbeats 1000000 in
set_option maxRecDepth 20000 in
theorem roundsBad (w : World) [Tab Tryd.prog w] (d : DFA) (nb fb : Option Addr) (nc fc : Nat) (vs : List Value) (h : DfaAt w d nb vs fb) (hb : d.next.length < 9223372036854775807) (hbr : ∀ r ∈ d.next, r.length < 9223372036854775807) (hbf : d.final.length < 9223372036854775807) (he : checkD d ≠ 0) (k : Int) :
    PureT Tryd.prog 88 [.agg (dfaCells d nb nc fb fc).toArray, .int .i64 k] w fun v N => v = .tuple #[.slice none 0 0, .int .i64 (checkD d : Int)] ∧ N = [] := by
  refine CallT.enter Tryd.func88 rfl Tryd.ntmps88 rfl ?_
  refine T.seq (T.region ?_)
  refine TO.loud rfl (l_box (v := (.agg #[(.int .i64 d.vars), (.int .i64 d.start), (.slice nb d.next.length nc), (.slice fb d.final.length fc)])) (cs := [(.int .i64 d.vars), (.int .i64 d.start), (.slice nb d.next.length nc), (.slice fb d.final.length fc)]) rfl rfl (fun b1 => ?_))
  refine TO.quiet (q_assign rfl) (TO.quiet (q_assign rfl) ?_)
  refine TO.nil (T.seq (T.seq (T.region ?_)))
  refine TO.quiet (q_load_boxAgg 0 Tryd.underlying25 rfl inf25 rfl rfl rfl) ?_
  have hk10 := fun (w1 : World) (hI : Inv w [oI b1 25 [(.int .i64 d.vars), (.int .i64 d.start), (.slice nb d.next.length nc), (.slice fb d.final.length fc)]] w1) => (haveI := Inv.tab (P := Tryd.prog) hI; subsetCheck w1 d nb fb nc fc vs (hI.dfa h) hb hbr hbf)
  refine TO.loud rfl (l_call ent33 (CallT.of_pure hk10) rfl ?_)
  clear hk10
  rintro v O' ⟨N, rfl, rfl, rfl⟩
  refine TO.quiet (q_assign rfl) ?_
  refine TO.nil (T.seq (T.region ?_))
  refine TO.quiet (q_move rfl) (TO.quiet (QT.toB (q_neq rfl rfl) (decide_eq_true (by omega))) ?_)
  refine TO.nil ?_
  refine T.cond1 rfl ?_
  refine T.seq (T.region ?_)
  refine TO.quiet (q_move rfl) (TO.quiet (q_assign rfl) (TO.quiet (q_assign rfl) ?_))
  refine TO.nil (T.ret (Res.drop ?_))
  refine Res.two (.slice none 0 0) (.int .i64 (checkD d : Int)) Tryd.results88 rfl rfl ?_
  exact ⟨[], Sub.of (List.nil_sublist _), rfl, rfl⟩
set_option maxHeartbeats 1000000 in
set_option maxRecDepth 20000 in
theorem roundsOk (w : World) [Tab Tryd.prog w] (d : DFA) (nb fb : Option Addr) (nc fc : Nat) (vs : List Value) (h : DfaAt w d nb vs fb) (hv : Valid d) (hn : d.next.length < 10000) (k : Int) (hk9 : k ≤ 9223372036854775807) :
    PureT Tryd.prog 88 [.agg (dfaCells d nb nc fb fc).toArray, .int .i64 k] w fun v N => ∃ b c, v = .tuple #[.slice b d.next.length c, .int .i64 0] ∧ N = [rowI b c 3 1 (nats (itF d k.toNat))] := by
  refine CallT.enter Tryd.func88 rfl Tryd.ntmps88 rfl ?_
  have he := checkD_zero.2 hv
  have hb : d.next.length < 9223372036854775807 := by omega
  have hbr : ∀ r ∈ d.next, r.length < 9223372036854775807 := hv.bound
  have hbf : d.final.length < 9223372036854775807 := by have := hv.fin; omega
  refine T.seq (T.region ?_)
  refine TO.loud rfl (l_box (v := (.agg #[(.int .i64 d.vars), (.int .i64 d.start), (.slice nb d.next.length nc), (.slice fb d.final.length fc)])) (cs := [(.int .i64 d.vars), (.int .i64 d.start), (.slice nb d.next.length nc), (.slice fb d.final.length fc)]) rfl rfl (fun b1 => ?_))
  refine TO.quiet (q_assign rfl) (TO.quiet (q_assign rfl) ?_)
  refine TO.nil (T.seq (T.seq (T.region ?_)))
  refine TO.quiet (q_load_boxAgg 0 Tryd.underlying25 rfl inf25 rfl rfl rfl) ?_
  have hk10 := fun (w1 : World) (hI : Inv w [oI b1 25 [(.int .i64 d.vars), (.int .i64 d.start), (.slice nb d.next.length nc), (.slice fb d.final.length fc)]] w1) => (haveI := Inv.tab (P := Tryd.prog) hI; subsetCheck w1 d nb fb nc fc vs (hI.dfa h) hb hbr hbf)
  refine TO.loud rfl (l_call ent33 (CallT.of_pure hk10) rfl ?_)
  clear hk10
  rintro v O' ⟨N, rfl, rfl, rfl⟩
  rw [he]
  refine TO.quiet (q_assign rfl) ?_
  refine TO.nil (T.seq (T.region ?_))
  refine TO.quiet (q_move rfl) (TO.quiet (q_neq rfl rfl) ?_)
  refine TO.nil ?_
  refine T.cond0 rfl ?_
  refine T.skip (T.seq (T.region ?_))
  refine TO.quiet (q_load_boxAgg 0 Tryd.underlying25 rfl inf25 rfl rfl rfl) ?_
  have hk15 := fun (w1 : World) (hI : Inv w [oI b1 25 [(.int .i64 d.vars), (.int .i64 d.start), (.slice nb d.next.length nc), (.slice fb d.final.length fc)]] w1) => (haveI := Inv.tab (P := Tryd.prog) hI; beginC w1 d nb fb nc fc vs (hI.dfa h) hv)
  refine TO.loud rfl (l_call ent94 (CallT.of_pure hk15) rfl ?_)
  clear hk15
  rintro v O' ⟨N, rfl, b0, c0, rfl, rfl⟩
  refine TO.quiet (q_assign rfl) ?_
  refine TO.nil (T.seq (T.seq (T.region ?_)))
  refine TO.quiet (q_move rfl) (TO.quiet (q_move rfl) ?_)
  refine TO.nil (T.block ?_)
  refine T.loop (fun (i : Nat) ρ O => ∃ (b : Option Addr) (c : Nat), O = [rowI b c 3 1 (nats (itF d i)), oI b1 25 [(.int .i64 d.vars), (.int .i64 d.start), (.slice nb d.next.length nc), (.slice fb d.final.length fc)]] ∧ i ≤ k.toNat ∧ Heads [(0, (.agg #[(.int .i64 d.vars), (.int .i64 d.start), (.slice nb d.next.length nc), (.slice fb d.final.length fc)])), (1, .int .i64 k), (2, (.pointer (some ⟨b1, 0, none⟩))), (4, (.slice none 0 0)), (5, .int .i64 0), (6, .int .i64 ((0 : Nat) : Int)), (7, (.slice b d.next.length c)), (16, .int .i64 k), (17, .int .i64 (i : Int))] ρ) (fun i => k.toNat - i) 0 ?_ ?_
  · exact ⟨b0, c0, rfl, Nat.zero_le _, ⟨rfl, rfl, rfl, rfl, rfl, rfl, rfl, rfl, rfl, trivial⟩⟩
  rintro i ρ O ⟨b, c, rfl, hki, hH⟩
  obtain ⟨ρ0, rfl⟩ := hH.elim
  clear hH
  refine T.seq (T.region ?_)
  refine TO.quiet (q_lss rfl rfl) ?_
  refine TO.nil (T.seq ?_)
  refine T.condP rfl (fun hc => ?_) (fun hc => ?_)
  · have hik : i < k.toNat := by omega
    refine T.skip (T.seq (T.block (T.seq (T.region ?_))))
    refine TO.quiet (q_load_boxAgg 1 Tryd.underlying25 rfl inf25 rfl rfl rfl) (TO.quiet (q_move rfl) ?_)
    have hk21 := fun (w1 : World) (hI : Inv w [rowI b c 3 1 (nats (itF d i)), oI b1 25 [(.int .i64 d.vars), (.int .i64 d.start), (.slice nb d.next.length nc), (.slice fb d.final.length fc)]] w1) => (haveI := Inv.tab (P := Tryd.prog) hI; refineC w1 d nb fb nc fc vs (hI.dfa h) hv b c (itF d i) (hI.slOf (List.mem_of_getElem? (i := 0) rfl)) (itF_length d i) (itF_lt hn i))
    refine TO.loud rfl (l_call ent95 (CallT.of_pure hk21) rfl ?_)
    clear hk21
    rintro v O' ⟨N, rfl, b9, c9, rfl, rfl⟩
    refine TO.quiet (q_assign rfl) ?_
    refine TO.nil (T.seq (T.seq (T.region ?_)))
    refine TO.quiet (q_move rfl) (TO.quiet (q_move rfl) ?_)
    by_cases hst : refineF d (itF d i) = itF d i
    · have hk24 := fun (w1 : World) (hI : Inv w [rowI b9 c9 3 1 (nats (refineF d (itF d i))), rowI b c 3 1 (nats (itF d i)), oI b1 25 [(.int .i64 d.vars), (.int .i64 d.start), (.slice nb d.next.length nc), (.slice fb d.final.length fc)]] w1) => (haveI := Inv.tab (P := Tryd.prog) hI; slicesEqual w1 b9 b c9 c d.next.length (refineF d (itF d i)) (itF d i) (hI.slOf (List.mem_of_getElem? (i := 0) rfl)) (hI.slOf (List.mem_of_getElem? (i := 1) rfl)) (itF_length d (i + 1)) (itF_length d i) (by omega))
      refine TO.loud rfl (l_call ent96 (CallT.of_pure hk24) rfl ?_)
      clear hk24
      rintro v O' ⟨N, rfl, rfl, rfl⟩
      rw [decide_eq_true hst]
      refine TO.nil ?_
      refine T.cond1 rfl ?_
      refine T.exit ?_
      refine T.seq (T.region ?_)
      refine TO.quiet (q_move rfl) (TO.quiet (q_assign rfl) (TO.quiet (q_assign rfl) ?_))
      refine TO.nil (T.ret (Res.drop ?_))
      refine Res.two (.slice b d.next.length c) (.int .i64 0) Tryd.results88 rfl rfl ?_
      have hx : itF d k.toNat = itF d i := itF_stable hst _ hki
      exact ⟨[rowI b c 3 1 (nats (itF d i))], (Sub.pick [1] rfl), _, _, rfl, by rw [hx]⟩
    have hk24 := fun (w1 : World) (hI : Inv w [rowI b9 c9 3 1 (nats (refineF d (itF d i))), rowI b c 3 1 (nats (itF d i)), oI b1 25 [(.int .i64 d.vars), (.int .i64 d.start), (.slice nb d.next.length nc), (.slice fb d.final.length fc)]] w1) => (haveI := Inv.tab (P := Tryd.prog) hI; slicesEqual w1 b9 b c9 c d.next.length (refineF d (itF d i)) (itF d i) (hI.slOf (List.mem_of_getElem? (i := 0) rfl)) (hI.slOf (List.mem_of_getElem? (i := 1) rfl)) (itF_length d (i + 1)) (itF_length d i) (by omega))
    refine TO.loud rfl (l_call ent96 (CallT.of_pure hk24) rfl ?_)
    clear hk24
    rintro v O' ⟨N, rfl, rfl, rfl⟩
    rw [decide_eq_false hst]
    refine TO.nil ?_
    refine T.cond0 rfl ?_
    refine T.skip (T.region ?_)
    refine TO.quiet (q_move rfl) (TO.quiet (q_assign rfl) ?_)
    refine TO.nil (T.region ?_)
    refine TO.quiet (q_inc rfl rfl (by omega)) (TO.quiet (q_move rfl) ?_)
    refine TO.sub (O' := [rowI b9 c9 3 1 (nats (refineF d (itF d i))), oI b1 25 [(.int .i64 d.vars), (.int .i64 d.start), (.slice nb d.next.length nc), (.slice fb d.final.length fc)]]) (Sub.pick [0, 1] rfl) ?_
    refine TO.nil ?_
    exact ⟨i + 1, by omega, b9, c9, rfl, by omega, ⟨rfl, rfl, rfl, rfl, rfl, rfl, rfl, rfl, rfl, trivial⟩⟩
  refine T.exit ?_
  refine T.seq (T.region ?_)
  refine TO.quiet (q_move rfl) (TO.quiet (q_assign rfl) (TO.quiet (q_assign rfl) ?_))
  refine TO.nil (T.ret (Res.drop ?_))
  refine Res.two (.slice b d.next.length c) (.int .i64 0) Tryd.results88 rfl rfl ?_
  have hx : itF d k.toNat = itF d i := by rw [show k.toNat = i by omega]
  exact ⟨[rowI b c 3 1 (nats (itF d i))], (Sub.pick [0] rfl), _, _, rfl, by rw [hx]⟩
set_option maxHeartbeats 1000000 in
set_option maxRecDepth 20000 in
theorem classesBad (w : World) [Tab Tryd.prog w] (d : DFA) (nb fb : Option Addr) (nc fc : Nat) (vs : List Value) (h : DfaAt w d nb vs fb) (hb : d.next.length < 9223372036854775807) (hbr : ∀ r ∈ d.next, r.length < 9223372036854775807) (hbf : d.final.length < 9223372036854775807) (he : checkD d ≠ 0) :
    PureT Tryd.prog 84 [.agg (dfaCells d nb nc fb fc).toArray] w fun v N => v = .tuple #[.slice none 0 0, .int .i64 (checkD d : Int)] ∧ N = [] := by
  refine CallT.enter Tryd.func84 rfl Tryd.ntmps84 rfl ?_
  refine T.seq (T.region ?_)
  refine TO.loud rfl (l_box (v := (.agg #[(.int .i64 d.vars), (.int .i64 d.start), (.slice nb d.next.length nc), (.slice fb d.final.length fc)])) (cs := [(.int .i64 d.vars), (.int .i64 d.start), (.slice nb d.next.length nc), (.slice fb d.final.length fc)]) rfl rfl (fun b1 => ?_))
  refine TO.quiet (q_assign rfl) (TO.quiet (q_assign rfl) ?_)
  refine TO.nil (T.seq (T.region ?_))
  refine TO.quiet (q_load_boxAgg 0 Tryd.underlying25 rfl inf25 rfl rfl rfl) (TO.quiet (q_fieldAddr Tryd.underlying25 rfl inf22 rfl rfl) (TO.quiet (q_load_box 0 Tryd.underlying22 rfl rfl rfl rfl) (TO.quiet (q_len Tryd.underlying22 rfl) ?_)))
  have hk8 := fun (w1 : World) (hI : Inv w [oI b1 25 [(.int .i64 d.vars), (.int .i64 d.start), (.slice nb d.next.length nc), (.slice fb d.final.length fc)]] w1) => (haveI := Inv.tab (P := Tryd.prog) hI; roundsBad w1 d nb fb nc fc vs (hI.dfa h) hb hbr hbf he d.next.length)
  refine TO.loud rfl (l_call ent88 (CallT.of_pure hk8) rfl ?_)
  clear hk8
  rintro v O' ⟨N, rfl, rfl, rfl⟩
  refine TO.quiet (q_extract (vs := _) rfl rfl) (TO.quiet (q_extract (vs := _) rfl rfl) (TO.quiet (q_assign rfl) (TO.quiet (q_assign rfl) ?_)))
  refine TO.nil (T.ret (Res.drop ?_))
  refine Res.two (.slice none 0 0) (.int .i64 (checkD d : Int)) Tryd.results84 rfl rfl ?_
  exact ⟨[], Sub.of (List.nil_sublist _), rfl, rfl⟩
set_option maxHeartbeats 1000000 in
set_option maxRecDepth 20000 in
theorem classesOk (w : World) [Tab Tryd.prog w] (d : DFA) (nb fb : Option Addr) (nc fc : Nat) (vs : List Value) (h : DfaAt w d nb vs fb) (hv : Valid d) (hn : d.next.length < 10000) :
    PureT Tryd.prog 84 [.agg (dfaCells d nb nc fb fc).toArray] w fun v N => ∃ b c, v = .tuple #[.slice b d.next.length c, .int .i64 0] ∧ N = [rowI b c 3 1 (nats (itF d d.next.length))] := by
  refine CallT.enter Tryd.func84 rfl Tryd.ntmps84 rfl ?_
  refine T.seq (T.region ?_)
  refine TO.loud rfl (l_box (v := (.agg #[(.int .i64 d.vars), (.int .i64 d.start), (.slice nb d.next.length nc), (.slice fb d.final.length fc)])) (cs := [(.int .i64 d.vars), (.int .i64 d.start), (.slice nb d.next.length nc), (.slice fb d.final.length fc)]) rfl rfl (fun b1 => ?_))
  refine TO.quiet (q_assign rfl) (TO.quiet (q_assign rfl) ?_)
  refine TO.nil (T.seq (T.region ?_))
  refine TO.quiet (q_load_boxAgg 0 Tryd.underlying25 rfl inf25 rfl rfl rfl) (TO.quiet (q_fieldAddr Tryd.underlying25 rfl inf22 rfl rfl) (TO.quiet (q_load_box 0 Tryd.underlying22 rfl rfl rfl rfl) (TO.quiet (q_len Tryd.underlying22 rfl) ?_)))
  have hk8 := fun (w1 : World) (hI : Inv w [oI b1 25 [(.int .i64 d.vars), (.int .i64 d.start), (.slice nb d.next.length nc), (.slice fb d.final.length fc)]] w1) => (haveI := Inv.tab (P := Tryd.prog) hI; roundsOk w1 d nb fb nc fc vs (hI.dfa h) hv hn d.next.length (by omega))
  refine TO.loud rfl (l_call ent88 (CallT.of_pure hk8) rfl ?_)
  clear hk8
  rintro v O' ⟨N, rfl, b, c, rfl, rfl⟩
  refine TO.quiet (q_extract (vs := _) rfl rfl) (TO.quiet (q_extract (vs := _) rfl rfl) (TO.quiet (q_assign rfl) (TO.quiet (q_assign rfl) ?_)))
  refine TO.nil (T.ret (Res.drop ?_))
  refine Res.two (.slice b d.next.length c) (.int .i64 0) Tryd.results84 rfl rfl ?_
  exact ⟨[rowI b c 3 1 (nats (itF d d.next.length))], (Sub.pick [0] rfl), _, _, rfl, rfl⟩
end Go.Proofs.YtnmfefmhfkhihaaDoor


namespace Go.Proofs.YtnmfefmhfkhihaaDoor
open Go.Lx Go.RowKit
set_option linter.unusedVariables false
set_option linter.unusedSimpArgs false
set_option maxHeartbeats 1000000 in
set_option maxRecDepth 20000 in
theorem visitHit (base : World) [Tab Tryd.prog base] (bx m : Nat) (ks : List (List UInt8)) (key : List UInt8) (hk : key ∈ ks) (hb : ks.length < 1000000) :
    CallT Tryd.prog base 77 [str key, .pointer (some ⟨bx, 0, none⟩)] [objI bx (.cells #[.map (some m)] 108 (0, 0)), mapI str (fun n : Nat => Value.int .i64 (n : Int)) m ks.zipIdx] (fun v O' => v = .int .i64 ((ix key (add ks key) : Nat) : Int) ∧ O' = [objI bx (.cells #[.map (some m)] 108 (0, 0)), mapI str (fun n : Nat => Value.int .i64 (n : Int)) m (add ks key).zipIdx]) := by
  refine CallT.enter Tryd.func77 rfl Tryd.ntmps77 rfl ?_
  refine T.seq (T.region ?_)
  refine TO.quiet (q_assign rfl) ?_
  refine TO.nil (T.seq (T.region ?_))
  refine TO.quiet (q_load_box 0 Tryd.underlying108 rfl rfl rfl rfl) (TO.quiet (q_move rfl) (TO.quiet (QT.cast (q_lookupOk (a := key) Tryd.underlying108 inf3 (KeyOk.string Tryd.underlying9) rfl rfl (List.mem_of_getElem? (i := 1) rfl)) (v' := (.tuple #[.int .i64 ((ix key ks : Nat) : Int), .bool true])) (by rw [look_zip]; simp [hk])) (TO.quiet (q_move rfl) ?_)))
  refine TO.quiet (q_extract (vs := _) rfl rfl) (TO.quiet (q_extract (vs := _) rfl rfl) (TO.quiet (q_assign rfl) (TO.quiet (q_assign rfl) ?_)))
  refine TO.nil (T.seq (T.seq (T.region ?_)))
  refine TO.quiet (q_move rfl) (TO.quiet (q_not rfl) ?_)
  refine TO.nil ?_
  refine T.cond0 rfl ?_
  refine T.skip (T.seq (T.region ?_))
  refine TO.quiet (q_move rfl) (TO.quiet (q_assign rfl) ?_)
  refine TO.nil (T.ret ?_)
  refine Res.one (.int .i64 ((ix key ks : Nat) : Int)) Tryd.results77 rfl ?_
  have ha : add ks key = ks := if_pos hk
  rw [ha]; exact ⟨rfl, rfl⟩
set_option maxHeartbeats 1000000 in
set_option maxRecDepth 20000 in
theorem visitMiss (base : World) [Tab Tryd.prog base] (bx m : Nat) (ks : List (List UInt8)) (key : List UInt8) (hk : key ∉ ks) (hb : ks.length < 1000000) :
    CallT Tryd.prog base 77 [str key, .pointer (some ⟨bx, 0, none⟩)] [objI bx (.cells #[.map (some m)] 108 (0, 0)), mapI str (fun n : Nat => Value.int .i64 (n : Int)) m ks.zipIdx] (fun v O' => v = .int .i64 ((ix key (add ks key) : Nat) : Int) ∧ O' = [objI bx (.cells #[.map (some m)] 108 (0, 0)), mapI str (fun n : Nat => Value.int .i64 (n : Int)) m (add ks key).zipIdx]) := by
  refine CallT.enter Tryd.func77 rfl Tryd.ntmps77 rfl ?_
  refine T.seq (T.region ?_)
  refine TO.quiet (q_assign rfl) ?_
  refine TO.nil (T.seq (T.region ?_))
  refine TO.quiet (q_load_box 0 Tryd.underlying108 rfl rfl rfl rfl) (TO.quiet (q_move rfl) (TO.quiet (QT.cast (q_lookupOk (a := key) Tryd.underlying108 inf3 (KeyOk.string Tryd.underlying9) rfl rfl (List.mem_of_getElem? (i := 1) rfl)) (v' := (.tuple #[.int .i64 0, .bool false])) (by rw [look_zip]; simp [hk])) (TO.quiet (q_move rfl) ?_)))
  refine TO.quiet (q_extract (vs := _) rfl rfl) (TO.quiet (q_extract (vs := _) rfl rfl) (TO.quiet (q_assign rfl) (TO.quiet (q_assign rfl) ?_)))
  refine TO.nil (T.seq (T.seq (T.region ?_)))
  refine TO.quiet (q_move rfl) (TO.quiet (q_not rfl) ?_)
  refine TO.nil ?_
  refine T.cond1 rfl ?_
  refine T.seq (T.region ?_)
  refine TO.quiet (q_load_box 0 Tryd.underlying108 rfl rfl rfl rfl) (TO.quiet (QT.cast (q_lenMap Tryd.underlying108 rfl (List.mem_of_getElem? (i := 1) rfl)) (v' := .int .i64 ((ks.length : Nat) : Int)) (by simp)) (TO.quiet (q_assign rfl) ?_))
  refine TO.nil (T.region ?_)
  refine TO.quiet (q_load_box 0 Tryd.underlying108 rfl rfl rfl rfl) (TO.quiet (q_move rfl) (TO.quiet (q_move rfl) ?_))
  refine TO.loud rfl (l_mapPut (a := key) (v := ks.length) 1 Tryd.underlying108 (KeyOk.string Tryd.underlying9) rfl rfl rfl rfl (by rw [zipIdx_fst]; exact hk) ?_)
  refine TO.nil (T.seq (T.region ?_))
  refine TO.quiet (q_move rfl) (TO.quiet (q_assign rfl) ?_)
  refine TO.nil (T.ret ?_)
  refine Res.one (.int .i64 ((ks.length : Nat) : Int)) Tryd.results77 rfl ?_
  have ha : add ks key = ks ++ [key] := if_neg hk
  rw [ha]
  refine ⟨by rw [ix_append_right hk]; simp [ix], ?_⟩
  rw [show (ks ++ [key]).zipIdx = ks.zipIdx ++ [(key, ks.length)] by rw [List.zipIdx_append]; simp]; rfl
theorem visit (base : World) [Tab Tryd.prog base] (bx m : Nat) (ks : List (List UInt8)) (key : List UInt8) (hb : ks.length < 1000000) :
    CallT Tryd.prog base 77 [str key, .pointer (some ⟨bx, 0, none⟩)] [objI bx (.cells #[.map (some m)] 108 (0, 0)), mapI str (fun n : Nat => Value.int .i64 (n : Int)) m ks.zipIdx] (fun v O' => v = .int .i64 ((ix key (add ks key) : Nat) : Int) ∧ O' = [objI bx (.cells #[.map (some m)] 108 (0, 0)), mapI str (fun n : Nat => Value.int .i64 (n : Int)) m (add ks key).zipIdx]) := by
  by_cases hk : key ∈ ks
  · exact visitHit base bx m ks key hk hb
  · exact visitMiss base bx m ks key hk hb
set_option maxHeartbeats 1000000 in
set_option maxRecDepth 20000 in
theorem exploreC (base : World) [Tab Tryd.prog base] (tr : List UInt8 → Nat → List UInt8) (L B : Nat) (start : List UInt8) (fv : Value) (J : List (List UInt8) → List Lx.Item → Prop) (Good : List (List UInt8) → Prop) (hL : L ≤ 64) (hB : B ≤ 4096)
    (hn : ∀ (ks : List (List UInt8)) (s x : Nat) (O : List Lx.Item), s < ks.length → x < L → Good ks → J ks O → CallV Tryd.prog base fv [.int .i64 (s : Int), .int .u8 (x : Int)] O (fun v O' => v = str (tr (ks.getD s []) x) ∧ Good (add ks (tr (ks.getD s []) x)) ∧ J (add ks (tr (ks.getD s []) x)) O'))
    (hg : ∀ ks, Good ks → ks.length ≤ B) (O : List Lx.Item) (h0 : Good [start]) (hJ0 : J [start] O) :
    CallT Tryd.prog base 66 [.int .i64 (L : Int), .int .i64 (B : Int), str start, fv] O (fun v O' => ∃ b c qs N O1, v = .tuple #[.slice b N c, .bool true] ∧ O' = rowI b c 41 1 (vals qs) :: (itms 3 qs ++ O1) ∧ J (exN tr L start N) O1 ∧ Good (exN tr L start N) ∧ (exN tr L start N).length = N ∧ ExOk tr L (exN tr L start N) N (nums qs) ∧ ∀ i, i < N → i < (exN tr L start i).length) := by
  refine CallT.enter Tryd.func66 rfl Tryd.ntmps66 rfl ?_
  refine T.seq (T.region ?_)
  refine TO.quiet (q_assign rfl) (TO.quiet (q_assign rfl) ?_)
  refine TO.nil ?_
  refine T.scope ?_ (fun _ _ _ h => h)
  refine T.seq (T.region ?_)
  refine TO.loud rfl (l_makeMap str (fun n : Nat => Value.int .i64 (n : Int)) (fun m1 => ?_))
  refine TO.quiet (q_move rfl) ?_
  refine TO.loud rfl (l_mapInsert (a := start) (v := (0 : Nat)) 0 Tryd.underlying108 (KeyOk.string Tryd.underlying9) rfl rfl rfl rfl (by simp) ?_)
  refine TO.quiet (q_move rfl) ?_
  refine TO.loud rfl (l_alloc inf108 rfl (fun b2 => ?_))
  refine TO.loud rfl (l_store_box (v := (.map (some m1))) (vs := [(.map (some m1))]) 0 inf108 rfl rfl rfl rfl rfl rfl (by simp [putL]) ?_)
  refine TO.nil (T.seq (T.region ?_))
  refine TO.quiet (q_makeFunc) (TO.quiet (q_assign rfl) ?_)
  refine TO.nil (T.seq ?_)
  refine T.label ?_
  refine T.seq (T.seq (T.region ?_))
  refine TO.quiet (q_assign rfl) ?_
  refine TO.nil (T.block ?_)
  refine T.nilRow 41 1 ?_
  refine T.loop (fun (s : Nat) ρ O => ∃ (ks : List (List UInt8)) (qs : List Rec) (ob : Option Addr) (oc : Nat) (O1 : List Lx.Item), O = ([rowI ob oc 41 1 (vals qs), oI b2 108 [(.map (some m1))], mapI str (fun n : Nat => Value.int .i64 (n : Int)) m1 ks.zipIdx] ++ (itms 3 qs ++ O1)) ∧ exN tr L start s = ks ∧ Good ks ∧ J ks O1 ∧ ExOk tr L ks s (nums qs) ∧ (∀ i, i < s → i < (exN tr L start i).length) ∧ Heads [(0, .int .i64 (L : Int)), (1, .int .i64 (B : Int)), (2, str start), (3, fv), (8, (.slice ob s oc)), (9, .bool false), (10, (.pointer (some ⟨b2, 0, none⟩))), (11, (.func (.func 77) #[] #[(.pointer (some ⟨b2, 0, none⟩))])), (12, .int .i64 (s : Int))] ρ) (fun s => B - s) 0 ?_ ?_
  · exact ⟨[start], [], none, 0, O, rfl, rfl, h0, hJ0, ⟨rfl, by simp, fun i hi => absurd hi (by omega), fun i hi => absurd hi (by omega)⟩, fun i hi => absurd hi (by omega), ⟨rfl, rfl, rfl, rfl, rfl, rfl, rfl, rfl, rfl, trivial⟩⟩
  rintro s ρ O ⟨ks, qs, ob, oc, O1, rfl, hks, hG, hJ, hE, hen, hH⟩
  obtain ⟨ρ0, rfl⟩ := hH.elim
  clear hH
  have hgl := hg _ hG
  have hql : qs.length = s := by have := hE.len; simpa using this
  refine T.seq (T.seq (T.region ?_))
  refine TO.quiet (q_move rfl) (TO.quiet (q_load_box 1 Tryd.underlying108 rfl rfl rfl rfl) (TO.quiet (QT.cast (q_lenMap Tryd.underlying108 rfl (List.mem_of_getElem? (i := 2) rfl)) (v' := .int .i64 (ks.length : Int)) (by rw [List.length_zipIdx])) (TO.quiet (q_lss rfl rfl) ?_)))
  refine TO.nil ?_
  refine T.condP rfl (fun hc => ?_) (fun hc => ?_)
  · have hlt22 : s < ks.length := by omega
    refine T.skip (T.seq (T.block (T.seq (T.region ?_))))
    refine TO.quiet (q_move rfl) ?_
    refine TO.loud rfl (l_makeSlice (m := L) Tryd.underlying41 inf3 rfl rfl (by omega) (by omega) (fun b3 => ?_))
    refine TO.quiet (q_assign rfl) ?_
    refine TO.nil (T.seq (T.seq (T.region ?_)))
    refine TO.quiet (q_move rfl) (TO.quiet (q_len Tryd.underlying41 rfl) (TO.quiet (q_move rfl) ?_))
    refine TO.nil (T.block ?_)
    refine T.loop (fun (x : Nat) ρ O => ∃ (ks2 : List (List UInt8)) (ys : List Int) (O2 : List Lx.Item), O = ([rowI (some ⟨b3, 0, none⟩) L 3 1 (ints ys), rowI ob oc 41 1 (vals qs), oI b2 108 [(.map (some m1))], mapI str (fun n : Nat => Value.int .i64 (n : Int)) m1 ks2.zipIdx] ++ (itms 3 qs ++ O2)) ∧ x ≤ L ∧ ys.length = L ∧ Good ks2 ∧ J ks2 O2 ∧ ks2 = ((List.range x).map (tr (ks.getD s []))).foldl add ks ∧ (∀ i, i < x → ys[i]? = some ((ix (tr (ks.getD s []) i) ks2 : Nat) : Int)) ∧ Heads [(0, .int .i64 (L : Int)), (1, .int .i64 (B : Int)), (2, str start), (3, fv), (8, (.slice ob s oc)), (9, .bool false), (10, (.pointer (some ⟨b2, 0, none⟩))), (11, (.func (.func 77) #[] #[(.pointer (some ⟨b2, 0, none⟩))])), (12, .int .i64 (s : Int)), (13, (.slice (some ⟨b3, 0, none⟩) L L)), (28, .int .i64 (L : Int)), (29, .int .i64 (x : Int))] ρ) (fun x => L - x) 0 ?_ ?_
    · exact ⟨ks, List.replicate L 0, O1, by simp, Nat.zero_le _, by simp, hG, hJ, rfl, fun i hi => absurd hi (by omega), ⟨rfl, rfl, rfl, rfl, rfl, rfl, rfl, rfl, rfl, rfl, rfl, rfl, trivial⟩⟩
    rintro x ρ O ⟨ks2, ys, O2, rfl, hx, hyl, hG2, hJ2, hk2, hys, hH⟩
    obtain ⟨ρ0, rfl⟩ := hH.elim
    clear hH
    have hgl2 := hg _ hG2
    have hpre : ks <+: ks2 := hk2 ▸ foldl_prefix _ _
    have hks2 : ks2.getD s [] = ks.getD s [] := prefix_getD hpre hlt22
    have hple := hpre.length_le
    refine T.seq (T.region ?_)
    refine TO.quiet (q_lss rfl rfl) ?_
    refine TO.nil (T.seq ?_)
    refine T.condP rfl (fun hc => ?_) (fun hc => ?_)
    · have hlt30 : x < L := by omega
      refine T.skip (T.seq (T.block (T.seq (T.region ?_))))
      refine TO.quiet (q_move rfl) (TO.quiet (q_assign rfl) ?_)
      refine TO.nil (T.seq (T.region ?_))
      refine TO.quiet (q_move rfl) (TO.quiet (q_move rfl) (TO.quiet (q_move rfl) (TO.quiet (q_move rfl) ?_)))
      refine TO.quiet (q_move rfl) (TO.quiet (q_move rfl) (TO.quiet (q_conv_id Tryd.underlying3 Tryd.underlying5 rfl (show IntKind.u8.wrap (x : Int) = (x : Int) by unfold IntKind.wrap; simp [IntKind.bits, IntKind.signed]; omega)) ?_))
      have hk39 := CallV.under (B := [rowI (some ⟨b3, 0, none⟩) L 3 1 (ints ys), rowI ob oc 41 1 (vals qs), oI b2 108 [(.map (some m1))], mapI str (fun n : Nat => Value.int .i64 (n : Int)) m1 ks2.zipIdx] ++ itms 3 qs) (O := ([rowI (some ⟨b3, 0, none⟩) L 3 1 (ints ys), rowI ob oc 41 1 (vals qs), oI b2 108 [(.map (some m1))], mapI str (fun n : Nat => Value.int .i64 (n : Int)) m1 ks2.zipIdx] ++ (itms 3 qs ++ O2))) (hn ks2 s x O2 (by omega) hlt30 hG2 hJ2) (Sub.cnt [] (by intro a; simp only [itms, oI, List.set_cons_zero, List.set_cons_succ, putL, List.cons_append, List.nil_append, List.append_nil, List.append_assoc, List.map_append, List.map_cons, List.map_nil, cnt_append, cnt_cons, cnt_nil] <;> omega))
      refine TO.loud rfl (l_callG hk39 rfl rfl ?_)
      clear hk39
      rintro v O' ⟨O3, rfl, rfl, hG3, hJ3⟩
      refine TO.sub (O' := ([rowI (some ⟨b3, 0, none⟩) L 3 1 (ints ys), rowI ob oc 41 1 (vals qs), oI b2 108 [(.map (some m1))], mapI str (fun n : Nat => Value.int .i64 (n : Int)) m1 ks2.zipIdx] ++ (itms 3 qs ++ O3))) (Sub.cnt [] (by intro a; simp only [itms, oI, List.set_cons_zero, List.set_cons_succ, putL, List.cons_append, List.nil_append, List.append_nil, List.append_assoc, List.map_append, List.map_cons, List.map_nil, cnt_append, cnt_cons, cnt_nil] <;> omega)) ?_
      rw [hks2] at hG3 hJ3 ⊢
      have hk40 := CallV.of_fn (first := []) (args := [str (tr (ks.getD s []) x)]) (caps := [(.pointer (some ⟨b2, 0, none⟩))]) ent77 (CallT.under (B := [rowI (some ⟨b3, 0, none⟩) L 3 1 (ints ys), rowI ob oc 41 1 (vals qs)] ++ (itms 3 qs ++ O3)) (O := ([rowI (some ⟨b3, 0, none⟩) L 3 1 (ints ys), rowI ob oc 41 1 (vals qs), oI b2 108 [(.map (some m1))], mapI str (fun n : Nat => Value.int .i64 (n : Int)) m1 ks2.zipIdx] ++ (itms 3 qs ++ O3))) (visit base b2 m1 ks2 (tr (ks.getD s []) x) (by have := hg _ hG2; omega)) (Sub.pickR [2, 2, 0, 0] [rowI (some ⟨b3, 0, none⟩) L 3 1 (ints ys), rowI ob oc 41 1 (vals qs), oI b2 108 [(.map (some m1))], mapI str (fun n : Nat => Value.int .i64 (n : Int)) m1 ks2.zipIdx] (itms 3 qs ++ O3) rfl rfl))
      refine TO.loud rfl (l_callG hk40 rfl rfl ?_)
      clear hk40
      rintro v O' ⟨A1, rfl, rfl, rfl⟩
      refine TO.sub (O' := ([rowI (some ⟨b3, 0, none⟩) L 3 1 (ints ys), rowI ob oc 41 1 (vals qs), oI b2 108 [(.map (some m1))], mapI str (fun n : Nat => Value.int .i64 (n : Int)) m1 ((add ks2 (tr (ks.getD s []) x)).zipIdx)] ++ (itms 3 qs ++ O3))) (Sub.pickR [2, 2, 0, 0] [oI b2 108 [(.map (some m1))], mapI str (fun n : Nat => Value.int .i64 (n : Int)) m1 ((add ks2 (tr (ks.getD s []) x)).zipIdx), rowI (some ⟨b3, 0, none⟩) L 3 1 (ints ys), rowI ob oc 41 1 (vals qs)] (itms 3 qs ++ O3) rfl rfl) ?_
      refine TO.quiet (q_ix (i := x) Tryd.underlying41 inf3 rfl rfl (rowO (List.mem_of_getElem? (i := 0) rfl))) ?_
      refine TO.loud rfl (l_st (j := x) (v := .int .i64 ((ix (tr (ks.getD s []) x) (add ks2 (tr (ks.getD s []) x)) : Nat) : Int)) (vs := [(.int .i64 ((ix (tr (ks.getD s []) x) (add ks2 (tr (ks.getD s []) x)) : Nat) : Int))]) (cs := ints ys) 0 inf3 rfl rfl rfl rfl rfl (by simp) rfl (by first | (simp; omega) | (simp_all; omega)) ?_)
      refine TO.sub (O' := ([rowI (some ⟨b3, 0, none⟩) L 3 1 (ints (ys.set x ((ix (tr (ks.getD s []) x) (add ks2 (tr (ks.getD s []) x)) : Nat) : Int))), rowI ob oc 41 1 (vals qs), oI b2 108 [(.map (some m1))], mapI str (fun n : Nat => Value.int .i64 (n : Int)) m1 ((add ks2 (tr (ks.getD s []) x)).zipIdx)] ++ (itms 3 qs ++ O3))) (by rw [show putL (ints ys) x [(.int .i64 ((ix (tr (ks.getD s []) x) (add ks2 (tr (ks.getD s []) x)) : Nat) : Int))] = ints (ys.set x ((ix (tr (ks.getD s []) x) (add ks2 (tr (ks.getD s []) x)) : Nat) : Int)) from by simp [putL]]; exact Sub.of (List.Sublist.refl _)) ?_
      refine TO.nil (T.seq (T.region ?_))
      refine TO.quiet (q_load_box 2 Tryd.underlying108 rfl rfl rfl rfl) (TO.quiet (QT.cast (q_lenMap Tryd.underlying108 rfl (List.mem_of_getElem? (i := 3) rfl)) (v' := .int .i64 ((add ks2 (tr (ks.getD s []) x)).length : Int)) (by rw [List.length_zipIdx])) (TO.quiet (q_move rfl) (TO.quiet (q_gtr rfl rfl) ?_)))
      refine TO.nil ?_
      refine T.condP rfl (fun hc => ?_) (fun hc => ?_)
      · exact absurd hc (by have := hg _ hG3; omega)
      have hge45 : ¬ (add ks2 (tr (ks.getD s []) x)).length > B := by omega
      refine T.skip (T.region ?_)
      refine TO.quiet (q_inc rfl rfl (by omega)) (TO.quiet (q_move rfl) ?_)
      refine TO.nil ?_
      have hmm : ∀ y, y < x → tr (ks.getD s []) y ∈ ks2 := fun y hy => by rw [hk2, mem_foldl_add]; exact .inr (List.mem_map_of_mem (List.mem_range.2 hy))
      refine ⟨x + 1, by omega, add ks2 (tr (ks.getD s []) x), ys.set x ((ix (tr (ks.getD s []) x) (add ks2 (tr (ks.getD s []) x)) : Nat) : Int), O3, rfl, by omega, by simp [hyl], hG3, hJ3, by rw [foldl_add_snoc, ← hk2], fun i hi => ?_, ⟨rfl, rfl, rfl, rfl, rfl, rfl, rfl, rfl, rfl, rfl, rfl, rfl, trivial⟩⟩
      by_cases e : i = x
      · subst e; rw [List.getElem?_set_self (by omega)]
      · rw [List.getElem?_set_ne (fun h => e h.symm), hys i (by omega), ix_prefix (add_prefix _ _) (hmm i (by omega))]
    have hge30 : ¬ x < L := by omega
    refine T.exit ?_
    refine T.region ?_
    refine TO.quiet (q_move rfl) (TO.quiet (q_move rfl) ?_)
    refine TO.loud rfl (l_build1 (v := (.slice (some ⟨b3, 0, none⟩) L L)) Tryd.underlying22 inf41 rfl rfl rfl (fun b4 => ?_))
    refine TO.loud rfl (l_append 2 Tryd.underlying22 Tryd.underlying22 inf41 rfl rfl rfl rfl (by simp [hql]) (by decide) (Src.row (j := 0) rfl (by simp)) (by simp [oneB]) (by omega) (by decide) (by decide) (fun b5 c6 => ?_))
    refine TO.quiet (q_assign rfl) ?_
    refine TO.nil ?_
    refine T.sub (O' := [rowI b5 c6 41 1 (vals (qs ++ [⟨(some ⟨b3, 0, none⟩), L, ys⟩])), oI b2 108 [(.map (some m1))], mapI str (fun n : Nat => Value.int .i64 (n : Int)) m1 ks2.zipIdx] ++ (itms 3 (qs ++ [⟨(some ⟨b3, 0, none⟩), L, ys⟩]) ++ O2)) (by
      rw [show vals (qs ++ [⟨(some ⟨b3, 0, none⟩), L, ys⟩]) = (vals qs) ++ [(.slice (some ⟨b3, 0, none⟩) L L)] by simp [Rec.val, hyl]]
      exact Sub.cnt [rowI (some ⟨b4, 0, none⟩) 1 41 1 [(.slice (some ⟨b3, 0, none⟩) L L)]] (by intro a; simp only [List.set_cons_zero, List.set_cons_succ, itms, List.map_append, List.map_cons, List.map_nil, Rec.itm, cnt_append, cnt_cons, cnt_nil, List.cons_append, List.nil_append, List.append_assoc, List.append_nil] <;> omega)) ?_
    refine T.region ?_
    refine TO.quiet (q_move rfl) (TO.quiet (q_inc rfl rfl (by omega)) (TO.quiet (q_assign rfl) ?_))
    refine TO.nil ?_
    have hxL : x = L := by omega
    have hmm : ∀ y, y < L → tr (ks.getD s []) y ∈ ks2 := fun y hy => by rw [hk2, mem_foldl_add]; exact .inr (List.mem_map_of_mem (List.mem_range.2 (by omega)))
    have hyr : ys = exRow tr L ks2 s := by
      apply List.ext_getElem?
      intro i
      by_cases hi : i < L
      · rw [hys i (by omega)]; simp only [exRow, hks2]; simp [hi]
      · rw [List.getElem?_eq_none (by omega), List.getElem?_eq_none (by simp [exRow]; omega)]
    have hE2 : ExOk tr L ks2 (s + 1) (nums (qs ++ [⟨(some ⟨b3, 0, none⟩), L, ys⟩])) := by
      have := hE.snoc hpre hlt22 hyr (by rw [hks2]; exact hmm)
      simpa [nums] using this
    have hen2 : ∀ i, i < s + 1 → i < (exN tr L start i).length := fun i hi => by
      by_cases e : i = s
      · subst e; rw [hks]; exact hlt22
      · exact hen i (by omega)
    exact ⟨s + 1, by omega, ks2, qs ++ [⟨(some ⟨b3, 0, none⟩), L, ys⟩], b5, c6, O2, rfl, by rw [exN, hks, hk2, hxL], hG2, hJ2, hE2, hen2, ⟨rfl, rfl, rfl, rfl, rfl, rfl, rfl, rfl, rfl, trivial⟩⟩
  have hge22 : ¬ s < ks.length := by omega
  refine T.exit ?_
  refine T.seq (T.region ?_)
  refine TO.quiet (q_move rfl) (TO.quiet (q_load_box 1 Tryd.underlying108 rfl rfl rfl rfl) (TO.quiet (QT.cast (q_lenMap Tryd.underlying108 rfl (List.mem_of_getElem? (i := 2) rfl)) (v' := .int .i64 (ks.length : Int)) (by rw [List.length_zipIdx])) (TO.quiet (q_move rfl) ?_)))
  refine TO.quiet (QT.toB (q_leq rfl rfl) (decide_eq_true (by have := hg _ hG; omega))) (TO.quiet (q_assign rfl) (TO.quiet (q_assign rfl) ?_))
  refine TO.nil (T.ret (Res.drop ?_))
  refine Res.two (.slice ob s oc) (.bool true) Tryd.results66 rfl rfl ?_
  have hN : ks.length = s := by have := hE.le; omega
  exact ⟨_, (Sub.pickR [0] [rowI ob oc 41 1 (vals qs), oI b2 108 [(.map (some m1))], mapI str (fun n : Nat => Value.int .i64 (n : Int)) m1 ks.zipIdx] (itms 3 qs ++ O1) rfl rfl), ob, oc, qs, s, O1, rfl, rfl, by rw [hks]; exact hJ, by rw [hks]; exact hG, by rw [hks]; exact hN, by rw [hks]; exact hE, hen⟩
set_option maxHeartbeats 1000000 in
set_option maxRecDepth 20000 in
theorem nextC (base : World) [Tab Tryd.prog base] (d : DFA) (nb fb : Option Addr) (nc fc : Nat) (vs : List Value) (h : DfaAt base d nb vs fb) (hv : Valid d) (hn : d.next.length < 10000) (b1 b2 b3 : Nat) (os : List Nat) (sn : List Bool) (ob sb : Option Addr) (oc sc sc2 s x : Nat) (hs : s < os.length) (hx : x < 2 ^ d.vars.toNat) (hos : ∀ o ∈ os, o < d.next.length) (hnd : os.Nodup) (hsl : sn.length = d.next.length) (hsn : ∀ t, t < d.next.length → sn[t]? = some (decide (t ∈ os))) :
    CallT Tryd.prog base 64 ([.int .i64 (s : Int), .int .u8 (x : Int)] ++ [.pointer (some ⟨b1, 0, none⟩), .pointer (some ⟨b2, 0, none⟩), .pointer (some ⟨b3, 0, none⟩)])
      [oI b1 25 [(.int .i64 d.vars), (.int .i64 d.start), (.slice nb d.next.length nc), (.slice fb d.final.length fc)], oI b2 41 [(.slice ob os.length oc)], rowI ob oc 3 1 (nats os), oI b3 23 [(.slice sb d.next.length sc)], rowI sb sc2 4 1 (bools sn)]
      (fun v O' => v = str (Lib.decDigits (toN d os[s] x)) ∧ ∃ ob' oc' sn', sn'.length = d.next.length ∧ (∀ t, t < d.next.length → sn'[t]? = some (decide (t ∈ add os (toN d os[s] x)))) ∧ O' = [oI b1 25 [(.int .i64 d.vars), (.int .i64 d.start), (.slice nb d.next.length nc), (.slice fb d.final.length fc)], oI b2 41 [(.slice ob' ((add os (toN d os[s] x)).length) oc')], rowI ob' oc' 3 1 (nats (add os (toN d os[s] x))), oI b3 23 [(.slice sb d.next.length sc)], rowI sb sc2 4 1 (bools sn')]) := by
  refine CallT.enter Tryd.func64 rfl Tryd.ntmps64 rfl ?_
  obtain ⟨o, hso⟩ : ∃ o, os[s] = o := ⟨_, rfl⟩
  have hso2 : os[s]? = some o := by rw [List.getElem?_eq_getElem hs, hso]
  have ho : o < d.next.length := hso ▸ hos _ (List.getElem_mem hs)
  obtain ⟨t, ht⟩ : ∃ t, toN d o x = t := ⟨_, rfl⟩
  obtain ⟨htn, _, hxr, hdx⟩ := hv.toN_lt ho hx
  rw [ht] at htn hdx
  rw [hso, ht]
  have hvl := h.rows.1
  have hw := hv.width
  obtain ⟨vb, vc, g1, s1⟩ := h.rows.get ho
  have hxt : (ints d.next[o])[x]? = some (.int .i64 ((t : Nat) : Int)) := by rw [ints_get hxr, hdx]
  have hol := nodup_bound hnd hos
  have hst := hsn t htn
  have htl : t < sn.length := by omega
  refine T.seq (T.region ?_)
  refine TO.quiet (q_assign rfl) ?_
  refine TO.nil (T.seq ?_)
  refine T.draws _ [(0, 0), (1, 0), (2, 0), (3, 0), (4, 0), (5, 0), (6, 0), (7, 0), (8, 0), (9, 0), (10, 0), (11, 0)] mixed (drawF_ok (by kernel_rfl)) (Sub.of (List.Sublist.refl _)) (fun _ _ _ h => h) ?_
  refine DO.quiet rfl (q_fieldAddr Tryd.underlying25 rfl inf22 rfl rfl) (DO.quiet rfl (q_load_box 0 Tryd.underlying22 rfl rfl rfl rfl) (DO.quiet rfl (q_load_box 1 Tryd.underlying41 rfl rfl rfl rfl) (DO.quiet rfl (q_move rfl) ?_)))
  refine DO.quiet rfl (q_ix (i := s) Tryd.underlying41 inf3 rfl rfl (rowO (List.mem_of_getElem? (i := 2) rfl)) hs (by rw [List.length_map]; exact hs)) (DO.quiet rfl (q_ld Tryd.underlying3 rfl rfl (rowO (List.mem_of_getElem? (i := 2) rfl)) (show (nats os)[s]? = some (.int .i64 ((o : Nat) : Int)) by rw [List.getElem?_map, hso2]; rfl)) (DO.quiet rfl (q_ix (i := o) Tryd.underlying22 inf41 rfl rfl (Sl.o h.outer) ho) (DO.quiet rfl (q_ld Tryd.underlying41 rfl rfl (Sl.o h.outer) g1) ?_)))
  refine DO.quiet rfl (q_move rfl) (DO.quiet rfl (q_ix (i := x) Tryd.underlying41 inf3 rfl rfl (Sl.o s1) hxr (by rw [List.length_map]; exact hxr)) (DO.quiet rfl (q_ld Tryd.underlying3 rfl rfl (Sl.o s1) hxt) (DO.quiet rfl (q_assign rfl) ?_)))
  refine DO.done ?_
  refine T.seq (T.seq (T.region ?_))
  refine TO.quiet (q_load_box 3 Tryd.underlying23 rfl rfl rfl rfl) (TO.quiet (q_move rfl) (TO.quiet (q_ix (i := t) Tryd.underlying23 inf4 rfl rfl (rowO (List.mem_of_getElem? (i := 4) rfl)) htn (by rw [List.length_map]; exact htl)) (TO.quiet (q_ld Tryd.underlying4 rfl rfl (rowO (List.mem_of_getElem? (i := 4) rfl)) (show (bools sn)[t]? = some (.bool (decide (t ∈ os))) by rw [List.getElem?_map, hst]; rfl)) ?_)))
  refine TO.quiet (q_not rfl) ?_
  refine TO.nil ?_
  refine T.condP (p := t ∉ os) (congrArg Value.bool (by simp)) (fun hc => ?_) (fun hc => ?_)
  · refine T.draws2 [oI b1 25 [(.int .i64 d.vars), (.int .i64 d.start), (.slice nb d.next.length nc), (.slice fb d.final.length fc)], oI b3 23 [(.slice sb d.next.length sc)], rowI sb sc2 4 1 (bools sn)] [oI b2 41 [(.slice ob os.length oc)]] [(0, 0), (1, 0), (2, 3), (3, 0), (4, 1), (5, 1), (6, 4), (7, 0), (8, 2)] mixed (by kernel_rfl) (Sub.pick [0, 2, 2] rfl) (Sub.pick [1] rfl) (fun _ _ _ h => h) ?_
    refine DO.quiet rfl (q_load_box 1 Tryd.underlying23 rfl rfl rfl rfl) (DO.quiet rfl (q_move rfl) ?_)
    refine DO.quiet2 rfl (q_load_box 0 Tryd.underlying41 rfl rfl rfl rfl) ?_
    refine DO.quiet rfl (q_move rfl) ?_
    refine DO.loud2 rfl rfl (l_build1 (v := .int .i64 ((t : Nat) : Int)) Tryd.underlying41 inf3 rfl rfl rfl (fun z1 => ⟨Sub.pick [1, 3, 3] rfl, Sub.pick [2] rfl, ?_⟩))
    refine DO.loud2 rfl rfl (l_append 3 Tryd.underlying41 Tryd.underlying41 inf3 rfl rfl rfl rfl (by simp) (by decide) (Src.row (j := 0) rfl (by simp)) (by simp [oneB]) (by omega) (by decide) (by decide) (fun z2 zc3 => ⟨Sub.pick [1, 3, 3] rfl, Sub.pick [2] rfl, ?_⟩))
    refine DO.last2 rfl rfl (l_store_box (v := (.slice z2 (os.length + 1) zc3)) (vs := [(.slice z2 (os.length + 1) zc3)]) 2 inf41 rfl rfl rfl rfl rfl rfl (by simp [putL]) ⟨Sub.pick [1, 3, 3] rfl, ?_⟩)
    refine DO.quiet rfl (q_ix (i := t) Tryd.underlying23 inf4 rfl rfl (rowO (List.mem_of_getElem? (i := 2) rfl)) htn (by rw [List.length_map]; exact htl)) ?_
    refine DO.last rfl rfl (l_st (j := t) (v := .bool true) (vs := [(.bool true)]) (cs := bools sn) 5 inf4 rfl rfl rfl rfl rfl (by simp) rfl (by first | (simp; omega) | (simp_all; omega)) ?_)
    refine DO.sub (O' := [rowI (some ⟨z1, 0, none⟩) 1 3 1 [.int .i64 ((t : Nat) : Int)], oI b1 25 [(.int .i64 d.vars), (.int .i64 d.start), (.slice nb d.next.length nc), (.slice fb d.final.length fc)], oI b2 41 [(.slice z2 (os.length + 1) zc3)], rowI z2 zc3 3 1 ((nats os) ++ [.int .i64 ((t : Nat) : Int)]), oI b3 23 [(.slice sb d.next.length sc)], rowI sb sc2 4 1 (bools (sn.set t true))]) (by rw [show putL (bools sn) t [(.bool true)] = bools (sn.set t true) from by simp [putL]]; exact Sub.of (List.Sublist.refl _)) ?_
    refine DO.done ?_
    refine T.seq (T.region ?_)
    refine TO.quiet (q_move rfl) ?_
    have hk33 := fun (w1 : World) (hI : Inv base [rowI (some ⟨z1, 0, none⟩) 1 3 1 [.int .i64 ((t : Nat) : Int)], oI b1 25 [(.int .i64 d.vars), (.int .i64 d.start), (.slice nb d.next.length nc), (.slice fb d.final.length fc)], oI b2 41 [(.slice z2 (os.length + 1) zc3)], rowI z2 zc3 3 1 ((nats os) ++ [.int .i64 ((t : Nat) : Int)]), oI b3 23 [(.slice sb d.next.length sc)], rowI sb sc2 4 1 (bools (sn.set t true))] w1) => (haveI := Inv.tab (P := Tryd.prog) hI; itoaF w1 t (by omega))
    refine TO.loud rfl (l_call ent65 (CallT.of_pure hk33) rfl ?_)
    clear hk33
    rintro v O' ⟨N, rfl, rfl, rfl⟩
    refine TO.quiet (q_assign rfl) ?_
    refine TO.nil (T.ret (Res.drop ?_))
    refine Res.one (str (Lib.decDigits t)) Tryd.results64 rfl ?_
    have ha : add os t = os ++ [t] := if_neg hc
    refine ⟨[oI b1 25 [(.int .i64 d.vars), (.int .i64 d.start), (.slice nb d.next.length nc), (.slice fb d.final.length fc)], oI b2 41 [(.slice z2 (os.length + 1) zc3)], rowI z2 zc3 3 1 ((nats os) ++ [.int .i64 ((t : Nat) : Int)]), oI b3 23 [(.slice sb d.next.length sc)], rowI sb sc2 4 1 (bools (sn.set t true))], (Sub.pick [1, 1, 1, 1, 1] rfl), rfl, z2, zc3, sn.set t true, by simp [hsl], fun t2 ht2 => ?_, ?_⟩
    · rw [ha]
      by_cases e : t2 = t
      · subst e; rw [List.getElem?_set_self htl]; simp
      · rw [List.getElem?_set_ne (fun h => e h.symm), hsn t2 ht2]; simp [e]
    · rw [ha, List.length_append, show nats (os ++ [t]) = nats os ++ [.int .i64 ((t : Nat) : Int)] from List.map_append]; rfl
  refine T.skip (T.seq (T.region ?_))
  refine TO.quiet (q_move rfl) ?_
  have hk33 := fun (w1 : World) (hI : Inv base [oI b1 25 [(.int .i64 d.vars), (.int .i64 d.start), (.slice nb d.next.length nc), (.slice fb d.final.length fc)], oI b2 41 [(.slice ob os.length oc)], rowI ob oc 3 1 (nats os), oI b3 23 [(.slice sb d.next.length sc)], rowI sb sc2 4 1 (bools sn)] w1) => (haveI := Inv.tab (P := Tryd.prog) hI; itoaF w1 t (by omega))
  refine TO.loud rfl (l_call ent65 (CallT.of_pure hk33) rfl ?_)
  clear hk33
  rintro v O' ⟨N, rfl, rfl, rfl⟩
  refine TO.quiet (q_assign rfl) ?_
  refine TO.nil (T.ret (Res.drop ?_))
  refine Res.one (str (Lib.decDigits t)) Tryd.results64 rfl ?_
  have ha : add os t = os := if_pos (Classical.not_not.1 hc)
  refine ⟨[oI b1 25 [(.int .i64 d.vars), (.int .i64 d.start), (.slice nb d.next.length nc), (.slice fb d.final.length fc)], oI b2 41 [(.slice ob os.length oc)], rowI ob oc 3 1 (nats os), oI b3 23 [(.slice sb d.next.length sc)], rowI sb sc2 4 1 (bools sn)], (Sub.pick [0, 0, 0, 0, 0] rfl), rfl, ob, oc, sn, hsl, fun t2 ht2 => ?_, ?_⟩
  · rw [ha]; exact hsn t2 ht2
  · rw [ha]
def RenJ (d : DFA) (nb fb : Option Addr) (nc fc b1 bB bC bD : Nat) (ks : List (List UInt8)) (O : List Lx.Item) : Prop :=
  ∃ (os : List Nat) (sn : List Bool) (ob : Option Addr) (oc : Nat), ks = os.map Lib.decDigits ∧ O = [objI b1 (.cells (List.toArray [(.int .i64 d.vars), (.int .i64 d.start), (.slice nb d.next.length nc), (.slice fb d.final.length fc)]) 25 (0, 0)), objI bC (.cells (List.toArray [(.slice ob os.length oc)]) 41 (0, 0)), rowI ob oc 3 1 (nats os), objI bD (.cells (List.toArray [(.slice (some ⟨bB, 0, none⟩) d.next.length d.next.length)]) 23 (0, 0)), rowI (some ⟨bB, 0, none⟩) d.next.length 4 1 (bools sn)] ∧ os.Nodup ∧ (∀ o ∈ os, o < d.next.length) ∧ sn.length = d.next.length ∧ (∀ t, t < d.next.length → sn[t]? = some (decide (t ∈ os)))
set_option maxRecDepth 20000 in
theorem nextV (base : World) [Tab Tryd.prog base] (d : DFA) (nb fb : Option Addr) (nc fc : Nat) (vs : List Value) (h : DfaAt base d nb vs fb) (hv : Valid d) (hn : d.next.length < 10000) (b1 bB bC bD : Nat) (ks : List (List UInt8)) (s x : Nat) (O : List Lx.Item) (hs : s < ks.length) (hx : x < 2 ^ d.vars.toNat) (hJ : RenJ d nb fb nc fc b1 bB bC bD ks O) :
    CallV Tryd.prog base (.func (.func 64) #[] #[.pointer (some ⟨b1, 0, none⟩), .pointer (some ⟨bC, 0, none⟩), .pointer (some ⟨bD, 0, none⟩)]) [.int .i64 (s : Int), .int .u8 (x : Int)] O
      (fun v O' => v = str (trD d (ks.getD s []) x) ∧ (add ks (trD d (ks.getD s []) x)).length ≤ d.next.length ∧ RenJ d nb fb nc fc b1 bB bC bD (add ks (trD d (ks.getD s []) x)) O') := by
  obtain ⟨os, sn, ob, oc, rfl, rfl, hnd, hos, hsl, hsn⟩ := hJ
  have hs' : s < os.length := by simpa using hs
  have e : (os.map Lib.decDigits).getD s [] = Lib.decDigits os[s] := by simp [hs']
  have e2 : trD d ((os.map Lib.decDigits).getD s []) x = Lib.decDigits (toN d os[s] x) := by rw [e, trD, undec_dec]
  have hT := (hv.toN_lt (hos _ (List.getElem_mem hs')) hx).1
  have hos2 : ∀ o ∈ add os (toN d os[s] x), o < d.next.length := fun o ho => by
    rcases mem_add.1 ho with ho | ho
    · exact hos o ho
    · rw [ho]; exact hT
  refine CallV.mono (CallV.of_fn (first := []) (caps := [.pointer (some ⟨b1, 0, none⟩), .pointer (some ⟨bC, 0, none⟩), .pointer (some ⟨bD, 0, none⟩)]) ent64 (nextC base d nb fb nc fc vs h hv hn b1 bC bD os sn ob (some ⟨bB, 0, none⟩) oc d.next.length d.next.length s x hs' hx hos hnd hsl hsn)) ?_
  rintro v O' ⟨rfl, ob', oc', sn', h1, h2, rfl⟩
  rw [e2, ← map_add dec_inj]
  refine ⟨rfl, ?_, add os (toN d os[s] x), sn', ob', oc', rfl, rfl, add_nodup hnd, hos2, h1, h2⟩
  rw [List.length_map]; exact nodup_bound (add_nodup hnd) hos2
end Go.Proofs.YtnmfefmhfkhihaaDoor


namespace Go.Proofs.YtnmfefmhfkhihaaDoor
open Go.Lx Go.RowKit
set_option linter.unusedVariables false
set_option linter.unusedSimpArgs false
set_option maxHeartbeats 1000000 in
set_option maxRecDepth 20000 in
theorem renumBad (w : World) [Tab Tryd.prog w] (d : DFA) (nb fb : Option Addr) (nc fc : Nat) (vs : List Value) (h : DfaAt w d nb vs fb) (hb : d.next.length < 9223372036854775807) (hbr : ∀ r ∈ d.next, r.length < 9223372036854775807) (hbf : d.final.length < 9223372036854775807) (he : checkD d ≠ 0) :
    PureT Tryd.prog 45 [.agg (dfaCells d nb nc fb fc).toArray] w fun v N => v = .tuple #[.agg #[.int .i64 0, .int .i64 0, .slice none 0 0, .slice none 0 0], .int .i64 (checkD d : Int)] ∧ N = [] := by
  refine CallT.enter Tryd.func45 rfl Tryd.ntmps45 rfl ?_
  refine T.seq (T.region ?_)
  refine TO.loud rfl (l_box (v := (.agg #[(.int .i64 d.vars), (.int .i64 d.start), (.slice nb d.next.length nc), (.slice fb d.final.length fc)])) (cs := [(.int .i64 d.vars), (.int .i64 d.start), (.slice nb d.next.length nc), (.slice fb d.final.length fc)]) rfl rfl (fun b1 => ?_))
  refine TO.loud rfl (l_alloc inf25 rfl (fun b2 => ?_))
  refine TO.quiet (q_assign rfl) ?_
  refine TO.nil (T.seq (T.seq (T.region ?_)))
  refine TO.quiet (q_load_boxAgg 1 Tryd.underlying25 rfl inf25 rfl rfl rfl) ?_
  have hk11 := fun (w1 : World) (hI : Inv w [oI b2 25 [(.int .i64 0), (.int .i64 0), (.slice none 0 0), (.slice none 0 0)], oI b1 25 [(.int .i64 d.vars), (.int .i64 d.start), (.slice nb d.next.length nc), (.slice fb d.final.length fc)]] w1) => (haveI := Inv.tab (P := Tryd.prog) hI; subsetCheck w1 d nb fb nc fc vs (hI.dfa h) hb hbr hbf)
  refine TO.loud rfl (l_call ent33 (CallT.of_pure hk11) rfl ?_)
  clear hk11
  rintro v O' ⟨N, rfl, rfl, rfl⟩
  refine TO.quiet (q_assign rfl) ?_
  refine TO.nil (T.seq (T.region ?_))
  refine TO.quiet (q_move rfl) (TO.quiet (QT.toB (q_neq rfl rfl) (decide_eq_true (by omega))) ?_)
  refine TO.nil ?_
  refine T.cond1 rfl ?_
  refine T.seq (T.region ?_)
  refine TO.quiet (q_build plan25 inf25 rfl) (TO.quiet (q_move rfl) ?_)
  refine TO.loud rfl (l_store_box (v := (.agg #[(.int .i64 0), (.int .i64 0), (.slice none 0 0), (.slice none 0 0)])) (vs := [(.int .i64 0), (.int .i64 0), (.slice none 0 0), (.slice none 0 0)]) 0 inf25 rfl rfl rfl rfl rfl rfl (by simp [putL]) ?_)
  refine TO.quiet (q_assign rfl) ?_
  refine TO.nil (T.ret (Res.drop ?_))
  refine Res.cell1b (.int .i64 (checkD d : Int)) (i := 0) Tryd.results45 Tryd.underlying25 rfl inf25 rfl rfl rfl rfl ?_
  exact ⟨[], Sub.of (List.nil_sublist _), rfl, rfl⟩
set_option maxHeartbeats 1000000 in
set_option maxRecDepth 20000 in
theorem renumOk (w : World) [Tab Tryd.prog w] (d : DFA) (nb fb : Option Addr) (nc fc : Nat) (vs : List Value) (h : DfaAt w d nb vs fb) (hv : Valid d) (hn : d.next.length < 10000) :
    PureT Tryd.prog 45 [.agg (dfaCells d nb nc fb fc).toArray] w fun v N => ∃ nb' nc' fb' fc' qs, v = .tuple #[.agg (dfaCells (renum d) nb' nc' fb' fc').toArray, .int .i64 0] ∧ N = [rowI nb' nc' 41 1 (vals qs), rowI fb' fc' 4 1 (bools (renum d).final)] ++ itms 3 qs ∧ nums qs = (renum d).next := by
  refine CallT.enter Tryd.func45 rfl Tryd.ntmps45 rfl ?_
  have he := checkD_zero.2 hv
  have hb : d.next.length < 9223372036854775807 := by omega
  have hbr : ∀ r ∈ d.next, r.length < 9223372036854775807 := hv.bound
  have hbf : d.final.length < 9223372036854775807 := by have := hv.fin; omega
  have hn0 := hv.n0
  have hs0 := hv.s0
  have hs1 := hv.s1
  have hsn : d.start.toNat < d.next.length := by omega
  refine T.seq (T.region ?_)
  refine TO.loud rfl (l_box (v := (.agg #[(.int .i64 d.vars), (.int .i64 d.start), (.slice nb d.next.length nc), (.slice fb d.final.length fc)])) (cs := [(.int .i64 d.vars), (.int .i64 d.start), (.slice nb d.next.length nc), (.slice fb d.final.length fc)]) rfl rfl (fun z1 => ?_))
  refine TO.loud rfl (l_alloc inf25 rfl (fun z2 => ?_))
  refine TO.quiet (q_assign rfl) ?_
  refine TO.nil (T.seq (T.seq (T.region ?_)))
  refine TO.quiet (q_load_boxAgg 1 Tryd.underlying25 rfl inf25 rfl rfl rfl) ?_
  have hk11 := fun (w1 : World) (hI : Inv w [oI z2 25 [(.int .i64 0), (.int .i64 0), (.slice none 0 0), (.slice none 0 0)], oI z1 25 [(.int .i64 d.vars), (.int .i64 d.start), (.slice nb d.next.length nc), (.slice fb d.final.length fc)]] w1) => (haveI := Inv.tab (P := Tryd.prog) hI; subsetCheck w1 d nb fb nc fc vs (hI.dfa h) hb hbr hbf)
  refine TO.loud rfl (l_call ent33 (CallT.of_pure hk11) rfl ?_)
  clear hk11
  rintro v O' ⟨N, rfl, rfl, rfl⟩
  rw [he]
  refine TO.quiet (q_assign rfl) ?_
  refine TO.nil (T.seq (T.region ?_))
  refine TO.quiet (q_move rfl) (TO.quiet (q_neq rfl rfl) ?_)
  refine TO.nil ?_
  refine T.cond0 rfl ?_
  refine T.skip ?_
  refine T.cut (fun ρ O => ∃ (bA bB bC bD : Nat), O = [oI bC 41 [(.slice (some ⟨bA, 0, none⟩) 1 1)], oI bD 23 [(.slice (some ⟨bB, 0, none⟩) d.next.length d.next.length)], rowI (some ⟨bA, 0, none⟩) 1 3 1 [(.int .i64 d.start)], rowI (some ⟨bB, 0, none⟩) d.next.length 4 1 (List.replicate d.next.length (.bool false)), oI z2 25 [(.int .i64 0), (.int .i64 0), (.slice none 0 0), (.slice none 0 0)], oI z1 25 [(.int .i64 d.vars), (.int .i64 d.start), (.slice nb d.next.length nc), (.slice fb d.final.length fc)]] ∧ Heads [(0, (.agg #[(.int .i64 d.vars), (.int .i64 d.start), (.slice nb d.next.length nc), (.slice fb d.final.length fc)])), (1, (.pointer (some ⟨z1, 0, none⟩))), (2, (.pointer (some ⟨z2, 0, none⟩))), (3, .int .i64 0), (4, .int .i64 ((0 : Nat) : Int)), (5, (.pointer (some ⟨bC, 0, none⟩))), (6, (.pointer (some ⟨bD, 0, none⟩)))] ρ) ?_ ?_
  · refine T.tree [oI z1 25 [(.int .i64 d.vars), (.int .i64 d.start), (.slice nb d.next.length nc), (.slice fb d.final.length fc)]] 11 mixed rfl (Sub.pick [1] rfl) (fun _ _ _ h => h) ?_
    refine RO.quietT 0 rfl (by kernel_rfl) (q_fieldAddr Tryd.underlying25 rfl inf3 rfl rfl) ?_
    refine RO.quietT 1 rfl (by kernel_rfl) (q_load_box 0 Tryd.underlying3 rfl rfl rfl rfl) ?_
    refine RO.quietT 3 rfl (by kernel_rfl) (q_fieldAddr Tryd.underlying25 rfl inf22 rfl rfl) ?_
    refine RO.quietT 4 rfl (by kernel_rfl) (q_load_box 0 Tryd.underlying22 rfl rfl rfl rfl) ?_
    refine RO.quietT 5 rfl (by kernel_rfl) (q_len Tryd.underlying22 rfl) ?_
    refine RO.fork [2, 6, 7, 8] (by kernel_rfl) rfl ⟨⟨_, rfl, rfl, l_build1 (v := (.int .i64 d.start)) Tryd.underlying41 inf3 rfl rfl rfl (fun bA => ⟨Sub.pick [2] rfl, ?_⟩)⟩, ⟨_, rfl, rfl, l_makeSlice (m := d.next.length) Tryd.underlying23 inf4 rfl rfl (by omega) (by omega) (fun bB => ⟨Sub.pick [2] rfl, ?_⟩)⟩, ⟨_, rfl, rfl, l_alloc inf41 rfl (fun bC => ⟨Sub.pick [2] rfl, ?_⟩)⟩, ⟨_, rfl, rfl, l_alloc inf23 rfl (fun bD => ⟨Sub.pick [2] rfl, ?_⟩)⟩, trivial⟩
    · refine RO.fork [6, 7, 8] (by kernel_rfl) rfl ⟨⟨_, rfl, rfl, l_makeSlice (m := d.next.length) Tryd.underlying23 inf4 rfl rfl (by omega) (by omega) (fun bB => ⟨Sub.pick [3] rfl, ?_⟩)⟩, ⟨_, rfl, rfl, l_alloc inf41 rfl (fun bC => ⟨Sub.pick [3] rfl, ?_⟩)⟩, ⟨_, rfl, rfl, l_alloc inf23 rfl (fun bD => ⟨Sub.pick [3] rfl, ?_⟩)⟩, trivial⟩
      · refine RO.fork [7, 8] (by kernel_rfl) rfl ⟨⟨_, rfl, rfl, l_alloc inf41 rfl (fun bC => ⟨Sub.pick [4] rfl, ?_⟩)⟩, ⟨_, rfl, rfl, l_alloc inf23 rfl (fun bD => ⟨Sub.pick [4] rfl, ?_⟩)⟩, trivial⟩
        · refine RO.fork [8] (by kernel_rfl) rfl ⟨⟨_, rfl, rfl, l_alloc inf23 rfl (fun bD => ⟨Sub.pick [5] rfl, ?_⟩)⟩, trivial⟩
          refine RO.fork [9] (by kernel_rfl) rfl ⟨⟨_, rfl, rfl, l_store_box (v := (.slice (some ⟨bA, 0, none⟩) 1 1)) (vs := [(.slice (some ⟨bA, 0, none⟩) 1 1)]) 1 inf41 rfl rfl rfl rfl rfl rfl (by simp [putL]) ⟨Sub.pick [5] rfl, ?_⟩⟩, trivial⟩
          refine RO.fork [10] (by kernel_rfl) rfl ⟨⟨_, rfl, rfl, l_store_box (v := (.slice (some ⟨bB, 0, none⟩) d.next.length d.next.length)) (vs := [(.slice (some ⟨bB, 0, none⟩) d.next.length d.next.length)]) 0 inf23 rfl rfl rfl rfl rfl rfl (by simp [putL]) ⟨Sub.pick [5] rfl, ?_⟩⟩, trivial⟩
          exact RO.fin (by kernel_rfl) ⟨bA, bB, bC, bD, rfl, ⟨rfl, rfl, rfl, rfl, rfl, rfl, rfl, trivial⟩⟩ (Sub.pick [1, 0, 1, 0, 0, 0] rfl)
        refine RO.fork [7] (by kernel_rfl) rfl ⟨⟨_, rfl, rfl, l_alloc inf41 rfl (fun bC => ⟨Sub.pick [5] rfl, ?_⟩)⟩, trivial⟩
        refine RO.fork [9] (by kernel_rfl) rfl ⟨⟨_, rfl, rfl, l_store_box (v := (.slice (some ⟨bA, 0, none⟩) 1 1)) (vs := [(.slice (some ⟨bA, 0, none⟩) 1 1)]) 0 inf41 rfl rfl rfl rfl rfl rfl (by simp [putL]) ⟨Sub.pick [5] rfl, ?_⟩⟩, trivial⟩
        refine RO.fork [10] (by kernel_rfl) rfl ⟨⟨_, rfl, rfl, l_store_box (v := (.slice (some ⟨bB, 0, none⟩) d.next.length d.next.length)) (vs := [(.slice (some ⟨bB, 0, none⟩) d.next.length d.next.length)]) 1 inf23 rfl rfl rfl rfl rfl rfl (by simp [putL]) ⟨Sub.pick [5] rfl, ?_⟩⟩, trivial⟩
        exact RO.fin (by kernel_rfl) ⟨bA, bB, bC, bD, rfl, ⟨rfl, rfl, rfl, rfl, rfl, rfl, rfl, trivial⟩⟩ (Sub.pick [0, 0, 1, 0, 0, 0] rfl)
      · refine RO.fork [6, 8] (by kernel_rfl) rfl ⟨⟨_, rfl, rfl, l_makeSlice (m := d.next.length) Tryd.underlying23 inf4 rfl rfl (by omega) (by omega) (fun bB => ⟨Sub.pick [4] rfl, ?_⟩)⟩, ⟨_, rfl, rfl, l_alloc inf23 rfl (fun bD => ⟨Sub.pick [4] rfl, ?_⟩)⟩, trivial⟩
        · refine RO.fork [8] (by kernel_rfl) rfl ⟨⟨_, rfl, rfl, l_alloc inf23 rfl (fun bD => ⟨Sub.pick [5] rfl, ?_⟩)⟩, trivial⟩
          refine RO.fork [9] (by kernel_rfl) rfl ⟨⟨_, rfl, rfl, l_store_box (v := (.slice (some ⟨bA, 0, none⟩) 1 1)) (vs := [(.slice (some ⟨bA, 0, none⟩) 1 1)]) 2 inf41 rfl rfl rfl rfl rfl rfl (by simp [putL]) ⟨Sub.pick [5] rfl, ?_⟩⟩, trivial⟩
          refine RO.fork [10] (by kernel_rfl) rfl ⟨⟨_, rfl, rfl, l_store_box (v := (.slice (some ⟨bB, 0, none⟩) d.next.length d.next.length)) (vs := [(.slice (some ⟨bB, 0, none⟩) d.next.length d.next.length)]) 0 inf23 rfl rfl rfl rfl rfl rfl (by simp [putL]) ⟨Sub.pick [5] rfl, ?_⟩⟩, trivial⟩
          exact RO.fin (by kernel_rfl) ⟨bA, bB, bC, bD, rfl, ⟨rfl, rfl, rfl, rfl, rfl, rfl, rfl, trivial⟩⟩ (Sub.pick [2, 0, 1, 0, 0, 0] rfl)
        refine RO.fork [6, 9] (by kernel_rfl) rfl ⟨⟨_, rfl, rfl, l_makeSlice (m := d.next.length) Tryd.underlying23 inf4 rfl rfl (by omega) (by omega) (fun bB => ⟨Sub.pick [5] rfl, ?_⟩)⟩, ⟨_, rfl, rfl, l_store_box (v := (.slice (some ⟨bA, 0, none⟩) 1 1)) (vs := [(.slice (some ⟨bA, 0, none⟩) 1 1)]) 1 inf41 rfl rfl rfl rfl rfl rfl (by simp [putL]) ⟨Sub.pick [4] rfl, ?_⟩⟩, trivial⟩
        · refine RO.fork [9] (by kernel_rfl) rfl ⟨⟨_, rfl, rfl, l_store_box (v := (.slice (some ⟨bA, 0, none⟩) 1 1)) (vs := [(.slice (some ⟨bA, 0, none⟩) 1 1)]) 2 inf41 rfl rfl rfl rfl rfl rfl (by simp [putL]) ⟨Sub.pick [5] rfl, ?_⟩⟩, trivial⟩
          refine RO.fork [10] (by kernel_rfl) rfl ⟨⟨_, rfl, rfl, l_store_box (v := (.slice (some ⟨bB, 0, none⟩) d.next.length d.next.length)) (vs := [(.slice (some ⟨bB, 0, none⟩) d.next.length d.next.length)]) 1 inf23 rfl rfl rfl rfl rfl rfl (by simp [putL]) ⟨Sub.pick [5] rfl, ?_⟩⟩, trivial⟩
          exact RO.fin (by kernel_rfl) ⟨bA, bB, bC, bD, rfl, ⟨rfl, rfl, rfl, rfl, rfl, rfl, rfl, trivial⟩⟩ (Sub.pick [2, 1, 1, 0, 0, 0] rfl)
        refine RO.fork [6] (by kernel_rfl) rfl ⟨⟨_, rfl, rfl, l_makeSlice (m := d.next.length) Tryd.underlying23 inf4 rfl rfl (by omega) (by omega) (fun bB => ⟨Sub.pick [5] rfl, ?_⟩)⟩, trivial⟩
        refine RO.fork [10] (by kernel_rfl) rfl ⟨⟨_, rfl, rfl, l_store_box (v := (.slice (some ⟨bB, 0, none⟩) d.next.length d.next.length)) (vs := [(.slice (some ⟨bB, 0, none⟩) d.next.length d.next.length)]) 1 inf23 rfl rfl rfl rfl rfl rfl (by simp [putL]) ⟨Sub.pick [5] rfl, ?_⟩⟩, trivial⟩
        exact RO.fin (by kernel_rfl) ⟨bA, bB, bC, bD, rfl, ⟨rfl, rfl, rfl, rfl, rfl, rfl, rfl, trivial⟩⟩ (Sub.pick [2, 1, 1, 0, 0, 0] rfl)
      refine RO.fork [6, 7] (by kernel_rfl) rfl ⟨⟨_, rfl, rfl, l_makeSlice (m := d.next.length) Tryd.underlying23 inf4 rfl rfl (by omega) (by omega) (fun bB => ⟨Sub.pick [4] rfl, ?_⟩)⟩, ⟨_, rfl, rfl, l_alloc inf41 rfl (fun bC => ⟨Sub.pick [4] rfl, ?_⟩)⟩, trivial⟩
      · refine RO.fork [7] (by kernel_rfl) rfl ⟨⟨_, rfl, rfl, l_alloc inf41 rfl (fun bC => ⟨Sub.pick [5] rfl, ?_⟩)⟩, trivial⟩
        refine RO.fork [9] (by kernel_rfl) rfl ⟨⟨_, rfl, rfl, l_store_box (v := (.slice (some ⟨bA, 0, none⟩) 1 1)) (vs := [(.slice (some ⟨bA, 0, none⟩) 1 1)]) 0 inf41 rfl rfl rfl rfl rfl rfl (by simp [putL]) ⟨Sub.pick [5] rfl, ?_⟩⟩, trivial⟩
        refine RO.fork [10] (by kernel_rfl) rfl ⟨⟨_, rfl, rfl, l_store_box (v := (.slice (some ⟨bB, 0, none⟩) d.next.length d.next.length)) (vs := [(.slice (some ⟨bB, 0, none⟩) d.next.length d.next.length)]) 2 inf23 rfl rfl rfl rfl rfl rfl (by simp [putL]) ⟨Sub.pick [5] rfl, ?_⟩⟩, trivial⟩
        exact RO.fin (by kernel_rfl) ⟨bA, bB, bC, bD, rfl, ⟨rfl, rfl, rfl, rfl, rfl, rfl, rfl, trivial⟩⟩ (Sub.pick [0, 1, 1, 0, 0, 0] rfl)
      refine RO.fork [6, 9] (by kernel_rfl) rfl ⟨⟨_, rfl, rfl, l_makeSlice (m := d.next.length) Tryd.underlying23 inf4 rfl rfl (by omega) (by omega) (fun bB => ⟨Sub.pick [5] rfl, ?_⟩)⟩, ⟨_, rfl, rfl, l_store_box (v := (.slice (some ⟨bA, 0, none⟩) 1 1)) (vs := [(.slice (some ⟨bA, 0, none⟩) 1 1)]) 0 inf41 rfl rfl rfl rfl rfl rfl (by simp [putL]) ⟨Sub.pick [4] rfl, ?_⟩⟩, trivial⟩
      · refine RO.fork [9] (by kernel_rfl) rfl ⟨⟨_, rfl, rfl, l_store_box (v := (.slice (some ⟨bA, 0, none⟩) 1 1)) (vs := [(.slice (some ⟨bA, 0, none⟩) 1 1)]) 1 inf41 rfl rfl rfl rfl rfl rfl (by simp [putL]) ⟨Sub.pick [5] rfl, ?_⟩⟩, trivial⟩
        refine RO.fork [10] (by kernel_rfl) rfl ⟨⟨_, rfl, rfl, l_store_box (v := (.slice (some ⟨bB, 0, none⟩) d.next.length d.next.length)) (vs := [(.slice (some ⟨bB, 0, none⟩) d.next.length d.next.length)]) 2 inf23 rfl rfl rfl rfl rfl rfl (by simp [putL]) ⟨Sub.pick [5] rfl, ?_⟩⟩, trivial⟩
        exact RO.fin (by kernel_rfl) ⟨bA, bB, bC, bD, rfl, ⟨rfl, rfl, rfl, rfl, rfl, rfl, rfl, trivial⟩⟩ (Sub.pick [1, 1, 1, 0, 0, 0] rfl)
      refine RO.fork [6] (by kernel_rfl) rfl ⟨⟨_, rfl, rfl, l_makeSlice (m := d.next.length) Tryd.underlying23 inf4 rfl rfl (by omega) (by omega) (fun bB => ⟨Sub.pick [5] rfl, ?_⟩)⟩, trivial⟩
      refine RO.fork [10] (by kernel_rfl) rfl ⟨⟨_, rfl, rfl, l_store_box (v := (.slice (some ⟨bB, 0, none⟩) d.next.length d.next.length)) (vs := [(.slice (some ⟨bB, 0, none⟩) d.next.length d.next.length)]) 2 inf23 rfl rfl rfl rfl rfl rfl (by simp [putL]) ⟨Sub.pick [5] rfl, ?_⟩⟩, trivial⟩
      exact RO.fin (by kernel_rfl) ⟨bA, bB, bC, bD, rfl, ⟨rfl, rfl, rfl, rfl, rfl, rfl, rfl, trivial⟩⟩ (Sub.pick [1, 1, 1, 0, 0, 0] rfl)
    · refine RO.fork [2, 7, 8] (by kernel_rfl) rfl ⟨⟨_, rfl, rfl, l_build1 (v := (.int .i64 d.start)) Tryd.underlying41 inf3 rfl rfl rfl (fun bA => ⟨Sub.pick [3] rfl, ?_⟩)⟩, ⟨_, rfl, rfl, l_alloc inf41 rfl (fun bC => ⟨Sub.pick [3] rfl, ?_⟩)⟩, ⟨_, rfl, rfl, l_alloc inf23 rfl (fun bD => ⟨Sub.pick [3] rfl, ?_⟩)⟩, trivial⟩
      · refine RO.fork [7, 8] (by kernel_rfl) rfl ⟨⟨_, rfl, rfl, l_alloc inf41 rfl (fun bC => ⟨Sub.pick [4] rfl, ?_⟩)⟩, ⟨_, rfl, rfl, l_alloc inf23 rfl (fun bD => ⟨Sub.pick [4] rfl, ?_⟩)⟩, trivial⟩
        · refine RO.fork [8] (by kernel_rfl) rfl ⟨⟨_, rfl, rfl, l_alloc inf23 rfl (fun bD => ⟨Sub.pick [5] rfl, ?_⟩)⟩, trivial⟩
          refine RO.fork [9] (by kernel_rfl) rfl ⟨⟨_, rfl, rfl, l_store_box (v := (.slice (some ⟨bA, 0, none⟩) 1 1)) (vs := [(.slice (some ⟨bA, 0, none⟩) 1 1)]) 1 inf41 rfl rfl rfl rfl rfl rfl (by simp [putL]) ⟨Sub.pick [5] rfl, ?_⟩⟩, trivial⟩
          refine RO.fork [10] (by kernel_rfl) rfl ⟨⟨_, rfl, rfl, l_store_box (v := (.slice (some ⟨bB, 0, none⟩) d.next.length d.next.length)) (vs := [(.slice (some ⟨bB, 0, none⟩) d.next.length d.next.length)]) 0 inf23 rfl rfl rfl rfl rfl rfl (by simp [putL]) ⟨Sub.pick [5] rfl, ?_⟩⟩, trivial⟩
          exact RO.fin (by kernel_rfl) ⟨bA, bB, bC, bD, rfl, ⟨rfl, rfl, rfl, rfl, rfl, rfl, rfl, trivial⟩⟩ (Sub.pick [1, 0, 0, 0, 0, 0] rfl)
        refine RO.fork [7] (by kernel_rfl) rfl ⟨⟨_, rfl, rfl, l_alloc inf41 rfl (fun bC => ⟨Sub.pick [5] rfl, ?_⟩)⟩, trivial⟩
        refine RO.fork [9] (by kernel_rfl) rfl ⟨⟨_, rfl, rfl, l_store_box (v := (.slice (some ⟨bA, 0, none⟩) 1 1)) (vs := [(.slice (some ⟨bA, 0, none⟩) 1 1)]) 0 inf41 rfl rfl rfl rfl rfl rfl (by simp [putL]) ⟨Sub.pick [5] rfl, ?_⟩⟩, trivial⟩
        refine RO.fork [10] (by kernel_rfl) rfl ⟨⟨_, rfl, rfl, l_store_box (v := (.slice (some ⟨bB, 0, none⟩) d.next.length d.next.length)) (vs := [(.slice (some ⟨bB, 0, none⟩) d.next.length d.next.length)]) 1 inf23 rfl rfl rfl rfl rfl rfl (by simp [putL]) ⟨Sub.pick [5] rfl, ?_⟩⟩, trivial⟩
        exact RO.fin (by kernel_rfl) ⟨bA, bB, bC, bD, rfl, ⟨rfl, rfl, rfl, rfl, rfl, rfl, rfl, trivial⟩⟩ (Sub.pick [0, 0, 0, 0, 0, 0] rfl)
      · refine RO.fork [2, 8] (by kernel_rfl) rfl ⟨⟨_, rfl, rfl, l_build1 (v := (.int .i64 d.start)) Tryd.underlying41 inf3 rfl rfl rfl (fun bA => ⟨Sub.pick [4] rfl, ?_⟩)⟩, ⟨_, rfl, rfl, l_alloc inf23 rfl (fun bD => ⟨Sub.pick [4] rfl, ?_⟩)⟩, trivial⟩
        · refine RO.fork [8] (by kernel_rfl) rfl ⟨⟨_, rfl, rfl, l_alloc inf23 rfl (fun bD => ⟨Sub.pick [5] rfl, ?_⟩)⟩, trivial⟩
          refine RO.fork [9] (by kernel_rfl) rfl ⟨⟨_, rfl, rfl, l_store_box (v := (.slice (some ⟨bA, 0, none⟩) 1 1)) (vs := [(.slice (some ⟨bA, 0, none⟩) 1 1)]) 2 inf41 rfl rfl rfl rfl rfl rfl (by simp [putL]) ⟨Sub.pick [5] rfl, ?_⟩⟩, trivial⟩
          refine RO.fork [10] (by kernel_rfl) rfl ⟨⟨_, rfl, rfl, l_store_box (v := (.slice (some ⟨bB, 0, none⟩) d.next.length d.next.length)) (vs := [(.slice (some ⟨bB, 0, none⟩) d.next.length d.next.length)]) 0 inf23 rfl rfl rfl rfl rfl rfl (by simp [putL]) ⟨Sub.pick [5] rfl, ?_⟩⟩, trivial⟩
          exact RO.fin (by kernel_rfl) ⟨bA, bB, bC, bD, rfl, ⟨rfl, rfl, rfl, rfl, rfl, rfl, rfl, trivial⟩⟩ (Sub.pick [2, 0, 0, 0, 0, 0] rfl)
        refine RO.fork [2] (by kernel_rfl) rfl ⟨⟨_, rfl, rfl, l_build1 (v := (.int .i64 d.start)) Tryd.underlying41 inf3 rfl rfl rfl (fun bA => ⟨Sub.pick [5] rfl, ?_⟩)⟩, trivial⟩
        refine RO.fork [9] (by kernel_rfl) rfl ⟨⟨_, rfl, rfl, l_store_box (v := (.slice (some ⟨bA, 0, none⟩) 1 1)) (vs := [(.slice (some ⟨bA, 0, none⟩) 1 1)]) 2 inf41 rfl rfl rfl rfl rfl rfl (by simp [putL]) ⟨Sub.pick [5] rfl, ?_⟩⟩, trivial⟩
        refine RO.fork [10] (by kernel_rfl) rfl ⟨⟨_, rfl, rfl, l_store_box (v := (.slice (some ⟨bB, 0, none⟩) d.next.length d.next.length)) (vs := [(.slice (some ⟨bB, 0, none⟩) d.next.length d.next.length)]) 1 inf23 rfl rfl rfl rfl rfl rfl (by simp [putL]) ⟨Sub.pick [5] rfl, ?_⟩⟩, trivial⟩
        exact RO.fin (by kernel_rfl) ⟨bA, bB, bC, bD, rfl, ⟨rfl, rfl, rfl, rfl, rfl, rfl, rfl, trivial⟩⟩ (Sub.pick [2, 1, 0, 0, 0, 0] rfl)
      refine RO.fork [2, 7] (by kernel_rfl) rfl ⟨⟨_, rfl, rfl, l_build1 (v := (.int .i64 d.start)) Tryd.underlying41 inf3 rfl rfl rfl (fun bA => ⟨Sub.pick [4] rfl, ?_⟩)⟩, ⟨_, rfl, rfl, l_alloc inf41 rfl (fun bC => ⟨Sub.pick [4] rfl, ?_⟩)⟩, trivial⟩
      · refine RO.fork [7] (by kernel_rfl) rfl ⟨⟨_, rfl, rfl, l_alloc inf41 rfl (fun bC => ⟨Sub.pick [5] rfl, ?_⟩)⟩, trivial⟩
        refine RO.fork [9] (by kernel_rfl) rfl ⟨⟨_, rfl, rfl, l_store_box (v := (.slice (some ⟨bA, 0, none⟩) 1 1)) (vs := [(.slice (some ⟨bA, 0, none⟩) 1 1)]) 0 inf41 rfl rfl rfl rfl rfl rfl (by simp [putL]) ⟨Sub.pick [5] rfl, ?_⟩⟩, trivial⟩
        refine RO.fork [10] (by kernel_rfl) rfl ⟨⟨_, rfl, rfl, l_store_box (v := (.slice (some ⟨bB, 0, none⟩) d.next.length d.next.length)) (vs := [(.slice (some ⟨bB, 0, none⟩) d.next.length d.next.length)]) 2 inf23 rfl rfl rfl rfl rfl rfl (by simp [putL]) ⟨Sub.pick [5] rfl, ?_⟩⟩, trivial⟩
        exact RO.fin (by kernel_rfl) ⟨bA, bB, bC, bD, rfl, ⟨rfl, rfl, rfl, rfl, rfl, rfl, rfl, trivial⟩⟩ (Sub.pick [0, 1, 0, 0, 0, 0] rfl)
      refine RO.fork [2] (by kernel_rfl) rfl ⟨⟨_, rfl, rfl, l_build1 (v := (.int .i64 d.start)) Tryd.underlying41 inf3 rfl rfl rfl (fun bA => ⟨Sub.pick [5] rfl, ?_⟩)⟩, trivial⟩
      refine RO.fork [9] (by kernel_rfl) rfl ⟨⟨_, rfl, rfl, l_store_box (v := (.slice (some ⟨bA, 0, none⟩) 1 1)) (vs := [(.slice (some ⟨bA, 0, none⟩) 1 1)]) 1 inf41 rfl rfl rfl rfl rfl rfl (by simp [putL]) ⟨Sub.pick [5] rfl, ?_⟩⟩, trivial⟩
      refine RO.fork [10] (by kernel_rfl) rfl ⟨⟨_, rfl, rfl, l_store_box (v := (.slice (some ⟨bB, 0, none⟩) d.next.length d.next.length)) (vs := [(.slice (some ⟨bB, 0, none⟩) d.next.length d.next.length)]) 2 inf23 rfl rfl rfl rfl rfl rfl (by simp [putL]) ⟨Sub.pick [5] rfl, ?_⟩⟩, trivial⟩
      exact RO.fin (by kernel_rfl) ⟨bA, bB, bC, bD, rfl, ⟨rfl, rfl, rfl, rfl, rfl, rfl, rfl, trivial⟩⟩ (Sub.pick [1, 1, 0, 0, 0, 0] rfl)
    · refine RO.fork [2, 6, 8] (by kernel_rfl) rfl ⟨⟨_, rfl, rfl, l_build1 (v := (.int .i64 d.start)) Tryd.underlying41 inf3 rfl rfl rfl (fun bA => ⟨Sub.pick [3] rfl, ?_⟩)⟩, ⟨_, rfl, rfl, l_makeSlice (m := d.next.length) Tryd.underlying23 inf4 rfl rfl (by omega) (by omega) (fun bB => ⟨Sub.pick [3] rfl, ?_⟩)⟩, ⟨_, rfl, rfl, l_alloc inf23 rfl (fun bD => ⟨Sub.pick [3] rfl, ?_⟩)⟩, trivial⟩
      · refine RO.fork [6, 8] (by kernel_rfl) rfl ⟨⟨_, rfl, rfl, l_makeSlice (m := d.next.length) Tryd.underlying23 inf4 rfl rfl (by omega) (by omega) (fun bB => ⟨Sub.pick [4] rfl, ?_⟩)⟩, ⟨_, rfl, rfl, l_alloc inf23 rfl (fun bD => ⟨Sub.pick [4] rfl, ?_⟩)⟩, trivial⟩
        · refine RO.fork [8] (by kernel_rfl) rfl ⟨⟨_, rfl, rfl, l_alloc inf23 rfl (fun bD => ⟨Sub.pick [5] rfl, ?_⟩)⟩, trivial⟩
          refine RO.fork [9] (by kernel_rfl) rfl ⟨⟨_, rfl, rfl, l_store_box (v := (.slice (some ⟨bA, 0, none⟩) 1 1)) (vs := [(.slice (some ⟨bA, 0, none⟩) 1 1)]) 3 inf41 rfl rfl rfl rfl rfl rfl (by simp [putL]) ⟨Sub.pick [5] rfl, ?_⟩⟩, trivial⟩
          refine RO.fork [10] (by kernel_rfl) rfl ⟨⟨_, rfl, rfl, l_store_box (v := (.slice (some ⟨bB, 0, none⟩) d.next.length d.next.length)) (vs := [(.slice (some ⟨bB, 0, none⟩) d.next.length d.next.length)]) 0 inf23 rfl rfl rfl rfl rfl rfl (by simp [putL]) ⟨Sub.pick [5] rfl, ?_⟩⟩, trivial⟩
          exact RO.fin (by kernel_rfl) ⟨bA, bB, bC, bD, rfl, ⟨rfl, rfl, rfl, rfl, rfl, rfl, rfl, trivial⟩⟩ (Sub.pick [3, 0, 1, 0, 0, 0] rfl)
        refine RO.fork [6, 9] (by kernel_rfl) rfl ⟨⟨_, rfl, rfl, l_makeSlice (m := d.next.length) Tryd.underlying23 inf4 rfl rfl (by omega) (by omega) (fun bB => ⟨Sub.pick [5] rfl, ?_⟩)⟩, ⟨_, rfl, rfl, l_store_box (v := (.slice (some ⟨bA, 0, none⟩) 1 1)) (vs := [(.slice (some ⟨bA, 0, none⟩) 1 1)]) 2 inf41 rfl rfl rfl rfl rfl rfl (by simp [putL]) ⟨Sub.pick [4] rfl, ?_⟩⟩, trivial⟩
        · refine RO.fork [9] (by kernel_rfl) rfl ⟨⟨_, rfl, rfl, l_store_box (v := (.slice (some ⟨bA, 0, none⟩) 1 1)) (vs := [(.slice (some ⟨bA, 0, none⟩) 1 1)]) 3 inf41 rfl rfl rfl rfl rfl rfl (by simp [putL]) ⟨Sub.pick [5] rfl, ?_⟩⟩, trivial⟩
          refine RO.fork [10] (by kernel_rfl) rfl ⟨⟨_, rfl, rfl, l_store_box (v := (.slice (some ⟨bB, 0, none⟩) d.next.length d.next.length)) (vs := [(.slice (some ⟨bB, 0, none⟩) d.next.length d.next.length)]) 1 inf23 rfl rfl rfl rfl rfl rfl (by simp [putL]) ⟨Sub.pick [5] rfl, ?_⟩⟩, trivial⟩
          exact RO.fin (by kernel_rfl) ⟨bA, bB, bC, bD, rfl, ⟨rfl, rfl, rfl, rfl, rfl, rfl, rfl, trivial⟩⟩ (Sub.pick [3, 1, 1, 0, 0, 0] rfl)
        refine RO.fork [6] (by kernel_rfl) rfl ⟨⟨_, rfl, rfl, l_makeSlice (m := d.next.length) Tryd.underlying23 inf4 rfl rfl (by omega) (by omega) (fun bB => ⟨Sub.pick [5] rfl, ?_⟩)⟩, trivial⟩
        refine RO.fork [10] (by kernel_rfl) rfl ⟨⟨_, rfl, rfl, l_store_box (v := (.slice (some ⟨bB, 0, none⟩) d.next.length d.next.length)) (vs := [(.slice (some ⟨bB, 0, none⟩) d.next.length d.next.length)]) 1 inf23 rfl rfl rfl rfl rfl rfl (by simp [putL]) ⟨Sub.pick [5] rfl, ?_⟩⟩, trivial⟩
        exact RO.fin (by kernel_rfl) ⟨bA, bB, bC, bD, rfl, ⟨rfl, rfl, rfl, rfl, rfl, rfl, rfl, trivial⟩⟩ (Sub.pick [3, 1, 1, 0, 0, 0] rfl)
      · refine RO.fork [2, 8] (by kernel_rfl) rfl ⟨⟨_, rfl, rfl, l_build1 (v := (.int .i64 d.start)) Tryd.underlying41 inf3 rfl rfl rfl (fun bA => ⟨Sub.pick [4] rfl, ?_⟩)⟩, ⟨_, rfl, rfl, l_alloc inf23 rfl (fun bD => ⟨Sub.pick [4] rfl, ?_⟩)⟩, trivial⟩
        · refine RO.fork [8] (by kernel_rfl) rfl ⟨⟨_, rfl, rfl, l_alloc inf23 rfl (fun bD => ⟨Sub.pick [5] rfl, ?_⟩)⟩, trivial⟩
          refine RO.fork [9] (by kernel_rfl) rfl ⟨⟨_, rfl, rfl, l_store_box (v := (.slice (some ⟨bA, 0, none⟩) 1 1)) (vs := [(.slice (some ⟨bA, 0, none⟩) 1 1)]) 3 inf41 rfl rfl rfl rfl rfl rfl (by simp [putL]) ⟨Sub.pick [5] rfl, ?_⟩⟩, trivial⟩
          refine RO.fork [10] (by kernel_rfl) rfl ⟨⟨_, rfl, rfl, l_store_box (v := (.slice (some ⟨bB, 0, none⟩) d.next.length d.next.length)) (vs := [(.slice (some ⟨bB, 0, none⟩) d.next.length d.next.length)]) 0 inf23 rfl rfl rfl rfl rfl rfl (by simp [putL]) ⟨Sub.pick [5] rfl, ?_⟩⟩, trivial⟩
          exact RO.fin (by kernel_rfl) ⟨bA, bB, bC, bD, rfl, ⟨rfl, rfl, rfl, rfl, rfl, rfl, rfl, trivial⟩⟩ (Sub.pick [3, 0, 0, 0, 0, 0] rfl)
        refine RO.fork [2] (by kernel_rfl) rfl ⟨⟨_, rfl, rfl, l_build1 (v := (.int .i64 d.start)) Tryd.underlying41 inf3 rfl rfl rfl (fun bA => ⟨Sub.pick [5] rfl, ?_⟩)⟩, trivial⟩
        refine RO.fork [9] (by kernel_rfl) rfl ⟨⟨_, rfl, rfl, l_store_box (v := (.slice (some ⟨bA, 0, none⟩) 1 1)) (vs := [(.slice (some ⟨bA, 0, none⟩) 1 1)]) 3 inf41 rfl rfl rfl rfl rfl rfl (by simp [putL]) ⟨Sub.pick [5] rfl, ?_⟩⟩, trivial⟩
        refine RO.fork [10] (by kernel_rfl) rfl ⟨⟨_, rfl, rfl, l_store_box (v := (.slice (some ⟨bB, 0, none⟩) d.next.length d.next.length)) (vs := [(.slice (some ⟨bB, 0, none⟩) d.next.length d.next.length)]) 1 inf23 rfl rfl rfl rfl rfl rfl (by simp [putL]) ⟨Sub.pick [5] rfl, ?_⟩⟩, trivial⟩
        exact RO.fin (by kernel_rfl) ⟨bA, bB, bC, bD, rfl, ⟨rfl, rfl, rfl, rfl, rfl, rfl, rfl, trivial⟩⟩ (Sub.pick [3, 1, 0, 0, 0, 0] rfl)
      refine RO.fork [2, 6] (by kernel_rfl) rfl ⟨⟨_, rfl, rfl, l_build1 (v := (.int .i64 d.start)) Tryd.underlying41 inf3 rfl rfl rfl (fun bA => ⟨Sub.pick [4] rfl, ?_⟩)⟩, ⟨_, rfl, rfl, l_makeSlice (m := d.next.length) Tryd.underlying23 inf4 rfl rfl (by omega) (by omega) (fun bB => ⟨Sub.pick [4] rfl, ?_⟩)⟩, trivial⟩
      · refine RO.fork [6, 9] (by kernel_rfl) rfl ⟨⟨_, rfl, rfl, l_makeSlice (m := d.next.length) Tryd.underlying23 inf4 rfl rfl (by omega) (by omega) (fun bB => ⟨Sub.pick [5] rfl, ?_⟩)⟩, ⟨_, rfl, rfl, l_store_box (v := (.slice (some ⟨bA, 0, none⟩) 1 1)) (vs := [(.slice (some ⟨bA, 0, none⟩) 1 1)]) 2 inf41 rfl rfl rfl rfl rfl rfl (by simp [putL]) ⟨Sub.pick [4] rfl, ?_⟩⟩, trivial⟩
        · refine RO.fork [9] (by kernel_rfl) rfl ⟨⟨_, rfl, rfl, l_store_box (v := (.slice (some ⟨bA, 0, none⟩) 1 1)) (vs := [(.slice (some ⟨bA, 0, none⟩) 1 1)]) 3 inf41 rfl rfl rfl rfl rfl rfl (by simp [putL]) ⟨Sub.pick [5] rfl, ?_⟩⟩, trivial⟩
          refine RO.fork [10] (by kernel_rfl) rfl ⟨⟨_, rfl, rfl, l_store_box (v := (.slice (some ⟨bB, 0, none⟩) d.next.length d.next.length)) (vs := [(.slice (some ⟨bB, 0, none⟩) d.next.length d.next.length)]) 2 inf23 rfl rfl rfl rfl rfl rfl (by simp [putL]) ⟨Sub.pick [5] rfl, ?_⟩⟩, trivial⟩
          exact RO.fin (by kernel_rfl) ⟨bA, bB, bC, bD, rfl, ⟨rfl, rfl, rfl, rfl, rfl, rfl, rfl, trivial⟩⟩ (Sub.pick [3, 2, 1, 0, 0, 0] rfl)
        refine RO.fork [6] (by kernel_rfl) rfl ⟨⟨_, rfl, rfl, l_makeSlice (m := d.next.length) Tryd.underlying23 inf4 rfl rfl (by omega) (by omega) (fun bB => ⟨Sub.pick [5] rfl, ?_⟩)⟩, trivial⟩
        refine RO.fork [10] (by kernel_rfl) rfl ⟨⟨_, rfl, rfl, l_store_box (v := (.slice (some ⟨bB, 0, none⟩) d.next.length d.next.length)) (vs := [(.slice (some ⟨bB, 0, none⟩) d.next.length d.next.length)]) 2 inf23 rfl rfl rfl rfl rfl rfl (by simp [putL]) ⟨Sub.pick [5] rfl, ?_⟩⟩, trivial⟩
        exact RO.fin (by kernel_rfl) ⟨bA, bB, bC, bD, rfl, ⟨rfl, rfl, rfl, rfl, rfl, rfl, rfl, trivial⟩⟩ (Sub.pick [3, 2, 1, 0, 0, 0] rfl)
      refine RO.fork [2] (by kernel_rfl) rfl ⟨⟨_, rfl, rfl, l_build1 (v := (.int .i64 d.start)) Tryd.underlying41 inf3 rfl rfl rfl (fun bA => ⟨Sub.pick [5] rfl, ?_⟩)⟩, trivial⟩
      refine RO.fork [9] (by kernel_rfl) rfl ⟨⟨_, rfl, rfl, l_store_box (v := (.slice (some ⟨bA, 0, none⟩) 1 1)) (vs := [(.slice (some ⟨bA, 0, none⟩) 1 1)]) 3 inf41 rfl rfl rfl rfl rfl rfl (by simp [putL]) ⟨Sub.pick [5] rfl, ?_⟩⟩, trivial⟩
      refine RO.fork [10] (by kernel_rfl) rfl ⟨⟨_, rfl, rfl, l_store_box (v := (.slice (some ⟨bB, 0, none⟩) d.next.length d.next.length)) (vs := [(.slice (some ⟨bB, 0, none⟩) d.next.length d.next.length)]) 2 inf23 rfl rfl rfl rfl rfl rfl (by simp [putL]) ⟨Sub.pick [5] rfl, ?_⟩⟩, trivial⟩
      exact RO.fin (by kernel_rfl) ⟨bA, bB, bC, bD, rfl, ⟨rfl, rfl, rfl, rfl, rfl, rfl, rfl, trivial⟩⟩ (Sub.pick [3, 2, 0, 0, 0, 0] rfl)
    refine RO.fork [2, 6, 7] (by kernel_rfl) rfl ⟨⟨_, rfl, rfl, l_build1 (v := (.int .i64 d.start)) Tryd.underlying41 inf3 rfl rfl rfl (fun bA => ⟨Sub.pick [3] rfl, ?_⟩)⟩, ⟨_, rfl, rfl, l_makeSlice (m := d.next.length) Tryd.underlying23 inf4 rfl rfl (by omega) (by omega) (fun bB => ⟨Sub.pick [3] rfl, ?_⟩)⟩, ⟨_, rfl, rfl, l_alloc inf41 rfl (fun bC => ⟨Sub.pick [3] rfl, ?_⟩)⟩, trivial⟩
    · refine RO.fork [6, 7] (by kernel_rfl) rfl ⟨⟨_, rfl, rfl, l_makeSlice (m := d.next.length) Tryd.underlying23 inf4 rfl rfl (by omega) (by omega) (fun bB => ⟨Sub.pick [4] rfl, ?_⟩)⟩, ⟨_, rfl, rfl, l_alloc inf41 rfl (fun bC => ⟨Sub.pick [4] rfl, ?_⟩)⟩, trivial⟩
      · refine RO.fork [7] (by kernel_rfl) rfl ⟨⟨_, rfl, rfl, l_alloc inf41 rfl (fun bC => ⟨Sub.pick [5] rfl, ?_⟩)⟩, trivial⟩
        refine RO.fork [9] (by kernel_rfl) rfl ⟨⟨_, rfl, rfl, l_store_box (v := (.slice (some ⟨bA, 0, none⟩) 1 1)) (vs := [(.slice (some ⟨bA, 0, none⟩) 1 1)]) 0 inf41 rfl rfl rfl rfl rfl rfl (by simp [putL]) ⟨Sub.pick [5] rfl, ?_⟩⟩, trivial⟩
        refine RO.fork [10] (by kernel_rfl) rfl ⟨⟨_, rfl, rfl, l_store_box (v := (.slice (some ⟨bB, 0, none⟩) d.next.length d.next.length)) (vs := [(.slice (some ⟨bB, 0, none⟩) d.next.length d.next.length)]) 3 inf23 rfl rfl rfl rfl rfl rfl (by simp [putL]) ⟨Sub.pick [5] rfl, ?_⟩⟩, trivial⟩
        exact RO.fin (by kernel_rfl) ⟨bA, bB, bC, bD, rfl, ⟨rfl, rfl, rfl, rfl, rfl, rfl, rfl, trivial⟩⟩ (Sub.pick [0, 2, 1, 0, 0, 0] rfl)
      refine RO.fork [6, 9] (by kernel_rfl) rfl ⟨⟨_, rfl, rfl, l_makeSlice (m := d.next.length) Tryd.underlying23 inf4 rfl rfl (by omega) (by omega) (fun bB => ⟨Sub.pick [5] rfl, ?_⟩)⟩, ⟨_, rfl, rfl, l_store_box (v := (.slice (some ⟨bA, 0, none⟩) 1 1)) (vs := [(.slice (some ⟨bA, 0, none⟩) 1 1)]) 0 inf41 rfl rfl rfl rfl rfl rfl (by simp [putL]) ⟨Sub.pick [4] rfl, ?_⟩⟩, trivial⟩
      · refine RO.fork [9] (by kernel_rfl) rfl ⟨⟨_, rfl, rfl, l_store_box (v := (.slice (some ⟨bA, 0, none⟩) 1 1)) (vs := [(.slice (some ⟨bA, 0, none⟩) 1 1)]) 1 inf41 rfl rfl rfl rfl rfl rfl (by simp [putL]) ⟨Sub.pick [5] rfl, ?_⟩⟩, trivial⟩
        refine RO.fork [10] (by kernel_rfl) rfl ⟨⟨_, rfl, rfl, l_store_box (v := (.slice (some ⟨bB, 0, none⟩) d.next.length d.next.length)) (vs := [(.slice (some ⟨bB, 0, none⟩) d.next.length d.next.length)]) 3 inf23 rfl rfl rfl rfl rfl rfl (by simp [putL]) ⟨Sub.pick [5] rfl, ?_⟩⟩, trivial⟩
        exact RO.fin (by kernel_rfl) ⟨bA, bB, bC, bD, rfl, ⟨rfl, rfl, rfl, rfl, rfl, rfl, rfl, trivial⟩⟩ (Sub.pick [1, 2, 1, 0, 0, 0] rfl)
      refine RO.fork [6] (by kernel_rfl) rfl ⟨⟨_, rfl, rfl, l_makeSlice (m := d.next.length) Tryd.underlying23 inf4 rfl rfl (by omega) (by omega) (fun bB => ⟨Sub.pick [5] rfl, ?_⟩)⟩, trivial⟩
      refine RO.fork [10] (by kernel_rfl) rfl ⟨⟨_, rfl, rfl, l_store_box (v := (.slice (some ⟨bB, 0, none⟩) d.next.length d.next.length)) (vs := [(.slice (some ⟨bB, 0, none⟩) d.next.length d.next.length)]) 3 inf23 rfl rfl rfl rfl rfl rfl (by simp [putL]) ⟨Sub.pick [5] rfl, ?_⟩⟩, trivial⟩
      exact RO.fin (by kernel_rfl) ⟨bA, bB, bC, bD, rfl, ⟨rfl, rfl, rfl, rfl, rfl, rfl, rfl, trivial⟩⟩ (Sub.pick [1, 2, 1, 0, 0, 0] rfl)
    · refine RO.fork [2, 7] (by kernel_rfl) rfl ⟨⟨_, rfl, rfl, l_build1 (v := (.int .i64 d.start)) Tryd.underlying41 inf3 rfl rfl rfl (fun bA => ⟨Sub.pick [4] rfl, ?_⟩)⟩, ⟨_, rfl, rfl, l_alloc inf41 rfl (fun bC => ⟨Sub.pick [4] rfl, ?_⟩)⟩, trivial⟩
      · refine RO.fork [7] (by kernel_rfl) rfl ⟨⟨_, rfl, rfl, l_alloc inf41 rfl (fun bC => ⟨Sub.pick [5] rfl, ?_⟩)⟩, trivial⟩
        refine RO.fork [9] (by kernel_rfl) rfl ⟨⟨_, rfl, rfl, l_store_box (v := (.slice (some ⟨bA, 0, none⟩) 1 1)) (vs := [(.slice (some ⟨bA, 0, none⟩) 1 1)]) 0 inf41 rfl rfl rfl rfl rfl rfl (by simp [putL]) ⟨Sub.pick [5] rfl, ?_⟩⟩, trivial⟩
        refine RO.fork [10] (by kernel_rfl) rfl ⟨⟨_, rfl, rfl, l_store_box (v := (.slice (some ⟨bB, 0, none⟩) d.next.length d.next.length)) (vs := [(.slice (some ⟨bB, 0, none⟩) d.next.length d.next.length)]) 3 inf23 rfl rfl rfl rfl rfl rfl (by simp [putL]) ⟨Sub.pick [5] rfl, ?_⟩⟩, trivial⟩
        exact RO.fin (by kernel_rfl) ⟨bA, bB, bC, bD, rfl, ⟨rfl, rfl, rfl, rfl, rfl, rfl, rfl, trivial⟩⟩ (Sub.pick [0, 2, 0, 0, 0, 0] rfl)
      refine RO.fork [2] (by kernel_rfl) rfl ⟨⟨_, rfl, rfl, l_build1 (v := (.int .i64 d.start)) Tryd.underlying41 inf3 rfl rfl rfl (fun bA => ⟨Sub.pick [5] rfl, ?_⟩)⟩, trivial⟩
      refine RO.fork [9] (by kernel_rfl) rfl ⟨⟨_, rfl, rfl, l_store_box (v := (.slice (some ⟨bA, 0, none⟩) 1 1)) (vs := [(.slice (some ⟨bA, 0, none⟩) 1 1)]) 1 inf41 rfl rfl rfl rfl rfl rfl (by simp [putL]) ⟨Sub.pick [5] rfl, ?_⟩⟩, trivial⟩
      refine RO.fork [10] (by kernel_rfl) rfl ⟨⟨_, rfl, rfl, l_store_box (v := (.slice (some ⟨bB, 0, none⟩) d.next.length d.next.length)) (vs := [(.slice (some ⟨bB, 0, none⟩) d.next.length d.next.length)]) 3 inf23 rfl rfl rfl rfl rfl rfl (by simp [putL]) ⟨Sub.pick [5] rfl, ?_⟩⟩, trivial⟩
      exact RO.fin (by kernel_rfl) ⟨bA, bB, bC, bD, rfl, ⟨rfl, rfl, rfl, rfl, rfl, rfl, rfl, trivial⟩⟩ (Sub.pick [1, 2, 0, 0, 0, 0] rfl)
    refine RO.fork [2, 6] (by kernel_rfl) rfl ⟨⟨_, rfl, rfl, l_build1 (v := (.int .i64 d.start)) Tryd.underlying41 inf3 rfl rfl rfl (fun bA => ⟨Sub.pick [4] rfl, ?_⟩)⟩, ⟨_, rfl, rfl, l_makeSlice (m := d.next.length) Tryd.underlying23 inf4 rfl rfl (by omega) (by omega) (fun bB => ⟨Sub.pick [4] rfl, ?_⟩)⟩, trivial⟩
    · refine RO.fork [6, 9] (by kernel_rfl) rfl ⟨⟨_, rfl, rfl, l_makeSlice (m := d.next.length) Tryd.underlying23 inf4 rfl rfl (by omega) (by omega) (fun bB => ⟨Sub.pick [5] rfl, ?_⟩)⟩, ⟨_, rfl, rfl, l_store_box (v := (.slice (some ⟨bA, 0, none⟩) 1 1)) (vs := [(.slice (some ⟨bA, 0, none⟩) 1 1)]) 1 inf41 rfl rfl rfl rfl rfl rfl (by simp [putL]) ⟨Sub.pick [4] rfl, ?_⟩⟩, trivial⟩
      · refine RO.fork [9] (by kernel_rfl) rfl ⟨⟨_, rfl, rfl, l_store_box (v := (.slice (some ⟨bA, 0, none⟩) 1 1)) (vs := [(.slice (some ⟨bA, 0, none⟩) 1 1)]) 2 inf41 rfl rfl rfl rfl rfl rfl (by simp [putL]) ⟨Sub.pick [5] rfl, ?_⟩⟩, trivial⟩
        refine RO.fork [10] (by kernel_rfl) rfl ⟨⟨_, rfl, rfl, l_store_box (v := (.slice (some ⟨bB, 0, none⟩) d.next.length d.next.length)) (vs := [(.slice (some ⟨bB, 0, none⟩) d.next.length d.next.length)]) 3 inf23 rfl rfl rfl rfl rfl rfl (by simp [putL]) ⟨Sub.pick [5] rfl, ?_⟩⟩, trivial⟩
        exact RO.fin (by kernel_rfl) ⟨bA, bB, bC, bD, rfl, ⟨rfl, rfl, rfl, rfl, rfl, rfl, rfl, trivial⟩⟩ (Sub.pick [2, 2, 1, 0, 0, 0] rfl)
      refine RO.fork [6] (by kernel_rfl) rfl ⟨⟨_, rfl, rfl, l_makeSlice (m := d.next.length) Tryd.underlying23 inf4 rfl rfl (by omega) (by omega) (fun bB => ⟨Sub.pick [5] rfl, ?_⟩)⟩, trivial⟩
      refine RO.fork [10] (by kernel_rfl) rfl ⟨⟨_, rfl, rfl, l_store_box (v := (.slice (some ⟨bB, 0, none⟩) d.next.length d.next.length)) (vs := [(.slice (some ⟨bB, 0, none⟩) d.next.length d.next.length)]) 3 inf23 rfl rfl rfl rfl rfl rfl (by simp [putL]) ⟨Sub.pick [5] rfl, ?_⟩⟩, trivial⟩
      exact RO.fin (by kernel_rfl) ⟨bA, bB, bC, bD, rfl, ⟨rfl, rfl, rfl, rfl, rfl, rfl, rfl, trivial⟩⟩ (Sub.pick [2, 2, 1, 0, 0, 0] rfl)
    refine RO.fork [2] (by kernel_rfl) rfl ⟨⟨_, rfl, rfl, l_build1 (v := (.int .i64 d.start)) Tryd.underlying41 inf3 rfl rfl rfl (fun bA => ⟨Sub.pick [5] rfl, ?_⟩)⟩, trivial⟩
    refine RO.fork [9] (by kernel_rfl) rfl ⟨⟨_, rfl, rfl, l_store_box (v := (.slice (some ⟨bA, 0, none⟩) 1 1)) (vs := [(.slice (some ⟨bA, 0, none⟩) 1 1)]) 2 inf41 rfl rfl rfl rfl rfl rfl (by simp [putL]) ⟨Sub.pick [5] rfl, ?_⟩⟩, trivial⟩
    refine RO.fork [10] (by kernel_rfl) rfl ⟨⟨_, rfl, rfl, l_store_box (v := (.slice (some ⟨bB, 0, none⟩) d.next.length d.next.length)) (vs := [(.slice (some ⟨bB, 0, none⟩) d.next.length d.next.length)]) 3 inf23 rfl rfl rfl rfl rfl rfl (by simp [putL]) ⟨Sub.pick [5] rfl, ?_⟩⟩, trivial⟩
    exact RO.fin (by kernel_rfl) ⟨bA, bB, bC, bD, rfl, ⟨rfl, rfl, rfl, rfl, rfl, rfl, rfl, trivial⟩⟩ (Sub.pick [2, 2, 0, 0, 0, 0] rfl)
  rintro ρ O ⟨bA, bB, bC, bD, rfl, hH⟩
  obtain ⟨ρ0, rfl⟩ := hH.elim
  clear hH
  refine T.seq (T.region ?_)
  refine TO.quiet (q_load_box 1 Tryd.underlying23 rfl rfl rfl rfl) (TO.quiet (q_fieldAddr Tryd.underlying25 rfl inf3 rfl rfl) (TO.quiet (q_load_box 5 Tryd.underlying3 rfl rfl rfl rfl) (TO.quiet (q_ixz (i := d.start) Tryd.underlying23 inf4 rfl rfl (rowO (List.mem_of_getElem? (i := 3) rfl)) hs0 hsn (by rw [List.length_replicate]; exact hsn)) ?_)))
  refine TO.loud rfl (l_st (j := d.start.toNat) (v := .bool true) (vs := [(.bool true)]) (cs := List.replicate d.next.length (.bool false)) 3 inf4 rfl rfl rfl rfl rfl (by simp) rfl (by first | (simp; omega) | (simp_all; omega)) ?_)
  refine TO.sub (O' := [oI bC 41 [(.slice (some ⟨bA, 0, none⟩) 1 1)], oI bD 23 [(.slice (some ⟨bB, 0, none⟩) d.next.length d.next.length)], rowI (some ⟨bA, 0, none⟩) 1 3 1 [(.int .i64 d.start)], rowI (some ⟨bB, 0, none⟩) d.next.length 4 1 (bools ((List.replicate d.next.length false).set d.start.toNat true)), oI z2 25 [(.int .i64 0), (.int .i64 0), (.slice none 0 0), (.slice none 0 0)], oI z1 25 [(.int .i64 d.vars), (.int .i64 d.start), (.slice nb d.next.length nc), (.slice fb d.final.length fc)]]) (by rw [show putL (List.replicate d.next.length (.bool false)) d.start.toNat [(.bool true)] = bools ((List.replicate d.next.length false).set d.start.toNat true) from by simp [putL]]; exact Sub.of (List.Sublist.refl _)) ?_
  refine TO.nil (T.seq (T.region ?_))
  refine TO.quiet (q_makeFunc) (TO.quiet (q_assign rfl) ?_)
  refine TO.nil (T.seq (T.region ?_))
  refine TO.quiet (q_fieldAddr Tryd.underlying25 rfl inf3 rfl rfl) (TO.quiet (q_load_box 5 Tryd.underlying3 rfl rfl rfl rfl) (TO.quiet (q_fieldAddr Tryd.underlying25 rfl inf3 rfl rfl) ?_))
  refine TO.loud rfl (l_store_box (v := (.int .i64 d.vars)) (vs := [(.int .i64 d.vars)]) 4 inf3 rfl rfl rfl rfl rfl rfl (by simp [putL]) ?_)
  refine TO.nil (T.seq ?_)
  have hJ0 : [oI z1 25 [(.int .i64 d.vars), (.int .i64 d.start), (.slice nb d.next.length nc), (.slice fb d.final.length fc)], oI bC 41 [(.slice (some ⟨bA, 0, none⟩) 1 1)], rowI (some ⟨bA, 0, none⟩) 1 3 1 [(.int .i64 d.start)], oI bD 23 [(.slice (some ⟨bB, 0, none⟩) d.next.length d.next.length)], rowI (some ⟨bB, 0, none⟩) d.next.length 4 1 (bools ((List.replicate d.next.length false).set d.start.toNat true))] = [oI z1 25 [(.int .i64 d.vars), (.int .i64 d.start), (.slice nb d.next.length nc), (.slice fb d.final.length fc)], oI bC 41 [(.slice (some ⟨bA, 0, none⟩) 1 1)], rowI (some ⟨bA, 0, none⟩) 1 3 1 (nats [d.start.toNat]), oI bD 23 [(.slice (some ⟨bB, 0, none⟩) d.next.length d.next.length)], rowI (some ⟨bB, 0, none⟩) d.next.length 4 1 (bools ((List.replicate d.next.length false).set d.start.toNat true))] := by
    rw [show nats [d.start.toNat] = [.int .i64 d.start] by simp [Int.toNat_of_nonneg hs0]]
  have hseen : ∀ t, t < d.next.length → ((List.replicate d.next.length false).set d.start.toNat true)[t]? = some (decide (t ∈ [d.start.toNat])) := fun t ht => by
    by_cases e : t = d.start.toNat
    · subst e; rw [List.getElem?_set_self (by simpa using ht)]; simp
    · rw [List.getElem?_set_ne (fun h => e h.symm)]; simp [ht, e]
  refine T.draws [oI z1 25 [(.int .i64 d.vars), (.int .i64 d.start), (.slice nb d.next.length nc), (.slice fb d.final.length fc)]] [(0, 0), (1, 0), (2, 0), (3, 0), (4, 0), (5, 0), (6, 0), (7, 0), (9, 0), (8, 1), (10, 1), (11, 0), (12, 0), (13, 0), (14, 0), (15, 1)] mixed (drawF_ok (by kernel_rfl)) (Sub.pick [5] rfl) (fun _ _ _ h => h) ?_
  refine DO.quiet rfl (q_fieldAddr Tryd.underlying25 rfl inf3 rfl rfl) (DO.quiet rfl (q_load_box 0 Tryd.underlying3 rfl rfl rfl rfl) (DO.quiet rfl (q_shl1 (v := d.vars.toNat) rfl (by show Value.int _ d.vars = _; rw [Int.toNat_of_nonneg hv.v0]) (by have := hv.v6; omega)) (DO.quiet rfl (q_fieldAddr Tryd.underlying25 rfl inf22 rfl rfl) ?_)))
  refine DO.quiet rfl (q_load_box 0 Tryd.underlying22 rfl rfl rfl rfl) (DO.quiet rfl (q_len Tryd.underlying22 rfl) (DO.quiet rfl (q_fieldAddr Tryd.underlying25 rfl inf3 rfl rfl) (DO.quiet rfl (QT.cast (q_load_box 0 Tryd.underlying3 rfl rfl rfl rfl) (v' := .int .i64 ((d.start.toNat : Nat) : Int)) (by rw [Int.toNat_of_nonneg hs0])) ?_)))
  refine DO.quiet rfl (q_move rfl) ?_
  have hk40 := fun (w1 : World) (hI : Inv w [oI bC 41 [(.slice (some ⟨bA, 0, none⟩) 1 1)], oI bD 23 [(.slice (some ⟨bB, 0, none⟩) d.next.length d.next.length)], rowI (some ⟨bA, 0, none⟩) 1 3 1 [(.int .i64 d.start)], rowI (some ⟨bB, 0, none⟩) d.next.length 4 1 (bools ((List.replicate d.next.length false).set d.start.toNat true)), oI z2 25 [(.int .i64 d.vars), (.int .i64 0), (.slice none 0 0), (.slice none 0 0)], oI z1 25 [(.int .i64 d.vars), (.int .i64 d.start), (.slice nb d.next.length nc), (.slice fb d.final.length fc)]] w1) => (haveI := Inv.tab (P := Tryd.prog) hI; itoaF w1 d.start.toNat (by omega))
  refine DO.loud rfl rfl (l_call ent65 (CallT.of_pure hk40) rfl ?_)
  clear hk40
  rintro v O' ⟨N, rfl, rfl, rfl⟩
  refine ⟨Sub.pick [5] rfl, ?_⟩
  have hk42 := CallT.under (B := [oI z2 25 [(.int .i64 d.vars), (.int .i64 0), (.slice none 0 0), (.slice none 0 0)]]) (O := [oI bC 41 [(.slice (some ⟨bA, 0, none⟩) 1 1)], oI bD 23 [(.slice (some ⟨bB, 0, none⟩) d.next.length d.next.length)], rowI (some ⟨bA, 0, none⟩) 1 3 1 [(.int .i64 d.start)], rowI (some ⟨bB, 0, none⟩) d.next.length 4 1 (bools ((List.replicate d.next.length false).set d.start.toNat true)), oI z2 25 [(.int .i64 d.vars), (.int .i64 0), (.slice none 0 0), (.slice none 0 0)], oI z1 25 [(.int .i64 d.vars), (.int .i64 d.start), (.slice nb d.next.length nc), (.slice fb d.final.length fc)]]) (exploreC w (trD d) (2 ^ d.vars.toNat) d.next.length (Lib.decDigits d.start.toNat) (.func (.func 64) #[] #[.pointer (some ⟨z1, 0, none⟩), .pointer (some ⟨bC, 0, none⟩), .pointer (some ⟨bD, 0, none⟩)]) (RenJ d nb fb nc fc z1 bB bC bD) (fun ks => ks.length ≤ d.next.length) hv.width hv.n4 (fun ks s x O hs hx _ hJ => nextV w d nb fb nc fc vs h hv hn z1 bB bC bD ks s x O hs hx hJ) (fun _ h => h) [oI z1 25 [(.int .i64 d.vars), (.int .i64 d.start), (.slice nb d.next.length nc), (.slice fb d.final.length fc)], oI bC 41 [(.slice (some ⟨bA, 0, none⟩) 1 1)], rowI (some ⟨bA, 0, none⟩) 1 3 1 [(.int .i64 d.start)], oI bD 23 [(.slice (some ⟨bB, 0, none⟩) d.next.length d.next.length)], rowI (some ⟨bB, 0, none⟩) d.next.length 4 1 (bools ((List.replicate d.next.length false).set d.start.toNat true))] (by simp; omega) ⟨[d.start.toNat], (List.replicate d.next.length false).set d.start.toNat true, some ⟨bA, 0, none⟩, 1, rfl, hJ0, by simp, by simp; omega, by simp, hseen⟩) (Sub.pick [5, 0, 1, 0, 0, 0] rfl)
  refine DO.loud rfl rfl (l_call ent66 hk42 rfl ?_)
  clear hk42
  rintro v O' ⟨A1, rfl, rb, rc, qs, N, O1, rfl, rfl, ⟨os, sn, ob, oc, hks, rfl, hnd, hos, hsl, hsn9⟩, hgl, hlenN, hE, hen⟩
  refine ⟨Sub.cnt ([rowI rb rc 41 1 (vals qs)] ++ itms 3 qs ++ [oI bC 41 [(.slice ob os.length oc)], rowI ob oc 3 1 (nats os), oI bD 23 [(.slice (some ⟨bB, 0, none⟩) d.next.length d.next.length)], rowI (some ⟨bB, 0, none⟩) d.next.length 4 1 (bools sn), oI z2 25 [(.int .i64 d.vars), (.int .i64 0), (.slice none 0 0), (.slice none 0 0)]]) (by intro a; simp only [itms, oI, List.set_cons_zero, List.set_cons_succ, putL, List.cons_append, List.nil_append, List.append_nil, List.append_assoc, List.map_append, List.map_cons, List.map_nil, cnt_append, cnt_cons, cnt_nil] <;> omega), ?_⟩
  refine DO.sub (O' := [rowI rb rc 41 1 (vals qs), oI z1 25 [(.int .i64 d.vars), (.int .i64 d.start), (.slice nb d.next.length nc), (.slice fb d.final.length fc)], oI bC 41 [(.slice ob os.length oc)], rowI ob oc 3 1 (nats os), oI bD 23 [(.slice (some ⟨bB, 0, none⟩) d.next.length d.next.length)], rowI (some ⟨bB, 0, none⟩) d.next.length 4 1 (bools sn), oI z2 25 [(.int .i64 d.vars), (.int .i64 0), (.slice none 0 0), (.slice none 0 0)]] ++ itms 3 qs) (Sub.cnt [] (by intro a; simp only [itms, oI, List.set_cons_zero, List.set_cons_succ, putL, List.cons_append, List.nil_append, List.append_nil, List.append_assoc, List.map_append, List.map_cons, List.map_nil, cnt_append, cnt_cons, cnt_nil] <;> omega)) ?_
  refine DO.quiet rfl (q_move rfl) (DO.quiet rfl (q_extract (vs := _) rfl rfl) (DO.quiet rfl (q_extract (vs := _) rfl rfl) (DO.quiet rfl (q_fieldAddr Tryd.underlying25 rfl inf22 rfl rfl) ?_)))
  refine DO.loud rfl rfl (l_store_box (v := (.slice rb N rc)) (vs := [(.slice rb N rc)]) 6 inf22 rfl rfl rfl rfl rfl rfl (by simp [putL]) ⟨Sub.pick0 [1] [rowI rb rc 41 1 (vals qs), oI z1 25 [(.int .i64 d.vars), (.int .i64 d.start), (.slice nb d.next.length nc), (.slice fb d.final.length fc)], oI bC 41 [(.slice ob os.length oc)], rowI ob oc 3 1 (nats os), oI bD 23 [(.slice (some ⟨bB, 0, none⟩) d.next.length d.next.length)], rowI (some ⟨bB, 0, none⟩) d.next.length 4 1 (bools sn), oI z2 25 [(.int .i64 d.vars), (.int .i64 0), (.slice rb N rc), (.slice none 0 0)]] (itms 3 qs) rfl rfl, ?_⟩)
  refine DO.done ?_
  refine T.seq (T.seq (T.region ?_))
  refine TO.quiet (q_load_box 2 Tryd.underlying41 rfl rfl rfl rfl) (TO.quiet (q_len Tryd.underlying41 rfl) (TO.quiet (q_move rfl) ?_))
  refine TO.nil (T.block ?_)
  have hol := nodup_bound hnd hos
  refine T.nilRow 4 1 ?_
  refine T.loop (fun (k : Nat) ρ O => ∃ (fb9 : Option Addr) (fc9 : Nat), O = ([rowI fb9 fc9 4 1 (bools ((os.take k).map fun o => d.final.getD o false)), rowI rb rc 41 1 (vals qs), oI z1 25 [(.int .i64 d.vars), (.int .i64 d.start), (.slice nb d.next.length nc), (.slice fb d.final.length fc)], oI bC 41 [(.slice ob os.length oc)], rowI ob oc 3 1 (nats os), oI bD 23 [(.slice (some ⟨bB, 0, none⟩) d.next.length d.next.length)], rowI (some ⟨bB, 0, none⟩) d.next.length 4 1 (bools sn), oI z2 25 [(.int .i64 d.vars), (.int .i64 0), (.slice rb N rc), (.slice fb9 k fc9)]] ++ (itms 3 qs)) ∧ k ≤ os.length ∧ Heads [(0, (.agg #[(.int .i64 d.vars), (.int .i64 d.start), (.slice nb d.next.length nc), (.slice fb d.final.length fc)])), (1, (.pointer (some ⟨z1, 0, none⟩))), (2, (.pointer (some ⟨z2, 0, none⟩))), (3, .int .i64 0), (4, .int .i64 ((0 : Nat) : Int)), (5, (.pointer (some ⟨bC, 0, none⟩))), (6, (.pointer (some ⟨bD, 0, none⟩))), (7, (.func (.func 64) #[] #[(.pointer (some ⟨z1, 0, none⟩)), (.pointer (some ⟨bC, 0, none⟩)), (.pointer (some ⟨bD, 0, none⟩))])), (46, (.slice ob os.length oc)), (47, .int .i64 (os.length : Int)), (48, .int .i64 (k : Int))] ρ) (fun k => os.length - k) 0 ?_ ?_
  · exact ⟨none, 0, rfl, Nat.zero_le _, ⟨rfl, rfl, rfl, rfl, rfl, rfl, rfl, rfl, rfl, rfl, rfl, trivial⟩⟩
  rintro k ρ O ⟨fb9, fc9, rfl, hk, hH⟩
  obtain ⟨ρ0, rfl⟩ := hH.elim
  clear hH
  refine T.seq (T.region ?_)
  refine TO.quiet (q_lss rfl rfl) ?_
  refine TO.nil (T.seq ?_)
  refine T.condP rfl (fun hc => ?_) (fun hc => ?_)
  · have hlt49 : k < os.length := by omega
    have hok : os[k] < d.next.length := hos _ (List.getElem_mem hlt49)
    have hokf : os[k] < d.final.length := by have := hv.fin; omega
    refine T.skip (T.seq (T.block (T.seq (T.region ?_))))
    refine TO.quiet (q_ix (i := k) Tryd.underlying41 inf3 rfl rfl (rowO (List.mem_of_getElem? (i := 4) rfl))) (TO.quiet (q_ld Tryd.underlying3 rfl rfl (rowO (List.mem_of_getElem? (i := 4) rfl)) nats_get) (TO.quiet (q_assign rfl) ?_))
    refine TO.nil ?_
    refine T.draws [oI z1 25 [(.int .i64 d.vars), (.int .i64 d.start), (.slice nb d.next.length nc), (.slice fb d.final.length fc)], oI z2 25 [(.int .i64 d.vars), (.int .i64 0), (.slice rb N rc), (.slice fb9 k fc9)]] [(0, 0), (1, 0), (2, 0), (3, 0), (4, 0), (5, 0), (6, 0), (7, 1), (8, 2), (9, 2), (10, 2)] mixed (by kernel_rfl) (Sub.pick0 [2, 6] [rowI fb9 fc9 4 1 (bools ((os.take k).map fun o => d.final.getD o false)), rowI rb rc 41 1 (vals qs), oI z1 25 [(.int .i64 d.vars), (.int .i64 d.start), (.slice nb d.next.length nc), (.slice fb d.final.length fc)], oI bC 41 [(.slice ob os.length oc)], rowI ob oc 3 1 (nats os), oI bD 23 [(.slice (some ⟨bB, 0, none⟩) d.next.length d.next.length)], rowI (some ⟨bB, 0, none⟩) d.next.length 4 1 (bools sn), oI z2 25 [(.int .i64 d.vars), (.int .i64 0), (.slice rb N rc), (.slice fb9 k fc9)]] (itms 3 qs) rfl rfl) (fun _ _ _ h => h) ?_
    refine DO.quiet rfl (q_fieldAddr Tryd.underlying25 rfl inf23 rfl rfl) (DO.quiet rfl (q_load_box 1 Tryd.underlying23 rfl rfl rfl rfl) (DO.quiet rfl (q_fieldAddr Tryd.underlying25 rfl inf23 rfl rfl) (DO.quiet rfl (q_load_box 0 Tryd.underlying23 rfl rfl rfl rfl) ?_)))
    refine DO.quiet rfl (q_move rfl) (DO.quiet rfl (q_ix (i := os[k]) Tryd.underlying23 inf4 rfl rfl (Sl.o h.final)) (DO.quiet rfl (q_ld Tryd.underlying4 rfl rfl (Sl.o h.final) bools_get) ?_))
    refine DO.loud rfl rfl (l_build1 (v := .bool d.final[os[k]]) Tryd.underlying23 inf4 rfl rfl rfl (fun z3 => ⟨Sub.pick0 [3, 7] [rowI (some ⟨z3, 0, none⟩) 1 4 1 [.bool d.final[os[k]]], rowI fb9 fc9 4 1 (bools ((os.take k).map fun o => d.final.getD o false)), rowI rb rc 41 1 (vals qs), oI z1 25 [(.int .i64 d.vars), (.int .i64 d.start), (.slice nb d.next.length nc), (.slice fb d.final.length fc)], oI bC 41 [(.slice ob os.length oc)], rowI ob oc 3 1 (nats os), oI bD 23 [(.slice (some ⟨bB, 0, none⟩) d.next.length d.next.length)], rowI (some ⟨bB, 0, none⟩) d.next.length 4 1 (bools sn), oI z2 25 [(.int .i64 d.vars), (.int .i64 0), (.slice rb N rc), (.slice fb9 k fc9)]] (itms 3 qs) rfl rfl, ?_⟩))
    refine DO.last rfl rfl (l_append 1 Tryd.underlying23 Tryd.underlying23 inf4 rfl rfl rfl rfl (by simp; omega) (by decide) (Src.row (j := 0) rfl (by simp)) (by simp [oneB]) (by omega) (by decide) (by decide) (fun z4 zc5 => ?_))
    refine DO.last rfl rfl (LT.of_quiet rfl rfl (q_fieldAddr Tryd.underlying25 rfl inf23 rfl rfl) ?_)
    refine DO.last rfl rfl (l_store_box (v := (.slice z4 (k + 1) zc5)) (vs := [(.slice z4 (k + 1) zc5)]) 8 inf23 rfl rfl rfl rfl rfl rfl (by simp [putL]) ?_)
    refine DO.sub (O' := ([rowI z4 zc5 4 1 ((bools ((os.take k).map fun o => d.final.getD o false)) ++ [.bool d.final[os[k]]]), rowI rb rc 41 1 (vals qs), oI z1 25 [(.int .i64 d.vars), (.int .i64 d.start), (.slice nb d.next.length nc), (.slice fb d.final.length fc)], oI bC 41 [(.slice ob os.length oc)], rowI ob oc 3 1 (nats os), oI bD 23 [(.slice (some ⟨bB, 0, none⟩) d.next.length d.next.length)], rowI (some ⟨bB, 0, none⟩) d.next.length 4 1 (bools sn), oI z2 25 [(.int .i64 d.vars), (.int .i64 0), (.slice rb N rc), (.slice z4 (k + 1) zc5)]] ++ (itms 3 qs))) (Sub.pickR [1, 1, 1, 1, 1, 1, 1, 1] [rowI (some ⟨z3, 0, none⟩) 1 4 1 [.bool d.final[os[k]]], rowI z4 zc5 4 1 ((bools ((os.take k).map fun o => d.final.getD o false)) ++ [.bool d.final[os[k]]]), rowI rb rc 41 1 (vals qs), oI z1 25 [(.int .i64 d.vars), (.int .i64 d.start), (.slice nb d.next.length nc), (.slice fb d.final.length fc)], oI bC 41 [(.slice ob os.length oc)], rowI ob oc 3 1 (nats os), oI bD 23 [(.slice (some ⟨bB, 0, none⟩) d.next.length d.next.length)], rowI (some ⟨bB, 0, none⟩) d.next.length 4 1 (bools sn), oI z2 25 [(.int .i64 d.vars), (.int .i64 0), (.slice rb N rc), (.slice z4 (k + 1) zc5)]] (itms 3 qs) rfl rfl) ?_
    refine DO.done ?_
    refine T.region ?_
    refine TO.quiet (q_inc rfl rfl (by omega)) (TO.quiet (q_move rfl) ?_)
    refine TO.nil ?_
    have hst : (List.take (k + 1) os).map (fun o => d.final.getD o false) = (List.take k os).map (fun o => d.final.getD o false) ++ [d.final[os[k]]] := by
      rw [List.take_succ_eq_append_getElem hlt49, List.map_append]; simp [hokf]
    exact ⟨k + 1, by omega, z4, zc5, by rw [hst, show bools ((List.take k os).map (fun o => d.final.getD o false) ++ [d.final[os[k]]]) = bools ((List.take k os).map fun o => d.final.getD o false) ++ [.bool d.final[os[k]]] from List.map_append], by omega, ⟨rfl, rfl, rfl, rfl, rfl, rfl, rfl, rfl, rfl, rfl, rfl, trivial⟩⟩
  have hge49 : ¬ k < os.length := by omega
  refine T.exit ?_
  refine T.seq (T.region ?_)
  refine TO.quiet (q_load_boxAgg 7 Tryd.underlying25 rfl inf25 rfl rfl rfl) ?_
  refine TO.loud rfl (l_store_box (v := (.agg #[(.int .i64 d.vars), (.int .i64 0), (.slice rb N rc), (.slice fb9 k fc9)])) (vs := [(.int .i64 d.vars), (.int .i64 0), (.slice rb N rc), (.slice fb9 k fc9)]) 7 inf25 rfl rfl rfl rfl rfl rfl (by simp [putL]) ?_)
  refine TO.quiet (q_assign rfl) ?_
  refine TO.nil (T.ret (Res.drop ?_))
  refine Res.cell1b (.int .i64 0) (i := 7) Tryd.results45 Tryd.underlying25 rfl inf25 rfl rfl rfl rfl ?_
  have hke : k = os.length := by omega
  obtain ⟨ho, hN9⟩ := ren_order hen hks hlenN (nodup_bound hnd hos)
  have hnx := ren_next hks hE ho hN9
  have hfx : (List.take k os).map (fun o => d.final.getD o false) = (renum d).final := by rw [List.take_of_length_le (by omega), ho]; rfl
  have hl1 : (renum d).next.length = N := by rw [← hnx, hE.len]
  have hl2 : (renum d).final.length = k := by rw [← hfx, List.length_map, List.length_take]; omega
  refine ⟨[rowI rb rc 41 1 (vals qs), rowI fb9 fc9 4 1 (bools ((os.take k).map fun o => d.final.getD o false))] ++ itms 3 qs, (Sub.pickR [1, 0] [rowI fb9 fc9 4 1 (bools ((os.take k).map fun o => d.final.getD o false)), rowI rb rc 41 1 (vals qs), oI z1 25 [(.int .i64 d.vars), (.int .i64 d.start), (.slice nb d.next.length nc), (.slice fb d.final.length fc)], oI bC 41 [(.slice ob os.length oc)], rowI ob oc 3 1 (nats os), oI bD 23 [(.slice (some ⟨bB, 0, none⟩) d.next.length d.next.length)], rowI (some ⟨bB, 0, none⟩) d.next.length 4 1 (bools sn), oI z2 25 [(.int .i64 d.vars), (.int .i64 0), (.slice rb N rc), (.slice fb9 k fc9)]] (itms 3 qs) rfl rfl), rb, rc, fb9, fc9, qs, ?_, by rw [hfx], hnx⟩
  show Value.tuple #[Value.agg (List.toArray [.int .i64 d.vars, .int .i64 0, .slice rb N rc, .slice fb9 k fc9]), _] = Value.tuple #[Value.agg (List.toArray [.int .i64 d.vars, .int .i64 0, .slice rb (renum d).next.length rc, .slice fb9 (renum d).final.length fc9]), _]
  rw [hl1, hl2]
end Go.Proofs.YtnmfefmhfkhihaaDoor


/- Contracts of functions of the program (Str): what each call answers and that it leaves memory as it was. Conditions: those each theorem names. -/
import Derived.Test.YthfemndklplpbaaDoorKit
import Derived.Test.YthfemndklplpbaaDoorCoreI
import Derived.Test.YthfemndklplpbaaDoorDec
import Derived.Test.YthfemndklplpbaaDoorShelf
set_option linter.unusedSectionVars false
set_option linter.unusedSimpArgs false
set_option linter.unusedVariables false
set_option linter.unnecessarySimpa false
namespace Go.Proofs.YthfemndklplpbaaDoor
open Go.Lx Go.RowKit
set_option linter.unusedVariables false
set_option linter.unusedSimpArgs false

theorem smallF (w : World) (i : Nat) (h : i < 100) : PureT Tryd.prog 73 [.int .i64 (i : Int)] w fun v N => v = str (Lib.decDigits i) ∧ N = [] := fun w1 M hI =>
  (Go.Proofs.Tryd.internal_strconv_small i h w1).mono (by rintro e w' ⟨rfl, rfl⟩; exact ⟨_, [], rfl, hI, rfl, rfl⟩)

set_option maxHeartbeats 1000000 in
set_option maxRecDepth 20000 in
theorem appUintF (base : World) (b : Option Addr) (c c' m n : Nat) (l : List UInt8) (hl : l.length = m) (hn : n < 100) (hm : m ≤ 1000000) :
    CallT Tryd.prog base 72 [.slice b m c, .int .u64 (n : Int), .int .i64 10] [rowI b c 5 1 (cells8 l)] (fun v O' => ∃ b' c', v = .slice b' (m + (Lib.decDigits n).length) c' ∧ O' = [rowI b' c' 5 1 (cells8 (l ++ Lib.decDigits n))]) := by
  refine CallT.enter Tryd.func72 rfl Tryd.ntmps72 rfl ?_
  refine T.seq ?_
  refine T.region ?_
  refine TO.quiet (q_assign rfl) ?_
  refine TO.nil ?_
  refine T.seq ?_
  refine T.seq ?_
  refine T.region ?_
  refine TO.quiet (q_move rfl) ?_
  refine TO.quiet (q_eql rfl rfl) ?_
  refine TO.nil ?_
  refine T.cond1 rfl ?_
  refine T.seq ?_
  refine T.seq ?_
  refine T.region ?_
  refine TO.quiet (q_move rfl) ?_
  refine TO.quiet (q_lss rfl rfl) ?_
  refine TO.nil ?_
  refine T.cond1 (congrArg Value.bool (decide_eq_true (show (n : Int) < 100 by omega))) ?_
  refine T.seq ?_
  refine T.region ?_
  refine TO.quiet (q_move rfl) ?_
  refine TO.quiet (q_move rfl) ?_
  refine TO.quiet (q_conv_id Tryd.underlying104 Tryd.underlying3 rfl (show IntKind.i64.wrap (n : Int) = (n : Int) from wrap64_id (by omega))) ?_
  have hk16 := fun (w1 : World) (hI : Inv base [rowI b c 5 1 (cells8 l)] w1) => smallF w1 n hn
  refine TO.loud rfl (l_call ent73 (CallT.of_pure hk16) rfl ?_)
  clear hk16
  rintro v O' ⟨N, rfl, rfl, rfl⟩
  refine TO.loud rfl (l_appendS (s := Lib.decDigits n) 0 Tryd.underlying42 Tryd.underlying9 inf5 rfl rfl rfl rfl (by simp [hl]) rfl (by have := dec_len 1 n (by omega); omega) (by decide) (by decide) (fun b2 c2 => ?_))
  refine TO.quiet (q_assign rfl) ?_
  refine TO.nil ?_
  refine T.ret ?_
  refine Res.one (.slice b2 (m + (Lib.decDigits n).length) c2) Tryd.results72 rfl ?_
  exact ⟨b2, c2, rfl, by rw [show cells8 (l ++ Lib.decDigits n) = cells8 l ++ cells8 (Lib.decDigits n) from List.map_append]; rfl⟩

set_option maxHeartbeats 1000000 in
set_option maxRecDepth 20000 in
theorem appIntF (base : World) (b : Option Addr) (c c' m n : Nat) (l : List UInt8) (hl : l.length = m) (hn : n < 100) (hm : m ≤ 1000000) :
    CallT Tryd.prog base 69 [.slice b m c, .int .i64 (n : Int), .int .i64 10] [rowI b c 5 1 (cells8 l)] (fun v O' => ∃ b' c', v = .slice b' (m + (Lib.decDigits n).length) c' ∧ O' = [rowI b' c' 5 1 (cells8 (l ++ Lib.decDigits n))]) := by
  refine CallT.enter Tryd.func69 rfl Tryd.ntmps69 rfl ?_
  refine T.seq ?_
  refine T.region ?_
  refine TO.quiet (q_assign rfl) ?_
  refine TO.nil ?_
  refine T.seq ?_
  refine T.region ?_
  refine TO.quiet (q_move rfl) ?_
  refine TO.quiet (q_conv_id Tryd.underlying2 Tryd.underlying104 rfl (show IntKind.u64.wrap (n : Int) = (n : Int) by unfold IntKind.wrap; simp [IntKind.bits, IntKind.signed]; omega)) ?_
  refine TO.quiet (q_assign rfl) ?_
  refine TO.nil ?_
  refine T.seq ?_
  refine T.seq ?_
  refine T.region ?_
  refine TO.quiet (q_move rfl) ?_
  refine TO.quiet (q_lss rfl rfl) ?_
  refine TO.nil ?_
  refine T.cond0 (congrArg Value.bool (decide_eq_false (show ¬ (n : Int) < 0 by omega))) ?_
  refine T.skip ?_
  refine T.seq ?_
  refine T.region ?_
  refine TO.quiet (q_move rfl) ?_
  refine TO.quiet (q_move rfl) ?_
  refine TO.quiet (q_move rfl) ?_
  have hk20 := appUintF base b c c' m n l hl hn hm
  refine TO.loud rfl (l_call ent72 hk20 rfl ?_)
  clear hk20
  rintro v O' ⟨b2, c2, rfl, rfl⟩
  refine TO.quiet (q_assign rfl) ?_
  refine TO.nil ?_
  refine T.ret ?_
  refine Res.one (.slice b2 (m + (Lib.decDigits n).length) c2) Tryd.results69 rfl ?_
  exact ⟨b2, c2, rfl, rfl⟩

set_option maxHeartbeats 1000000 in
set_option maxRecDepth 20000 in
theorem appF (base : World) (b : Option Addr) (c c' m n : Nat) (l : List UInt8) (hl : l.length = m) (hn : n < 100) (hm : m ≤ 1000000) :
    CallT Tryd.prog base 62 [.slice b m c, .int .i64 (n : Int), .int .i64 10] [rowI b c 5 1 (cells8 l)] (fun v O' => ∃ b' c', v = .slice b' (m + (Lib.decDigits n).length) c' ∧ O' = [rowI b' c' 5 1 (cells8 (l ++ Lib.decDigits n))]) := by
  refine CallT.enter Tryd.func62 rfl Tryd.ntmps62 rfl ?_
  refine T.seq ?_
  refine T.region ?_
  refine TO.quiet (q_assign rfl) ?_
  refine TO.nil ?_
  refine T.seq ?_
  refine T.region ?_
  refine TO.quiet (q_move rfl) ?_
  refine TO.quiet (q_move rfl) ?_
  refine TO.quiet (q_move rfl) ?_
  have hk10 := appIntF base b c c' m n l hl hn hm
  refine TO.loud rfl (l_call ent69 hk10 rfl ?_)
  clear hk10
  rintro v O' ⟨b2, c2, rfl, rfl⟩
  refine TO.quiet (q_assign rfl) ?_
  refine TO.nil ?_
  refine T.ret ?_
  refine Res.one (.slice b2 (m + (Lib.decDigits n).length) c2) Tryd.results62 rfl ?_
  exact ⟨b2, c2, rfl, rfl⟩

set_option maxHeartbeats 1000000 in
set_option maxRecDepth 20000 in
theorem formatF (w : World) (n : Nat) (hn : n < 100) : PureT Tryd.prog 71 [.int .i64 (n : Int), .int .i64 10] w fun v N => v = str (Lib.decDigits n) ∧ N = [] := by
  refine CallT.enter Tryd.func71 rfl Tryd.ntmps71 rfl ?_
  refine T.seq ?_
  refine T.region ?_
  refine TO.quiet (q_assign rfl) ?_
  refine TO.nil ?_
  refine T.seq ?_
  refine T.seq ?_
  refine T.region ?_
  refine TO.quiet (q_move rfl) ?_
  refine TO.quiet (q_eql rfl rfl) ?_
  refine TO.nil ?_
  refine T.cond1 rfl ?_
  refine T.seq ?_
  refine T.seq ?_
  refine T.region ?_
  refine TO.quiet (q_move rfl) ?_
  refine TO.quiet (QT.toB (q_leq rfl rfl) (decide_eq_true (by omega))) ?_
  refine TO.quiet (q_move rfl) ?_
  refine TO.guarded rfl rfl rfl (LT.of_quiet rfl rfl (q_move rfl) ?_)
  refine TO.guarded rfl rfl rfl (LT.of_quiet rfl rfl (QT.toB (q_lss rfl rfl) (decide_eq_true (by omega))) ?_)
  refine TO.quiet (q_pick1 rfl rfl) ?_
  refine TO.nil ?_
  refine T.cond1 rfl ?_
  refine T.seq ?_
  refine T.region ?_
  refine TO.quiet (q_move rfl) ?_
  have hk19 := fun (w1 : World) (hI : Inv w [] w1) => smallF w1 n hn
  refine TO.loud rfl (l_call ent73 (CallT.of_pure hk19) rfl ?_)
  clear hk19
  rintro v O' ⟨N, rfl, rfl, rfl⟩
  refine TO.quiet (q_assign rfl) ?_
  refine TO.nil ?_
  refine T.ret ?_
  refine Res.one _ Tryd.results71 rfl ?_
  exact ⟨rfl, rfl⟩

set_option maxHeartbeats 1000000 in
set_option maxRecDepth 20000 in
theorem itoaF1 (w : World) (n : Nat) (hn : n < 100) : PureT Tryd.prog 66 [.int .i64 (n : Int)] w fun v N => v = str (Lib.decDigits n) ∧ N = [] := by
  refine CallT.enter Tryd.func66 rfl Tryd.ntmps66 rfl ?_
  refine T.seq ?_
  refine T.region ?_
  refine TO.quiet (q_assign rfl) ?_
  refine TO.nil ?_
  refine T.seq ?_
  refine T.region ?_
  refine TO.quiet (q_move rfl) ?_
  have hk4 := fun (w1 : World) (hI : Inv w [] w1) => formatF w1 n hn
  refine TO.loud rfl (l_call ent71 (CallT.of_pure hk4) rfl ?_)
  clear hk4
  rintro v O' ⟨N, rfl, rfl, rfl⟩
  refine TO.quiet (q_assign rfl) ?_
  refine TO.nil ?_
  refine T.ret ?_
  refine Res.one _ Tryd.results66 rfl ?_
  exact ⟨rfl, rfl⟩

set_option maxHeartbeats 1000000 in
set_option maxRecDepth 20000 in
theorem itoaF (w : World) (n : Nat) (hn : n < 100) : PureT Tryd.prog 55 [.int .i64 (n : Int)] w fun v N => v = str (Lib.decDigits n) ∧ N = [] := by
  refine CallT.enter Tryd.func55 rfl Tryd.ntmps55 rfl ?_
  refine T.seq ?_
  refine T.region ?_
  refine TO.quiet (q_assign rfl) ?_
  refine TO.nil ?_
  refine T.seq ?_
  refine T.region ?_
  refine TO.quiet (q_move rfl) ?_
  have hk4 := fun (w1 : World) (hI : Inv w [] w1) => itoaF1 w1 n hn
  refine TO.loud rfl (l_call ent66 (CallT.of_pure hk4) rfl ?_)
  clear hk4
  rintro v O' ⟨N, rfl, rfl, rfl⟩
  refine TO.quiet (q_assign rfl) ?_
  refine TO.nil ?_
  refine T.ret ?_
  refine Res.one _ Tryd.results55 rfl ?_
  exact ⟨rfl, rfl⟩
end Go.Proofs.YthfemndklplpbaaDoor

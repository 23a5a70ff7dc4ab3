/- Contracts of functions of the program (BOvE): what each call answers and that it leaves memory as it was. Conditions: those each theorem names. -/
import Derived.Test.YtnamoapbienooaaBChk
import Derived.Test.YtnamoapbienooaaDeg
set_option linter.unusedSectionVars false
set_option linter.unusedSimpArgs false
set_option linter.unusedVariables false
set_option linter.unnecessarySimpa false
namespace Go.Proofs.Ytnamoapbienooaa
open Go.Lx Go.RowKit
set_option linter.unusedVariables false
set_option linter.unusedSimpArgs false
set_option maxHeartbeats 1000000 in
set_option maxRecDepth 20000 in
theorem shiftF (w : World) (b : Option Addr) (c : Nat) (xs : List Int) (d : Nat) (h : Sl w b (ints xs)) (hb : xs.length ≤ 1000000) (hx : ∀ x ∈ xs, 0 ≤ x ∧ x ≤ 1000000000000) (hd : d ≤ 1000000000000) :
    PureT Try.prog 86 [.slice b xs.length c, .int .i64 ((d : Nat) : Int)] w fun v N => ∃ b' c', v = .slice b' xs.length c' ∧ N = [rowI b' c' 3 1 (ints (xs.map fun x => x + ((d : Nat) : Int)))] := by
  refine CallT.enter Try.func86 rfl Try.ntmps86 rfl ?_
  refine T.seq (T.region ?_)
  refine TO.quiet (q_assign rfl) ?_
  refine TO.nil (T.seq (T.region ?_))
  refine TO.quiet (q_move rfl) (TO.quiet (q_len Try.underlying22 rfl) ?_)
  refine TO.loud rfl (l_makeSlice (m := xs.length) Try.underlying22 inf3 rfl rfl (by omega) (by omega) (fun bx1 => ?_))
  refine TO.quiet (q_assign rfl) ?_
  refine TO.nil (T.seq (T.seq (T.region ?_)))
  refine TO.quiet (q_move rfl) (TO.quiet (q_len Try.underlying22 rfl) (TO.quiet (q_move rfl) ?_))
  refine TO.nil (T.block ?_)
  refine T.loop (fun (k : Nat) ρ O => ∃ (ys : List Int), O = [rowI (some ⟨bx1, 0, none⟩) xs.length 3 1 (ints ys)] ∧ k ≤ xs.length ∧ ys.length = xs.length ∧ ys.take k = (xs.take k).map (fun x => x + ((d : Nat) : Int)) ∧ Heads [(0, (.slice b xs.length c)), (1, .int .i64 ((d : Nat) : Int)), (4, (.slice none 0 0)), (5, (.slice (some ⟨bx1, 0, none⟩) xs.length xs.length)), (11, (.slice b xs.length c)), (12, .int .i64 (xs.length : Int)), (13, .int .i64 (k : Int))] ρ) (fun k => xs.length - k) 0 ?_ ?_
  · exact ⟨List.replicate xs.length 0, by simp only [List.map_replicate], Nat.zero_le _, by simp, by simp, ⟨rfl, rfl, rfl, rfl, rfl, rfl, rfl, trivial⟩⟩
  rintro k ρ O ⟨ys, rfl, hk, hyl, hyt, hH⟩
  obtain ⟨ρ0, rfl⟩ := hH.elim
  clear hH
  have hlt2 : k ≤ ys.length := by omega
  refine T.seq (T.region ?_)
  refine TO.quiet (q_lss rfl rfl) ?_
  refine TO.nil (T.seq ?_)
  refine T.condP rfl (fun hc => ?_) (fun hc => ?_)
  · have hlt14 : k < xs.length := by omega
    have hxk := hx xs[k] (List.getElem_mem hlt14)
    refine T.skip (T.seq (T.block (T.seq (T.region ?_))))
    refine TO.quiet (q_move rfl) (TO.quiet (q_ix (i := k) Try.underlying22 inf3 rfl rfl (Sl.o h)) (TO.quiet (q_ld Try.underlying3 rfl rfl (Sl.o h) ints_get) (TO.quiet (q_assign rfl) ?_)))
    refine TO.quiet (q_assign rfl) ?_
    refine TO.nil (T.region ?_)
    refine TO.quiet (q_move rfl) (TO.quiet (q_move rfl) (TO.quiet (q_move rfl) (TO.quiet (q_move rfl) ?_)))
    refine TO.quiet (q_add64 rfl rfl (by omega)) (TO.quiet (q_ix (i := k) Try.underlying22 inf3 rfl rfl (rowO (List.mem_of_getElem? (i := 0) rfl))) ?_)
    refine TO.loud rfl (l_st (j := k) (v := .int .i64 (xs[k] + ((d : Nat) : Int))) (vs := [(.int .i64 (xs[k] + ((d : Nat) : Int)))]) (cs := ints ys) 0 inf3 rfl rfl rfl rfl rfl (by simp) rfl (by first | (simp; omega) | (simp_all; omega)) ?_)
    refine TO.sub (O' := [rowI (some ⟨bx1, 0, none⟩) xs.length 3 1 (ints (ys.set k (xs[k] + ((d : Nat) : Int))))]) (by rw [show putL (ints ys) k [(.int .i64 (xs[k] + ((d : Nat) : Int)))] = ints (ys.set k (xs[k] + ((d : Nat) : Int))) from (by simp [putL])]; exact Sub.of (List.Sublist.refl _)) ?_
    refine TO.nil (T.region ?_)
    refine TO.quiet (q_addN (a := k) (b := 1) rfl rfl (by omega)) (TO.quiet (q_move rfl) ?_)
    refine TO.nil ?_
    refine ⟨k + 1, by omega, ys.set k (xs[k] + ((d : Nat) : Int)), rfl, by omega, by simp [hyl], ?_, ⟨rfl, rfl, rfl, rfl, rfl, rfl, rfl, trivial⟩⟩
    rw [take_set_snoc (by omega), hyt, List.take_succ_eq_append_getElem hlt14, List.map_append]; rfl
  have hge14 : ¬ k < xs.length := by omega
  refine T.exit ?_
  refine T.seq (T.region ?_)
  refine TO.quiet (q_move rfl) (TO.quiet (q_assign rfl) ?_)
  refine TO.nil (T.ret ?_)
  refine Res.one (.slice (some ⟨bx1, 0, none⟩) xs.length xs.length) Try.results86 rfl ?_
  have hye : ys = xs.map (fun x => x + ((d : Nat) : Int)) := by rw [List.take_of_length_le (by omega), List.take_of_length_le (by omega)] at hyt; exact hyt
  subst hye
  exact ⟨_, _, rfl, rfl⟩
set_option maxHeartbeats 1000000 in
set_option maxRecDepth 20000 in
theorem cloneENil (w : World) (c : Nat) :
    PureT Try.prog 85 [.slice none 0 c] w fun v N => ∃ b' c', v = .slice b' 0 c' ∧ N = [rowI b' c' 54 4 []] := by
  refine CallT.enter Try.func85 rfl Try.ntmps85 rfl ?_
  refine T.seq (T.region ?_)
  refine TO.quiet (q_assign rfl) ?_
  refine TO.nil (T.seq (T.seq (T.region ?_)))
  refine TO.quiet (q_move rfl) (TO.quiet (q_eqlNil Try.underlying23 rfl rfl) ?_)
  refine TO.nil ?_
  refine T.cond1 rfl ?_
  refine T.seq ?_
  refine T.nilRow 54 4 ?_
  refine T.region ?_
  refine TO.quiet (q_assign rfl) ?_
  refine TO.nil (T.ret ?_)
  refine Res.one (.slice none 0 0) Try.results85 rfl ?_
  exact ⟨_, _, rfl, rfl⟩
set_option maxHeartbeats 1000000 in
set_option maxRecDepth 20000 in
theorem cloneESome (w : World) (a : Addr) (c : Nat) (xs : List Ed) (h1 : Sl w (some a) (edsC xs)) (hb : xs.length ≤ 1000000000) :
    PureT Try.prog 85 [.slice (some a) xs.length c] w fun v N => ∃ b' c', v = .slice b' xs.length c' ∧ N = [rowI b' c' 54 4 (edsC xs)] := by
  refine CallT.enter Try.func85 rfl Try.ntmps85 rfl ?_
  refine T.seq (T.region ?_)
  refine TO.quiet (q_assign rfl) ?_
  refine TO.nil (T.seq (T.seq (T.region ?_)))
  refine TO.quiet (q_move rfl) (TO.quiet (q_eqlNil Try.underlying23 rfl rfl) ?_)
  refine TO.nil ?_
  refine T.cond0 rfl ?_
  refine T.skip (T.seq (T.region ?_))
  refine TO.loud rfl (l_buildSlice (m := 0) (parts := []) (cs := []) Try.underlying23 inf54 (by decide) (by simp [Instr.fill]) rfl (fun b1 => ?_))
  refine TO.quiet (q_move rfl) ?_
  refine TO.loud rfl (l_append 0 Try.underlying23 Try.underlying23 inf54 rfl rfl rfl rfl (by simp) (by decide) (Src.sl h1 (eds_len xs)) (eds_one xs) (by omega) (by decide) (by decide) (fun bx1 c2 => ?_))
  refine TO.quiet (q_assign rfl) ?_
  refine TO.nil (T.ret ?_)
  refine Res.one (.slice bx1 (0 + xs.length) c2) Try.results85 rfl ?_
  exact ⟨_, _, by rw [Nat.zero_add], rfl⟩
theorem cloneE (w : World) (b : Option Addr) (c : Nat) (xs : List Ed) (h1 : Sl w b (edsC xs)) (hb : xs.length ≤ 1000000000) :
    PureT Try.prog 85 [.slice b xs.length c] w fun v N => ∃ b' c', v = .slice b' xs.length c' ∧ N = [rowI b' c' 54 4 (edsC xs)] := by
  cases b with
  | none =>
    have hx : xs = [] := by
      cases xs with
      | nil => rfl
      | cons x xs => obtain ⟨_, _, e⟩ := h1.addr (i := 0) (by rw [eds_len]; simp); cases e
    subst hx
    exact cloneENil w c
  | some a => exact cloneESome w a c xs h1 hb
end Go.Proofs.Ytnamoapbienooaa


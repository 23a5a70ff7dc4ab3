/- Contracts of functions of the program (BPai): what each call answers and that it leaves memory as it was. Conditions: those each theorem names. -/
import Derived.Test.YtnamoapbienooaaUni2
import Derived.Test.YtnamoapbienooaaBOvE
import Derived.Test.YtnamoapbienooaaBMrk
import Derived.Test.YtnamoapbienooaaBRef
import Derived.Test.YtnamoapbienooaaBChk
import Derived.Test.YtnamoapbienooaaCoreO
set_option linter.unusedSectionVars false
set_option linter.unusedSimpArgs false
set_option linter.unusedVariables false
set_option linter.unnecessarySimpa false
namespace Go.Proofs.Ytnamoapbienooaa
open Go.Lx Go.RowKit
set_option linter.unusedVariables false
set_option linter.unusedSimpArgs false
set_option maxHeartbeats 1000000 in
set_option maxRecDepth 20000 in
theorem pairF (w : World) (a : Bu) (sA eA tA : Option Addr) (sAc eAc tAc : Nat) (vA : List Value) (hA : BuAt w a sA eA tA vA) (hAB : BuB a) (b : Bu) (sb eb tb : Option Addr) (sc ec tc : Nat) (vs : List Value) (h : BuAt w b sb eb tb vs) (hB : BuB b) :
    PureT Try.prog 90 [.agg (buCells a sA sAc eA eAc tA tAc).toArray, .agg (buCells b sb sc eb ec tb tc).toArray] w fun v N => v = .int .i64 ((pairE a b : Nat) : Int) ∧ N = [] := by
  refine CallT.enter Try.func90 rfl Try.ntmps90 rfl ?_
  refine T.seq (T.region ?_)
  refine TO.loud rfl (l_box (v := (.agg (buCells a sA sAc eA eAc tA tAc).toArray)) (cs := (buCells a sA sAc eA eAc tA tAc)) rfl rfl (fun bx1 => ?_))
  refine TO.loud rfl (l_box (v := (.agg (buCells b sb sc eb ec tb tc).toArray)) (cs := (buCells b sb sc eb ec tb tc)) rfl rfl (fun bx2 => ?_))
  refine TO.quiet (q_assign rfl) ?_
  refine TO.nil (T.seq (T.seq (T.region ?_)))
  refine TO.quiet (q_load_boxAgg 1 Try.underlying26 rfl inf26 rfl rfl rfl) ?_
  have hk8 := fun (w1 : World) (hI : Inv w [oI bx2 26 (buCells b sb sc eb ec tb tc), oI bx1 26 (buCells a sA sAc eA eAc tA tAc)] w1) => checkF w1 a sA eA tA sAc eAc tAc vA (hI.bu hA) hAB
  refine TO.loud rfl (l_call ent21 (CallT.of_pure hk8) rfl ?_)
  clear hk8
  rintro vr O' ⟨N, rfl, rfl, rfl⟩
  refine TO.quiet (q_assign rfl) ?_
  refine TO.nil (T.seq (T.region ?_))
  refine TO.quiet (q_move rfl) (TO.quiet (q_neq rfl rfl) ?_)
  refine TO.nil ?_
  refine T.condP rfl (fun hc => ?_) (fun hc => ?_)
  · have hlt10 : checkB a ≠ 0 := by omega
    refine T.seq (T.region ?_)
    refine TO.quiet (q_move rfl) (TO.quiet (q_assign rfl) ?_)
    refine TO.nil (T.ret (Res.drop ?_))
    refine Res.one (.int .i64 ((checkB a : Nat) : Int)) Try.results90 rfl ?_
    exact ⟨[], (by exact Sub.z), by unfold pairE; rw [if_pos (by omega)], rfl⟩
  have hge10 : ¬ checkB a ≠ 0 := by omega
  refine T.skip (T.seq (T.seq (T.region ?_)))
  refine TO.quiet (q_load_boxAgg 0 Try.underlying26 rfl inf26 rfl rfl rfl) ?_
  have hk13 := fun (w1 : World) (hI : Inv w [oI bx2 26 (buCells b sb sc eb ec tb tc), oI bx1 26 (buCells a sA sAc eA eAc tA tAc)] w1) => checkF w1 b sb eb tb sc ec tc vs (hI.bu h) hB
  refine TO.loud rfl (l_call ent21 (CallT.of_pure hk13) rfl ?_)
  clear hk13
  rintro vr O' ⟨N, rfl, rfl, rfl⟩
  refine TO.quiet (q_assign rfl) ?_
  refine TO.nil (T.seq (T.region ?_))
  refine TO.quiet (q_move rfl) (TO.quiet (q_neq rfl rfl) ?_)
  refine TO.nil ?_
  refine T.condP rfl (fun hc => ?_) (fun hc => ?_)
  · have hlt15 : checkB b ≠ 0 := by omega
    refine T.seq (T.region ?_)
    refine TO.quiet (q_move rfl) (TO.quiet (q_assign rfl) ?_)
    refine TO.nil (T.ret (Res.drop ?_))
    refine Res.one (.int .i64 ((checkB b : Nat) : Int)) Try.results90 rfl ?_
    exact ⟨[], (by exact Sub.z), by unfold pairE; rw [if_neg (by omega), if_pos (by omega)], rfl⟩
  have hge15 : ¬ checkB b ≠ 0 := by omega
  refine T.skip (T.seq (T.seq (T.region ?_)))
  refine TO.quiet (q_fieldAddr Try.underlying26 rfl inf3 rfl rfl) (TO.quiet (q_load_box 1 Try.underlying3 rfl rfl rfl rfl) (TO.quiet (q_fieldAddr Try.underlying26 rfl inf3 rfl rfl) (TO.quiet (q_load_box 0 Try.underlying3 rfl rfl rfl rfl) ?_)))
  refine TO.quiet (q_neq rfl rfl) ?_
  refine TO.nil ?_
  refine T.condP rfl (fun hc => ?_) (fun hc => ?_)
  · refine T.seq ?_
    refine T.region ?_
    refine TO.quiet (q_assign rfl) ?_
    refine TO.nil (T.ret (Res.drop ?_))
    refine Res.one (.int .i64 7) Try.results90 rfl ?_
    exact ⟨[], (by exact Sub.z), by unfold pairE; rw [if_neg (by omega), if_neg (by omega), if_pos (by omega)]; rfl, rfl⟩
  refine T.skip (T.seq (T.region ?_))
  refine TO.quiet (q_assign rfl) ?_
  refine TO.nil (T.ret (Res.drop ?_))
  refine Res.one (.int .i64 0) Try.results90 rfl ?_
  exact ⟨[], (by exact Sub.z), by unfold pairE; rw [if_neg (by omega), if_neg (by omega), if_neg (by omega)]; rfl, rfl⟩
set_option maxHeartbeats 1000000 in
set_option maxRecDepth 20000 in
theorem indexI (w : World) (b : Option Addr) (c : Nat) (xs : List Int) (x : Int) (h : Sl w b (ints xs)) (hb : xs.length < 9223372036854775807) : PureT Try.prog 111 [.slice b xs.length c, .int .i64 x] w fun v N => ∃ r : Int, v = .int .i64 r ∧ N = [] ∧ (0 ≤ r ↔ x ∈ xs) := by
  refine CallT.enter Try.func111 rfl Try.ntmps111 rfl ?_
  refine T.seq (T.region ?_)
  refine TO.quiet (q_assign rfl) ?_
  refine TO.nil (T.seq (T.seq (T.region ?_)))
  refine TO.quiet (q_move rfl) (TO.quiet (q_len Try.underlying22 rfl) (TO.quiet (q_move rfl) ?_))
  refine TO.nil (T.block ?_)
  refine T.loop (fun (k : Nat) ρ O => O = [] ∧ k ≤ xs.length ∧ x ∉ xs.take k ∧ Heads [(0, (.slice b xs.length c)), (1, .int .i64 x), (7, .int .i64 (xs.length : Int)), (8, .int .i64 (k : Int))] ρ) (fun k => xs.length - k) 0 ?_ ?_
  · exact ⟨rfl, Nat.zero_le _, by simp, ⟨rfl, rfl, rfl, rfl, trivial⟩⟩
  rintro k ρ O ⟨rfl, hk, hm, hH⟩
  obtain ⟨ρ0, rfl⟩ := hH.elim
  clear hH
  refine T.seq (T.region ?_)
  refine TO.quiet (q_lss rfl rfl) ?_
  refine TO.nil (T.seq ?_)
  refine T.condP rfl (fun hc => ?_) (fun hc => ?_)
  · have hlt9 : k < xs.length := by omega
    refine T.skip (T.seq (T.block (T.seq (T.region ?_))))
    refine TO.quiet (q_move rfl) (TO.quiet (q_assign rfl) ?_)
    refine TO.nil (T.seq (T.region ?_))
    refine TO.quiet (q_move rfl) (TO.quiet (q_move rfl) (TO.quiet (q_move rfl) (TO.quiet (q_ix (i := k) Try.underlying22 inf3 rfl rfl (Sl.o h)) ?_)))
    refine TO.quiet (q_ld Try.underlying3 rfl rfl (Sl.o h) ints_get) (TO.quiet (q_eql rfl rfl) ?_)
    refine TO.nil ?_
    refine T.condP rfl (fun hc => ?_) (fun hc => ?_)
    · refine T.seq ?_
      refine T.region ?_
      refine TO.quiet (q_move rfl) (TO.quiet (q_assign rfl) ?_)
      refine TO.nil (T.ret (Res.drop ?_))
      refine Res.one (.int .i64 (k : Int)) Try.results111 rfl ?_
      exact ⟨[], (by exact Sub.rf), _, rfl, rfl, ⟨fun _ => by rw [hc]; exact List.getElem_mem _, fun _ => by omega⟩⟩
    refine T.skip (T.region ?_)
    refine TO.quiet (q_addN (a := k) (b := 1) rfl rfl (by omega)) (TO.quiet (q_move rfl) ?_)
    refine TO.nil ?_
    refine ⟨k + 1, by omega, rfl, by omega, ?_, ⟨rfl, rfl, rfl, rfl, trivial⟩⟩
    rw [List.take_succ_eq_append_getElem hlt9]
    simp only [List.mem_append, List.mem_singleton, not_or]
    exact ⟨hm, hc⟩
  have hge9 : ¬ k < xs.length := by omega
  refine T.exit ?_
  refine T.seq (T.region ?_)
  refine TO.quiet (q_assign rfl) ?_
  refine TO.nil (T.ret (Res.drop ?_))
  refine Res.one (.int .i64 (-1)) Try.results111 rfl ?_
  exact ⟨[], (by exact Sub.rf), _, rfl, rfl, ⟨fun h9 => absurd h9 (by omega), fun h9 => absurd h9 (by rwa [List.take_of_length_le (by omega)] at hm)⟩⟩
set_option maxHeartbeats 1000000 in
set_option maxRecDepth 20000 in
theorem containsI (w : World) (b : Option Addr) (c : Nat) (xs : List Int) (x : Int) (h : Sl w b (ints xs)) (hb : xs.length < 9223372036854775807) : PureT Try.prog 95 [.slice b xs.length c, .int .i64 x] w fun v N => v = .bool (decide (x ∈ xs)) ∧ N = [] := by
  refine CallT.enter Try.func95 rfl Try.ntmps95 rfl ?_
  refine T.seq (T.region ?_)
  refine TO.quiet (q_assign rfl) ?_
  refine TO.nil (T.seq (T.region ?_))
  refine TO.quiet (q_move rfl) (TO.quiet (q_move rfl) ?_)
  have hk7 := fun (w1 : World) (hI : Inv w [] w1) => indexI w1 b c xs x (hI.sl h) hb
  refine TO.loud rfl (l_call ent111 (CallT.of_pure hk7) rfl ?_)
  clear hk7
  rintro vr O' ⟨N, rfl, r, rfl, rfl, hr⟩
  refine TO.quiet (q_geq rfl rfl) (TO.quiet (q_assign rfl) ?_)
  refine TO.nil (T.ret (Res.drop ?_))
  refine Res.one (.bool (decide (r ≥ 0))) Try.results95 rfl ?_
  exact ⟨[], (by exact Sub.rf), congrArg Value.bool (decide_eq_decide.2 hr), rfl⟩
set_option maxHeartbeats 1000000 in
set_option maxRecDepth 20000 in
theorem cubeF (w : World) (p1 n1 p2 n2 : Nat) (h1 : p1 < 256) (h2 : n1 < 256) (h3 : p2 < 256) (h4 : n2 < 256) :
    PureT Try.prog 96 [.agg #[.int .u8 (p1 : Int), .int .u8 (n1 : Int)], .agg #[.int .u8 (p2 : Int), .int .u8 (n2 : Int)]] w fun v N => ∃ cp cn : Nat, v = .tuple #[.agg #[.int .u8 (cp : Int), .int .u8 (cn : Int)], .bool (decide ((p1 ||| p2) &&& (n1 ||| n2) = 0))] ∧ N = [] ∧ ((p1 ||| p2) &&& (n1 ||| n2) = 0 → cp = p1 ||| p2 ∧ cn = n1 ||| n2) := by
  refine CallT.enter Try.func96 rfl Try.ntmps96 rfl ?_
  have hpo : p1 ||| p2 < 256 := Nat.or_lt_two_pow (n := 8) h1 h3
  have hno : n1 ||| n2 < 256 := Nat.or_lt_two_pow (n := 8) h2 h4
  refine T.seq (T.region ?_)
  refine TO.loud rfl (l_box (v := (.agg #[.int .u8 ((p1 : Nat) : Int), .int .u8 ((n1 : Nat) : Int)])) (cs := [.int .u8 ((p1 : Nat) : Int), .int .u8 ((n1 : Nat) : Int)]) rfl rfl (fun bx1 => ?_))
  refine TO.loud rfl (l_box (v := (.agg #[.int .u8 ((p2 : Nat) : Int), .int .u8 ((n2 : Nat) : Int)])) (cs := [.int .u8 ((p2 : Nat) : Int), .int .u8 ((n2 : Nat) : Int)]) rfl rfl (fun bx2 => ?_))
  refine TO.loud rfl (l_alloc inf116 rfl (fun bx3 => ?_))
  refine TO.quiet (q_assign rfl) ?_
  refine TO.nil (T.seq (T.region ?_))
  refine TO.quiet (q_fieldAddr Try.underlying116 rfl inf5 rfl rfl) (TO.quiet (q_load_box 2 Try.underlying5 rfl rfl rfl rfl) (TO.quiet (q_fieldAddr Try.underlying116 rfl inf5 rfl rfl) (TO.quiet (q_load_box 1 Try.underlying5 rfl rfl rfl rfl) ?_)))
  refine TO.quiet (q_or (a := p1) (b := p2) .u8 rfl rfl (by show _ < 256; omega) (by show _ < 256; omega)) (TO.quiet (q_fieldAddr Try.underlying116 rfl inf5 rfl rfl) (TO.quiet (q_load_box 2 Try.underlying5 rfl rfl rfl rfl) (TO.quiet (q_fieldAddr Try.underlying116 rfl inf5 rfl rfl) ?_)))
  refine TO.quiet (q_load_box 1 Try.underlying5 rfl rfl rfl rfl) (TO.quiet (q_or (a := n1) (b := n2) .u8 rfl rfl (by show _ < 256; omega) (by show _ < 256; omega)) (TO.quiet (q_build (cs := [.int .u8 ((p1 ||| p2 : Nat) : Int), .int .u8 ((n1 ||| n2 : Nat) : Int)]) plan116 inf116 (by kernel_rfl)) ?_))
  refine TO.loud rfl (l_alloc inf116 rfl (fun bx4 => ?_))
  refine TO.loud rfl (l_store_box (v := (.agg #[.int .u8 ((p1 ||| p2 : Nat) : Int), .int .u8 ((n1 ||| n2 : Nat) : Int)])) (vs := [.int .u8 ((p1 ||| p2 : Nat) : Int), .int .u8 ((n1 ||| n2 : Nat) : Int)]) 0 inf116 rfl rfl rfl rfl rfl rfl (by simp [putL]) ?_)
  refine TO.nil (T.seq (T.seq (T.region ?_)))
  refine TO.quiet (q_fieldAddr Try.underlying116 rfl inf5 rfl rfl) (TO.quiet (q_load_box 0 Try.underlying5 rfl rfl rfl rfl) (TO.quiet (q_fieldAddr Try.underlying116 rfl inf5 rfl rfl) (TO.quiet (q_load_box 0 Try.underlying5 rfl rfl rfl rfl) ?_)))
  refine TO.quiet (q_and (a := (p1 ||| p2)) (b := (n1 ||| n2)) .u8 rfl rfl (by show _ < 256; omega) (by show _ < 256; omega)) (TO.quiet (q_neq rfl rfl) ?_)
  refine TO.nil ?_
  refine T.condP rfl (fun hc => ?_) (fun hc => ?_)
  · have hlt23 : (p1 ||| p2) &&& (n1 ||| n2) ≠ 0 := by omega
    refine T.seq (T.region ?_)
    refine TO.quiet (q_build plan116 inf116 rfl) ?_
    refine TO.loud rfl (l_store_box (v := (.agg #[(.int .u8 0), (.int .u8 0)])) (vs := [(.int .u8 0), (.int .u8 0)]) 1 inf116 rfl rfl rfl rfl rfl rfl (by simp [putL]) ?_)
    refine TO.quiet (q_assign rfl) ?_
    refine TO.nil (T.ret (Res.drop ?_))
    refine Res.cell1b (.bool false) (i := 1) Try.results96 Try.underlying116 rfl inf116 rfl rfl rfl rfl ?_
    exact ⟨[], (by exact Sub.z), 0, 0, by rw [decide_eq_false (by omega)]; rfl, rfl, fun h9 => absurd h9 (by omega)⟩
  have hge23 : ¬ (p1 ||| p2) &&& (n1 ||| n2) ≠ 0 := by omega
  refine T.skip (T.seq (T.region ?_))
  refine TO.quiet (q_load_boxAgg 0 Try.underlying116 rfl inf116 rfl rfl rfl) ?_
  refine TO.loud rfl (l_store_box (v := (.agg #[.int .u8 ((p1 ||| p2 : Nat) : Int), .int .u8 ((n1 ||| n2 : Nat) : Int)])) (vs := [.int .u8 ((p1 ||| p2 : Nat) : Int), .int .u8 ((n1 ||| n2 : Nat) : Int)]) 1 inf116 rfl rfl rfl rfl rfl rfl (by simp [putL]) ?_)
  refine TO.quiet (q_assign rfl) ?_
  refine TO.nil (T.ret (Res.drop ?_))
  refine Res.cell1b (.bool true) (i := 1) Try.results96 Try.underlying116 rfl inf116 rfl rfl rfl rfl ?_
  exact ⟨[], (by exact Sub.z), _, _, by rw [decide_eq_true (by omega)]; rfl, rfl, fun _ => ⟨rfl, rfl⟩⟩
set_option maxHeartbeats 1000000 in
set_option maxRecDepth 20000 in
theorem growI (w : World) (n : Nat) (hn : n ≤ 1000000000) :
    PureT Try.prog 110 [.slice none 0 0, .int .i64 (n : Int)] w fun v N => ∃ b c, v = .slice b 0 c ∧ N = [rowI b c 3 1 []] := by
  refine CallT.enter Try.func110 rfl Try.ntmps110 rfl ?_
  refine T.seq (T.region ?_)
  refine TO.quiet (q_assign rfl) ?_
  refine TO.nil (T.seq (T.seq (T.region ?_)))
  refine TO.quiet (q_move rfl) (TO.quiet (q_lss rfl rfl) ?_)
  refine TO.nil ?_
  refine T.cond0 (congrArg Value.bool (decide_eq_false (by omega))) ?_
  refine T.skip (T.seq (T.seq (T.region ?_)))
  refine TO.quiet (q_move rfl) (TO.quiet (q_move rfl) (TO.quiet (q_cap Try.underlying22 rfl) (TO.quiet (q_move rfl) ?_)))
  refine TO.quiet (q_len Try.underlying22 rfl) (TO.quiet (q_subN (a := 0) (b := 0) rfl rfl (by omega) (by omega)) (TO.quiet (QT.cast (q_subN (a := n) (b := 0) rfl rfl (by omega) (by omega)) (v' := .int .i64 ((n : Nat) : Int)) (by rw [Nat.sub_zero])) (TO.quiet (q_assign rfl) ?_)))
  refine TO.nil (T.seq (T.region ?_))
  refine TO.quiet (q_move rfl) (TO.quiet (q_gtr rfl rfl) ?_)
  refine TO.nil ?_
  refine T.condP rfl (fun hc => ?_) (fun hc => ?_)
  · have hlt16 : n > 0 := by omega
    refine T.region ?_
    refine TO.quiet (q_move rfl) (TO.quiet (q_move rfl) (TO.quiet (q_cap Try.underlying22 rfl) (TO.quiet (q_sliceTo (hi := 0) Try.underlying22 inf3 rfl rfl (Nat.le_refl _)) ?_)))
    refine TO.quiet (q_move rfl) ?_
    refine TO.loud rfl (l_appendZ (m := n) Try.underlying22 Try.underlying3 inf3 rfl rfl rfl (by omega) (by omega) (by decide) (by decide) (fun gb gc hgc => ?_))
    refine TO.quiet (q_move rfl) (TO.quiet (q_len Try.underlying22 rfl) ?_)
    refine TO.loud rfl (l_head (m := 0) 0 Try.underlying22 inf3 rfl rfl rfl (by omega) ?_)
    refine TO.sub (O' := [rowI gb gc 3 1 []]) (by rw [show (List.replicate n (Value.int .i64 0)).take (0 * 1) = [] from (by simp)]; exact Sub.of (List.Sublist.refl _)) ?_
    refine TO.quiet (q_assign rfl) ?_
    refine TO.nil (T.seq ?_)
    
    refine T.region ?_
    refine TO.quiet (q_move rfl) (TO.quiet (q_assign rfl) ?_)
    refine TO.nil (T.ret (Res.drop ?_))
    refine Res.one (.slice gb 0 gc) Try.results110 rfl ?_
    exact ⟨_, Sub.of (List.Sublist.refl _), _, _, rfl, rfl⟩
  have hge16 : ¬ n > 0 := by omega
  refine T.skip (T.seq ?_)
  refine T.nilRow 3 1 ?_
  refine T.region ?_
  refine TO.quiet (q_move rfl) (TO.quiet (q_assign rfl) ?_)
  refine TO.nil (T.ret (Res.drop ?_))
  refine Res.one (.slice none 0 0) Try.results110 rfl ?_
  exact ⟨_, Sub.of (List.Sublist.refl _), _, _, rfl, rfl⟩
theorem flat_takeI {ws : List (List Int)} {j : Nat} (h : j < ws.length) : (ws.take (j + 1)).flatten = (ws.take j).flatten ++ ws[j] := by
  rw [List.take_succ_eq_append_getElem h, List.flatten_append]; simp
theorem flat_leI {ws : List (List Int)} (j : Nat) : (ws.take j).flatten.length ≤ ws.flatten.length := by
  have : ws.flatten = (ws.take j).flatten ++ (ws.drop j).flatten := by rw [← List.flatten_append, List.take_append_drop]
  rw [this, List.length_append]; omega
theorem rowsR_two {w : World} {b1 b2 : Option Addr} {c1 c2 n1 n2 : Nat} {r1 r2 : List Int} (h1 : Sl w b1 (ints r1)) (h2 : Sl w b2 (ints r2)) (e1 : r1.length = n1) (e2 : r2.length = n2) : RowsR w [.slice b1 n1 c1, .slice b2 n2 c2] [r1, r2] := by
  subst e1; subst e2
  exact RowsR.cons (RowsR.cons (⟨rfl, fun i r h9 => by simp at h9⟩ : RowsR w [] []) h2) h1
set_option maxHeartbeats 1000000 in
set_option maxRecDepth 20000 in
theorem concatI (w : World) (b : Option Addr) (c : Nat) (vs : List Value) (ws : List (List Int)) (hS : Sl w b vs) (hW : RowsR w vs ws) (hl : ws.length ≤ 1000000) (hb : ws.flatten.length ≤ 1000000000) :
    PureT Try.prog 91 [.slice b ws.length c] w fun v N => ∃ b' c', v = .slice b' ws.flatten.length c' ∧ N = [rowI b' c' 3 1 (ints ws.flatten)] := by
  refine CallT.enter Try.func91 rfl Try.ntmps91 rfl ?_
  refine T.seq (T.region ?_)
  refine TO.quiet (q_assign rfl) ?_
  refine TO.nil (T.seq (T.region ?_))
  refine TO.quiet (q_assign rfl) ?_
  refine TO.nil (T.seq (T.seq (T.region ?_)))
  refine TO.quiet (q_move rfl) (TO.quiet (q_len Try.underlying24 rfl) (TO.quiet (q_move rfl) ?_))
  refine TO.nil (T.block ?_)
  refine T.loop (fun (k : Nat) ρ O => O = [] ∧ k ≤ ws.length ∧ Heads [(0, (.slice b ws.length c)), (2, (.slice none 0 0)), (3, .int .i64 (((ws.take k).flatten.length : Nat) : Int)), (9, (.slice b ws.length c)), (10, .int .i64 (ws.length : Int)), (11, .int .i64 (k : Int))] ρ) (fun k => ws.length - k) 0 ?_ ?_
  · exact ⟨rfl, Nat.zero_le _, ⟨rfl, rfl, rfl, rfl, rfl, rfl, trivial⟩⟩
  rintro k ρ O ⟨rfl, hk, hH⟩
  obtain ⟨ρ0, rfl⟩ := hH.elim
  clear hH
  refine T.seq (T.region ?_)
  refine TO.quiet (q_lss rfl rfl) ?_
  refine TO.nil (T.seq ?_)
  refine T.condP rfl (fun hc => ?_) (fun hc => ?_)
  · have hlt12 : k < ws.length := by omega
    obtain ⟨rb, rc, g1, s1⟩ := hW.get hlt12
    have hfl := flat_leI (ws := ws) (k + 1)
    rw [flat_takeI hlt12, List.length_append] at hfl
    refine T.skip (T.seq (T.block (T.seq (T.region ?_))))
    refine TO.quiet (q_ix (i := k) Try.underlying24 inf22 rfl rfl (Sl.o hS) (by first | assumption | omega | (simp; omega) | simp_all) (by rw [hW.1]; exact hlt12)) (TO.quiet (q_ld Try.underlying22 rfl rfl (Sl.o hS) g1) (TO.quiet (q_assign rfl) ?_))
    refine TO.nil (T.seq (T.region ?_))
    refine TO.quiet (q_move rfl) (TO.quiet (q_move rfl) (TO.quiet (q_len Try.underlying22 rfl) (TO.quiet (q_addN (a := ((ws.take k).flatten.length)) (b := ws[k].length) rfl rfl (by omega)) ?_)))
    refine TO.quiet (q_assign rfl) ?_
    refine TO.nil (T.seq (T.region ?_))
    refine TO.quiet (q_move rfl) (TO.quiet (q_lss rfl rfl) ?_)
    refine TO.nil ?_
    refine T.cond0 (congrArg Value.bool (decide_eq_false (by omega))) ?_
    refine T.skip (T.region ?_)
    refine TO.quiet (q_addN (a := k) (b := 1) rfl rfl (by omega)) (TO.quiet (q_move rfl) ?_)
    refine TO.nil ?_
    refine ⟨k + 1, by omega, rfl, by omega, ?_⟩
    rw [flat_takeI hlt12, List.length_append]; exact ⟨rfl, rfl, rfl, rfl, rfl, rfl, trivial⟩
  have hge12 : ¬ k < ws.length := by omega
  refine T.exit ?_
  refine T.seq (T.region ?_)
  refine TO.quiet (q_move rfl) ?_
  have hk24 := fun (w1 : World) (hI : Inv w [] w1) => growI w1 (ws.take k).flatten.length (by have := flat_leI (ws := ws) k; omega)
  refine TO.loud rfl (l_call ent110 (CallT.of_pure hk24) rfl ?_)
  clear hk24
  rintro vr O' ⟨N, rfl, gb, gc, rfl, rfl⟩
  refine TO.quiet (q_assign rfl) ?_
  refine TO.nil (T.seq (T.seq (T.region ?_)))
  refine TO.quiet (q_move rfl) (TO.quiet (q_len Try.underlying24 rfl) (TO.quiet (q_move rfl) ?_))
  refine TO.nil (T.block ?_)
  refine T.loop (fun (j : Nat) ρ O => ∃ (gb2 : Option Addr) (gc2 : Nat), O = [rowI gb2 gc2 3 1 (ints (ws.take j).flatten)] ∧ j ≤ ws.length ∧ Heads [(0, (.slice b ws.length c)), (2, (.slice none 0 0)), (3, .int .i64 (((ws.take k).flatten.length : Nat) : Int)), (6, (.slice gb2 ((ws.take j).flatten.length) gc2)), (25, (.slice b ws.length c)), (26, .int .i64 (ws.length : Int)), (27, .int .i64 (j : Int))] ρ) (fun j => ws.length - j) 0 ?_ ?_
  · exact ⟨gb, gc, rfl, Nat.zero_le _, ⟨rfl, rfl, rfl, rfl, rfl, rfl, rfl, trivial⟩⟩
  rintro j ρ O ⟨gb2, gc2, rfl, hj, hH⟩
  obtain ⟨ρ0, rfl⟩ := hH.elim
  clear hH
  refine T.seq (T.region ?_)
  refine TO.quiet (q_lss rfl rfl) ?_
  refine TO.nil (T.seq ?_)
  refine T.condP rfl (fun hc => ?_) (fun hc => ?_)
  · have hlt28 : j < ws.length := by omega
    obtain ⟨rb, rc, g1, s1⟩ := hW.get hlt28
    have hfl := flat_leI (ws := ws) (j + 1)
    rw [flat_takeI hlt28, List.length_append] at hfl
    refine T.skip (T.seq (T.block (T.seq (T.region ?_))))
    refine TO.quiet (q_ix (i := j) Try.underlying24 inf22 rfl rfl (Sl.o hS) (by first | assumption | omega | (simp; omega) | simp_all) (by rw [hW.1]; exact hlt28)) (TO.quiet (q_ld Try.underlying22 rfl rfl (Sl.o hS) g1) (TO.quiet (q_assign rfl) ?_))
    refine TO.nil (T.region ?_)
    refine TO.quiet (q_move rfl) (TO.quiet (q_move rfl) ?_)
    refine TO.loud rfl (l_append 0 Try.underlying22 Try.underlying22 inf3 rfl rfl rfl rfl (by rw [List.length_map, Nat.mul_one]) (by decide) (Src.sl s1 (by simp)) (ints_one ws[j]) (by omega) (by decide) (by decide) (fun bx1 c2 => ?_))
    refine TO.quiet (q_assign rfl) ?_
    refine TO.nil (T.region ?_)
    refine TO.quiet (q_addN (a := j) (b := 1) rfl rfl (by omega)) (TO.quiet (q_move rfl) ?_)
    refine TO.nil ?_
    have e := flat_takeI hlt28
    refine ⟨j + 1, by omega, bx1, c2, ?_, by omega, ?_⟩
    · rw [e, show ints ((ws.take j).flatten ++ ws[j]) = ints (ws.take j).flatten ++ ints ws[j] from List.map_append]; rfl
    · rw [e, List.length_append]; exact ⟨rfl, rfl, rfl, rfl, rfl, rfl, rfl, trivial⟩
  have hge28 : ¬ j < ws.length := by omega
  refine T.exit ?_
  refine T.seq (T.region ?_)
  refine TO.quiet (q_move rfl) (TO.quiet (q_assign rfl) ?_)
  refine TO.nil (T.ret (Res.drop ?_))
  refine Res.one (.slice gb2 ((ws.take j).flatten.length) gc2) Try.results91 rfl ?_
  have hke : j = ws.length := by omega
  subst hke
  rw [List.take_length]
  exact ⟨_, Sub.of (List.Sublist.refl _), _, _, rfl, rfl⟩
end Go.Proofs.Ytnamoapbienooaa


/- Contracts of functions of the program (BSta): what each call answers and that it leaves memory as it was. Conditions: those each theorem names. -/
import Derived.Test.YtnamoapbienooaaBGod
import Derived.Test.YtnamoapbienooaaPrd
import Derived.Test.YtnamoapbienooaaBRef
import Derived.Test.YtnamoapbienooaaPth
set_option linter.unusedSectionVars false
set_option linter.unusedSimpArgs false
set_option linter.unusedVariables false
set_option linter.unnecessarySimpa false
namespace Go.Proofs.Ytnamoapbienooaa
open Go.Lx Go.RowKit
set_option linter.unusedVariables false
set_option linter.unusedSimpArgs false
set_option maxHeartbeats 1000000 in
set_option maxRecDepth 20000 in
theorem statesG (w : World) (b : Bu) (sb eb tb : Option Addr) (sc ec tc : Nat) (vs : List Value) (h : BuAt w b sb eb tb vs) (hB : BuB b) (hv : ValidB b) :
    PureT Try.prog 63 [.agg (buCells b sb sc eb ec tb tc).toArray] w fun v N => ∃ ab ac nb nc qs, v = .agg #[(.int .i64 b.vars), (.int .i64 b.states), (.slice sb b.start.length sc), (.slice eb b.edges.length ec), (.slice tb b.sets.length tc), .slice ab b.states.toNat ac, .slice nb b.states.toNat nc] ∧ N = [rowI ab ac 3 1 (nats (List.range b.states.toNat)), rowI nb nc 22 1 (vals qs)] ++ itms 3 qs ∧ RowsP b.states.toNat (autR b.edges) b.edges.length (nums qs) := by
  refine CallT.enter Try.func63 rfl Try.ntmps63 rfl ?_
  have hv0 := hv.n0; have hv4 := hv.n4; have hed := hB.ed
  obtain ⟨n, hn⟩ : ∃ n : Nat, b.states = (n : Int) := ⟨b.states.toNat, by omega⟩
  have hnn : b.states.toNat = n := by omega
  refine T.seq (T.region ?_)
  refine TO.loud rfl (l_box (v := (.agg (buCells b sb sc eb ec tb tc).toArray)) (cs := (buCells b sb sc eb ec tb tc)) rfl rfl (fun bx1 => ?_))
  refine TO.loud rfl (l_alloc inf91 rfl (fun bx2 => ?_))
  refine TO.nil ?_
  refine T.cut (fun ρ O => ∃ (zN zG : Nat), O = [oI zG 91 [(.int .i64 b.vars), (.int .i64 b.states), (.slice sb b.start.length sc), (.slice eb b.edges.length ec), (.slice tb b.sets.length tc), (.slice none 0 0), (.slice (some ⟨zN, 0, none⟩) n n)], rowI (some ⟨zN, 0, none⟩) n 22 1 (List.replicate n (.slice none 0 0)), oI bx2 91 [(.int .i64 0), (.int .i64 0), (.slice none 0 0), (.slice none 0 0), (.slice none 0 0), (.slice none 0 0), (.slice none 0 0)], oI bx1 26 (buCells b sb sc eb ec tb tc)] ∧ Heads [(0, (.agg (buCells b sb sc eb ec tb tc).toArray)), (1, (.pointer (some ⟨bx1, 0, none⟩))), (2, (.pointer (some ⟨bx2, 0, none⟩))), (3, (.pointer (some ⟨zG, 0, none⟩)))] ρ) ?_ ?_
  · refine T.tree [oI bx1 26 (buCells b sb sc eb ec tb tc)] 7 mixed rfl (Sub.pick [1] rfl) (fun _ _ _ h => h) ?_
    refine RO.quietT 0 rfl (by kernel_rfl) (q_load_boxAgg 0 Try.underlying26 rfl inf26 rfl rfl rfl) ?_
    refine RO.quietT 1 rfl (by kernel_rfl) (q_fieldAddr Try.underlying26 rfl inf3 rfl rfl) ?_
    refine RO.quietT 2 rfl (by kernel_rfl) (QT.cast (q_load_box 0 Try.underlying3 rfl rfl rfl rfl) (v' := .int .i64 ((n : Nat) : Int)) (by show Value.int _ b.states = _; rw [hn])) ?_
    refine RO.fork [3, 5] (by kernel_rfl) rfl ⟨⟨_, rfl, rfl, l_makeSlice (m := n) Try.underlying24 inf22 rfl rfl (by omega) (by omega) (fun zN => ⟨Sub.pick [2] rfl, ?_⟩)⟩, ⟨_, rfl, rfl, l_alloc inf91 rfl (fun zG => ⟨Sub.pick [2] rfl, ?_⟩)⟩, trivial⟩
    · refine RO.quietT 4 rfl (by kernel_rfl) (q_build (cs := [(.int .i64 b.vars), (.int .i64 b.states), (.slice sb b.start.length sc), (.slice eb b.edges.length ec), (.slice tb b.sets.length tc), (.slice none 0 0), (.slice (some ⟨zN, 0, none⟩) n n)]) plan91 inf91 (by kernel_rfl)) ?_
      refine RO.fork [5] (by kernel_rfl) rfl ⟨⟨_, rfl, rfl, l_alloc inf91 rfl (fun zG => ⟨Sub.pick [3] rfl, ?_⟩)⟩, trivial⟩
      refine RO.fork [6] (by kernel_rfl) rfl ⟨⟨_, rfl, rfl, l_store_box (v := (.agg #[(.int .i64 b.vars), (.int .i64 b.states), (.slice sb b.start.length sc), (.slice eb b.edges.length ec), (.slice tb b.sets.length tc), (.slice none 0 0), (.slice (some ⟨zN, 0, none⟩) n n)])) (vs := [(.int .i64 b.vars), (.int .i64 b.states), (.slice sb b.start.length sc), (.slice eb b.edges.length ec), (.slice tb b.sets.length tc), (.slice none 0 0), (.slice (some ⟨zN, 0, none⟩) n n)]) 0 inf91 rfl rfl rfl rfl rfl rfl (by simp [putL]) ⟨Sub.pick [3] rfl, ?_⟩⟩, trivial⟩
      exact RO.fin (by kernel_rfl) ⟨zN, zG, rfl, ⟨rfl, rfl, rfl, rfl, trivial⟩⟩ (Sub.pick [0, 0, 0, 0] rfl)
    refine RO.fork [3] (by kernel_rfl) rfl ⟨⟨_, rfl, rfl, l_makeSlice (m := n) Try.underlying24 inf22 rfl rfl (by omega) (by omega) (fun zN => ⟨Sub.pick [3] rfl, ?_⟩)⟩, trivial⟩
    refine RO.quietT 4 rfl (by kernel_rfl) (q_build (cs := [(.int .i64 b.vars), (.int .i64 b.states), (.slice sb b.start.length sc), (.slice eb b.edges.length ec), (.slice tb b.sets.length tc), (.slice none 0 0), (.slice (some ⟨zN, 0, none⟩) n n)]) plan91 inf91 (by kernel_rfl)) ?_
    refine RO.fork [6] (by kernel_rfl) rfl ⟨⟨_, rfl, rfl, l_store_box (v := (.agg #[(.int .i64 b.vars), (.int .i64 b.states), (.slice sb b.start.length sc), (.slice eb b.edges.length ec), (.slice tb b.sets.length tc), (.slice none 0 0), (.slice (some ⟨zN, 0, none⟩) n n)])) (vs := [(.int .i64 b.vars), (.int .i64 b.states), (.slice sb b.start.length sc), (.slice eb b.edges.length ec), (.slice tb b.sets.length tc), (.slice none 0 0), (.slice (some ⟨zN, 0, none⟩) n n)]) 1 inf91 rfl rfl rfl rfl rfl rfl (by simp [putL]) ⟨Sub.pick [3] rfl, ?_⟩⟩, trivial⟩
    exact RO.fin (by kernel_rfl) ⟨zN, zG, rfl, ⟨rfl, rfl, rfl, rfl, trivial⟩⟩ (Sub.pick [1, 0, 0, 0] rfl)
  rintro ρ O ⟨zN, zG, rfl, hH⟩
  obtain ⟨ρ0, rfl⟩ := hH.elim
  clear hH
  refine T.seq (T.seq (T.region ?_))
  refine TO.quiet (q_assign rfl) ?_
  refine TO.nil (T.block ?_)
  refine T.nilRow 3 1 ?_
  refine T.loopS (fun (k : Nat) ρ O => ∃ (ab : Option Addr) (ac : Nat), O = [rowI ab ac 3 1 (nats (List.range k)), oI zG 91 [(.int .i64 b.vars), (.int .i64 b.states), (.slice sb b.start.length sc), (.slice eb b.edges.length ec), (.slice tb b.sets.length tc), (.slice ab k ac), (.slice (some ⟨zN, 0, none⟩) n n)], rowI (some ⟨zN, 0, none⟩) n 22 1 (List.replicate n (.slice none 0 0)), oI bx2 91 [(.int .i64 0), (.int .i64 0), (.slice none 0 0), (.slice none 0 0), (.slice none 0 0), (.slice none 0 0), (.slice none 0 0)], oI bx1 26 (buCells b sb sc eb ec tb tc)] ∧ k ≤ n ∧ Heads [(0, (.agg (buCells b sb sc eb ec tb tc).toArray)), (1, (.pointer (some ⟨bx1, 0, none⟩))), (2, (.pointer (some ⟨bx2, 0, none⟩))), (3, (.pointer (some ⟨zG, 0, none⟩))), (4, .int .i64 (k : Int))] ρ) (fun k => n - k) 0 ?_ ?_
  · exact ⟨none, 0, rfl, Nat.zero_le _, ⟨rfl, rfl, rfl, rfl, rfl, trivial⟩⟩
  rintro k ρ O ⟨ab, ac, rfl, hk, hH⟩
  obtain ⟨ρ0, rfl⟩ := hH.elim
  clear hH
  refine T.seq (T.seq (T.region ?_))
  refine TO.quiet (q_move rfl) (TO.quiet (q_fieldAddr Try.underlying26 rfl inf3 rfl rfl) (TO.quiet (QT.cast (q_load_box 4 Try.underlying3 rfl rfl rfl rfl) (v' := .int .i64 ((n : Nat) : Int)) (by show Value.int _ b.states = _; rw [hn])) (TO.quiet (q_lss rfl rfl) ?_)))
  refine TO.nil ?_
  refine T.condP rfl (fun hc => ?_) (fun hc => ?_)
  · have hlt14 : k < n := by omega
    refine T.skip (T.seq (T.block (T.region ?_)))
    refine TO.quiet (q_fieldAddr Try.underlying91 rfl inf22 rfl rfl) (TO.quiet (q_load_box 1 Try.underlying22 rfl rfl rfl rfl) (TO.quiet (q_move rfl) ?_))
    refine TO.loud rfl (l_build1 (v := .int .i64 (k : Int)) Try.underlying22 inf3 rfl rfl rfl (fun bx3 => ?_))
    refine TO.loud rfl (l_append 1 Try.underlying22 Try.underlying22 inf3 rfl rfl rfl rfl (by simp) (by decide) (Src.row (j := 0) rfl (by simp)) (by simp [oneB]) (by omega) (by decide) (by decide) (fun bx4 c5 => ?_))
    refine TO.quiet (q_fieldAddr Try.underlying91 rfl inf22 rfl rfl) ?_
    refine TO.loud rfl (l_store_box (v := (.slice bx4 (k + 1) c5)) (vs := [(.slice bx4 (k + 1) c5)]) 2 inf22 rfl rfl rfl rfl rfl rfl (by simp [putL]) ?_)
    refine TO.nil (T.region ?_)
    refine TO.quiet (q_move rfl) (TO.quiet (q_addN (a := k) (b := 1) rfl rfl (by omega)) (TO.quiet (q_assign rfl) ?_))
    refine TO.nil ?_
    refine ⟨k + 1, by omega, [rowI bx4 c5 3 1 ((nats (List.range k)) ++ [.int .i64 (k : Int)]), oI zG 91 [(.int .i64 b.vars), (.int .i64 b.states), (.slice sb b.start.length sc), (.slice eb b.edges.length ec), (.slice tb b.sets.length tc), (.slice bx4 (k + 1) c5), (.slice (some ⟨zN, 0, none⟩) n n)], rowI (some ⟨zN, 0, none⟩) n 22 1 (List.replicate n (.slice none 0 0)), oI bx2 91 [(.int .i64 0), (.int .i64 0), (.slice none 0 0), (.slice none 0 0), (.slice none 0 0), (.slice none 0 0), (.slice none 0 0)], oI bx1 26 (buCells b sb sc eb ec tb tc)], (Sub.pick [1, 1, 1, 1, 1] rfl), bx4, c5, ?_, by omega, ⟨rfl, rfl, rfl, rfl, rfl, trivial⟩⟩
    rw [List.range_succ, show nats (List.range k ++ [k]) = nats (List.range k) ++ [.int .i64 ((k : Nat) : Int)] from List.map_append]
  have hge14 : ¬ k < n := by omega
  refine T.exit ?_
  refine T.seq (T.seq (T.region ?_))
  refine TO.quiet (q_assign rfl) ?_
  refine TO.nil (T.block ?_)
  refine T.nilRows 3 n ?_
  refine T.loop (fun (j : Nat) ρ O => ∃ (qs : List Rec), O = ([rowI ab ac 3 1 (nats (List.range k)), oI zG 91 [(.int .i64 b.vars), (.int .i64 b.states), (.slice sb b.start.length sc), (.slice eb b.edges.length ec), (.slice tb b.sets.length tc), (.slice ab k ac), (.slice (some ⟨zN, 0, none⟩) n n)], rowI (some ⟨zN, 0, none⟩) n 22 1 (vals qs), oI bx2 91 [(.int .i64 0), (.int .i64 0), (.slice none 0 0), (.slice none 0 0), (.slice none 0 0), (.slice none 0 0), (.slice none 0 0)], oI bx1 26 (buCells b sb sc eb ec tb tc)] ++ (itms 3 qs)) ∧ j ≤ b.edges.length ∧ RowsP n (autR (b.edges.take j)) j (nums qs) ∧ Heads [(0, (.agg (buCells b sb sc eb ec tb tc).toArray)), (1, (.pointer (some ⟨bx1, 0, none⟩))), (2, (.pointer (some ⟨bx2, 0, none⟩))), (3, (.pointer (some ⟨zG, 0, none⟩))), (4, .int .i64 (k : Int)), (5, .int .i64 (j : Int))] ρ) (fun j => b.edges.length - j) 0 ?_ ?_
  · exact ⟨List.replicate n nilRec, (by simp only [List.map_replicate]; rfl), Nat.zero_le _, RowsP.start (fun u y _ ⟨e, he, _⟩ => by simp at he) _, ⟨rfl, rfl, rfl, rfl, rfl, rfl, trivial⟩⟩
  rintro j ρ O ⟨qs, rfl, hj, hrw, hH⟩
  obtain ⟨ρ0, rfl⟩ := hH.elim
  clear hH
  have hql := hrw.ql
  refine T.seq (T.seq (T.region ?_))
  refine TO.quiet (q_move rfl) (TO.quiet (q_fieldAddr Try.underlying26 rfl inf23 rfl rfl) (TO.quiet (q_load_box 4 Try.underlying23 rfl rfl rfl rfl) (TO.quiet (q_len Try.underlying23 rfl) ?_)))
  refine TO.quiet (q_lss rfl rfl) ?_
  refine TO.nil ?_
  refine T.condP rfl (fun hc => ?_) (fun hc => ?_)
  · have hlt27 : j < b.edges.length := by omega
    obtain ⟨u, hu, hun⟩ : ∃ u : Nat, b.edges[j].fr = (u : Int) ∧ u < n := by
      have := (hv.ed _ (List.getElem_mem hlt27)).1
      exact ⟨b.edges[j].fr.toNat, by omega, by omega⟩
    have hqu : u < qs.length := by omega
    have hrq := hrw.rl hqu
    refine T.skip (T.seq (T.block ?_))
    refine T.sub (sub_out hqu [rowI ab ac 3 1 (nats (List.range k)), oI zG 91 [(.int .i64 b.vars), (.int .i64 b.states), (.slice sb b.start.length sc), (.slice eb b.edges.length ec), (.slice tb b.sets.length tc), (.slice ab k ac), (.slice (some ⟨zN, 0, none⟩) n n)], rowI (some ⟨zN, 0, none⟩) n 22 1 (vals qs), oI bx2 91 [(.int .i64 0), (.int .i64 0), (.slice none 0 0), (.slice none 0 0), (.slice none 0 0), (.slice none 0 0), (.slice none 0 0)], oI bx1 26 (buCells b sb sc eb ec tb tc)]) ?_
    refine T.draws [rowI ab ac 3 1 (nats (List.range k)), oI zG 91 [(.int .i64 b.vars), (.int .i64 b.states), (.slice sb b.start.length sc), (.slice eb b.edges.length ec), (.slice tb b.sets.length tc), (.slice ab k ac), (.slice (some ⟨zN, 0, none⟩) n n)], rowI (some ⟨zN, 0, none⟩) n 22 1 (vals qs), oI bx2 91 [(.int .i64 0), (.int .i64 0), (.slice none 0 0), (.slice none 0 0), (.slice none 0 0), (.slice none 0 0), (.slice none 0 0)], oI bx1 26 (buCells b sb sc eb ec tb tc)] [(0, 0), (1, 0), (2, 0), (3, 0), (4, 0), (5, 0), (6, 0), (7, 0), (8, 0), (9, 0), (10, 0), (11, 0), (12, 0), (13, 0), (14, 0), (15, 0), (16, 0), (17, 0), (18, 0), (19, 0), (20, 0), (21, 0), (22, 0), (23, 0), (24, 1), (25, 1), (26, 0), (27, 2)] mixed (by kernel_rfl) (Sub.pick0 [1, 1, 1, 1, 1] [rowI qs[u].b qs[u].c 3 1 (ints qs[u].xs), rowI ab ac 3 1 (nats (List.range k)), oI zG 91 [(.int .i64 b.vars), (.int .i64 b.states), (.slice sb b.start.length sc), (.slice eb b.edges.length ec), (.slice tb b.sets.length tc), (.slice ab k ac), (.slice (some ⟨zN, 0, none⟩) n n)], rowI (some ⟨zN, 0, none⟩) n 22 1 (vals qs), oI bx2 91 [(.int .i64 0), (.int .i64 0), (.slice none 0 0), (.slice none 0 0), (.slice none 0 0), (.slice none 0 0), (.slice none 0 0)], oI bx1 26 (buCells b sb sc eb ec tb tc)] (itms 3 (qs.eraseIdx u)) rfl rfl) (fun _ _ _ h => h) ?_
    refine DO.quiet rfl (q_fieldAddr Try.underlying91 rfl inf24 rfl rfl) (DO.quiet rfl (q_load_box 1 Try.underlying24 rfl rfl rfl rfl) (DO.quiet rfl (q_fieldAddr Try.underlying26 rfl inf23 rfl rfl) (DO.quiet rfl (q_load_box 4 Try.underlying23 rfl rfl rfl rfl) ?_)))
    refine DO.quiet rfl (q_move rfl) (DO.quiet rfl (q_ixK (i := j) Try.underlying23 inf54 rfl rfl (Sl.o h.ed) (by first | assumption | omega | (simp; omega) | simp_all) (by first | (rw [eds_len]; omega) | (simp [eds_len]; omega) | (simp_all [eds_len]; omega))) (DO.quiet rfl (q_fieldEl Try.underlying54 rfl inf3 rfl rfl (Sl.o h.ed) (by first | (rw [eds_len]; omega) | (simp [eds_len]; omega) | (simp_all [eds_len]; omega))) (DO.quiet rfl (q_ld Try.underlying3 rfl rfl (Sl.o h.ed) (show (edsC b.edges)[j * 4]? = some (.int .i64 ((u : Nat) : Int)) by rw [show j * 4 = j * 4 + 0 from rfl, eds_get' hlt27 0 (by decide)]; show some (Value.int _ b.edges[j].fr) = _; rw [hu])) ?_)))
    refine DO.quiet rfl (q_fieldAddr Try.underlying91 rfl inf24 rfl rfl) (DO.quiet rfl (q_load_box 1 Try.underlying24 rfl rfl rfl rfl) (DO.quiet rfl (q_fieldAddr Try.underlying26 rfl inf23 rfl rfl) (DO.quiet rfl (q_load_box 4 Try.underlying23 rfl rfl rfl rfl) ?_)))
    refine DO.quiet rfl (q_move rfl) (DO.quiet rfl (q_ixK (i := j) Try.underlying23 inf54 rfl rfl (Sl.o h.ed) (by first | assumption | omega | (simp; omega) | simp_all) (by first | (rw [eds_len]; omega) | (simp [eds_len]; omega) | (simp_all [eds_len]; omega))) (DO.quiet rfl (q_fieldEl Try.underlying54 rfl inf3 rfl rfl (Sl.o h.ed) (by first | (rw [eds_len]; omega) | (simp [eds_len]; omega) | (simp_all [eds_len]; omega))) (DO.quiet rfl (q_ld Try.underlying3 rfl rfl (Sl.o h.ed) (show (edsC b.edges)[j * 4]? = some (.int .i64 ((u : Nat) : Int)) by rw [show j * 4 = j * 4 + 0 from rfl, eds_get' hlt27 0 (by decide)]; show some (Value.int _ b.edges[j].fr) = _; rw [hu])) ?_)))
    refine DO.quiet rfl (q_ix (i := u) Try.underlying24 inf22 rfl rfl (rowO (List.mem_of_getElem? (i := 2) rfl))) (DO.quiet rfl (q_ld Try.underlying22 rfl rfl (rowO (List.mem_of_getElem? (i := 2) rfl)) (vals_at hqu)) (DO.quiet rfl (q_fieldAddr Try.underlying26 rfl inf23 rfl rfl) (DO.quiet rfl (q_load_box 4 Try.underlying23 rfl rfl rfl rfl) ?_)))
    refine DO.quiet rfl (q_move rfl) (DO.quiet rfl (q_ixK (i := j) Try.underlying23 inf54 rfl rfl (Sl.o h.ed) (by first | assumption | omega | (simp; omega) | simp_all) (by first | (rw [eds_len]; omega) | (simp [eds_len]; omega) | (simp_all [eds_len]; omega))) (DO.quiet rfl (q_fieldEl Try.underlying54 rfl inf3 rfl rfl (Sl.o h.ed) (by first | (rw [eds_len]; omega) | (simp [eds_len]; omega) | (simp_all [eds_len]; omega))) (DO.quiet rfl (q_ld Try.underlying3 rfl rfl (Sl.o h.ed) (eds_get' (by first | assumption | omega | (simp; omega) | simp_all) 1 (by decide))) ?_)))
    refine DO.loud rfl rfl (l_build1 (v := .int .i64 b.edges[j].to) Try.underlying22 inf3 rfl rfl rfl (fun bx6 => ⟨Sub.pick0 [2, 2, 2, 2, 2] [rowI (some ⟨bx6, 0, none⟩) 1 3 1 [.int .i64 b.edges[j].to], rowI qs[u].b qs[u].c 3 1 (ints qs[u].xs), rowI ab ac 3 1 (nats (List.range k)), oI zG 91 [(.int .i64 b.vars), (.int .i64 b.states), (.slice sb b.start.length sc), (.slice eb b.edges.length ec), (.slice tb b.sets.length tc), (.slice ab k ac), (.slice (some ⟨zN, 0, none⟩) n n)], rowI (some ⟨zN, 0, none⟩) n 22 1 (vals qs), oI bx2 91 [(.int .i64 0), (.int .i64 0), (.slice none 0 0), (.slice none 0 0), (.slice none 0 0), (.slice none 0 0), (.slice none 0 0)], oI bx1 26 (buCells b sb sc eb ec tb tc)] (itms 3 (qs.eraseIdx u)) rfl rfl, ?_⟩))
    refine DO.loud rfl rfl (l_append 1 Try.underlying22 Try.underlying22 inf3 rfl rfl rfl rfl (by simp) (by decide) (Src.row (j := 0) rfl (by simp)) (by simp [oneB]) (by omega) (by decide) (by decide) (fun bx7 c8 => ⟨Sub.pick0 [2, 2, 2, 2, 2] [rowI (some ⟨bx6, 0, none⟩) 1 3 1 [.int .i64 b.edges[j].to], rowI bx7 c8 3 1 ((ints qs[u].xs) ++ [.int .i64 b.edges[j].to]), rowI ab ac 3 1 (nats (List.range k)), oI zG 91 [(.int .i64 b.vars), (.int .i64 b.states), (.slice sb b.start.length sc), (.slice eb b.edges.length ec), (.slice tb b.sets.length tc), (.slice ab k ac), (.slice (some ⟨zN, 0, none⟩) n n)], rowI (some ⟨zN, 0, none⟩) n 22 1 (vals qs), oI bx2 91 [(.int .i64 0), (.int .i64 0), (.slice none 0 0), (.slice none 0 0), (.slice none 0 0), (.slice none 0 0), (.slice none 0 0)], oI bx1 26 (buCells b sb sc eb ec tb tc)] (itms 3 (qs.eraseIdx u)) rfl rfl, ?_⟩))
    refine DO.quiet rfl (q_ix (i := u) Try.underlying24 inf22 rfl rfl (rowO (List.mem_of_getElem? (i := 2) rfl))) ?_
    refine DO.last rfl rfl (l_st (j := u) (v := (.slice bx7 (qs[u].xs.length + 1) c8)) (vs := [(.slice bx7 (qs[u].xs.length + 1) c8)]) (cs := vals qs) 4 inf22 rfl rfl rfl rfl rfl (by simp) rfl (by first | (simp; omega) | (simp_all; omega)) ?_)
    refine DO.sub (O' := ([rowI (some ⟨bx6, 0, none⟩) 1 3 1 [.int .i64 b.edges[j].to], rowI bx7 c8 3 1 ((ints qs[u].xs) ++ [.int .i64 b.edges[j].to]), rowI ab ac 3 1 (nats (List.range k)), oI zG 91 [(.int .i64 b.vars), (.int .i64 b.states), (.slice sb b.start.length sc), (.slice eb b.edges.length ec), (.slice tb b.sets.length tc), (.slice ab k ac), (.slice (some ⟨zN, 0, none⟩) n n)], rowI (some ⟨zN, 0, none⟩) n 22 1 (vals (qs.set u ⟨bx7, c8, qs[u].xs ++ [b.edges[j].to]⟩)), oI bx2 91 [(.int .i64 0), (.int .i64 0), (.slice none 0 0), (.slice none 0 0), (.slice none 0 0), (.slice none 0 0), (.slice none 0 0)], oI bx1 26 (buCells b sb sc eb ec tb tc)] ++ (itms 3 (qs.eraseIdx u)))) (by rw [show putL (vals qs) u [(.slice bx7 (qs[u].xs.length + 1) c8)] = vals (qs.set u ⟨bx7, c8, qs[u].xs ++ [b.edges[j].to]⟩) from (by simp [putL, Rec.val])]; exact Sub.of (List.Sublist.refl _)) ?_
    refine DO.sub (O' := [rowI bx7 c8 3 1 ((ints qs[u].xs) ++ [.int .i64 b.edges[j].to]), rowI ab ac 3 1 (nats (List.range k)), oI zG 91 [(.int .i64 b.vars), (.int .i64 b.states), (.slice sb b.start.length sc), (.slice eb b.edges.length ec), (.slice tb b.sets.length tc), (.slice ab k ac), (.slice (some ⟨zN, 0, none⟩) n n)], rowI (some ⟨zN, 0, none⟩) n 22 1 (vals (qs.set u ⟨bx7, c8, qs[u].xs ++ [b.edges[j].to]⟩)), oI bx2 91 [(.int .i64 0), (.int .i64 0), (.slice none 0 0), (.slice none 0 0), (.slice none 0 0), (.slice none 0 0), (.slice none 0 0)], oI bx1 26 (buCells b sb sc eb ec tb tc)] ++ (itms 3 (qs.eraseIdx u))) (Sub.pickR [1, 1, 1, 1, 1, 1] [rowI (some ⟨bx6, 0, none⟩) 1 3 1 [.int .i64 b.edges[j].to], rowI bx7 c8 3 1 ((ints qs[u].xs) ++ [.int .i64 b.edges[j].to]), rowI ab ac 3 1 (nats (List.range k)), oI zG 91 [(.int .i64 b.vars), (.int .i64 b.states), (.slice sb b.start.length sc), (.slice eb b.edges.length ec), (.slice tb b.sets.length tc), (.slice ab k ac), (.slice (some ⟨zN, 0, none⟩) n n)], rowI (some ⟨zN, 0, none⟩) n 22 1 (vals (qs.set u ⟨bx7, c8, qs[u].xs ++ [b.edges[j].to]⟩)), oI bx2 91 [(.int .i64 0), (.int .i64 0), (.slice none 0 0), (.slice none 0 0), (.slice none 0 0), (.slice none 0 0), (.slice none 0 0)], oI bx1 26 (buCells b sb sc eb ec tb tc)] (itms 3 (qs.eraseIdx u)) rfl rfl) ?_
    refine DO.sub (O' := [rowI ab ac 3 1 (nats (List.range k)), oI zG 91 [(.int .i64 b.vars), (.int .i64 b.states), (.slice sb b.start.length sc), (.slice eb b.edges.length ec), (.slice tb b.sets.length tc), (.slice ab k ac), (.slice (some ⟨zN, 0, none⟩) n n)], rowI (some ⟨zN, 0, none⟩) n 22 1 (vals (qs.set u ⟨bx7, c8, qs[u].xs ++ [b.edges[j].to]⟩)), oI bx2 91 [(.int .i64 0), (.int .i64 0), (.slice none 0 0), (.slice none 0 0), (.slice none 0 0), (.slice none 0 0), (.slice none 0 0)], oI bx1 26 (buCells b sb sc eb ec tb tc)] ++ (itms 3 (qs.set u ⟨bx7, c8, qs[u].xs ++ [b.edges[j].to]⟩))) (sub_in hqu [rowI ab ac 3 1 (nats (List.range k)), oI zG 91 [(.int .i64 b.vars), (.int .i64 b.states), (.slice sb b.start.length sc), (.slice eb b.edges.length ec), (.slice tb b.sets.length tc), (.slice ab k ac), (.slice (some ⟨zN, 0, none⟩) n n)], rowI (some ⟨zN, 0, none⟩) n 22 1 (vals (qs.set u ⟨bx7, c8, qs[u].xs ++ [b.edges[j].to]⟩)), oI bx2 91 [(.int .i64 0), (.int .i64 0), (.slice none 0 0), (.slice none 0 0), (.slice none 0 0), (.slice none 0 0), (.slice none 0 0)], oI bx1 26 (buCells b sb sc eb ec tb tc)] ⟨bx7, c8, qs[u].xs ++ [b.edges[j].to]⟩ (by simp)) ?_
    refine DO.done ?_
    refine T.region ?_
    refine TO.quiet (q_move rfl) (TO.quiet (q_addN (a := j) (b := 1) rfl rfl (by omega)) (TO.quiet (q_assign rfl) ?_))
    refine TO.nil ?_
    exact ⟨j + 1, by omega, qs.set u ⟨bx7, c8, qs[u].xs ++ [b.edges[j].to]⟩, rfl, by omega, hrw.push hqu b.edges[j].to (fun w y hw => by rw [autR_snoc hlt27]; constructor <;> (rintro (h | h) <;> first | exact .inl h | exact .inr ⟨by omega, by omega⟩)) _ _, ⟨rfl, rfl, rfl, rfl, rfl, rfl, trivial⟩⟩
  have hge27 : ¬ j < b.edges.length := by omega
  refine T.exit ?_
  refine T.seq (T.region ?_)
  refine TO.quiet (q_load_boxAgg 1 Try.underlying91 rfl inf91 rfl rfl rfl) ?_
  refine TO.loud rfl (l_store_box (v := (.agg #[(.int .i64 b.vars), (.int .i64 b.states), (.slice sb b.start.length sc), (.slice eb b.edges.length ec), (.slice tb b.sets.length tc), (.slice ab k ac), (.slice (some ⟨zN, 0, none⟩) n n)])) (vs := [(.int .i64 b.vars), (.int .i64 b.states), (.slice sb b.start.length sc), (.slice eb b.edges.length ec), (.slice tb b.sets.length tc), (.slice ab k ac), (.slice (some ⟨zN, 0, none⟩) n n)]) 3 inf91 rfl rfl rfl rfl rfl rfl (by simp [putL]) ?_)
  refine TO.nil (T.ret (Res.drop ?_))
  refine Res.cell1 (i := 3) Try.results63 Try.underlying91 rfl inf91 rfl rfl rfl ?_
  have hje : j = b.edges.length := by omega
  have hke : k = n := by omega
  rw [hje, List.take_length] at hrw
  exact ⟨[rowI ab ac 3 1 (nats (List.range k)), rowI (some ⟨zN, 0, none⟩) n 22 1 (vals qs)] ++ itms 3 qs, (Sub.pickR [0, 1] [rowI ab ac 3 1 (nats (List.range k)), oI zG 91 [(.int .i64 b.vars), (.int .i64 b.states), (.slice sb b.start.length sc), (.slice eb b.edges.length ec), (.slice tb b.sets.length tc), (.slice ab k ac), (.slice (some ⟨zN, 0, none⟩) n n)], rowI (some ⟨zN, 0, none⟩) n 22 1 (vals qs), oI bx2 91 [(.int .i64 b.vars), (.int .i64 b.states), (.slice sb b.start.length sc), (.slice eb b.edges.length ec), (.slice tb b.sets.length tc), (.slice ab k ac), (.slice (some ⟨zN, 0, none⟩) n n)], oI bx1 26 (buCells b sb sc eb ec tb tc)] (itms 3 qs) rfl rfl), ab, ac, (some ⟨zN, 0, none⟩), n, qs, by rw [hnn, ← hke]; simp [putL], by rw [hnn, ← hke], by rw [hnn]; exact hrw⟩
end Go.Proofs.Ytnamoapbienooaa


/- Contracts of functions of the program (BPrd, BRlv, Rcn, BRep, BCut, BRca, BRac, BLw1): what each call answers and that it leaves memory as it was. Conditions: those each theorem names. -/
import Derived.Test.YtnamoapbienooaaBSta
import Derived.Test.YtnamoapbienooaaBTrm
import Derived.Test.YtnamoapbienooaaBComp
import Derived.Test.YtnamoapbienooaaBLw0
set_option linter.unusedSectionVars false
set_option linter.unusedSimpArgs false
set_option linter.unusedVariables false
set_option linter.unnecessarySimpa false
namespace Go.Proofs.Ytnamoapbienooaa
open Go.Lx Go.RowKit
set_option linter.unusedVariables false
set_option linter.unusedSimpArgs false
set_option maxHeartbeats 4000000 in
set_option maxRecDepth 20000 in
theorem productG (w : World) (b : Bu) (sb eb tb : Option Addr) (sc ec tc : Nat) (vs : List Value) (h : BuAt w b sb eb tb vs) (hB : BuB b) (hv : ValidB b) (l : La) (pb lb : Option Addr) (pc lc : Nat) (h2 : LaAt w l pb lb pc lc) (hL : LaB l) (hl0 : 0 < l.loop.length) (hp64 : l.pre.length ≤ 64) (hl64 : l.loop.length ≤ 64) (hE : b.edges.length ≤ 5000) :
    PureT Try.prog 60 [.agg (buCells b sb sc eb ec tb tc).toArray, .agg (laCells l pb pc lb lc).toArray] w fun v N => ∃ ab ac nb nc qs, v = .agg #[(.int .i64 b.vars), (.int .i64 b.states), (.slice sb b.start.length sc), (.slice eb b.edges.length ec), (.slice tb b.sets.length tc), .slice ab (b.states.toNat * l.n) ac, .slice nb (b.states.toNat * l.n) nc] ∧ N = [rowI ab ac 3 1 (nats (prdA l.n (b.states.toNat * l.n))), rowI nb nc 22 1 (vals qs)] ++ itms 3 qs ∧ ∃ B, B ≤ 1000000 ∧ RowsP (b.states.toNat * l.n) (prodR b.edges l l.n 0) B (nums qs) := by
  refine CallT.enter Try.func60 rfl Try.ntmps60 rfl ?_
  have hv0 := hv.n0; have hv4 := hv.n4; have hed := hB.ed
  have hpl := hL.pre; have hll0 := hL.loop
  have hln : l.n = l.pre.length + l.loop.length := rfl
  obtain ⟨n, hn⟩ : ∃ n : Nat, b.states = (n : Int) := ⟨b.states.toNat, by omega⟩
  have hnn : b.states.toNat = n := by omega
  have hSL : n * l.n ≤ 4096 * 128 := Nat.mul_le_mul (by omega) (by omega)
  have hEL : b.edges.length * l.n ≤ 5000 * 128 := Nat.mul_le_mul (by omega) (by omega)
  have hSL2 : n * l.n ≤ 9223372036854775807 := by omega
  refine T.seq (T.region ?_)
  refine TO.loud rfl (l_box (v := (.agg (buCells b sb sc eb ec tb tc).toArray)) (cs := (buCells b sb sc eb ec tb tc)) rfl rfl (fun bx1 => ?_))
  refine TO.loud rfl (l_box (v := (.agg (laCells l pb pc lb lc).toArray)) (cs := (laCells l pb pc lb lc)) rfl rfl (fun bx2 => ?_))
  refine TO.loud rfl (l_alloc inf91 rfl (fun bx3 => ?_))
  refine TO.nil (T.seq (T.region ?_))
  refine TO.quiet (q_fieldAddr Try.underlying29 rfl inf27 rfl rfl) (TO.quiet (q_load_box 1 Try.underlying27 rfl rfl rfl rfl) (TO.quiet (q_len Try.underlying27 rfl) (TO.quiet (q_fieldAddr Try.underlying29 rfl inf27 rfl rfl) ?_)))
  refine TO.quiet (q_load_box 1 Try.underlying27 rfl rfl rfl rfl) (TO.quiet (q_len Try.underlying27 rfl) (TO.quiet (q_addN (a := l.pre.length) (b := l.loop.length) rfl rfl (by omega)) (TO.quiet (q_assign rfl) ?_)))
  refine TO.nil ?_
  refine T.cut (fun ρ O => ∃ (zN zG : Nat), O = [oI zG 91 [(.int .i64 b.vars), (.int .i64 b.states), (.slice sb b.start.length sc), (.slice eb b.edges.length ec), (.slice tb b.sets.length tc), (.slice none 0 0), (.slice (some ⟨zN, 0, none⟩) (n * l.n) (n * l.n))], rowI (some ⟨zN, 0, none⟩) (n * l.n) 22 1 (List.replicate (n * l.n) (.slice none 0 0)), oI bx3 91 [(.int .i64 0), (.int .i64 0), (.slice none 0 0), (.slice none 0 0), (.slice none 0 0), (.slice none 0 0), (.slice none 0 0)], oI bx2 29 (laCells l pb pc lb lc), oI bx1 26 (buCells b sb sc eb ec tb tc)] ∧ Heads [(0, (.agg (buCells b sb sc eb ec tb tc).toArray)), (1, (.agg (laCells l pb pc lb lc).toArray)), (2, (.pointer (some ⟨bx1, 0, none⟩))), (3, (.pointer (some ⟨bx2, 0, none⟩))), (4, (.pointer (some ⟨bx3, 0, none⟩))), (5, .int .i64 ((l.n : Nat) : Int)), (6, (.pointer (some ⟨zG, 0, none⟩)))] ρ) ?_ ?_
  · refine T.tree [oI bx1 26 (buCells b sb sc eb ec tb tc)] 9 mixed rfl (Sub.pick [2] rfl) (fun _ _ _ h => h) ?_
    refine RO.quietT 0 rfl (by kernel_rfl) (q_load_boxAgg 0 Try.underlying26 rfl inf26 rfl rfl rfl) ?_
    refine RO.quietT 1 rfl (by kernel_rfl) (q_fieldAddr Try.underlying26 rfl inf3 rfl rfl) ?_
    refine RO.quietT 2 rfl (by kernel_rfl) (QT.cast (q_load_box 0 Try.underlying3 rfl rfl rfl rfl) (v' := .int .i64 ((n : Nat) : Int)) (by show Value.int _ b.states = _; rw [hn])) ?_
    refine RO.quietT 3 rfl (by kernel_rfl) (q_move rfl) ?_
    refine RO.quietT 4 rfl (by kernel_rfl) (q_mulN (a := n) (b := l.n) rfl rfl hSL2) ?_
    refine RO.fork [5, 7] (by kernel_rfl) rfl ⟨⟨_, rfl, rfl, l_makeSlice (m := n * l.n) Try.underlying24 inf22 rfl rfl (by omega) (by omega) (fun zN => ⟨Sub.pick [3] rfl, ?_⟩)⟩, ⟨_, rfl, rfl, l_alloc inf91 rfl (fun zG => ⟨Sub.pick [3] rfl, ?_⟩)⟩, trivial⟩
    · refine RO.quietT 6 rfl (by kernel_rfl) (q_build (cs := [(.int .i64 b.vars), (.int .i64 b.states), (.slice sb b.start.length sc), (.slice eb b.edges.length ec), (.slice tb b.sets.length tc), (.slice none 0 0), (.slice (some ⟨zN, 0, none⟩) (n * l.n) (n * l.n))]) plan91 inf91 (by kernel_rfl)) ?_
      refine RO.fork [7] (by kernel_rfl) rfl ⟨⟨_, rfl, rfl, l_alloc inf91 rfl (fun zG => ⟨Sub.pick [4] rfl, ?_⟩)⟩, trivial⟩
      refine RO.fork [8] (by kernel_rfl) rfl ⟨⟨_, rfl, rfl, l_store_box (v := (.agg #[(.int .i64 b.vars), (.int .i64 b.states), (.slice sb b.start.length sc), (.slice eb b.edges.length ec), (.slice tb b.sets.length tc), (.slice none 0 0), (.slice (some ⟨zN, 0, none⟩) (n * l.n) (n * l.n))])) (vs := [(.int .i64 b.vars), (.int .i64 b.states), (.slice sb b.start.length sc), (.slice eb b.edges.length ec), (.slice tb b.sets.length tc), (.slice none 0 0), (.slice (some ⟨zN, 0, none⟩) (n * l.n) (n * l.n))]) 0 inf91 rfl rfl rfl rfl rfl rfl (by simp [putL]) ⟨Sub.pick [4] rfl, ?_⟩⟩, trivial⟩
      exact RO.fin (by kernel_rfl) ⟨zN, zG, rfl, ⟨rfl, rfl, rfl, rfl, rfl, rfl, rfl, trivial⟩⟩ (Sub.pick [0, 0, 0, 0, 0] rfl)
    refine RO.fork [5] (by kernel_rfl) rfl ⟨⟨_, rfl, rfl, l_makeSlice (m := n * l.n) Try.underlying24 inf22 rfl rfl (by omega) (by omega) (fun zN => ⟨Sub.pick [4] rfl, ?_⟩)⟩, trivial⟩
    refine RO.quietT 6 rfl (by kernel_rfl) (q_build (cs := [(.int .i64 b.vars), (.int .i64 b.states), (.slice sb b.start.length sc), (.slice eb b.edges.length ec), (.slice tb b.sets.length tc), (.slice none 0 0), (.slice (some ⟨zN, 0, none⟩) (n * l.n) (n * l.n))]) plan91 inf91 (by kernel_rfl)) ?_
    refine RO.fork [8] (by kernel_rfl) rfl ⟨⟨_, rfl, rfl, l_store_box (v := (.agg #[(.int .i64 b.vars), (.int .i64 b.states), (.slice sb b.start.length sc), (.slice eb b.edges.length ec), (.slice tb b.sets.length tc), (.slice none 0 0), (.slice (some ⟨zN, 0, none⟩) (n * l.n) (n * l.n))])) (vs := [(.int .i64 b.vars), (.int .i64 b.states), (.slice sb b.start.length sc), (.slice eb b.edges.length ec), (.slice tb b.sets.length tc), (.slice none 0 0), (.slice (some ⟨zN, 0, none⟩) (n * l.n) (n * l.n))]) 1 inf91 rfl rfl rfl rfl rfl rfl (by simp [putL]) ⟨Sub.pick [4] rfl, ?_⟩⟩, trivial⟩
    exact RO.fin (by kernel_rfl) ⟨zN, zG, rfl, ⟨rfl, rfl, rfl, rfl, rfl, rfl, rfl, trivial⟩⟩ (Sub.pick [1, 0, 0, 0, 0] rfl)
  rintro ρ O ⟨zN, zG, rfl, hH⟩
  obtain ⟨ρ0, rfl⟩ := hH.elim
  clear hH
  refine T.seq (T.seq (T.region ?_))
  refine TO.quiet (q_assign rfl) ?_
  refine TO.nil (T.block ?_)
  refine T.nilRow 3 1 ?_
  refine T.loop (fun (s : Nat) ρ O => ∃ (ab : Option Addr) (ac : Nat), O = [rowI ab ac 3 1 (nats (prdA l.n (s * l.n))), oI zG 91 [(.int .i64 b.vars), (.int .i64 b.states), (.slice sb b.start.length sc), (.slice eb b.edges.length ec), (.slice tb b.sets.length tc), (.slice ab (s * l.n) ac), (.slice (some ⟨zN, 0, none⟩) (n * l.n) (n * l.n))], rowI (some ⟨zN, 0, none⟩) (n * l.n) 22 1 (List.replicate (n * l.n) (.slice none 0 0)), oI bx3 91 [(.int .i64 0), (.int .i64 0), (.slice none 0 0), (.slice none 0 0), (.slice none 0 0), (.slice none 0 0), (.slice none 0 0)], oI bx2 29 (laCells l pb pc lb lc), oI bx1 26 (buCells b sb sc eb ec tb tc)] ∧ s ≤ n ∧ Heads [(0, (.agg (buCells b sb sc eb ec tb tc).toArray)), (1, (.agg (laCells l pb pc lb lc).toArray)), (2, (.pointer (some ⟨bx1, 0, none⟩))), (3, (.pointer (some ⟨bx2, 0, none⟩))), (4, (.pointer (some ⟨bx3, 0, none⟩))), (5, .int .i64 ((l.n : Nat) : Int)), (6, (.pointer (some ⟨zG, 0, none⟩))), (7, .int .i64 (s : Int))] ρ) (fun s => n - s) 0 ?_ ?_
  · refine ⟨none, 0, ?_, Nat.zero_le _, ⟨rfl, rfl, rfl, rfl, rfl, rfl, rfl, rfl, trivial⟩⟩
    rw [Nat.zero_mul]; rfl
  rintro s ρ O ⟨ab, ac, rfl, hs, hH⟩
  obtain ⟨ρ0, rfl⟩ := hH.elim
  clear hH
  have hsL : s * l.n + l.n ≤ n * l.n ∨ ¬ s < n := by
    by_cases h9 : s < n
    · left; have := Nat.mul_le_mul_right l.n (show s + 1 ≤ n by omega); rwa [Nat.succ_mul] at this
    · exact .inr h9
  refine T.seq (T.seq (T.region ?_))
  refine TO.quiet (q_move rfl) (TO.quiet (q_fieldAddr Try.underlying26 rfl inf3 rfl rfl) (TO.quiet (QT.cast (q_load_box 5 Try.underlying3 rfl rfl rfl rfl) (v' := .int .i64 ((n : Nat) : Int)) (by show Value.int _ b.states = _; rw [hn])) (TO.quiet (q_lss rfl rfl) ?_)))
  refine TO.nil ?_
  refine T.condP rfl (fun hc => ?_) (fun hc => ?_)
  · have hlt30 : s < n := by omega
    refine T.skip (T.seq (T.block (T.seq (T.region ?_))))
    refine TO.quiet (q_assign rfl) ?_
    refine TO.nil (T.block ?_)
    refine T.loopS (fun (i : Nat) ρ O => ∃ (ab : Option Addr) (ac : Nat), O = [rowI ab ac 3 1 (nats (prdA l.n (s * l.n + i))), oI zG 91 [(.int .i64 b.vars), (.int .i64 b.states), (.slice sb b.start.length sc), (.slice eb b.edges.length ec), (.slice tb b.sets.length tc), (.slice ab (s * l.n + i) ac), (.slice (some ⟨zN, 0, none⟩) (n * l.n) (n * l.n))], rowI (some ⟨zN, 0, none⟩) (n * l.n) 22 1 (List.replicate (n * l.n) (.slice none 0 0)), oI bx3 91 [(.int .i64 0), (.int .i64 0), (.slice none 0 0), (.slice none 0 0), (.slice none 0 0), (.slice none 0 0), (.slice none 0 0)], oI bx2 29 (laCells l pb pc lb lc), oI bx1 26 (buCells b sb sc eb ec tb tc)] ∧ i ≤ l.n ∧ Heads [(0, (.agg (buCells b sb sc eb ec tb tc).toArray)), (1, (.agg (laCells l pb pc lb lc).toArray)), (2, (.pointer (some ⟨bx1, 0, none⟩))), (3, (.pointer (some ⟨bx2, 0, none⟩))), (4, (.pointer (some ⟨bx3, 0, none⟩))), (5, .int .i64 ((l.n : Nat) : Int)), (6, (.pointer (some ⟨zG, 0, none⟩))), (7, .int .i64 (s : Int)), (8, .int .i64 (i : Int))] ρ) (fun i => l.n - i) 0 ?_ ?_
    · exact ⟨ab, ac, rfl, Nat.zero_le _, ⟨rfl, rfl, rfl, rfl, rfl, rfl, rfl, rfl, rfl, trivial⟩⟩
    rintro i ρ O ⟨ab, ac, rfl, hi, hH⟩
    obtain ⟨ρ0, rfl⟩ := hH.elim
    clear hH
    refine T.seq (T.seq (T.region ?_))
    refine TO.quiet (q_move rfl) (TO.quiet (q_move rfl) (TO.quiet (q_lss rfl rfl) ?_))
    refine TO.nil ?_
    refine T.condP rfl (fun hc => ?_) (fun hc => ?_)
    · have hlt35 : i < l.n := by omega
      refine T.skip (T.seq (T.block (T.region ?_)))
      refine TO.quiet (q_fieldAddr Try.underlying91 rfl inf22 rfl rfl) (TO.quiet (q_load_box 1 Try.underlying22 rfl rfl rfl rfl) (TO.quiet (q_move rfl) ?_))
      refine TO.loud rfl (l_build1 (v := .int .i64 (s : Int)) Try.underlying22 inf3 rfl rfl rfl (fun bx4 => ?_))
      refine TO.loud rfl (l_append 1 Try.underlying22 Try.underlying22 inf3 rfl rfl rfl rfl (by rw [List.length_map, prdA_len, Nat.mul_one]) (by decide) (Src.row (j := 0) rfl (by simp)) (by simp [oneB]) (by omega) (by decide) (by decide) (fun bx5 c6 => ?_))
      refine TO.quiet (q_fieldAddr Try.underlying91 rfl inf22 rfl rfl) ?_
      refine TO.loud rfl (l_store_box (v := (.slice bx5 ((s * l.n + i) + 1) c6)) (vs := [(.slice bx5 ((s * l.n + i) + 1) c6)]) 2 inf22 rfl rfl rfl rfl rfl rfl (by simp [putL]) ?_)
      refine TO.nil (T.region ?_)
      refine TO.quiet (q_move rfl) (TO.quiet (q_addN (a := i) (b := 1) rfl rfl (by omega)) (TO.quiet (q_assign rfl) ?_))
      refine TO.nil ?_
      refine ⟨i + 1, by omega, [rowI bx5 c6 3 1 ((nats (prdA l.n (s * l.n + i))) ++ [.int .i64 (s : Int)]), oI zG 91 [(.int .i64 b.vars), (.int .i64 b.states), (.slice sb b.start.length sc), (.slice eb b.edges.length ec), (.slice tb b.sets.length tc), (.slice bx5 ((s * l.n + i) + 1) c6), (.slice (some ⟨zN, 0, none⟩) (n * l.n) (n * l.n))], rowI (some ⟨zN, 0, none⟩) (n * l.n) 22 1 (List.replicate (n * l.n) (.slice none 0 0)), oI bx3 91 [(.int .i64 0), (.int .i64 0), (.slice none 0 0), (.slice none 0 0), (.slice none 0 0), (.slice none 0 0), (.slice none 0 0)], oI bx2 29 (laCells l pb pc lb lc), oI bx1 26 (buCells b sb sc eb ec tb tc)], (Sub.pick [1, 1, 1, 1, 1, 1] rfl), bx5, c6, ?_, by omega, ⟨rfl, rfl, rfl, rfl, rfl, rfl, rfl, rfl, rfl, trivial⟩⟩
      rw [← Nat.add_assoc, prdA_succ, div_at hlt35, show nats (prdA l.n (s * l.n + i) ++ [s]) = nats (prdA l.n (s * l.n + i)) ++ [.int .i64 ((s : Nat) : Int)] from List.map_append]
    have hge35 : ¬ i < l.n := by omega
    refine T.exit ?_
    refine T.region ?_
    refine TO.quiet (q_move rfl) (TO.quiet (q_addN (a := s) (b := 1) rfl rfl (by omega)) (TO.quiet (q_assign rfl) ?_))
    refine TO.nil ?_
    have hie : i = l.n := by omega
    refine ⟨s + 1, by omega, ab, ac, ?_, by omega, ⟨rfl, rfl, rfl, rfl, rfl, rfl, rfl, rfl, trivial⟩⟩
    rw [Nat.succ_mul, hie]
  have hge30 : ¬ s < n := by omega
  refine T.exit ?_
  refine T.seq (T.seq (T.region ?_))
  refine TO.quiet (q_assign rfl) ?_
  refine TO.nil (T.block ?_)
  refine T.nilRows 3 (n * l.n) ?_
  refine T.loopS (fun (k : Nat) ρ O => ∃ (qs : List Rec), O = ([rowI ab ac 3 1 (nats (prdA l.n (s * l.n))), oI zG 91 [(.int .i64 b.vars), (.int .i64 b.states), (.slice sb b.start.length sc), (.slice eb b.edges.length ec), (.slice tb b.sets.length tc), (.slice ab (s * l.n) ac), (.slice (some ⟨zN, 0, none⟩) (n * l.n) (n * l.n))], rowI (some ⟨zN, 0, none⟩) (n * l.n) 22 1 (vals qs), oI bx3 91 [(.int .i64 0), (.int .i64 0), (.slice none 0 0), (.slice none 0 0), (.slice none 0 0), (.slice none 0 0), (.slice none 0 0)], oI bx2 29 (laCells l pb pc lb lc), oI bx1 26 (buCells b sb sc eb ec tb tc)] ++ (itms 3 qs)) ∧ k ≤ b.edges.length ∧ RowsP (n * l.n) (prodK b.edges l k 0) (k * l.n) (nums qs) ∧ Heads [(0, (.agg (buCells b sb sc eb ec tb tc).toArray)), (1, (.agg (laCells l pb pc lb lc).toArray)), (2, (.pointer (some ⟨bx1, 0, none⟩))), (3, (.pointer (some ⟨bx2, 0, none⟩))), (4, (.pointer (some ⟨bx3, 0, none⟩))), (5, .int .i64 ((l.n : Nat) : Int)), (6, (.pointer (some ⟨zG, 0, none⟩))), (7, .int .i64 (s : Int)), (9, .int .i64 (k : Int))] ρ) (fun k => b.edges.length - k) 0 ?_ ?_
  · exact ⟨List.replicate (n * l.n) nilRec, (by simp only [List.map_replicate]; rfl), Nat.zero_le _, RowsP.start (fun u y _ => prodK_start) _, ⟨rfl, rfl, rfl, rfl, rfl, rfl, rfl, rfl, rfl, trivial⟩⟩
  rintro k ρ O ⟨qs, rfl, hk, hrw, hH⟩
  obtain ⟨ρ0, rfl⟩ := hH.elim
  clear hH
  refine T.seq (T.seq (T.region ?_))
  refine TO.quiet (q_move rfl) (TO.quiet (q_fieldAddr Try.underlying26 rfl inf23 rfl rfl) (TO.quiet (q_load_box 5 Try.underlying23 rfl rfl rfl rfl) (TO.quiet (q_len Try.underlying23 rfl) ?_)))
  refine TO.quiet (q_lss rfl rfl) ?_
  refine TO.nil ?_
  refine T.condP rfl (fun hc => ?_) (fun hc => ?_)
  · have hlt48 : k < b.edges.length := by omega
    have hpn := hB.pn _ (List.getElem_mem hlt48)
    obtain ⟨u, hu, hun⟩ : ∃ u : Nat, b.edges[k].fr = (u : Int) ∧ u < n := by
      have := (hv.ed _ (List.getElem_mem hlt48)).1
      exact ⟨b.edges[k].fr.toNat, by omega, by omega⟩
    obtain ⟨t, ht, htn⟩ : ∃ t : Nat, b.edges[k].to = (t : Int) ∧ t < n := by
      have := (hv.ed _ (List.getElem_mem hlt48)).2
      exact ⟨b.edges[k].to.toNat, by omega, by omega⟩
    refine T.skip (T.seq (T.block (T.seq (T.region ?_))))
    refine TO.quiet (q_fieldAddr Try.underlying26 rfl inf23 rfl rfl) (TO.quiet (q_load_box 5 Try.underlying23 rfl rfl rfl rfl) (TO.quiet (q_move rfl) (TO.quiet (q_ixK (i := k) Try.underlying23 inf54 rfl rfl (Sl.o h.ed) (by first | assumption | omega | (simp; omega) | simp_all) (by first | (rw [eds_len]; omega) | (simp [eds_len]; omega) | (simp_all [eds_len]; omega))) ?_)))
    refine TO.quiet (q_ldK (vs := [.int .i64 b.edges[k].fr, .int .i64 b.edges[k].to, .int .u8 ((b.edges[k].pos : Nat) : Int), .int .u8 ((b.edges[k].neg : Nat) : Int)]) Try.underlying54 rfl inf54 rfl rfl (Nat.succ_pos _) (Sl.o h.ed) (eds_get (by first | assumption | omega | (simp; omega) | simp_all))) ?_
    refine TO.loud rfl (l_alloc inf54 rfl (fun bx7 => ?_))
    refine TO.loud rfl (l_store_box (v := (.agg #[.int .i64 b.edges[k].fr, .int .i64 b.edges[k].to, .int .u8 ((b.edges[k].pos : Nat) : Int), .int .u8 ((b.edges[k].neg : Nat) : Int)])) (vs := [.int .i64 b.edges[k].fr, .int .i64 b.edges[k].to, .int .u8 ((b.edges[k].pos : Nat) : Int), .int .u8 ((b.edges[k].neg : Nat) : Int)]) 0 inf54 rfl rfl rfl rfl rfl rfl (by simp [putL]) ?_)
    refine TO.nil (T.seq (T.region ?_))
    refine TO.quiet (q_assign rfl) ?_
    refine TO.nil (T.block ?_)
    refine T.loop (fun (i : Nat) ρ O => ∃ (q2 : List Rec), O = ([oI bx7 54 [.int .i64 b.edges[k].fr, .int .i64 b.edges[k].to, .int .u8 ((b.edges[k].pos : Nat) : Int), .int .u8 ((b.edges[k].neg : Nat) : Int)], rowI ab ac 3 1 (nats (prdA l.n (s * l.n))), oI zG 91 [(.int .i64 b.vars), (.int .i64 b.states), (.slice sb b.start.length sc), (.slice eb b.edges.length ec), (.slice tb b.sets.length tc), (.slice ab (s * l.n) ac), (.slice (some ⟨zN, 0, none⟩) (n * l.n) (n * l.n))], rowI (some ⟨zN, 0, none⟩) (n * l.n) 22 1 (vals q2), oI bx3 91 [(.int .i64 0), (.int .i64 0), (.slice none 0 0), (.slice none 0 0), (.slice none 0 0), (.slice none 0 0), (.slice none 0 0)], oI bx2 29 (laCells l pb pc lb lc), oI bx1 26 (buCells b sb sc eb ec tb tc)] ++ (itms 3 q2)) ∧ i ≤ l.n ∧ RowsP (n * l.n) (prodK b.edges l k i) (k * l.n + i) (nums q2) ∧ Heads [(0, (.agg (buCells b sb sc eb ec tb tc).toArray)), (1, (.agg (laCells l pb pc lb lc).toArray)), (2, (.pointer (some ⟨bx1, 0, none⟩))), (3, (.pointer (some ⟨bx2, 0, none⟩))), (4, (.pointer (some ⟨bx3, 0, none⟩))), (5, .int .i64 ((l.n : Nat) : Int)), (6, (.pointer (some ⟨zG, 0, none⟩))), (7, .int .i64 (s : Int)), (9, .int .i64 (k : Int)), (10, (.pointer (some ⟨bx7, 0, none⟩))), (11, .int .i64 (i : Int))] ρ) (fun i => l.n - i) 0 ?_ ?_
    · exact ⟨qs, rfl, Nat.zero_le _, hrw, ⟨rfl, rfl, rfl, rfl, rfl, rfl, rfl, rfl, rfl, rfl, rfl, trivial⟩⟩
    rintro i ρ O ⟨q2, rfl, hi4, hrw2, hH⟩
    obtain ⟨ρ0, rfl⟩ := hH.elim
    clear hH
    have hql := hrw2.ql
    have hat : l.at i < 256 := La.at_lt hl0 hL.p8 hL.l8 i
    have huL : u * l.n + l.n ≤ n * l.n := by have := Nat.mul_le_mul_right l.n (show u + 1 ≤ n by omega); rwa [Nat.succ_mul] at this
    have htL : t * l.n + l.n ≤ n * l.n := by have := Nat.mul_le_mul_right l.n (show t + 1 ≤ n by omega); rwa [Nat.succ_mul] at this
    have hkL : k * l.n + l.n ≤ b.edges.length * l.n := by have := Nat.mul_le_mul_right l.n (show k + 1 ≤ b.edges.length by omega); rwa [Nat.succ_mul] at this
    refine T.seq (T.seq (T.region ?_))
    refine TO.quiet (q_move rfl) (TO.quiet (q_move rfl) (TO.quiet (q_lss rfl rfl) ?_))
    refine TO.nil ?_
    refine T.condP rfl (fun hc => ?_) (fun hc => ?_)
    · have hlt58 : i < l.n := by omega
      refine T.skip (T.seq (T.block (T.seq ?_)))
      refine T.draws _ [(0, 0), (1, 0), (2, 0), (3, 1), (4, 2)] mixed (by kernel_rfl) (Sub.of (List.Sublist.refl _)) (fun _ _ _ h => h) ?_
      refine DO.quiet rfl (q_load_boxAgg 0 Try.underlying54 rfl inf54 rfl rfl rfl) (DO.quiet rfl (q_load_boxAgg 5 Try.underlying29 rfl inf29 rfl rfl rfl) (DO.quiet rfl (q_move rfl) ?_))
      have hk64 := fun (w1 : World) (hI : Inv w ([oI bx7 54 [.int .i64 b.edges[k].fr, .int .i64 b.edges[k].to, .int .u8 ((b.edges[k].pos : Nat) : Int), .int .u8 ((b.edges[k].neg : Nat) : Int)], rowI ab ac 3 1 (nats (prdA l.n (s * l.n))), oI zG 91 [(.int .i64 b.vars), (.int .i64 b.states), (.slice sb b.start.length sc), (.slice eb b.edges.length ec), (.slice tb b.sets.length tc), (.slice ab (s * l.n) ac), (.slice (some ⟨zN, 0, none⟩) (n * l.n) (n * l.n))], rowI (some ⟨zN, 0, none⟩) (n * l.n) 22 1 (vals q2), oI bx3 91 [(.int .i64 0), (.int .i64 0), (.slice none 0 0), (.slice none 0 0), (.slice none 0 0), (.slice none 0 0), (.slice none 0 0)], oI bx2 29 (laCells l pb pc lb lc), oI bx1 26 (buCells b sb sc eb ec tb tc)] ++ (itms 3 q2)) w1) => refAtF w1 l pb lb pc lc (hI.la h2) hL hl0 i (by omega)
      refine DO.loud rfl rfl (l_call ent105 (CallT.of_pure hk64) rfl ?_)
      clear hk64
      rintro vr O' ⟨N, rfl, rfl, rfl⟩
      refine ⟨Sub.pickR [0, 0, 0, 0, 0, 0, 0] [oI bx7 54 [.int .i64 b.edges[k].fr, .int .i64 b.edges[k].to, .int .u8 ((b.edges[k].pos : Nat) : Int), .int .u8 ((b.edges[k].neg : Nat) : Int)], rowI ab ac 3 1 (nats (prdA l.n (s * l.n))), oI zG 91 [(.int .i64 b.vars), (.int .i64 b.states), (.slice sb b.start.length sc), (.slice eb b.edges.length ec), (.slice tb b.sets.length tc), (.slice ab (s * l.n) ac), (.slice (some ⟨zN, 0, none⟩) (n * l.n) (n * l.n))], rowI (some ⟨zN, 0, none⟩) (n * l.n) 22 1 (vals q2), oI bx3 91 [(.int .i64 0), (.int .i64 0), (.slice none 0 0), (.slice none 0 0), (.slice none 0 0), (.slice none 0 0), (.slice none 0 0)], oI bx2 29 (laCells l pb pc lb lc), oI bx1 26 (buCells b sb sc eb ec tb tc)] (itms 3 q2) rfl rfl, ?_⟩
      have hk65 := fun (w1 : World) (hI : Inv w ([oI bx7 54 [.int .i64 b.edges[k].fr, .int .i64 b.edges[k].to, .int .u8 ((b.edges[k].pos : Nat) : Int), .int .u8 ((b.edges[k].neg : Nat) : Int)], rowI ab ac 3 1 (nats (prdA l.n (s * l.n))), oI zG 91 [(.int .i64 b.vars), (.int .i64 b.states), (.slice sb b.start.length sc), (.slice eb b.edges.length ec), (.slice tb b.sets.length tc), (.slice ab (s * l.n) ac), (.slice (some ⟨zN, 0, none⟩) (n * l.n) (n * l.n))], rowI (some ⟨zN, 0, none⟩) (n * l.n) 22 1 (vals q2), oI bx3 91 [(.int .i64 0), (.int .i64 0), (.slice none 0 0), (.slice none 0 0), (.slice none 0 0), (.slice none 0 0), (.slice none 0 0)], oI bx2 29 (laCells l pb pc lb lc), oI bx1 26 (buCells b sb sc eb ec tb tc)] ++ (itms 3 q2)) w1) => matchesE w1 b.edges[k] hpn.1 hpn.2 (l.at i) hat
      refine DO.last rfl rfl (l_call ent33 (CallT.of_pure hk65) rfl ?_)
      clear hk65
      rintro vr O' ⟨N, rfl, rfl, rfl⟩
      refine DO.done ?_
      refine T.condP rfl (fun hc => ?_) (fun hc => ?_)
      · have hmt : mtch b.edges[k] (l.at i) := hc
        have hqu : u * l.n + i < q2.length := by omega
        have hrq := hrw2.rl hqu
        refine T.seq (T.region ?_)
        refine TO.quiet (q_move rfl) (TO.quiet (q_addN (a := i) (b := 1) rfl rfl (by omega)) (TO.quiet (q_assign rfl) ?_))
        refine TO.nil (T.seq (T.seq (T.region ?_)))
        refine TO.quiet (q_move rfl) (TO.quiet (q_move rfl) (TO.quiet (q_eql rfl rfl) ?_))
        refine TO.nil ?_
        refine T.condP rfl (fun hc => ?_) (fun hc => ?_)
        · have hlt70 : i + 1 = l.n := by omega
          have hxe : l.ix (i + 1) = l.pre.length := La.ix_end hl0 (by omega)
          refine T.region ?_
          refine TO.quiet (q_fieldAddr Try.underlying29 rfl inf27 rfl rfl) (TO.quiet (q_load_box 5 Try.underlying27 rfl rfl rfl rfl) (TO.quiet (q_len Try.underlying27 rfl) (TO.quiet (q_assign rfl) ?_)))
          refine TO.nil ?_
          refine T.sub (sub_out hqu [oI bx7 54 [.int .i64 b.edges[k].fr, .int .i64 b.edges[k].to, .int .u8 ((b.edges[k].pos : Nat) : Int), .int .u8 ((b.edges[k].neg : Nat) : Int)], rowI ab ac 3 1 (nats (prdA l.n (s * l.n))), oI zG 91 [(.int .i64 b.vars), (.int .i64 b.states), (.slice sb b.start.length sc), (.slice eb b.edges.length ec), (.slice tb b.sets.length tc), (.slice ab (s * l.n) ac), (.slice (some ⟨zN, 0, none⟩) (n * l.n) (n * l.n))], rowI (some ⟨zN, 0, none⟩) (n * l.n) 22 1 (vals q2), oI bx3 91 [(.int .i64 0), (.int .i64 0), (.slice none 0 0), (.slice none 0 0), (.slice none 0 0), (.slice none 0 0), (.slice none 0 0)], oI bx2 29 (laCells l pb pc lb lc), oI bx1 26 (buCells b sb sc eb ec tb tc)]) ?_
          refine T.draws [oI bx7 54 [.int .i64 b.edges[k].fr, .int .i64 b.edges[k].to, .int .u8 ((b.edges[k].pos : Nat) : Int), .int .u8 ((b.edges[k].neg : Nat) : Int)], rowI ab ac 3 1 (nats (prdA l.n (s * l.n))), oI zG 91 [(.int .i64 b.vars), (.int .i64 b.states), (.slice sb b.start.length sc), (.slice eb b.edges.length ec), (.slice tb b.sets.length tc), (.slice ab (s * l.n) ac), (.slice (some ⟨zN, 0, none⟩) (n * l.n) (n * l.n))], rowI (some ⟨zN, 0, none⟩) (n * l.n) 22 1 (vals q2), oI bx3 91 [(.int .i64 0), (.int .i64 0), (.slice none 0 0), (.slice none 0 0), (.slice none 0 0), (.slice none 0 0), (.slice none 0 0)], oI bx2 29 (laCells l pb pc lb lc), oI bx1 26 (buCells b sb sc eb ec tb tc)] [(0, 0), (1, 0), (2, 0), (3, 0), (4, 0), (5, 0), (6, 0), (7, 0), (8, 0), (9, 0), (10, 0), (11, 0), (12, 0), (13, 0), (14, 0), (15, 0), (16, 0), (17, 0), (18, 0), (19, 0), (20, 0), (21, 0), (22, 0), (23, 0), (24, 1), (25, 1), (26, 0), (27, 2)] mixed (by kernel_rfl) (Sub.pick0 [1, 1, 1, 1, 1, 1, 1] [rowI (q2[u * l.n + i].b) (q2[u * l.n + i].c) 3 1 (ints q2[u * l.n + i].xs), oI bx7 54 [.int .i64 b.edges[k].fr, .int .i64 b.edges[k].to, .int .u8 ((b.edges[k].pos : Nat) : Int), .int .u8 ((b.edges[k].neg : Nat) : Int)], rowI ab ac 3 1 (nats (prdA l.n (s * l.n))), oI zG 91 [(.int .i64 b.vars), (.int .i64 b.states), (.slice sb b.start.length sc), (.slice eb b.edges.length ec), (.slice tb b.sets.length tc), (.slice ab (s * l.n) ac), (.slice (some ⟨zN, 0, none⟩) (n * l.n) (n * l.n))], rowI (some ⟨zN, 0, none⟩) (n * l.n) 22 1 (vals q2), oI bx3 91 [(.int .i64 0), (.int .i64 0), (.slice none 0 0), (.slice none 0 0), (.slice none 0 0), (.slice none 0 0), (.slice none 0 0)], oI bx2 29 (laCells l pb pc lb lc), oI bx1 26 (buCells b sb sc eb ec tb tc)] (itms 3 (q2.eraseIdx (u * l.n + i))) rfl rfl) (fun _ _ _ h => h) ?_
          refine DO.quiet rfl (q_fieldAddr Try.underlying91 rfl inf24 rfl rfl) (DO.quiet rfl (q_load_box 2 Try.underlying24 rfl rfl rfl rfl) (DO.quiet rfl (q_fieldAddr Try.underlying54 rfl inf3 rfl rfl) (DO.quiet rfl (QT.cast (q_load_box 0 Try.underlying3 rfl rfl rfl rfl) (v' := .int .i64 ((u : Nat) : Int)) (by show Value.int _ _ = _; rw [hu])) ?_)))
          refine DO.quiet rfl (q_move rfl) (DO.quiet rfl (q_mulN (a := u) (b := l.n) rfl rfl (by omega)) (DO.quiet rfl (q_move rfl) (DO.quiet rfl (q_addN (a := (u * l.n)) (b := i) rfl rfl (by omega)) ?_)))
          refine DO.quiet rfl (q_fieldAddr Try.underlying91 rfl inf24 rfl rfl) (DO.quiet rfl (q_load_box 2 Try.underlying24 rfl rfl rfl rfl) (DO.quiet rfl (q_fieldAddr Try.underlying54 rfl inf3 rfl rfl) (DO.quiet rfl (QT.cast (q_load_box 0 Try.underlying3 rfl rfl rfl rfl) (v' := .int .i64 ((u : Nat) : Int)) (by show Value.int _ _ = _; rw [hu])) ?_)))
          refine DO.quiet rfl (q_move rfl) (DO.quiet rfl (q_mulN (a := u) (b := l.n) rfl rfl (by omega)) (DO.quiet rfl (q_move rfl) (DO.quiet rfl (q_addN (a := (u * l.n)) (b := i) rfl rfl (by omega)) ?_)))
          refine DO.quiet rfl (q_ix (i := ((u * l.n) + i)) Try.underlying24 inf22 rfl rfl (rowO (List.mem_of_getElem? (i := 3) rfl))) (DO.quiet rfl (q_ld Try.underlying22 rfl rfl (rowO (List.mem_of_getElem? (i := 3) rfl)) (vals_at hqu)) (DO.quiet rfl (q_fieldAddr Try.underlying54 rfl inf3 rfl rfl) (DO.quiet rfl (QT.cast (q_load_box 0 Try.underlying3 rfl rfl rfl rfl) (v' := .int .i64 ((t : Nat) : Int)) (by show Value.int _ _ = _; rw [ht])) ?_)))
          refine DO.quiet rfl (q_move rfl) (DO.quiet rfl (q_mulN (a := t) (b := l.n) rfl rfl (by omega)) (DO.quiet rfl (q_move rfl) (DO.quiet rfl (q_addN (a := (t * l.n)) (b := l.pre.length) rfl rfl (by omega)) ?_)))
          refine DO.loud rfl rfl (l_build1 (v := .int .i64 (((t * l.n) + l.pre.length : Nat) : Int)) Try.underlying22 inf3 rfl rfl rfl (fun bx8 => ⟨Sub.pick0 [2, 2, 2, 2, 2, 2, 2] [rowI (some ⟨bx8, 0, none⟩) 1 3 1 [.int .i64 (((t * l.n) + l.pre.length : Nat) : Int)], rowI (q2[u * l.n + i].b) (q2[u * l.n + i].c) 3 1 (ints q2[u * l.n + i].xs), oI bx7 54 [.int .i64 b.edges[k].fr, .int .i64 b.edges[k].to, .int .u8 ((b.edges[k].pos : Nat) : Int), .int .u8 ((b.edges[k].neg : Nat) : Int)], rowI ab ac 3 1 (nats (prdA l.n (s * l.n))), oI zG 91 [(.int .i64 b.vars), (.int .i64 b.states), (.slice sb b.start.length sc), (.slice eb b.edges.length ec), (.slice tb b.sets.length tc), (.slice ab (s * l.n) ac), (.slice (some ⟨zN, 0, none⟩) (n * l.n) (n * l.n))], rowI (some ⟨zN, 0, none⟩) (n * l.n) 22 1 (vals q2), oI bx3 91 [(.int .i64 0), (.int .i64 0), (.slice none 0 0), (.slice none 0 0), (.slice none 0 0), (.slice none 0 0), (.slice none 0 0)], oI bx2 29 (laCells l pb pc lb lc), oI bx1 26 (buCells b sb sc eb ec tb tc)] (itms 3 (q2.eraseIdx (u * l.n + i))) rfl rfl, ?_⟩))
          refine DO.loud rfl rfl (l_append 1 Try.underlying22 Try.underlying22 inf3 rfl rfl rfl rfl (by simp) (by decide) (Src.row (j := 0) rfl (by simp)) (by simp [oneB]) (by omega) (by decide) (by decide) (fun bx9 c10 => ⟨Sub.pick0 [2, 2, 2, 2, 2, 2, 2] [rowI (some ⟨bx8, 0, none⟩) 1 3 1 [.int .i64 (((t * l.n) + l.pre.length : Nat) : Int)], rowI bx9 c10 3 1 ((ints q2[u * l.n + i].xs) ++ [.int .i64 (((t * l.n) + l.pre.length : Nat) : Int)]), oI bx7 54 [.int .i64 b.edges[k].fr, .int .i64 b.edges[k].to, .int .u8 ((b.edges[k].pos : Nat) : Int), .int .u8 ((b.edges[k].neg : Nat) : Int)], rowI ab ac 3 1 (nats (prdA l.n (s * l.n))), oI zG 91 [(.int .i64 b.vars), (.int .i64 b.states), (.slice sb b.start.length sc), (.slice eb b.edges.length ec), (.slice tb b.sets.length tc), (.slice ab (s * l.n) ac), (.slice (some ⟨zN, 0, none⟩) (n * l.n) (n * l.n))], rowI (some ⟨zN, 0, none⟩) (n * l.n) 22 1 (vals q2), oI bx3 91 [(.int .i64 0), (.int .i64 0), (.slice none 0 0), (.slice none 0 0), (.slice none 0 0), (.slice none 0 0), (.slice none 0 0)], oI bx2 29 (laCells l pb pc lb lc), oI bx1 26 (buCells b sb sc eb ec tb tc)] (itms 3 (q2.eraseIdx (u * l.n + i))) rfl rfl, ?_⟩))
          refine DO.quiet rfl (q_ix (i := ((u * l.n) + i)) Try.underlying24 inf22 rfl rfl (rowO (List.mem_of_getElem? (i := 3) rfl))) ?_
          refine DO.last rfl rfl (l_st (j := ((u * l.n) + i)) (v := (.slice bx9 ((q2[u * l.n + i].xs.length) + 1) c10)) (vs := [(.slice bx9 ((q2[u * l.n + i].xs.length) + 1) c10)]) (cs := vals q2) 5 inf22 rfl rfl rfl rfl rfl (by simp) rfl (by first | (simp; omega) | (simp_all; omega)) ?_)
          refine DO.sub (O' := ([rowI (some ⟨bx8, 0, none⟩) 1 3 1 [.int .i64 (((t * l.n) + l.pre.length : Nat) : Int)], rowI bx9 c10 3 1 ((ints q2[u * l.n + i].xs) ++ [.int .i64 (((t * l.n) + l.pre.length : Nat) : Int)]), oI bx7 54 [.int .i64 b.edges[k].fr, .int .i64 b.edges[k].to, .int .u8 ((b.edges[k].pos : Nat) : Int), .int .u8 ((b.edges[k].neg : Nat) : Int)], rowI ab ac 3 1 (nats (prdA l.n (s * l.n))), oI zG 91 [(.int .i64 b.vars), (.int .i64 b.states), (.slice sb b.start.length sc), (.slice eb b.edges.length ec), (.slice tb b.sets.length tc), (.slice ab (s * l.n) ac), (.slice (some ⟨zN, 0, none⟩) (n * l.n) (n * l.n))], rowI (some ⟨zN, 0, none⟩) (n * l.n) 22 1 (vals (q2.set (u * l.n + i) ⟨bx9, c10, q2[u * l.n + i].xs ++ [(((t * l.n) + l.pre.length : Nat) : Int)]⟩)), oI bx3 91 [(.int .i64 0), (.int .i64 0), (.slice none 0 0), (.slice none 0 0), (.slice none 0 0), (.slice none 0 0), (.slice none 0 0)], oI bx2 29 (laCells l pb pc lb lc), oI bx1 26 (buCells b sb sc eb ec tb tc)] ++ (itms 3 (q2.eraseIdx (u * l.n + i))))) (by rw [show putL (vals q2) ((u * l.n) + i) [(.slice bx9 ((q2[u * l.n + i].xs.length) + 1) c10)] = vals (q2.set (u * l.n + i) ⟨bx9, c10, q2[u * l.n + i].xs ++ [(((t * l.n) + l.pre.length : Nat) : Int)]⟩) from (by simp [putL, Rec.val])]; exact Sub.of (List.Sublist.refl _)) ?_
          refine DO.sub (O' := [rowI bx9 c10 3 1 ((ints q2[u * l.n + i].xs) ++ [.int .i64 (((t * l.n) + l.pre.length : Nat) : Int)]), oI bx7 54 [.int .i64 b.edges[k].fr, .int .i64 b.edges[k].to, .int .u8 ((b.edges[k].pos : Nat) : Int), .int .u8 ((b.edges[k].neg : Nat) : Int)], rowI ab ac 3 1 (nats (prdA l.n (s * l.n))), oI zG 91 [(.int .i64 b.vars), (.int .i64 b.states), (.slice sb b.start.length sc), (.slice eb b.edges.length ec), (.slice tb b.sets.length tc), (.slice ab (s * l.n) ac), (.slice (some ⟨zN, 0, none⟩) (n * l.n) (n * l.n))], rowI (some ⟨zN, 0, none⟩) (n * l.n) 22 1 (vals (q2.set (u * l.n + i) ⟨bx9, c10, q2[u * l.n + i].xs ++ [(((t * l.n) + l.pre.length : Nat) : Int)]⟩)), oI bx3 91 [(.int .i64 0), (.int .i64 0), (.slice none 0 0), (.slice none 0 0), (.slice none 0 0), (.slice none 0 0), (.slice none 0 0)], oI bx2 29 (laCells l pb pc lb lc), oI bx1 26 (buCells b sb sc eb ec tb tc)] ++ (itms 3 (q2.eraseIdx (u * l.n + i)))) (Sub.pickR [1, 1, 1, 1, 1, 1, 1, 1] [rowI (some ⟨bx8, 0, none⟩) 1 3 1 [.int .i64 (((t * l.n) + l.pre.length : Nat) : Int)], rowI bx9 c10 3 1 ((ints q2[u * l.n + i].xs) ++ [.int .i64 (((t * l.n) + l.pre.length : Nat) : Int)]), oI bx7 54 [.int .i64 b.edges[k].fr, .int .i64 b.edges[k].to, .int .u8 ((b.edges[k].pos : Nat) : Int), .int .u8 ((b.edges[k].neg : Nat) : Int)], rowI ab ac 3 1 (nats (prdA l.n (s * l.n))), oI zG 91 [(.int .i64 b.vars), (.int .i64 b.states), (.slice sb b.start.length sc), (.slice eb b.edges.length ec), (.slice tb b.sets.length tc), (.slice ab (s * l.n) ac), (.slice (some ⟨zN, 0, none⟩) (n * l.n) (n * l.n))], rowI (some ⟨zN, 0, none⟩) (n * l.n) 22 1 (vals (q2.set (u * l.n + i) ⟨bx9, c10, q2[u * l.n + i].xs ++ [(((t * l.n) + l.pre.length : Nat) : Int)]⟩)), oI bx3 91 [(.int .i64 0), (.int .i64 0), (.slice none 0 0), (.slice none 0 0), (.slice none 0 0), (.slice none 0 0), (.slice none 0 0)], oI bx2 29 (laCells l pb pc lb lc), oI bx1 26 (buCells b sb sc eb ec tb tc)] (itms 3 (q2.eraseIdx (u * l.n + i))) rfl rfl) ?_
          refine DO.sub (O' := [oI bx7 54 [.int .i64 b.edges[k].fr, .int .i64 b.edges[k].to, .int .u8 ((b.edges[k].pos : Nat) : Int), .int .u8 ((b.edges[k].neg : Nat) : Int)], rowI ab ac 3 1 (nats (prdA l.n (s * l.n))), oI zG 91 [(.int .i64 b.vars), (.int .i64 b.states), (.slice sb b.start.length sc), (.slice eb b.edges.length ec), (.slice tb b.sets.length tc), (.slice ab (s * l.n) ac), (.slice (some ⟨zN, 0, none⟩) (n * l.n) (n * l.n))], rowI (some ⟨zN, 0, none⟩) (n * l.n) 22 1 (vals (q2.set (u * l.n + i) ⟨bx9, c10, q2[u * l.n + i].xs ++ [(((t * l.n) + l.pre.length : Nat) : Int)]⟩)), oI bx3 91 [(.int .i64 0), (.int .i64 0), (.slice none 0 0), (.slice none 0 0), (.slice none 0 0), (.slice none 0 0), (.slice none 0 0)], oI bx2 29 (laCells l pb pc lb lc), oI bx1 26 (buCells b sb sc eb ec tb tc)] ++ (itms 3 (q2.set (u * l.n + i) ⟨bx9, c10, q2[u * l.n + i].xs ++ [(((t * l.n) + l.pre.length : Nat) : Int)]⟩))) (sub_in hqu [oI bx7 54 [.int .i64 b.edges[k].fr, .int .i64 b.edges[k].to, .int .u8 ((b.edges[k].pos : Nat) : Int), .int .u8 ((b.edges[k].neg : Nat) : Int)], rowI ab ac 3 1 (nats (prdA l.n (s * l.n))), oI zG 91 [(.int .i64 b.vars), (.int .i64 b.states), (.slice sb b.start.length sc), (.slice eb b.edges.length ec), (.slice tb b.sets.length tc), (.slice ab (s * l.n) ac), (.slice (some ⟨zN, 0, none⟩) (n * l.n) (n * l.n))], rowI (some ⟨zN, 0, none⟩) (n * l.n) 22 1 (vals (q2.set (u * l.n + i) ⟨bx9, c10, q2[u * l.n + i].xs ++ [(((t * l.n) + l.pre.length : Nat) : Int)]⟩)), oI bx3 91 [(.int .i64 0), (.int .i64 0), (.slice none 0 0), (.slice none 0 0), (.slice none 0 0), (.slice none 0 0), (.slice none 0 0)], oI bx2 29 (laCells l pb pc lb lc), oI bx1 26 (buCells b sb sc eb ec tb tc)] ⟨bx9, c10, q2[u * l.n + i].xs ++ [(((t * l.n) + l.pre.length : Nat) : Int)]⟩ (by simp)) ?_
          refine DO.done ?_
          refine T.region ?_
          refine TO.quiet (q_move rfl) (TO.quiet (q_addN (a := i) (b := 1) rfl rfl (by omega)) (TO.quiet (q_assign rfl) ?_))
          refine TO.nil ?_
          exact ⟨i + 1, by omega, q2.set (u * l.n + i) ⟨bx9, c10, q2[u * l.n + i].xs ++ [(((t * l.n) + l.pre.length : Nat) : Int)]⟩, rfl, by omega, hrw2.push hqu _ (fun w9 y hw => by
            rw [prodK_hit hlt48]
            have e1 : b.edges[k].fr * (l.n : Int) = ((u * l.n : Nat) : Int) := by rw [hu, Int.natCast_mul]
            have e2 : b.edges[k].to * (l.n : Int) = ((t * l.n : Nat) : Int) := by rw [ht, Int.natCast_mul]
            unfold prodP; rw [e1, e2, hxe]
            constructor
            · rintro (h9 | ⟨_, h9, h8⟩)
              · exact .inl h9
              · exact .inr ⟨by omega, by omega⟩
            · rintro (h9 | ⟨h9, h8⟩)
              · exact .inl h9
              · exact .inr ⟨hmt, by omega, by omega⟩) _ _, ⟨rfl, rfl, rfl, rfl, rfl, rfl, rfl, rfl, rfl, rfl, rfl, trivial⟩⟩
        have hge70 : ¬ i + 1 = l.n := by omega
        have hxe : l.ix (i + 1) = i + 1 := La.ix_id hl0 (by omega)
        refine T.skip ?_
        refine T.sub (sub_out hqu [oI bx7 54 [.int .i64 b.edges[k].fr, .int .i64 b.edges[k].to, .int .u8 ((b.edges[k].pos : Nat) : Int), .int .u8 ((b.edges[k].neg : Nat) : Int)], rowI ab ac 3 1 (nats (prdA l.n (s * l.n))), oI zG 91 [(.int .i64 b.vars), (.int .i64 b.states), (.slice sb b.start.length sc), (.slice eb b.edges.length ec), (.slice tb b.sets.length tc), (.slice ab (s * l.n) ac), (.slice (some ⟨zN, 0, none⟩) (n * l.n) (n * l.n))], rowI (some ⟨zN, 0, none⟩) (n * l.n) 22 1 (vals q2), oI bx3 91 [(.int .i64 0), (.int .i64 0), (.slice none 0 0), (.slice none 0 0), (.slice none 0 0), (.slice none 0 0), (.slice none 0 0)], oI bx2 29 (laCells l pb pc lb lc), oI bx1 26 (buCells b sb sc eb ec tb tc)]) ?_
        refine T.draws [oI bx7 54 [.int .i64 b.edges[k].fr, .int .i64 b.edges[k].to, .int .u8 ((b.edges[k].pos : Nat) : Int), .int .u8 ((b.edges[k].neg : Nat) : Int)], rowI ab ac 3 1 (nats (prdA l.n (s * l.n))), oI zG 91 [(.int .i64 b.vars), (.int .i64 b.states), (.slice sb b.start.length sc), (.slice eb b.edges.length ec), (.slice tb b.sets.length tc), (.slice ab (s * l.n) ac), (.slice (some ⟨zN, 0, none⟩) (n * l.n) (n * l.n))], rowI (some ⟨zN, 0, none⟩) (n * l.n) 22 1 (vals q2), oI bx3 91 [(.int .i64 0), (.int .i64 0), (.slice none 0 0), (.slice none 0 0), (.slice none 0 0), (.slice none 0 0), (.slice none 0 0)], oI bx2 29 (laCells l pb pc lb lc), oI bx1 26 (buCells b sb sc eb ec tb tc)] [(0, 0), (1, 0), (2, 0), (3, 0), (4, 0), (5, 0), (6, 0), (7, 0), (8, 0), (9, 0), (10, 0), (11, 0), (12, 0), (13, 0), (14, 0), (15, 0), (16, 0), (17, 0), (18, 0), (19, 0), (20, 0), (21, 0), (22, 0), (23, 0), (24, 1), (25, 1), (26, 0), (27, 2)] mixed (by kernel_rfl) (Sub.pick0 [1, 1, 1, 1, 1, 1, 1] [rowI (q2[u * l.n + i].b) (q2[u * l.n + i].c) 3 1 (ints q2[u * l.n + i].xs), oI bx7 54 [.int .i64 b.edges[k].fr, .int .i64 b.edges[k].to, .int .u8 ((b.edges[k].pos : Nat) : Int), .int .u8 ((b.edges[k].neg : Nat) : Int)], rowI ab ac 3 1 (nats (prdA l.n (s * l.n))), oI zG 91 [(.int .i64 b.vars), (.int .i64 b.states), (.slice sb b.start.length sc), (.slice eb b.edges.length ec), (.slice tb b.sets.length tc), (.slice ab (s * l.n) ac), (.slice (some ⟨zN, 0, none⟩) (n * l.n) (n * l.n))], rowI (some ⟨zN, 0, none⟩) (n * l.n) 22 1 (vals q2), oI bx3 91 [(.int .i64 0), (.int .i64 0), (.slice none 0 0), (.slice none 0 0), (.slice none 0 0), (.slice none 0 0), (.slice none 0 0)], oI bx2 29 (laCells l pb pc lb lc), oI bx1 26 (buCells b sb sc eb ec tb tc)] (itms 3 (q2.eraseIdx (u * l.n + i))) rfl rfl) (fun _ _ _ h => h) ?_
        refine DO.quiet rfl (q_fieldAddr Try.underlying91 rfl inf24 rfl rfl) (DO.quiet rfl (q_load_box 2 Try.underlying24 rfl rfl rfl rfl) (DO.quiet rfl (q_fieldAddr Try.underlying54 rfl inf3 rfl rfl) (DO.quiet rfl (QT.cast (q_load_box 0 Try.underlying3 rfl rfl rfl rfl) (v' := .int .i64 ((u : Nat) : Int)) (by show Value.int _ _ = _; rw [hu])) ?_)))
        refine DO.quiet rfl (q_move rfl) (DO.quiet rfl (q_mulN (a := u) (b := l.n) rfl rfl (by omega)) (DO.quiet rfl (q_move rfl) (DO.quiet rfl (q_addN (a := (u * l.n)) (b := i) rfl rfl (by omega)) ?_)))
        refine DO.quiet rfl (q_fieldAddr Try.underlying91 rfl inf24 rfl rfl) (DO.quiet rfl (q_load_box 2 Try.underlying24 rfl rfl rfl rfl) (DO.quiet rfl (q_fieldAddr Try.underlying54 rfl inf3 rfl rfl) (DO.quiet rfl (QT.cast (q_load_box 0 Try.underlying3 rfl rfl rfl rfl) (v' := .int .i64 ((u : Nat) : Int)) (by show Value.int _ _ = _; rw [hu])) ?_)))
        refine DO.quiet rfl (q_move rfl) (DO.quiet rfl (q_mulN (a := u) (b := l.n) rfl rfl (by omega)) (DO.quiet rfl (q_move rfl) (DO.quiet rfl (q_addN (a := (u * l.n)) (b := i) rfl rfl (by omega)) ?_)))
        refine DO.quiet rfl (q_ix (i := ((u * l.n) + i)) Try.underlying24 inf22 rfl rfl (rowO (List.mem_of_getElem? (i := 3) rfl))) (DO.quiet rfl (q_ld Try.underlying22 rfl rfl (rowO (List.mem_of_getElem? (i := 3) rfl)) (vals_at hqu)) (DO.quiet rfl (q_fieldAddr Try.underlying54 rfl inf3 rfl rfl) (DO.quiet rfl (QT.cast (q_load_box 0 Try.underlying3 rfl rfl rfl rfl) (v' := .int .i64 ((t : Nat) : Int)) (by show Value.int _ _ = _; rw [ht])) ?_)))
        refine DO.quiet rfl (q_move rfl) (DO.quiet rfl (q_mulN (a := t) (b := l.n) rfl rfl (by omega)) (DO.quiet rfl (q_move rfl) (DO.quiet rfl (q_addN (a := (t * l.n)) (b := (i + 1)) rfl rfl (by omega)) ?_)))
        refine DO.loud rfl rfl (l_build1 (v := .int .i64 (((t * l.n) + (i + 1) : Nat) : Int)) Try.underlying22 inf3 rfl rfl rfl (fun bx11 => ⟨Sub.pick0 [2, 2, 2, 2, 2, 2, 2] [rowI (some ⟨bx11, 0, none⟩) 1 3 1 [.int .i64 (((t * l.n) + (i + 1) : Nat) : Int)], rowI (q2[u * l.n + i].b) (q2[u * l.n + i].c) 3 1 (ints q2[u * l.n + i].xs), oI bx7 54 [.int .i64 b.edges[k].fr, .int .i64 b.edges[k].to, .int .u8 ((b.edges[k].pos : Nat) : Int), .int .u8 ((b.edges[k].neg : Nat) : Int)], rowI ab ac 3 1 (nats (prdA l.n (s * l.n))), oI zG 91 [(.int .i64 b.vars), (.int .i64 b.states), (.slice sb b.start.length sc), (.slice eb b.edges.length ec), (.slice tb b.sets.length tc), (.slice ab (s * l.n) ac), (.slice (some ⟨zN, 0, none⟩) (n * l.n) (n * l.n))], rowI (some ⟨zN, 0, none⟩) (n * l.n) 22 1 (vals q2), oI bx3 91 [(.int .i64 0), (.int .i64 0), (.slice none 0 0), (.slice none 0 0), (.slice none 0 0), (.slice none 0 0), (.slice none 0 0)], oI bx2 29 (laCells l pb pc lb lc), oI bx1 26 (buCells b sb sc eb ec tb tc)] (itms 3 (q2.eraseIdx (u * l.n + i))) rfl rfl, ?_⟩))
        refine DO.loud rfl rfl (l_append 1 Try.underlying22 Try.underlying22 inf3 rfl rfl rfl rfl (by simp) (by decide) (Src.row (j := 0) rfl (by simp)) (by simp [oneB]) (by omega) (by decide) (by decide) (fun bx12 c13 => ⟨Sub.pick0 [2, 2, 2, 2, 2, 2, 2] [rowI (some ⟨bx11, 0, none⟩) 1 3 1 [.int .i64 (((t * l.n) + (i + 1) : Nat) : Int)], rowI bx12 c13 3 1 ((ints q2[u * l.n + i].xs) ++ [.int .i64 (((t * l.n) + (i + 1) : Nat) : Int)]), oI bx7 54 [.int .i64 b.edges[k].fr, .int .i64 b.edges[k].to, .int .u8 ((b.edges[k].pos : Nat) : Int), .int .u8 ((b.edges[k].neg : Nat) : Int)], rowI ab ac 3 1 (nats (prdA l.n (s * l.n))), oI zG 91 [(.int .i64 b.vars), (.int .i64 b.states), (.slice sb b.start.length sc), (.slice eb b.edges.length ec), (.slice tb b.sets.length tc), (.slice ab (s * l.n) ac), (.slice (some ⟨zN, 0, none⟩) (n * l.n) (n * l.n))], rowI (some ⟨zN, 0, none⟩) (n * l.n) 22 1 (vals q2), oI bx3 91 [(.int .i64 0), (.int .i64 0), (.slice none 0 0), (.slice none 0 0), (.slice none 0 0), (.slice none 0 0), (.slice none 0 0)], oI bx2 29 (laCells l pb pc lb lc), oI bx1 26 (buCells b sb sc eb ec tb tc)] (itms 3 (q2.eraseIdx (u * l.n + i))) rfl rfl, ?_⟩))
        refine DO.quiet rfl (q_ix (i := ((u * l.n) + i)) Try.underlying24 inf22 rfl rfl (rowO (List.mem_of_getElem? (i := 3) rfl))) ?_
        refine DO.last rfl rfl (l_st (j := ((u * l.n) + i)) (v := (.slice bx12 ((q2[u * l.n + i].xs.length) + 1) c13)) (vs := [(.slice bx12 ((q2[u * l.n + i].xs.length) + 1) c13)]) (cs := vals q2) 5 inf22 rfl rfl rfl rfl rfl (by simp) rfl (by first | (simp; omega) | (simp_all; omega)) ?_)
        refine DO.sub (O' := ([rowI (some ⟨bx11, 0, none⟩) 1 3 1 [.int .i64 (((t * l.n) + (i + 1) : Nat) : Int)], rowI bx12 c13 3 1 ((ints q2[u * l.n + i].xs) ++ [.int .i64 (((t * l.n) + (i + 1) : Nat) : Int)]), oI bx7 54 [.int .i64 b.edges[k].fr, .int .i64 b.edges[k].to, .int .u8 ((b.edges[k].pos : Nat) : Int), .int .u8 ((b.edges[k].neg : Nat) : Int)], rowI ab ac 3 1 (nats (prdA l.n (s * l.n))), oI zG 91 [(.int .i64 b.vars), (.int .i64 b.states), (.slice sb b.start.length sc), (.slice eb b.edges.length ec), (.slice tb b.sets.length tc), (.slice ab (s * l.n) ac), (.slice (some ⟨zN, 0, none⟩) (n * l.n) (n * l.n))], rowI (some ⟨zN, 0, none⟩) (n * l.n) 22 1 (vals (q2.set (u * l.n + i) ⟨bx12, c13, q2[u * l.n + i].xs ++ [(((t * l.n) + (i + 1) : Nat) : Int)]⟩)), oI bx3 91 [(.int .i64 0), (.int .i64 0), (.slice none 0 0), (.slice none 0 0), (.slice none 0 0), (.slice none 0 0), (.slice none 0 0)], oI bx2 29 (laCells l pb pc lb lc), oI bx1 26 (buCells b sb sc eb ec tb tc)] ++ (itms 3 (q2.eraseIdx (u * l.n + i))))) (by rw [show putL (vals q2) ((u * l.n) + i) [(.slice bx12 ((q2[u * l.n + i].xs.length) + 1) c13)] = vals (q2.set (u * l.n + i) ⟨bx12, c13, q2[u * l.n + i].xs ++ [(((t * l.n) + (i + 1) : Nat) : Int)]⟩) from (by simp [putL, Rec.val])]; exact Sub.of (List.Sublist.refl _)) ?_
        refine DO.sub (O' := [rowI bx12 c13 3 1 ((ints q2[u * l.n + i].xs) ++ [.int .i64 (((t * l.n) + (i + 1) : Nat) : Int)]), oI bx7 54 [.int .i64 b.edges[k].fr, .int .i64 b.edges[k].to, .int .u8 ((b.edges[k].pos : Nat) : Int), .int .u8 ((b.edges[k].neg : Nat) : Int)], rowI ab ac 3 1 (nats (prdA l.n (s * l.n))), oI zG 91 [(.int .i64 b.vars), (.int .i64 b.states), (.slice sb b.start.length sc), (.slice eb b.edges.length ec), (.slice tb b.sets.length tc), (.slice ab (s * l.n) ac), (.slice (some ⟨zN, 0, none⟩) (n * l.n) (n * l.n))], rowI (some ⟨zN, 0, none⟩) (n * l.n) 22 1 (vals (q2.set (u * l.n + i) ⟨bx12, c13, q2[u * l.n + i].xs ++ [(((t * l.n) + (i + 1) : Nat) : Int)]⟩)), oI bx3 91 [(.int .i64 0), (.int .i64 0), (.slice none 0 0), (.slice none 0 0), (.slice none 0 0), (.slice none 0 0), (.slice none 0 0)], oI bx2 29 (laCells l pb pc lb lc), oI bx1 26 (buCells b sb sc eb ec tb tc)] ++ (itms 3 (q2.eraseIdx (u * l.n + i)))) (Sub.pickR [1, 1, 1, 1, 1, 1, 1, 1] [rowI (some ⟨bx11, 0, none⟩) 1 3 1 [.int .i64 (((t * l.n) + (i + 1) : Nat) : Int)], rowI bx12 c13 3 1 ((ints q2[u * l.n + i].xs) ++ [.int .i64 (((t * l.n) + (i + 1) : Nat) : Int)]), oI bx7 54 [.int .i64 b.edges[k].fr, .int .i64 b.edges[k].to, .int .u8 ((b.edges[k].pos : Nat) : Int), .int .u8 ((b.edges[k].neg : Nat) : Int)], rowI ab ac 3 1 (nats (prdA l.n (s * l.n))), oI zG 91 [(.int .i64 b.vars), (.int .i64 b.states), (.slice sb b.start.length sc), (.slice eb b.edges.length ec), (.slice tb b.sets.length tc), (.slice ab (s * l.n) ac), (.slice (some ⟨zN, 0, none⟩) (n * l.n) (n * l.n))], rowI (some ⟨zN, 0, none⟩) (n * l.n) 22 1 (vals (q2.set (u * l.n + i) ⟨bx12, c13, q2[u * l.n + i].xs ++ [(((t * l.n) + (i + 1) : Nat) : Int)]⟩)), oI bx3 91 [(.int .i64 0), (.int .i64 0), (.slice none 0 0), (.slice none 0 0), (.slice none 0 0), (.slice none 0 0), (.slice none 0 0)], oI bx2 29 (laCells l pb pc lb lc), oI bx1 26 (buCells b sb sc eb ec tb tc)] (itms 3 (q2.eraseIdx (u * l.n + i))) rfl rfl) ?_
        refine DO.sub (O' := [oI bx7 54 [.int .i64 b.edges[k].fr, .int .i64 b.edges[k].to, .int .u8 ((b.edges[k].pos : Nat) : Int), .int .u8 ((b.edges[k].neg : Nat) : Int)], rowI ab ac 3 1 (nats (prdA l.n (s * l.n))), oI zG 91 [(.int .i64 b.vars), (.int .i64 b.states), (.slice sb b.start.length sc), (.slice eb b.edges.length ec), (.slice tb b.sets.length tc), (.slice ab (s * l.n) ac), (.slice (some ⟨zN, 0, none⟩) (n * l.n) (n * l.n))], rowI (some ⟨zN, 0, none⟩) (n * l.n) 22 1 (vals (q2.set (u * l.n + i) ⟨bx12, c13, q2[u * l.n + i].xs ++ [(((t * l.n) + (i + 1) : Nat) : Int)]⟩)), oI bx3 91 [(.int .i64 0), (.int .i64 0), (.slice none 0 0), (.slice none 0 0), (.slice none 0 0), (.slice none 0 0), (.slice none 0 0)], oI bx2 29 (laCells l pb pc lb lc), oI bx1 26 (buCells b sb sc eb ec tb tc)] ++ (itms 3 (q2.set (u * l.n + i) ⟨bx12, c13, q2[u * l.n + i].xs ++ [(((t * l.n) + (i + 1) : Nat) : Int)]⟩))) (sub_in hqu [oI bx7 54 [.int .i64 b.edges[k].fr, .int .i64 b.edges[k].to, .int .u8 ((b.edges[k].pos : Nat) : Int), .int .u8 ((b.edges[k].neg : Nat) : Int)], rowI ab ac 3 1 (nats (prdA l.n (s * l.n))), oI zG 91 [(.int .i64 b.vars), (.int .i64 b.states), (.slice sb b.start.length sc), (.slice eb b.edges.length ec), (.slice tb b.sets.length tc), (.slice ab (s * l.n) ac), (.slice (some ⟨zN, 0, none⟩) (n * l.n) (n * l.n))], rowI (some ⟨zN, 0, none⟩) (n * l.n) 22 1 (vals (q2.set (u * l.n + i) ⟨bx12, c13, q2[u * l.n + i].xs ++ [(((t * l.n) + (i + 1) : Nat) : Int)]⟩)), oI bx3 91 [(.int .i64 0), (.int .i64 0), (.slice none 0 0), (.slice none 0 0), (.slice none 0 0), (.slice none 0 0), (.slice none 0 0)], oI bx2 29 (laCells l pb pc lb lc), oI bx1 26 (buCells b sb sc eb ec tb tc)] ⟨bx12, c13, q2[u * l.n + i].xs ++ [(((t * l.n) + (i + 1) : Nat) : Int)]⟩ (by simp)) ?_
        refine DO.done ?_
        refine T.region ?_
        refine TO.quiet (q_move rfl) (TO.quiet (q_addN (a := i) (b := 1) rfl rfl (by omega)) (TO.quiet (q_assign rfl) ?_))
        refine TO.nil ?_
        exact ⟨i + 1, by omega, q2.set (u * l.n + i) ⟨bx12, c13, q2[u * l.n + i].xs ++ [(((t * l.n) + (i + 1) : Nat) : Int)]⟩, rfl, by omega, hrw2.push hqu _ (fun w9 y hw => by
          rw [prodK_hit hlt48]
          have e1 : b.edges[k].fr * (l.n : Int) = ((u * l.n : Nat) : Int) := by rw [hu, Int.natCast_mul]
          have e2 : b.edges[k].to * (l.n : Int) = ((t * l.n : Nat) : Int) := by rw [ht, Int.natCast_mul]
          unfold prodP; rw [e1, e2, hxe]
          constructor
          · rintro (h9 | ⟨_, h9, h8⟩)
            · exact .inl h9
            · exact .inr ⟨by omega, by omega⟩
          · rintro (h9 | ⟨h9, h8⟩)
            · exact .inl h9
            · exact .inr ⟨hmt, by omega, by omega⟩) _ _, ⟨rfl, rfl, rfl, rfl, rfl, rfl, rfl, rfl, rfl, rfl, rfl, trivial⟩⟩
      have hmt : ¬ mtch b.edges[k] (l.at i) := hc
      refine T.skip (T.region ?_)
      refine TO.quiet (q_move rfl) (TO.quiet (q_addN (a := i) (b := 1) rfl rfl (by omega)) (TO.quiet (q_assign rfl) ?_))
      refine TO.nil ?_
      exact ⟨i + 1, by omega, q2, rfl, by omega, (hrw2.same (fun w9 y hw => by rw [prodK_hit hlt48]; exact ⟨fun h9 => h9.elim id (fun h8 => absurd h8.1 hmt), .inl⟩)).more (by omega), ⟨rfl, rfl, rfl, rfl, rfl, rfl, rfl, rfl, rfl, rfl, rfl, trivial⟩⟩
    have hge58 : ¬ i < l.n := by omega
    refine T.exit ?_
    refine T.region ?_
    refine TO.quiet (q_move rfl) (TO.quiet (q_addN (a := k) (b := 1) rfl rfl (by omega)) (TO.quiet (q_assign rfl) ?_))
    refine TO.nil ?_
    have hie : i = l.n := by omega
    rw [hie] at hrw2
    exact ⟨k + 1, by omega, ([rowI ab ac 3 1 (nats (prdA l.n (s * l.n))), oI zG 91 [(.int .i64 b.vars), (.int .i64 b.states), (.slice sb b.start.length sc), (.slice eb b.edges.length ec), (.slice tb b.sets.length tc), (.slice ab (s * l.n) ac), (.slice (some ⟨zN, 0, none⟩) (n * l.n) (n * l.n))], rowI (some ⟨zN, 0, none⟩) (n * l.n) 22 1 (vals q2), oI bx3 91 [(.int .i64 0), (.int .i64 0), (.slice none 0 0), (.slice none 0 0), (.slice none 0 0), (.slice none 0 0), (.slice none 0 0)], oI bx2 29 (laCells l pb pc lb lc), oI bx1 26 (buCells b sb sc eb ec tb tc)] ++ (itms 3 q2)), (Sub.pickR [1, 1, 1, 1, 1, 1] [oI bx7 54 [.int .i64 b.edges[k].fr, .int .i64 b.edges[k].to, .int .u8 ((b.edges[k].pos : Nat) : Int), .int .u8 ((b.edges[k].neg : Nat) : Int)], rowI ab ac 3 1 (nats (prdA l.n (s * l.n))), oI zG 91 [(.int .i64 b.vars), (.int .i64 b.states), (.slice sb b.start.length sc), (.slice eb b.edges.length ec), (.slice tb b.sets.length tc), (.slice ab (s * l.n) ac), (.slice (some ⟨zN, 0, none⟩) (n * l.n) (n * l.n))], rowI (some ⟨zN, 0, none⟩) (n * l.n) 22 1 (vals q2), oI bx3 91 [(.int .i64 0), (.int .i64 0), (.slice none 0 0), (.slice none 0 0), (.slice none 0 0), (.slice none 0 0), (.slice none 0 0)], oI bx2 29 (laCells l pb pc lb lc), oI bx1 26 (buCells b sb sc eb ec tb tc)] (itms 3 q2) rfl rfl), q2, rfl, by omega, (hrw2.same (fun u y _ => prodK_row hlt48)).more (by rw [Nat.succ_mul]; omega), ⟨rfl, rfl, rfl, rfl, rfl, rfl, rfl, rfl, rfl, trivial⟩⟩
  have hge48 : ¬ k < b.edges.length := by omega
  refine T.exit ?_
  refine T.seq (T.region ?_)
  refine TO.quiet (q_load_boxAgg 1 Try.underlying91 rfl inf91 rfl rfl rfl) ?_
  refine TO.loud rfl (l_store_box (v := (.agg #[(.int .i64 b.vars), (.int .i64 b.states), (.slice sb b.start.length sc), (.slice eb b.edges.length ec), (.slice tb b.sets.length tc), (.slice ab (s * l.n) ac), (.slice (some ⟨zN, 0, none⟩) (n * l.n) (n * l.n))])) (vs := [(.int .i64 b.vars), (.int .i64 b.states), (.slice sb b.start.length sc), (.slice eb b.edges.length ec), (.slice tb b.sets.length tc), (.slice ab (s * l.n) ac), (.slice (some ⟨zN, 0, none⟩) (n * l.n) (n * l.n))]) 3 inf91 rfl rfl rfl rfl rfl rfl (by simp [putL]) ?_)
  refine TO.nil (T.ret (Res.drop ?_))
  refine Res.cell1 (i := 3) Try.results60 Try.underlying91 rfl inf91 rfl rfl rfl ?_
  have hke : k = b.edges.length := by omega
  have hse : s = n := by omega
  rw [hke] at hrw
  exact ⟨[rowI ab ac 3 1 (nats (prdA l.n (s * l.n))), rowI (some ⟨zN, 0, none⟩) (n * l.n) 22 1 (vals qs)] ++ itms 3 qs, (Sub.pickR [0, 1] [rowI ab ac 3 1 (nats (prdA l.n (s * l.n))), oI zG 91 [(.int .i64 b.vars), (.int .i64 b.states), (.slice sb b.start.length sc), (.slice eb b.edges.length ec), (.slice tb b.sets.length tc), (.slice ab (s * l.n) ac), (.slice (some ⟨zN, 0, none⟩) (n * l.n) (n * l.n))], rowI (some ⟨zN, 0, none⟩) (n * l.n) 22 1 (vals qs), oI bx3 91 [(.int .i64 b.vars), (.int .i64 b.states), (.slice sb b.start.length sc), (.slice eb b.edges.length ec), (.slice tb b.sets.length tc), (.slice ab (s * l.n) ac), (.slice (some ⟨zN, 0, none⟩) (n * l.n) (n * l.n))], oI bx2 29 (laCells l pb pc lb lc), oI bx1 26 (buCells b sb sc eb ec tb tc)] (itms 3 qs) rfl rfl), ab, ac, (some ⟨zN, 0, none⟩), n * l.n, qs, by rw [hnn, ← hse]; simp [putL], by rw [hnn, ← hse], by rw [hnn]; exact ⟨b.edges.length * l.n, by omega, hrw.same (fun u y _ => prodK_done.symm)⟩⟩
end Go.Proofs.Ytnamoapbienooaa

namespace Go.Proofs.Ytnamoapbienooaa
open Go.Lx Go.RowKit
set_option linter.unusedVariables false
set_option linter.unusedSimpArgs false
set_option maxHeartbeats 1000000 in
set_option maxRecDepth 20000 in
theorem refLiveF (w : World) (b : Bu) (sb eb tb : Option Addr) (sc ec tc : Nat) (vs : List Value) (h : BuAt w b sb eb tb vs) (hB : BuB b) :
    PureT Try.prog 20 [.agg (buCells b sb sc eb ec tb tc).toArray] w fun v N => ∃ lb lc, v = .tuple #[.slice lb (livesB b).length lc, .int .i64 (checkB b : Int)] ∧ N = [rowI lb lc 4 1 (bools (livesB b))] := by
  refine CallT.enter Try.func20 rfl Try.ntmps20 rfl ?_
  have hed := hB.ed
  refine T.seq (T.region ?_)
  refine TO.loud rfl (l_box (v := (.agg (buCells b sb sc eb ec tb tc).toArray)) (cs := (buCells b sb sc eb ec tb tc)) rfl rfl (fun bx1 => ?_))
  refine TO.quiet (q_assign rfl) (TO.quiet (q_assign rfl) ?_)
  refine TO.nil (T.seq (T.seq (T.region ?_)))
  refine TO.quiet (q_load_boxAgg 0 Try.underlying26 rfl inf26 rfl rfl rfl) ?_
  have hk6 := fun (w1 : World) (hI : Inv w [oI bx1 26 (buCells b sb sc eb ec tb tc)] w1) => refCheckF w1 b sb eb tb sc ec tc vs (hI.bu h) hB
  refine TO.loud rfl (l_call ent22 (CallT.of_pure hk6) rfl ?_)
  clear hk6
  rintro vr O' ⟨N, rfl, rfl, rfl⟩
  refine TO.quiet (q_assign rfl) ?_
  refine TO.nil (T.seq (T.region ?_))
  refine TO.quiet (q_move rfl) (TO.quiet (q_neq rfl rfl) ?_)
  refine TO.nil ?_
  refine T.condP rfl (fun hc => ?_) (fun hc => ?_)
  · have hlt8 : checkB b ≠ 0 := by omega
    refine T.seq ?_
    refine T.nilRow 4 1 ?_
    refine T.region ?_
    refine TO.quiet (q_move rfl) (TO.quiet (q_assign rfl) (TO.quiet (q_assign rfl) ?_))
    refine TO.nil (T.ret (Res.drop ?_))
    refine Res.two (.slice none 0 0) (.int .i64 (checkB b : Int)) Try.results20 rfl rfl ?_
    exact ⟨[rowI none 0 4 1 []], (Sub.pick [0] rfl), none, 0, by unfold livesB; rw [if_neg hlt8]; rfl, by unfold livesB; rw [if_neg hlt8]; rfl⟩
  have hge8 : ¬ checkB b ≠ 0 := by omega
  refine T.skip (T.seq ?_)
  have hv : ValidB b := checkB_zero.1 (by omega)
  have hn4 := hv.n4
  refine T.region ?_
  refine TO.quiet (q_load_boxAgg 0 Try.underlying26 rfl inf26 rfl rfl rfl) ?_
  have hk11 := fun (w1 : World) (hI : Inv w [oI bx1 26 (buCells b sb sc eb ec tb tc)] w1) => statesG w1 b sb eb tb sc ec tc vs (hI.bu h) hB hv
  refine TO.loud rfl (l_call ent63 (CallT.of_pure hk11) rfl ?_)
  clear hk11
  rintro vr O' ⟨N, rfl, ab, ac, nb, nc, qs, rfl, rfl, hr⟩
  refine TO.sub (O' := ([rowI ab ac 3 1 (nats (List.range b.states.toNat)), rowI nb nc 22 1 (vals qs), oI bx1 26 (buCells b sb sc eb ec tb tc)] ++ (itms 3 qs))) (Sub.cnt [] (by intro a; simp only [itms, oI, List.set_cons_zero, List.set_cons_succ, putL, List.cons_append, List.nil_append, List.append_nil, List.append_assoc, List.map_append, List.map_cons, List.map_nil, cnt_append, cnt_cons, cnt_nil, buCells, laCells] <;> omega)) ?_
  have hk12 := fun (w1 : World) (hI : Inv w ([rowI ab ac 3 1 (nats (List.range b.states.toNat)), rowI nb nc 22 1 (vals qs), oI bx1 26 (buCells b sb sc eb ec tb tc)] ++ (itms 3 qs)) w1) => (by
    have hL := goodF w1 b sb eb tb sc ec tc vs (hI.bu h) hB ab nb ac nc (vals qs) (nums qs) (List.range b.states.toNat) (hI.slOf (List.mem_of_getElem? (i := 1) rfl)) (Inv.recs (E := 3) hI (fun q hq => List.mem_append_right _ (List.mem_map.2 ⟨q, hq, rfl⟩))) (hI.slOf (List.mem_of_getElem? (i := 0) rfl)) (by rw [hr.l]; simp) (by rw [hr.l]; omega) (fun r hr9 => by obtain ⟨i, hi, rfl⟩ := List.mem_iff_getElem.1 hr9; have h9 := hr.b i; rw [getD_at hi] at h9; omega) (states_ok hv hr)
    rw [hr.l] at hL; exact hL)
  refine TO.loud rfl (l_call ent61 (CallT.of_pure hk12) rfl ?_)
  clear hk12
  rintro vr O' ⟨N, rfl, lb, lc, ls, rfl, rfl, hT⟩
  refine TO.quiet (q_assign rfl) (TO.quiet (q_assign rfl) ?_)
  refine TO.nil (T.ret (Res.drop ?_))
  refine Res.two (.slice lb b.states.toNat lc) (.int .i64 0) Try.results20 rfl rfl ?_
  have he : checkB b = 0 := by omega
  have hll := hT.1
  have hls := livesB_of he hll (fun v hv9 => (hT.2 v hv9).trans (by have h9 := liveR_states hv hr (v := v); unfold liveR at h9 ⊢; rw [hr.l] at h9 ⊢; exact h9))
  exact ⟨[rowI lb lc 4 1 (bools ls)], (Sub.pick0 [0] [rowI lb lc 4 1 (bools ls), rowI ab ac 3 1 (nats (List.range b.states.toNat)), rowI nb nc 22 1 (vals qs), oI bx1 26 (buCells b sb sc eb ec tb tc)] (itms 3 qs) rfl rfl), lb, lc, by rw [← hls, hll, he]; rfl, by rw [← hls]⟩
end Go.Proofs.Ytnamoapbienooaa

namespace Go.Lx
set_option linter.unusedVariables false
theorem La.at_back {l : La} (h0 : 0 < l.loop.length) {i : Nat} (hi : l.pre.length ≤ i) : l.at (i + l.loop.length) = l.at i := by
  unfold La.at
  rw [if_neg (by omega), if_neg (by omega), show max l.loop.length 1 = l.loop.length by omega, show i + l.loop.length - l.pre.length = (i - l.pre.length) + l.loop.length by omega, Nat.add_mod_right]
theorem rep_all {l : La} (h0 : 0 < l.loop.length) {a p e : Nat} (he : l.pre.length + l.loop.length ≤ e ∧ a + l.loop.length ≤ e) (h : ∀ i, a ≤ i → i < e → l.at i = l.at (i + p)) : ∀ i, a ≤ i → l.at i = l.at (i + p) := by
  intro i
  induction i using Nat.strongRecOn with
  | ind i ih =>
    intro hi
    by_cases hlt : i < e
    · exact h i hi hlt
    · have h1 := ih (i - l.loop.length) (by omega) (by omega)
      have h2 := La.at_back h0 (i := i - l.loop.length) (by omega)
      have h3 := La.at_back h0 (i := i - l.loop.length + p) (by omega)
      rw [show i - l.loop.length + l.loop.length = i by omega] at h2
      rw [show i - l.loop.length + p + l.loop.length = i + p by omega] at h3
      rw [h2, h3, h1]
def lets (l : La) (n : Nat) : List Nat := (List.range n).map l.at
theorem lets_succ (l : La) (n : Nat) : lets l (n + 1) = lets l n ++ [l.at n] := by simp [lets, List.range_succ]
theorem lets_len (l : La) (n : Nat) : (lets l n).length = n := by simp [lets]
def cutL (l : La) (a p : Nat) : La := ⟨(lets l (a + p)).take a, (lets l (a + p)).drop a⟩
theorem cutL_pre (l : La) (a p : Nat) : (cutL l a p).pre.length = a := by simp [cutL, lets_len]
theorem cutL_loop (l : La) (a p : Nat) : (cutL l a p).loop.length = p := by simp [cutL, lets_len]
theorem cutL_at {l : La} {a p : Nat} (hp : 0 < p) (h : ∀ i, a ≤ i → l.at i = l.at (i + p)) (i : Nat) : (cutL l a p).at i = l.at i := by
  have hpl := cutL_pre l a p; have hll := cutL_loop l a p
  have hper : ∀ t j, a ≤ j → l.at (j + p * t) = l.at j := by
    intro t
    induction t with
    | zero => intro j _; rfl
    | succ t ih => intro j hj; rw [Nat.mul_succ, ← Nat.add_assoc, ← h (j + p * t) (by omega)]; exact ih j hj
  by_cases hi : i < a
  · rw [La.at_pre (l := cutL l a p) (by omega)]
    simp [cutL, lets]
  · rw [La.at_loop (l := cutL l a p) (by omega) (by omega)]
    have hm : (i - (cutL l a p).pre.length) % (cutL l a p).loop.length = (i - a) % p := by rw [hpl, hll]
    have hml := Nat.mod_lt (i - a) hp
    have : (cutL l a p).loop[(i - (cutL l a p).pre.length) % (cutL l a p).loop.length]'(Nat.mod_lt _ (by omega)) = l.at (a + (i - a) % p) := by
      simp only [hm]
      simp [cutL, lets]
    rw [this, ← hper ((i - a) / p) (a + (i - a) % p) (by omega)]
    congr 1
    have := Nat.mod_add_div (i - a) p
    omega
structure SameW (l c : La) : Prop where
  at_ : ∀ i, c.at i = l.at i
  pos : 0 < c.loop.length
  pre : c.pre.length ≤ l.pre.length
  loop : c.loop.length ≤ l.loop.length
  p8 : ∀ x ∈ c.pre, x < 256
  l8 : ∀ x ∈ c.loop, x < 256
  mem : ∀ x, x ∈ c.pre ∨ x ∈ c.loop → ∃ i, x = l.at i
theorem SameW.cut {l : La} (h0 : 0 < l.loop.length) (h8 : (∀ x ∈ l.pre, x < 256) ∧ ∀ x ∈ l.loop, x < 256) {a p : Nat} (hp : 0 < p) (hp2 : p ≤ l.loop.length) (ha : a ≤ l.pre.length) (h : ∀ i, a ≤ i → l.at i = l.at (i + p)) : SameW l (cutL l a p) := by
  have hm : ∀ x ∈ lets l (a + p), x < 256 := fun x hx => by
    obtain ⟨i, _, rfl⟩ := List.mem_map.1 hx; exact La.at_lt h0 h8.1 h8.2 i
  exact ⟨cutL_at hp h, by rw [cutL_loop]; exact hp, by rw [cutL_pre]; exact ha, by rw [cutL_loop]; exact hp2, fun x hx => hm x (List.mem_of_mem_take hx), fun x hx => hm x (List.mem_of_mem_drop hx), fun x hx => by
    have h1 : x ∈ lets l (a + p) := hx.elim List.mem_of_mem_take List.mem_of_mem_drop
    obtain ⟨i, _, rfl⟩ := List.mem_map.1 h1; exact ⟨i, rfl⟩⟩
theorem Sl.bdrop {w : World} {b : Option Addr} {xs : List Nat} (h : Sl w b (byts xs)) {c : Nat} (lo : Nat) (hc : xs.length ≤ c) : Sl w (subB b c lo 1) (byts (xs.drop lo)) := by
  have h1 := h.sub c lo 1 xs.length (fun e => by subst e; rw [Nat.mul_one, List.drop_eq_nil_of_le (by rw [List.length_map]; exact hc), List.take_nil])
  rw [Nat.mul_one, ← List.map_drop, List.take_of_length_le (by rw [List.length_map, List.length_drop]; omega)] at h1
  exact h1
end Go.Lx

namespace Go.Proofs.Ytnamoapbienooaa
open Go.Lx Go.RowKit
set_option linter.unusedVariables false
set_option linter.unusedSimpArgs false
set_option maxHeartbeats 1000000 in
set_option maxRecDepth 20000 in
theorem repeatsF (w : World) (l : La) (pb lb : Option Addr) (pc lc : Nat) (h : LaAt w l pb lb pc lc) (hL : LaB l) (h0 : 0 < l.loop.length) (a p : Nat) (ha : a ≤ 1000000) (hp : p ≤ 1000000) :
    PureT Try.prog 103 [.agg (laCells l pb pc lb lc).toArray, .int .i64 (a : Int), .int .i64 (p : Int)] w fun v N => ∃ r : Bool, v = .bool r ∧ N = [] ∧ (r = true ↔ ∀ i, a ≤ i → l.at i = l.at (i + p)) := by
  refine CallT.enter Try.func103 rfl Try.ntmps103 rfl ?_
  have hpl := hL.pre; have hll := hL.loop; have hln : l.n = l.pre.length + l.loop.length := rfl
  refine T.seq (T.region ?_)
  refine TO.loud rfl (l_box (v := (.agg (laCells l pb pc lb lc).toArray)) (cs := (laCells l pb pc lb lc)) rfl rfl (fun bx1 => ?_))
  refine TO.quiet (q_assign rfl) ?_
  refine TO.nil (T.seq (T.region ?_))
  refine TO.quiet (q_load_boxAgg 0 Try.underlying29 rfl inf29 rfl rfl rfl) ?_
  have hk9 := fun (w1 : World) (hI : Inv w [oI bx1 29 (laCells l pb pc lb lc)] w1) => refFullF w1 l pb lb pc lc h0
  refine TO.loud rfl (l_call ent102 (CallT.of_pure hk9) rfl ?_)
  clear hk9
  rintro vr O' ⟨N, rfl, rfl, rfl⟩
  refine TO.loud rfl (l_store_box (v := (.agg (laCells l pb pc lb lc).toArray)) (vs := (laCells l pb pc lb lc)) 0 inf29 rfl rfl rfl rfl rfl rfl (by simp [putL]) ?_)
  refine TO.nil (T.seq (T.seq (T.region ?_)))
  refine TO.quiet (q_move rfl) (TO.quiet (q_assign rfl) ?_)
  refine TO.nil (T.block ?_)
  refine T.loop (fun (i : Nat) ρ O => O = [oI bx1 29 (laCells l pb pc lb lc)] ∧ a ≤ i ∧ i ≤ l.n + a + l.loop.length ∧ (∀ x, a ≤ x → x < i → l.at x = l.at (x + p)) ∧ Heads [(0, (.agg (laCells l pb pc lb lc).toArray)), (1, .int .i64 (a : Int)), (2, .int .i64 (p : Int)), (3, (.pointer (some ⟨bx1, 0, none⟩))), (7, .int .i64 (i : Int))] ρ) (fun i => l.n + a + l.loop.length - i) a ?_ ?_
  · exact ⟨rfl, Nat.le_refl _, by omega, (fun x h1 h2 => by omega), ⟨rfl, rfl, rfl, rfl, rfl, trivial⟩⟩
  rintro i ρ O ⟨rfl, hi, hi2, hx, hH⟩
  obtain ⟨ρ0, rfl⟩ := hH.elim
  clear hH
  refine T.seq (T.seq (T.region ?_))
  refine TO.quiet (q_move rfl) (TO.quiet (q_fieldAddr Try.underlying29 rfl inf27 rfl rfl) (TO.quiet (q_load_box 0 Try.underlying27 rfl rfl rfl rfl) (TO.quiet (q_len Try.underlying27 rfl) ?_)))
  refine TO.quiet (q_fieldAddr Try.underlying29 rfl inf27 rfl rfl) (TO.quiet (q_load_box 0 Try.underlying27 rfl rfl rfl rfl) (TO.quiet (q_len Try.underlying27 rfl) (TO.quiet (q_addN (a := l.pre.length) (b := l.loop.length) rfl rfl (by omega)) ?_)))
  refine TO.quiet (q_lss rfl rfl) ?_
  by_cases hs20 : (i : Int) < ((l.pre.length + l.loop.length : Nat) : Int)
  · refine TO.quiet (QT.toB (q_move rfl) (decide_eq_true hs20)) ?_
    refine TO.passed rfl rfl ?_
    refine TO.passed rfl rfl ?_
    refine TO.passed rfl rfl ?_
    refine TO.passed rfl rfl ?_
    refine TO.passed rfl rfl ?_
    refine TO.passed rfl rfl ?_
    refine TO.passed rfl rfl ?_
    refine TO.quiet (q_pick1 rfl rfl) ?_
    refine TO.nil ?_
    refine T.cond1 rfl ?_
    refine T.skip (T.seq (T.block (T.seq ?_)))
    refine T.draws _ [(0, 0), (1, 0), (3, 0), (4, 0), (5, 0), (6, 0), (2, 1), (7, 2), (8, 2)] mixed (by kernel_rfl) (Sub.of (List.Sublist.refl _)) (fun _ _ _ h => h) ?_
    refine DO.quiet rfl (q_load_boxAgg 0 Try.underlying29 rfl inf29 rfl rfl rfl) (DO.quiet rfl (q_move rfl) (DO.quiet rfl (q_load_boxAgg 0 Try.underlying29 rfl inf29 rfl rfl rfl) (DO.quiet rfl (q_move rfl) ?_)))
    refine DO.quiet rfl (q_move rfl) (DO.quiet rfl (q_addN (a := i) (b := p) rfl rfl (by omega)) ?_)
    have hk33 := fun (w1 : World) (hI : Inv w [oI bx1 29 (laCells l pb pc lb lc)] w1) => refAtF w1 l pb lb pc lc (hI.la h) hL h0 i (by omega)
    refine DO.loud rfl rfl (l_call ent105 (CallT.of_pure hk33) rfl ?_)
    clear hk33
    rintro vr O' ⟨N, rfl, rfl, rfl⟩
    refine ⟨Sub.pick [0] rfl, ?_⟩
    have hk38 := fun (w1 : World) (hI : Inv w [oI bx1 29 (laCells l pb pc lb lc)] w1) => refAtF w1 l pb lb pc lc (hI.la h) hL h0 (i + p) (by omega)
    refine DO.last rfl rfl (l_call ent105 (CallT.of_pure hk38) rfl ?_)
    clear hk38
    rintro vr O' ⟨N, rfl, rfl, rfl⟩
    refine DO.last rfl rfl (LT.of_quiet rfl rfl (q_neq rfl rfl) ?_)
    refine DO.done ?_
    refine T.condP rfl (fun hc => ?_) (fun hc => ?_)
    · have hlt39 : l.at i ≠ l.at (i + p) := by omega
      refine T.seq (T.region ?_)
      refine TO.quiet (q_assign rfl) ?_
      refine TO.nil (T.ret (Res.drop ?_))
      refine Res.one (.bool false) Try.results103 rfl ?_
      exact ⟨[], (Sub.pick [] rfl), false, rfl, rfl, ⟨fun h9 => (by cases h9), fun h9 => absurd (h9 i hi) (by omega)⟩⟩
    have hge39 : ¬ l.at i ≠ l.at (i + p) := by omega
    refine T.skip (T.region ?_)
    refine TO.quiet (q_move rfl) (TO.quiet (q_addN (a := i) (b := 1) rfl rfl (by omega)) (TO.quiet (q_assign rfl) ?_))
    refine TO.nil ?_
    refine ⟨i + 1, by omega, rfl, by omega, by omega, fun x h1 h2 => ?_, ⟨rfl, rfl, rfl, rfl, rfl, trivial⟩⟩
    by_cases e : x = i
    · subst e; omega
    · exact hx x h1 (by omega)
  refine TO.quiet (QT.toB (q_move rfl) (decide_eq_false hs20)) ?_
  refine TO.guarded rfl rfl rfl (LT.of_quiet rfl rfl (q_move rfl) ?_)
  refine TO.guarded rfl rfl rfl (LT.of_quiet rfl rfl (q_move rfl) ?_)
  refine TO.guarded rfl rfl rfl (LT.of_quiet rfl rfl (q_fieldAddr Try.underlying29 rfl inf27 rfl rfl) ?_)
  refine TO.guarded rfl rfl rfl (LT.of_quiet rfl rfl (q_load_box 0 Try.underlying27 rfl rfl rfl rfl) ?_)
  refine TO.guarded rfl rfl rfl (LT.of_quiet rfl rfl (q_len Try.underlying27 rfl) ?_)
  refine TO.guarded rfl rfl rfl (LT.of_quiet rfl rfl (q_addN (a := a) (b := l.loop.length) rfl rfl (by omega)) ?_)
  refine TO.guarded rfl rfl rfl (LT.of_quiet rfl rfl (q_lss rfl rfl) ?_)
  refine TO.quiet (q_pick0 rfl rfl) ?_
  refine TO.nil ?_
  refine T.condP rfl (fun hc => ?_) (fun hc => ?_)
  · have hlt28 : i < a + l.loop.length := by omega
    refine T.skip (T.seq (T.block (T.seq ?_)))
    refine T.draws _ [(0, 0), (1, 0), (3, 0), (4, 0), (5, 0), (6, 0), (2, 1), (7, 2), (8, 2)] mixed (by kernel_rfl) (Sub.of (List.Sublist.refl _)) (fun _ _ _ h => h) ?_
    refine DO.quiet rfl (q_load_boxAgg 0 Try.underlying29 rfl inf29 rfl rfl rfl) (DO.quiet rfl (q_move rfl) (DO.quiet rfl (q_load_boxAgg 0 Try.underlying29 rfl inf29 rfl rfl rfl) (DO.quiet rfl (q_move rfl) ?_)))
    refine DO.quiet rfl (q_move rfl) (DO.quiet rfl (q_addN (a := i) (b := p) rfl rfl (by omega)) ?_)
    have hk33 := fun (w1 : World) (hI : Inv w [oI bx1 29 (laCells l pb pc lb lc)] w1) => refAtF w1 l pb lb pc lc (hI.la h) hL h0 i (by omega)
    refine DO.loud rfl rfl (l_call ent105 (CallT.of_pure hk33) rfl ?_)
    clear hk33
    rintro vr O' ⟨N, rfl, rfl, rfl⟩
    refine ⟨Sub.pick [0] rfl, ?_⟩
    have hk38 := fun (w1 : World) (hI : Inv w [oI bx1 29 (laCells l pb pc lb lc)] w1) => refAtF w1 l pb lb pc lc (hI.la h) hL h0 (i + p) (by omega)
    refine DO.last rfl rfl (l_call ent105 (CallT.of_pure hk38) rfl ?_)
    clear hk38
    rintro vr O' ⟨N, rfl, rfl, rfl⟩
    refine DO.last rfl rfl (LT.of_quiet rfl rfl (q_neq rfl rfl) ?_)
    refine DO.done ?_
    refine T.condP rfl (fun hc => ?_) (fun hc => ?_)
    · have hlt39 : l.at i ≠ l.at (i + p) := by omega
      refine T.seq (T.region ?_)
      refine TO.quiet (q_assign rfl) ?_
      refine TO.nil (T.ret (Res.drop ?_))
      refine Res.one (.bool false) Try.results103 rfl ?_
      exact ⟨[], (Sub.pick [] rfl), false, rfl, rfl, ⟨fun h9 => (by cases h9), fun h9 => absurd (h9 i hi) (by omega)⟩⟩
    have hge39 : ¬ l.at i ≠ l.at (i + p) := by omega
    refine T.skip (T.region ?_)
    refine TO.quiet (q_move rfl) (TO.quiet (q_addN (a := i) (b := 1) rfl rfl (by omega)) (TO.quiet (q_assign rfl) ?_))
    refine TO.nil ?_
    refine ⟨i + 1, by omega, rfl, by omega, by omega, fun x h1 h2 => ?_, ⟨rfl, rfl, rfl, rfl, rfl, trivial⟩⟩
    by_cases e : x = i
    · subst e; omega
    · exact hx x h1 (by omega)
  have hge28 : ¬ i < a + l.loop.length := by omega
  refine T.exit ?_
  refine T.seq (T.region ?_)
  refine TO.quiet (q_assign rfl) ?_
  refine TO.nil (T.ret (Res.drop ?_))
  refine Res.one (.bool true) Try.results103 rfl ?_
  exact ⟨[], (Sub.pick [] rfl), true, rfl, rfl, ⟨fun _ => rep_all h0 (e := i) ⟨by omega, by omega⟩ hx, fun _ => rfl⟩⟩
end Go.Proofs.Ytnamoapbienooaa

namespace Go.Proofs.Ytnamoapbienooaa
open Go.Lx Go.RowKit
set_option linter.unusedVariables false
set_option linter.unusedSimpArgs false
set_option maxHeartbeats 1000000 in
set_option maxRecDepth 20000 in
theorem cutF (w : World) (l : La) (pb lb : Option Addr) (pc lc : Nat) (h : LaAt w l pb lb pc lc) (hL : LaB l) (h0 : 0 < l.loop.length) (a p : Nat) (ha : a ≤ 1000000) (hp : p ≤ 1000000) :
    PureT Try.prog 104 [.agg (laCells l pb pc lb lc).toArray, .int .i64 (a : Int), .int .i64 (p : Int)] w fun v N => ∃ pb2 lb2 pc2 lc2, v = .agg (laCells (cutL l a p) pb2 pc2 lb2 lc2).toArray ∧ N = [rowI pb2 pc2 5 1 (byts (cutL l a p).pre), rowI lb2 lc2 5 1 (byts (cutL l a p).loop)] := by
  refine CallT.enter Try.func104 rfl Try.ntmps104 rfl ?_
  have hpl := hL.pre; have hll := hL.loop; have hln : l.n = l.pre.length + l.loop.length := rfl
  refine T.seq (T.region ?_)
  refine TO.loud rfl (l_box (v := (.agg (laCells l pb pc lb lc).toArray)) (cs := (laCells l pb pc lb lc)) rfl rfl (fun bx1 => ?_))
  refine TO.loud rfl (l_alloc inf29 rfl (fun bx2 => ?_))
  refine TO.nil (T.seq (T.region ?_))
  refine TO.quiet (q_assign rfl) ?_
  refine TO.nil (T.seq (T.seq (T.region ?_)))
  refine TO.quiet (q_assign rfl) ?_
  refine TO.nil (T.block ?_)
  refine T.nilRow 5 1 ?_
  refine T.loopS (fun (k : Nat) ρ O => ∃ (qb : Option Addr) (qc : Nat), O = [rowI qb qc 5 1 (byts (lets l k)), oI bx2 29 [(.slice none 0 0), (.slice none 0 0)], oI bx1 29 (laCells l pb pc lb lc)] ∧ k ≤ a + p ∧ Heads [(0, (.agg (laCells l pb pc lb lc).toArray)), (1, .int .i64 (a : Int)), (2, .int .i64 (p : Int)), (3, (.pointer (some ⟨bx1, 0, none⟩))), (6, (.pointer (some ⟨bx2, 0, none⟩))), (7, (.slice qb k qc)), (8, .int .i64 (k : Int))] ρ) (fun k => (a + p) - k) 0 ?_ ?_
  · exact ⟨none, 0, rfl, Nat.zero_le _, ⟨rfl, rfl, rfl, rfl, rfl, rfl, rfl, trivial⟩⟩
  rintro k ρ O ⟨qb, qc, rfl, hk, hH⟩
  obtain ⟨ρ0, rfl⟩ := hH.elim
  clear hH
  refine T.seq (T.seq (T.region ?_))
  refine TO.quiet (q_move rfl) (TO.quiet (q_move rfl) (TO.quiet (q_move rfl) (TO.quiet (q_addN (a := a) (b := p) rfl rfl (by omega)) ?_)))
  refine TO.quiet (q_lss rfl rfl) ?_
  refine TO.nil ?_
  refine T.condP rfl (fun hc => ?_) (fun hc => ?_)
  · have hlt13 : k < a + p := by omega
    have hat : l.at k < 256 := La.at_lt h0 hL.p8 hL.l8 k
    refine T.skip (T.seq (T.block (T.region ?_)))
    refine TO.quiet (q_move rfl) (TO.quiet (q_load_boxAgg 2 Try.underlying29 rfl inf29 rfl rfl rfl) (TO.quiet (q_move rfl) ?_))
    have hk19 := fun (w1 : World) (hI : Inv w [rowI qb qc 5 1 (byts (lets l k)), oI bx2 29 [(.slice none 0 0), (.slice none 0 0)], oI bx1 29 (laCells l pb pc lb lc)] w1) => refAtF w1 l pb lb pc lc (hI.la h) hL h0 k (by omega)
    refine TO.loud rfl (l_call ent105 (CallT.of_pure hk19) rfl ?_)
    clear hk19
    rintro vr O' ⟨N, rfl, rfl, rfl⟩
    refine TO.loud rfl (l_build1 (v := .int .u8 ((l.at k : Nat) : Int)) Try.underlying27 inf5 rfl rfl rfl (fun bx3 => ?_))
    refine TO.loud rfl (l_append 1 Try.underlying27 Try.underlying27 inf5 rfl rfl rfl rfl (by rw [List.length_map, lets_len, Nat.mul_one]) (by decide) (Src.row (j := 0) rfl (by simp)) (by simp [oneB]) (by omega) (by decide) (by decide) (fun bx4 c5 => ?_))
    refine TO.quiet (q_assign rfl) ?_
    refine TO.nil (T.region ?_)
    refine TO.quiet (q_move rfl) (TO.quiet (q_addN (a := k) (b := 1) rfl rfl (by omega)) (TO.quiet (q_assign rfl) ?_))
    refine TO.nil ?_
    refine ⟨k + 1, by omega, [rowI bx4 c5 5 1 ((byts (lets l k)) ++ [.int .u8 ((l.at k : Nat) : Int)]), oI bx2 29 [(.slice none 0 0), (.slice none 0 0)], oI bx1 29 (laCells l pb pc lb lc)], (Sub.pick [1, 1, 1] rfl), bx4, c5, ?_, by omega, ⟨rfl, rfl, rfl, rfl, rfl, rfl, rfl, trivial⟩⟩
    rw [lets_succ, show byts (lets l k ++ [l.at k]) = byts (lets l k) ++ [.int .u8 ((l.at k : Nat) : Int)] from List.map_append]
  have hge13 : ¬ k < a + p := by omega
  refine T.exit ?_
  refine T.seq ?_
  have hke : k = a + p := by omega
  refine T.have (φ := (lets l k).length ≤ qc) (fun w hI => by have := rowP.cap (hI.row (i := 0) rfl); simpa using this) (fun hcap => ?_)
  rw [lets_len] at hcap
  refine T.draws [rowI qb qc 5 1 (byts (lets l k))] [(0, 0), (1, 0), (2, 0), (4, 0), (5, 0), (6, 0), (3, 1), (7, 2), (8, 2), (9, 2)] mixed (by kernel_rfl) (Sub.pick [0] rfl) (fun _ _ _ h => h) ?_
  refine DO.quiet rfl (q_move rfl) (DO.quiet rfl (q_move rfl) (DO.quiet rfl (q_sliceTo (hi := a) Try.underlying27 inf5 rfl rfl (by omega)) (DO.quiet rfl (q_move rfl) ?_)))
  refine DO.quiet rfl (q_move rfl) (DO.quiet rfl (q_sliceFrom (lo := a) Try.underlying27 inf5 rfl rfl (by omega) (by omega)) ?_)
  refine DO.loud rfl rfl (l_appendN (l := a) Try.underlying27 Try.underlying27 inf5 rfl rfl rfl (by decide) (Src.own (fun w hI => Sl.btake (hI.slOf (List.mem_of_getElem? (i := 0) rfl)) a) (by rw [List.length_map, List.length_take, lets_len]; omega)) (byts_one _) (by omega) (by decide) (by decide) (fun bx6 c7 => ⟨Sub.pick [1] rfl, ?_⟩))
  refine DO.last rfl rfl (l_appendN (l := (k - a)) Try.underlying27 Try.underlying27 inf5 rfl rfl rfl (by decide) (Src.own (fun w hI => Sl.bdrop (hI.slOf (List.mem_of_getElem? (i := 1) rfl)) a (by rw [lets_len]; exact hcap)) (by rw [List.length_map, List.length_drop, lets_len]; omega)) (byts_one _) (by omega) (by decide) (by decide) (fun bx8 c9 => ?_))
  refine DO.last rfl rfl (LT.of_quiet rfl rfl (q_build (cs := [(.slice bx6 a c7), (.slice bx8 (k - a) c9)]) plan29 inf29 (by kernel_rfl)) ?_)
  refine DO.last rfl rfl (l_store_box (v := (.agg #[(.slice bx6 a c7), (.slice bx8 (k - a) c9)])) (vs := [(.slice bx6 a c7), (.slice bx8 (k - a) c9)]) 3 inf29 rfl rfl rfl rfl rfl rfl (by simp [putL]) ?_)
  refine DO.done ?_
  refine T.ret (Res.drop ?_)
  refine Res.cell1 (i := 3) Try.results104 Try.underlying29 rfl inf29 rfl rfl rfl ?_
  have hap : a + p - a = p := by omega
  have hp1 := cutL_pre l a p; have hp2 := cutL_loop l a p
  rw [hke]
  exact ⟨[rowI bx6 c7 5 1 (byts ((lets l (a + p)).take a)), rowI bx8 c9 5 1 (byts ((lets l (a + p)).drop a))], (Sub.pick [1, 0] rfl), bx6, bx8, c7, c9, by unfold laCells; rw [hp1, hp2, hap]; simp [putL], rfl⟩
end Go.Proofs.Ytnamoapbienooaa

namespace Go.Proofs.Ytnamoapbienooaa
open Go.Lx Go.RowKit
set_option linter.unusedVariables false
set_option linter.unusedSimpArgs false
set_option maxHeartbeats 1000000 in
set_option maxRecDepth 20000 in
theorem refCanonF (w : World) (l : La) (pb lb : Option Addr) (pc lc : Nat) (h : LaAt w l pb lb pc lc) (hL : LaB l) (h0 : 0 < l.loop.length) :
    PureT Try.prog 59 [.agg (laCells l pb pc lb lc).toArray] w fun v N => ∃ c pb2 lb2 pc2 lc2, v = .agg (laCells c pb2 pc2 lb2 lc2).toArray ∧ N = [rowI pb2 pc2 5 1 (byts c.pre), rowI lb2 lc2 5 1 (byts c.loop)] ∧ SameW l c := by
  refine CallT.enter Try.func59 rfl Try.ntmps59 rfl ?_
  have hpl := hL.pre; have hll := hL.loop; have hln : l.n = l.pre.length + l.loop.length := rfl
  refine T.seq (T.region ?_)
  refine TO.loud rfl (l_box (v := (.agg (laCells l pb pc lb lc).toArray)) (cs := (laCells l pb pc lb lc)) rfl rfl (fun bx1 => ?_))
  refine TO.loud rfl (l_alloc inf29 rfl (fun bx2 => ?_))
  refine TO.nil (T.seq (T.region ?_))
  refine TO.quiet (q_load_boxAgg 1 Try.underlying29 rfl inf29 rfl rfl rfl) ?_
  have hk6 := fun (w1 : World) (hI : Inv w [oI bx2 29 [(.slice none 0 0), (.slice none 0 0)], oI bx1 29 (laCells l pb pc lb lc)] w1) => refFullF w1 l pb lb pc lc h0
  refine TO.loud rfl (l_call ent102 (CallT.of_pure hk6) rfl ?_)
  clear hk6
  rintro vr O' ⟨N, rfl, rfl, rfl⟩
  refine TO.loud rfl (l_store_box (v := (.agg (laCells l pb pc lb lc).toArray)) (vs := (laCells l pb pc lb lc)) 1 inf29 rfl rfl rfl rfl rfl rfl (by simp [putL]) ?_)
  refine TO.nil (T.seq (T.seq (T.region ?_)))
  refine TO.quiet (q_assign rfl) ?_
  refine TO.nil (T.block ?_)
  refine T.loop (fun (p : Nat) ρ O => O = [oI bx2 29 [(.slice none 0 0), (.slice none 0 0)], oI bx1 29 (laCells l pb pc lb lc)] ∧ 1 ≤ p ∧ p ≤ l.loop.length + 1 ∧ (∀ x, 1 ≤ x → x < p → ¬ ∀ i, l.pre.length ≤ i → l.at i = l.at (i + x)) ∧ Heads [(0, (.agg (laCells l pb pc lb lc).toArray)), (1, (.pointer (some ⟨bx1, 0, none⟩))), (2, (.pointer (some ⟨bx2, 0, none⟩))), (3, .int .i64 (p : Int))] ρ) (fun p => l.loop.length + 1 - p) 1 ?_ ?_
  · exact ⟨rfl, Nat.le_refl _, by omega, (fun x h1 h2 => by omega), ⟨rfl, rfl, rfl, rfl, trivial⟩⟩
  rintro p ρ O ⟨rfl, hp1, hp2, hpx, hH⟩
  obtain ⟨ρ0, rfl⟩ := hH.elim
  clear hH
  refine T.seq (T.seq (T.region ?_))
  refine TO.quiet (q_move rfl) (TO.quiet (q_fieldAddr Try.underlying29 rfl inf27 rfl rfl) (TO.quiet (q_load_box 1 Try.underlying27 rfl rfl rfl rfl) (TO.quiet (q_len Try.underlying27 rfl) ?_)))
  refine TO.quiet (q_leq rfl rfl) ?_
  refine TO.nil ?_
  refine T.condP rfl (fun hc => ?_) (fun hc => ?_)
  · have hlt11 : p ≤ l.loop.length := by omega
    refine T.skip (T.seq (T.block (T.seq (T.seq (T.region ?_)))))
    refine TO.quiet (q_load_boxAgg 1 Try.underlying29 rfl inf29 rfl rfl rfl) (TO.quiet (q_fieldAddr Try.underlying29 rfl inf27 rfl rfl) (TO.quiet (q_load_box 1 Try.underlying27 rfl rfl rfl rfl) (TO.quiet (q_len Try.underlying27 rfl) ?_)))
    refine TO.quiet (q_move rfl) ?_
    have hk19 := fun (w1 : World) (hI : Inv w [oI bx2 29 [(.slice none 0 0), (.slice none 0 0)], oI bx1 29 (laCells l pb pc lb lc)] w1) => repeatsF w1 l pb lb pc lc (hI.la h) hL h0 l.pre.length p (by omega) (by omega)
    refine TO.loud rfl (l_call ent103 (CallT.of_pure hk19) rfl ?_)
    clear hk19
    rintro vr O' ⟨N, rfl, r1, rfl, rfl, hr1⟩
    refine TO.quiet (q_not rfl) ?_
    refine TO.nil ?_
    refine T.cond rfl (fun hc => ?_) (fun hc => ?_)
    · have hr1n : ¬ r1 = true := by simp_all
      refine T.exit ?_
      refine T.region ?_
      refine TO.quiet (q_move rfl) (TO.quiet (q_addN (a := p) (b := 1) rfl rfl (by omega)) (TO.quiet (q_assign rfl) ?_))
      refine TO.nil ?_
      refine ⟨p + 1, by omega, rfl, by omega, by omega, fun x h1 h2 => ?_, ⟨rfl, rfl, rfl, rfl, trivial⟩⟩
      by_cases e : x = p
      · subst e; exact fun h9 => hr1n (hr1.2 h9)
      · exact hpx x h1 (by omega)
    refine T.skip (T.seq (T.region ?_))
    refine TO.quiet (q_assign rfl) ?_
    refine TO.nil (T.block ?_)
    have hr1t : ∀ i, l.pre.length ≤ i → l.at i = l.at (i + p) := hr1.1 (by simp_all)
    refine T.loop (fun (a : Nat) ρ O => O = [oI bx2 29 [(.slice none 0 0), (.slice none 0 0)], oI bx1 29 (laCells l pb pc lb lc)] ∧ a ≤ l.pre.length + 1 ∧ (∀ x, x < a → ¬ ∀ i, x ≤ i → l.at i = l.at (i + p)) ∧ Heads [(0, (.agg (laCells l pb pc lb lc).toArray)), (1, (.pointer (some ⟨bx1, 0, none⟩))), (2, (.pointer (some ⟨bx2, 0, none⟩))), (3, .int .i64 (p : Int)), (4, .int .i64 (a : Int))] ρ) (fun a => l.pre.length + 1 - a) 0 ?_ ?_
    · exact ⟨rfl, Nat.zero_le _, (fun x h2 => by omega), ⟨rfl, rfl, rfl, rfl, rfl, trivial⟩⟩
    rintro a ρ O ⟨rfl, ha2, hax, hH⟩
    obtain ⟨ρ0, rfl⟩ := hH.elim
    clear hH
    refine T.seq (T.seq (T.region ?_))
    refine TO.quiet (q_move rfl) (TO.quiet (q_fieldAddr Try.underlying29 rfl inf27 rfl rfl) (TO.quiet (q_load_box 1 Try.underlying27 rfl rfl rfl rfl) (TO.quiet (q_len Try.underlying27 rfl) ?_)))
    refine TO.quiet (q_leq rfl rfl) ?_
    refine TO.nil ?_
    refine T.condP rfl (fun hc => ?_) (fun hc => ?_)
    · have hlt25 : a ≤ l.pre.length := by omega
      refine T.skip (T.seq (T.block (T.seq (T.region ?_))))
      refine TO.quiet (q_load_boxAgg 1 Try.underlying29 rfl inf29 rfl rfl rfl) (TO.quiet (q_move rfl) (TO.quiet (q_move rfl) ?_))
      have hk31 := fun (w1 : World) (hI : Inv w [oI bx2 29 [(.slice none 0 0), (.slice none 0 0)], oI bx1 29 (laCells l pb pc lb lc)] w1) => repeatsF w1 l pb lb pc lc (hI.la h) hL h0 a p (by omega) (by omega)
      refine TO.loud rfl (l_call ent103 (CallT.of_pure hk31) rfl ?_)
      clear hk31
      rintro vr O' ⟨N, rfl, r2, rfl, rfl, hr2⟩
      refine TO.nil ?_
      refine T.cond rfl (fun hc => ?_) (fun hc => ?_)
      · refine T.seq ?_
        refine T.region ?_
        refine TO.quiet (q_load_boxAgg 1 Try.underlying29 rfl inf29 rfl rfl rfl) (TO.quiet (q_move rfl) (TO.quiet (q_move rfl) ?_))
        have hk35 := fun (w1 : World) (hI : Inv w [oI bx2 29 [(.slice none 0 0), (.slice none 0 0)], oI bx1 29 (laCells l pb pc lb lc)] w1) => cutF w1 l pb lb pc lc (hI.la h) hL h0 a p (by omega) (by omega)
        refine TO.loud rfl (l_call ent104 (CallT.of_pure hk35) rfl ?_)
        clear hk35
        rintro vr O' ⟨N, rfl, pb2, lb2, pc2, lc2, rfl, rfl⟩
        refine TO.loud rfl (l_store_box (v := (.agg #[(.slice pb2 ((cutL l a p).pre.length) pc2), (.slice lb2 ((cutL l a p).loop.length) lc2)])) (vs := [(.slice pb2 ((cutL l a p).pre.length) pc2), (.slice lb2 ((cutL l a p).loop.length) lc2)]) 2 inf29 rfl rfl rfl rfl rfl rfl (by simp [putL]) ?_)
        refine TO.nil (T.ret (Res.drop ?_))
        refine Res.cell1 (i := 2) Try.results59 Try.underlying29 rfl inf29 rfl rfl rfl ?_
        exact ⟨[rowI pb2 pc2 5 1 (byts (cutL l a p).pre), rowI lb2 lc2 5 1 (byts (cutL l a p).loop)], (Sub.pick [0, 0] rfl), cutL l a p, pb2, lb2, pc2, lc2, rfl, rfl, SameW.cut h0 ⟨hL.p8, hL.l8⟩ (by omega) (by omega) (by omega) (hr2.1 (by simp_all))⟩
      have hr2n : ¬ r2 = true := by simp_all
      refine T.skip (T.region ?_)
      refine TO.quiet (q_move rfl) (TO.quiet (q_addN (a := a) (b := 1) rfl rfl (by omega)) (TO.quiet (q_assign rfl) ?_))
      refine TO.nil ?_
      refine ⟨a + 1, by omega, rfl, by omega, fun x h2 => ?_, ⟨rfl, rfl, rfl, rfl, rfl, trivial⟩⟩
      by_cases e : x = a
      · subst e; exact fun h9 => hr2n (hr2.2 h9)
      · exact hax x (by omega)
    have hge25 : ¬ a ≤ l.pre.length := by omega
    refine T.exit ?_
    refine T.region ?_
    refine TO.quiet (q_move rfl) (TO.quiet (q_addN (a := p) (b := 1) rfl rfl (by omega)) (TO.quiet (q_assign rfl) ?_))
    refine TO.nil ?_
    exfalso
    exact hax l.pre.length (by omega) hr1t
  have hge11 : ¬ p ≤ l.loop.length := by omega
  refine T.exit ?_
  refine T.seq (T.region ?_)
  refine TO.quiet (q_load_boxAgg 1 Try.underlying29 rfl inf29 rfl rfl rfl) ?_
  refine TO.loud rfl (l_store_box (v := (.agg (laCells l pb pc lb lc).toArray)) (vs := (laCells l pb pc lb lc)) 0 inf29 rfl rfl rfl rfl rfl rfl (by simp [putL]) ?_)
  refine TO.nil (T.ret (Res.drop ?_))
  refine Res.cell1 (i := 0) Try.results59 Try.underlying29 rfl inf29 rfl rfl rfl ?_
  exfalso
  exact hpx l.loop.length (by omega) (by omega) (fun i hi => (La.at_back h0 hi).symm)
end Go.Proofs.Ytnamoapbienooaa

namespace Go.Proofs.Ytnamoapbienooaa
open Go.Lx Go.RowKit
set_option linter.unusedVariables false
set_option linter.unusedSimpArgs false
set_option maxHeartbeats 4000000 in
set_option maxRecDepth 20000 in
theorem refAcceptsF (w : World) (b : Bu) (sb eb tb : Option Addr) (sc ec tc : Nat) (vs : List Value) (h : BuAt w b sb eb tb vs) (hB : BuB b) (l : La) (pb lb : Option Addr) (pc lc : Nat) (h2 : LaAt w l pb lb pc lc) (hL : LaB l) (hE : b.edges.length ≤ 5000) :
    PureT Try.prog 18 [.agg (buCells b sb sc eb ec tb tc).toArray, .agg (laCells l pb pc lb lc).toArray] w fun v N => v = .tuple #[.bool (accV b l), .int .i64 (accE b l : Int)] ∧ N = [] := by
  refine CallT.enter Try.func18 rfl Try.ntmps18 rfl ?_
  have hst := hB.st; have hpl := hL.pre; have hll0 := hL.loop
  refine T.seq (T.region ?_)
  refine TO.loud rfl (l_box (v := (.agg (buCells b sb sc eb ec tb tc).toArray)) (cs := (buCells b sb sc eb ec tb tc)) rfl rfl (fun bx1 => ?_))
  refine TO.loud rfl (l_box (v := (.agg (laCells l pb pc lb lc).toArray)) (cs := (laCells l pb pc lb lc)) rfl rfl (fun bx2 => ?_))
  refine TO.quiet (q_assign rfl) (TO.quiet (q_assign rfl) ?_)
  refine TO.nil (T.seq (T.seq (T.region ?_)))
  refine TO.quiet (q_load_boxAgg 1 Try.underlying26 rfl inf26 rfl rfl rfl) ?_
  have hk11 := fun (w1 : World) (hI : Inv w [oI bx2 29 (laCells l pb pc lb lc), oI bx1 26 (buCells b sb sc eb ec tb tc)] w1) => refCheckF w1 b sb eb tb sc ec tc vs (hI.bu h) hB
  refine TO.loud rfl (l_call ent22 (CallT.of_pure hk11) rfl ?_)
  clear hk11
  rintro vr O' ⟨N, rfl, rfl, rfl⟩
  refine TO.quiet (q_assign rfl) ?_
  refine TO.nil (T.seq (T.region ?_))
  refine TO.quiet (q_move rfl) (TO.quiet (q_neq rfl rfl) ?_)
  refine TO.nil ?_
  refine T.condP rfl (fun hc => ?_) (fun hc => ?_)
  · have hlt13 : checkB b ≠ 0 := by omega
    refine T.seq (T.region ?_)
    refine TO.quiet (q_move rfl) (TO.quiet (q_assign rfl) (TO.quiet (q_assign rfl) ?_))
    refine TO.nil (T.ret (Res.drop ?_))
    refine Res.two (.bool false) (.int .i64 (checkB b : Int)) Try.results18 rfl rfl ?_
    exact ⟨[], (Sub.pick [] rfl), by unfold accV accE; rw [if_neg (by omega), if_neg (by omega)], rfl⟩
  have hge13 : ¬ checkB b ≠ 0 := by omega
  refine T.skip (T.seq (T.seq (T.region ?_)))
  refine TO.quiet (q_load_boxAgg 0 Try.underlying29 rfl inf29 rfl rfl rfl) (TO.quiet (q_fieldAddr Try.underlying26 rfl inf3 rfl rfl) (TO.quiet (q_load_box 1 Try.underlying3 rfl rfl rfl rfl) ?_))
  have hk18 := fun (w1 : World) (hI : Inv w [oI bx2 29 (laCells l pb pc lb lc), oI bx1 26 (buCells b sb sc eb ec tb tc)] w1) => refLassoCheckF w1 l pb lb pc lc (hI.la h2) hL b.vars
  refine TO.loud rfl (l_call ent58 (CallT.of_pure hk18) rfl ?_)
  clear hk18
  rintro vr O' ⟨N, rfl, rfl, rfl⟩
  refine TO.quiet (q_assign rfl) ?_
  refine TO.nil (T.seq (T.region ?_))
  refine TO.quiet (q_move rfl) (TO.quiet (q_neq rfl rfl) ?_)
  refine TO.nil ?_
  refine T.condP rfl (fun hc => ?_) (fun hc => ?_)
  · have hlt20 : checkLV b.vars l ≠ 0 := by omega
    refine T.seq (T.region ?_)
    refine TO.quiet (q_move rfl) (TO.quiet (q_assign rfl) (TO.quiet (q_assign rfl) ?_))
    refine TO.nil (T.ret (Res.drop ?_))
    refine Res.two (.bool false) (.int .i64 (checkLV b.vars l : Int)) Try.results18 rfl rfl ?_
    exact ⟨[], (Sub.pick [] rfl), by unfold accV accE; rw [if_neg (by omega), if_pos (by omega)], rfl⟩
  have hge20 : ¬ checkLV b.vars l ≠ 0 := by omega
  refine T.skip (T.seq ?_)
  have he : checkB b = 0 := by omega
  have hel : checkLV b.vars l = 0 := by omega
  have hv : ValidB b := checkB_zero.1 he
  have hv0 := hv.n0; have hv4 := hv.n4
  obtain ⟨hl0, hp64, hl64, _, _, hpv, hlv0⟩ := checkL_loop hel
  refine T.region ?_
  refine TO.quiet (q_load_boxAgg 0 Try.underlying29 rfl inf29 rfl rfl rfl) ?_
  have hk23 := fun (w1 : World) (hI : Inv w [oI bx2 29 (laCells l pb pc lb lc), oI bx1 26 (buCells b sb sc eb ec tb tc)] w1) => refCanonF w1 l pb lb pc lc (hI.la h2) hL hl0
  refine TO.loud rfl (l_call ent59 (CallT.of_pure hk23) rfl ?_)
  clear hk23
  rintro vr O' ⟨N, rfl, c, pb2, lb2, pc2, lc2, rfl, rfl, hsw⟩
  refine TO.loud rfl (l_store_box (v := (.agg (laCells c pb2 pc2 lb2 lc2).toArray)) (vs := (laCells c pb2 pc2 lb2 lc2)) 2 inf29 rfl rfl rfl rfl rfl rfl (by simp [putL]) ?_)
  refine TO.nil (T.seq ?_)
  have hp3 := hsw.pre; have hl3 := hsw.loop
  have hcn : c.n = c.pre.length + c.loop.length := rfl
  have hLc : LaB c := ⟨by omega, by omega, hsw.p8, hsw.l8⟩
  have hNC : b.states.toNat * c.n ≤ 4096 * 128 := Nat.mul_le_mul (by omega) (by omega)
  have hcc : checkLV b.vars c = 0 := checkLV_of ⟨hv.v0, hv.v6⟩ hsw.pos (by omega) (by omega) (fun x hx => by obtain ⟨i, rfl⟩ := hsw.mem x (.inl hx); exact La.at_lt hl0 hpv hlv0 i) (fun x hx => by obtain ⟨i, rfl⟩ := hsw.mem x (.inr hx); exact La.at_lt hl0 hpv hlv0 i)
  refine T.region ?_
  refine TO.quiet (q_load_boxAgg 3 Try.underlying26 rfl inf26 rfl rfl rfl) (TO.quiet (q_load_boxAgg 2 Try.underlying29 rfl inf29 rfl rfl rfl) ?_)
  have hk26 := fun (w1 : World) (hI : Inv w [rowI pb2 pc2 5 1 (byts c.pre), rowI lb2 lc2 5 1 (byts c.loop), oI bx2 29 (laCells c pb2 pc2 lb2 lc2), oI bx1 26 (buCells b sb sc eb ec tb tc)] w1) => productG w1 b sb eb tb sc ec tc vs (hI.bu h) hB hv c pb2 lb2 pc2 lc2 ⟨hI.slOf (List.mem_of_getElem? (i := 0) rfl), hI.slOf (List.mem_of_getElem? (i := 1) rfl), by have h9 := rowP.cap (hI.row (i := 0) rfl); simpa using h9, by have h9 := rowP.cap (hI.row (i := 1) rfl); simpa using h9⟩ hLc hsw.pos (by omega) (by omega) hE
  refine TO.loud rfl (l_call ent60 (CallT.of_pure hk26) rfl ?_)
  clear hk26
  rintro vr O' ⟨N, rfl, ab, ac, nb, nc, qs, rfl, rfl, B9, hB9, hr⟩
  refine TO.sub (O' := ([rowI ab ac 3 1 (nats (prdA c.n (b.states.toNat * c.n))), rowI nb nc 22 1 (vals qs), rowI pb2 pc2 5 1 (byts c.pre), rowI lb2 lc2 5 1 (byts c.loop), oI bx2 29 (laCells c pb2 pc2 lb2 lc2), oI bx1 26 (buCells b sb sc eb ec tb tc)] ++ (itms 3 qs))) (Sub.cnt [] (by intro a; simp only [itms, oI, List.set_cons_zero, List.set_cons_succ, putL, List.cons_append, List.nil_append, List.append_nil, List.append_assoc, List.map_append, List.map_cons, List.map_nil, cnt_append, cnt_cons, cnt_nil, buCells, laCells] <;> omega)) ?_
  have hk27 := fun (w1 : World) (hI : Inv w ([rowI ab ac 3 1 (nats (prdA c.n (b.states.toNat * c.n))), rowI nb nc 22 1 (vals qs), rowI pb2 pc2 5 1 (byts c.pre), rowI lb2 lc2 5 1 (byts c.loop), oI bx2 29 (laCells c pb2 pc2 lb2 lc2), oI bx1 26 (buCells b sb sc eb ec tb tc)] ++ (itms 3 qs)) w1) => (by
    have hL9 := goodF w1 b sb eb tb sc ec tc vs (hI.bu h) hB ab nb ac nc (vals qs) (nums qs) (prdA c.n (b.states.toNat * c.n)) (hI.slOf (List.mem_of_getElem? (i := 1) rfl)) (Inv.recs (E := 3) hI (fun q hq => List.mem_append_right _ (List.mem_map.2 ⟨q, hq, rfl⟩))) (hI.slOf (List.mem_of_getElem? (i := 0) rfl)) (by rw [hr.l, prdA_len]) (by rw [hr.l]; omega) (fun r hr9 => by obtain ⟨i, hi, rfl⟩ := List.mem_iff_getElem.1 hr9; have h9 := hr.b i; rw [getD_at hi] at h9; omega) (prod_ok hv hsw.pos hr)
    rw [hr.l] at hL9; exact hL9)
  refine TO.loud rfl (l_call ent61 (CallT.of_pure hk27) rfl ?_)
  clear hk27
  rintro vr O' ⟨N, rfl, zb, zc, ls, rfl, rfl, hT⟩
  refine TO.quiet (q_assign rfl) ?_
  refine TO.nil (T.seq (T.seq (T.region ?_)))
  refine TO.quiet (q_assign rfl) ?_
  refine TO.nil (T.block ?_)
  have hcp0 := hsw.pos
  have hls : ∀ s ∈ b.start, (ls.getD (s.toNat * c.n) false = true ↔ LiveG (PE b c) b.sets.length (PM b c) (s.toNat * c.n)) := fun s hs => by
    have h7 := hv.st s hs
    have h8 : s.toNat * c.n + c.n ≤ b.states.toNat * c.n := by have h9 := Nat.mul_le_mul_right c.n (show s.toNat + 1 ≤ b.states.toNat by omega); rwa [Nat.succ_mul] at h9
    have h6 := hT.2 (s.toNat * c.n) (by omega)
    have h5 := liveR_prod hv hsw.pos hr (v := s.toNat * c.n)
    unfold liveR at h5 h6; rw [hr.l] at h5 h6; exact h6.trans h5
  have hany := acc_any he hcc hls
  have hacc : accV b c = accV b l := by
    unfold accV; rw [if_pos ⟨he, hcc⟩, if_pos ⟨he, hel⟩]
    exact decide_eq_decide.2 (accL_word hv hsw.pos hl0 hsw.at_)
  have hll9 := hT.1
  refine T.loop (fun (k : Nat) ρ O => O = ([rowI zb zc 4 1 (bools ls), rowI ab ac 3 1 (nats (prdA c.n (b.states.toNat * c.n))), rowI nb nc 22 1 (vals qs), rowI pb2 pc2 5 1 (byts c.pre), rowI lb2 lc2 5 1 (byts c.loop), oI bx2 29 (laCells c pb2 pc2 lb2 lc2), oI bx1 26 (buCells b sb sc eb ec tb tc)] ++ (itms 3 qs)) ∧ k ≤ b.start.length ∧ (b.start.take k).any (fun s => ls.getD (s.toNat * c.n) false) = false ∧ Heads [(0, (.agg (buCells b sb sc eb ec tb tc).toArray)), (1, (.agg (laCells l pb pc lb lc).toArray)), (2, (.pointer (some ⟨bx1, 0, none⟩))), (3, (.pointer (some ⟨bx2, 0, none⟩))), (6, .int .i64 (checkB b : Int)), (7, .int .i64 (checkLV b.vars l : Int)), (8, (.slice zb (b.states.toNat * c.n) zc)), (9, .int .i64 (k : Int))] ρ) (fun k => b.start.length - k) 0 ?_ ?_
  · exact ⟨rfl, Nat.zero_le _, rfl, ⟨rfl, rfl, rfl, rfl, rfl, rfl, rfl, rfl, trivial⟩⟩
  rintro k ρ O ⟨rfl, hk, ha, hH⟩
  obtain ⟨ρ0, rfl⟩ := hH.elim
  clear hH
  refine T.seq (T.seq (T.region ?_))
  refine TO.quiet (q_move rfl) (TO.quiet (q_fieldAddr Try.underlying26 rfl inf22 rfl rfl) (TO.quiet (q_load_box 6 Try.underlying22 rfl rfl rfl rfl) (TO.quiet (q_len Try.underlying22 rfl) ?_)))
  refine TO.quiet (q_lss rfl rfl) ?_
  refine TO.nil ?_
  refine T.condP rfl (fun hc => ?_) (fun hc => ?_)
  · have hlt32 : k < b.start.length := by omega
    obtain ⟨x, hx, hxn⟩ : ∃ x : Nat, b.start[k] = (x : Int) ∧ x < b.states.toNat := by
      have := hv.st _ (List.getElem_mem hlt32)
      exact ⟨b.start[k].toNat, by omega, by omega⟩
    have hxL : x * c.n + c.n ≤ b.states.toNat * c.n := by have h9 := Nat.mul_le_mul_right c.n (show x + 1 ≤ b.states.toNat by omega); rwa [Nat.succ_mul] at h9
    have hcp := hsw.pos
    refine T.skip (T.seq (T.block (T.seq ?_)))
    refine T.draws _ [(0, 0), (1, 0), (2, 0), (3, 0), (4, 0), (5, 0), (6, 0), (7, 0), (8, 0), (9, 0), (10, 0), (11, 0), (12, 0), (13, 0), (14, 0), (15, 0)] mixed (by kernel_rfl) (Sub.of (List.Sublist.refl _)) (fun _ _ _ h => h) ?_
    refine DO.quiet rfl (q_move rfl) (DO.quiet rfl (q_fieldAddr Try.underlying26 rfl inf22 rfl rfl) (DO.quiet rfl (q_load_box 6 Try.underlying22 rfl rfl rfl rfl) (DO.quiet rfl (q_move rfl) ?_)))
    refine DO.quiet rfl (q_ix (i := k) Try.underlying22 inf3 rfl rfl (Sl.o h.st)) (DO.quiet rfl (q_ld Try.underlying3 rfl rfl (Sl.o h.st) (show (ints b.start)[k]? = _ by rw [ints_get hlt32, hx])) (DO.quiet rfl (q_fieldAddr Try.underlying29 rfl inf27 rfl rfl) (DO.quiet rfl (q_load_box 5 Try.underlying27 rfl rfl rfl rfl) ?_)))
    refine DO.quiet rfl (q_len Try.underlying27 rfl) (DO.quiet rfl (q_fieldAddr Try.underlying29 rfl inf27 rfl rfl) (DO.quiet rfl (q_load_box 5 Try.underlying27 rfl rfl rfl rfl) (DO.quiet rfl (q_len Try.underlying27 rfl) ?_)))
    refine DO.quiet rfl (q_addN (a := c.pre.length) (b := c.loop.length) rfl rfl (by omega)) (DO.quiet rfl (q_mulN (a := x) (b := c.n) rfl rfl (by omega)) (DO.quiet rfl (q_ix (i := (x * c.n)) Try.underlying39 inf4 rfl rfl (rowO (List.mem_of_getElem? (i := 0) rfl))) (DO.quiet rfl (q_ld Try.underlying4 rfl rfl (rowO (List.mem_of_getElem? (i := 0) rfl)) bools_get) ?_)))
    refine DO.done ?_
    refine T.cond rfl (fun hc => ?_) (fun hc => ?_)
    · refine T.seq ?_
      refine T.region ?_
      refine TO.quiet (q_assign rfl) (TO.quiet (q_assign rfl) ?_)
      refine TO.nil (T.ret (Res.drop ?_))
      refine Res.two (.bool true) (.int .i64 0) Try.results18 rfl rfl ?_
      have ht : accV b l = true := by rw [← hacc, ← hany, any_hit hlt32 (by rw [hx, Int.toNat_natCast, gb (by omega)]; simp_all)]
      exact ⟨[], (Sub.pick0 [] [rowI zb zc 4 1 (bools ls), rowI ab ac 3 1 (nats (prdA c.n (b.states.toNat * c.n))), rowI nb nc 22 1 (vals qs), rowI pb2 pc2 5 1 (byts c.pre), rowI lb2 lc2 5 1 (byts c.loop), oI bx2 29 (laCells c pb2 pc2 lb2 lc2), oI bx1 26 (buCells b sb sc eb ec tb tc)] (itms 3 qs) rfl rfl), by rw [ht]; unfold accE; rw [if_pos he, hel]; rfl, rfl⟩
    refine T.skip (T.region ?_)
    refine TO.quiet (q_move rfl) (TO.quiet (q_addN (a := k) (b := 1) rfl rfl (by omega)) (TO.quiet (q_assign rfl) ?_))
    refine TO.nil ?_
    exact ⟨k + 1, by omega, rfl, by omega, any_snoc hlt32 ha (by rw [hx, Int.toNat_natCast, gb (by omega)]; simp_all), ⟨rfl, rfl, rfl, rfl, rfl, rfl, rfl, rfl, trivial⟩⟩
  have hge32 : ¬ k < b.start.length := by omega
  refine T.exit ?_
  refine T.seq (T.region ?_)
  refine TO.quiet (q_assign rfl) (TO.quiet (q_assign rfl) ?_)
  refine TO.nil (T.ret (Res.drop ?_))
  refine Res.two (.bool false) (.int .i64 0) Try.results18 rfl rfl ?_
  have ht : accV b l = false := by rw [← hacc, ← hany]; exact any_done (by omega) ha
  exact ⟨[], (Sub.pick0 [] [rowI zb zc 4 1 (bools ls), rowI ab ac 3 1 (nats (prdA c.n (b.states.toNat * c.n))), rowI nb nc 22 1 (vals qs), rowI pb2 pc2 5 1 (byts c.pre), rowI lb2 lc2 5 1 (byts c.loop), oI bx2 29 (laCells c pb2 pc2 lb2 lc2), oI bx1 26 (buCells b sb sc eb ec tb tc)] (itms 3 qs) rfl rfl), by rw [ht]; unfold accE; rw [if_pos he, hel]; rfl, rfl⟩
end Go.Proofs.Ytnamoapbienooaa

namespace Go.Proofs.Ytnamoapbienooaa
open Go.Lx Go.RowKit
set_option linter.unusedVariables false
set_option linter.unusedSimpArgs false
set_option maxHeartbeats 4000000 in
set_option maxRecDepth 20000 in
theorem lawMatches (w : World) (b : Bu) (sb eb tb : Option Addr) (sc ec tc : Nat) (vs : List Value) (h : BuAt w b sb eb tb vs) (hpn : ∀ e ∈ b.edges, e.pos < 256 ∧ e.neg < 256) (hse : b.sets.length < 9223372036854775807) (l : La) (pb lb : Option Addr) (pc lc : Nat) (h2 : LaAt w l pb lb pc lc) (hp8 : ∀ x ∈ l.pre, x < 256) (hl8 : ∀ x ∈ l.loop, x < 256) :
    PureT Try.prog 3 [.agg (buCells b sb sc eb ec tb tc).toArray, .agg (laCells l pb pc lb lc).toArray] w fun v N => v = .bool true ∧ N = [] := by
  refine CallT.enter Try.func3 rfl Try.ntmps3 rfl ?_
  refine T.seq (T.region ?_)
  refine TO.loud rfl (l_box (v := (.agg (buCells b sb sc eb ec tb tc).toArray)) (cs := (buCells b sb sc eb ec tb tc)) rfl rfl (fun bx1 => ?_))
  refine TO.loud rfl (l_box (v := (.agg (laCells l pb pc lb lc).toArray)) (cs := (laCells l pb pc lb lc)) rfl rfl (fun bx2 => ?_))
  refine TO.quiet (q_assign rfl) ?_
  refine TO.nil ?_
  refine T.cut (fun ρ O => Sub [oI bx2 29 (laCells l pb pc lb lc), oI bx1 26 (buCells b sb sc eb ec tb tc)] O ∧ (¬ longB b = true ∧ ¬ longL l = true) ∧ Heads [(0, (.agg (buCells b sb sc eb ec tb tc).toArray)), (1, (.agg (laCells l pb pc lb lc).toArray)), (2, (.pointer (some ⟨bx1, 0, none⟩))), (3, (.pointer (some ⟨bx2, 0, none⟩)))] ρ) ?_ ?_
  · refine T.seq ?_
    refine T.region ?_
    refine TO.quiet (q_load_boxAgg 1 Try.underlying26 rfl inf26 rfl rfl rfl) ?_
    refine TO.loud rfl (l_buildSlice (m := 1) (parts := [(0, _)]) (cs := (buCells b sb sc eb ec tb tc)) Try.underlying71 inf26 (by decide) (by kernel_rfl) rfl (fun bx3 => ?_))
    have hk17 := fun (w1 : World) (hI : Inv w [rowI (some ⟨bx3, 0, none⟩) 1 26 5 (buCells b sb sc eb ec tb tc), oI bx2 29 (laCells l pb pc lb lc), oI bx1 26 (buCells b sb sc eb ec tb tc)] w1) => (by
      have h9 := longF w1 (some ⟨bx3, 0, none⟩) 1 [⟨b, sb, sc, eb, ec, tb, tc, vs⟩] (hI.slOf (List.mem_of_getElem? (i := 0) rfl)) (fun q hq => by have h8 := List.mem_singleton.1 hq; subst h8; exact hI.bu h) (by simp) (fun q hq => by have h8 := List.mem_singleton.1 hq; subst h8; exact hse)
      rw [show ([⟨b, sb, sc, eb, ec, tb, tc, vs⟩] : List BuRef).any (fun q => longB q.b) = longB b by simp] at h9; exact h9)
    refine TO.loud rfl (l_call ent11 (CallT.of_pure hk17) rfl ?_)
    clear hk17
    rintro vr O' ⟨N, rfl, rfl, rfl⟩
    by_cases hs18 : (longB b) = true
    · refine TO.quiet (QT.toB (q_move rfl) (hs18)) ?_
      refine TO.passed rfl rfl ?_
      refine TO.passed rfl rfl ?_
      refine TO.passed rfl rfl ?_
      refine TO.quiet (q_pick1 rfl rfl) (TO.quiet (q_move rfl) ?_)
      refine TO.passed rfl rfl ?_
      refine TO.passed rfl rfl ?_
      refine TO.passed rfl rfl ?_
      refine TO.passed rfl rfl ?_
      refine TO.passed rfl rfl ?_
      refine TO.passed rfl rfl ?_
      refine TO.passed rfl rfl ?_
      refine TO.passed rfl rfl ?_
      refine TO.quiet (q_pick1 rfl rfl) ?_
      refine TO.nil ?_
      refine T.cond1 rfl ?_
      refine T.seq (T.region ?_)
      have hk33 := fun (w1 : World) (hI : Inv w [rowI (some ⟨bx3, 0, none⟩) 1 26 5 (buCells b sb sc eb ec tb tc), oI bx2 29 (laCells l pb pc lb lc), oI bx1 26 (buCells b sb sc eb ec tb tc)] w1) => awakeF w1
      refine TO.loud rfl (l_call ent14 (CallT.of_pure hk33) rfl ?_)
      clear hk33
      rintro vr O' ⟨N, rfl, rfl, rfl⟩
      refine TO.quiet (q_assign rfl) ?_
      refine TO.nil (T.ret (Res.drop ?_))
      refine Res.one (.bool true) Try.results3 rfl ?_
      exact ⟨[], (Sub.pick [] rfl), rfl, rfl⟩
    refine TO.quiet (QT.toB (q_move rfl) (Bool.eq_false_iff.2 hs18)) ?_
    refine TO.guarded rfl rfl rfl (LT.of_quiet rfl rfl (q_load_boxAgg 1 Try.underlying29 rfl inf29 rfl rfl rfl) ?_)
    refine TO.guarded rfl rfl rfl (l_buildSlice (m := 1) (parts := [(0, _)]) (cs := (laCells l pb pc lb lc)) Try.underlying72 inf29 (by decide) (by kernel_rfl) rfl (fun bx4 => ?_))
    have hk21 := fun (w1 : World) (hI : Inv w [rowI (some ⟨bx4, 0, none⟩) 1 29 2 (laCells l pb pc lb lc), rowI (some ⟨bx3, 0, none⟩) 1 26 5 (buCells b sb sc eb ec tb tc), oI bx2 29 (laCells l pb pc lb lc), oI bx1 26 (buCells b sb sc eb ec tb tc)] w1) => (by
      have h9 := longLF w1 (some ⟨bx4, 0, none⟩) 1 [⟨l, pb, pc, lb, lc⟩] (hI.slOf (List.mem_of_getElem? (i := 0) rfl)) (by simp)
      rw [show ([⟨l, pb, pc, lb, lc⟩] : List LaRef).any (fun q => longL q.l) = longL l by simp] at h9; exact h9)
    refine TO.guarded rfl rfl rfl (l_call ent12 (CallT.of_pure hk21) rfl ?_)
    clear hk21
    rintro vr O' ⟨N, rfl, rfl, rfl⟩
    refine TO.quiet (q_pick0 rfl rfl) ?_
    by_cases hs23 : (longL l) = true
    · refine TO.quiet (QT.toB (q_move rfl) (hs23)) ?_
      refine TO.passed rfl rfl ?_
      refine TO.passed rfl rfl ?_
      refine TO.passed rfl rfl ?_
      refine TO.passed rfl rfl ?_
      refine TO.passed rfl rfl ?_
      refine TO.passed rfl rfl ?_
      refine TO.passed rfl rfl ?_
      refine TO.passed rfl rfl ?_
      refine TO.quiet (q_pick1 rfl rfl) ?_
      refine TO.nil ?_
      refine T.cond1 rfl ?_
      refine T.seq (T.region ?_)
      have hk33 := fun (w1 : World) (hI : Inv w [rowI (some ⟨bx4, 0, none⟩) 1 29 2 (laCells l pb pc lb lc), rowI (some ⟨bx3, 0, none⟩) 1 26 5 (buCells b sb sc eb ec tb tc), oI bx2 29 (laCells l pb pc lb lc), oI bx1 26 (buCells b sb sc eb ec tb tc)] w1) => awakeF w1
      refine TO.loud rfl (l_call ent14 (CallT.of_pure hk33) rfl ?_)
      clear hk33
      rintro vr O' ⟨N, rfl, rfl, rfl⟩
      refine TO.quiet (q_assign rfl) ?_
      refine TO.nil (T.ret (Res.drop ?_))
      refine Res.one (.bool true) Try.results3 rfl ?_
      exact ⟨[], (Sub.pick [] rfl), rfl, rfl⟩
    refine TO.quiet (QT.toB (q_move rfl) (Bool.eq_false_iff.2 hs23)) ?_
    refine TO.guarded rfl rfl rfl (LT.of_quiet rfl rfl (q_load_boxAgg 2 Try.underlying29 rfl inf29 rfl rfl rfl) ?_)
    have hk25 := fun (w1 : World) (hI : Inv w [rowI (some ⟨bx4, 0, none⟩) 1 29 2 (laCells l pb pc lb lc), rowI (some ⟨bx3, 0, none⟩) 1 26 5 (buCells b sb sc eb ec tb tc), oI bx2 29 (laCells l pb pc lb lc), oI bx1 26 (buCells b sb sc eb ec tb tc)] w1) => fairF w1 l pb lb pc lc (by have := longL_no hs23; omega) (by have := longL_no hs23; omega)
    refine TO.guarded rfl rfl rfl (l_call ent13 (CallT.of_pure hk25) rfl ?_)
    clear hk25
    rintro vr O' ⟨N, rfl, rfl, rfl⟩
    refine TO.guarded rfl rfl rfl (LT.of_quiet rfl rfl (q_not rfl) ?_)
    by_cases hs27 : ((!(decide (l.n ≤ 16)))) = true
    · refine TO.guarded rfl rfl rfl (LT.of_quiet rfl rfl (QT.toB (q_move rfl) (hs27)) ?_)
      refine TO.guarded rfl rfl rfl (LT.of_quiet rfl rfl (q_fieldAddr Try.underlying26 rfl inf3 rfl rfl) ?_)
      refine TO.guarded rfl rfl rfl (LT.of_quiet rfl rfl (q_load_box 3 Try.underlying3 rfl rfl rfl rfl) ?_)
      refine TO.guarded rfl rfl rfl (LT.of_quiet rfl rfl (q_gtr rfl rfl) ?_)
      refine TO.guarded rfl rfl rfl (LT.of_quiet rfl rfl (q_pick1 rfl rfl) ?_)
      refine TO.quiet (q_pick0 rfl rfl) ?_
      refine TO.nil ?_
      refine T.condP rfl (fun hc => ?_) (fun hc => ?_)
      · refine T.seq ?_
        refine T.region ?_
        have hk33 := fun (w1 : World) (hI : Inv w [rowI (some ⟨bx4, 0, none⟩) 1 29 2 (laCells l pb pc lb lc), rowI (some ⟨bx3, 0, none⟩) 1 26 5 (buCells b sb sc eb ec tb tc), oI bx2 29 (laCells l pb pc lb lc), oI bx1 26 (buCells b sb sc eb ec tb tc)] w1) => awakeF w1
        refine TO.loud rfl (l_call ent14 (CallT.of_pure hk33) rfl ?_)
        clear hk33
        rintro vr O' ⟨N, rfl, rfl, rfl⟩
        refine TO.quiet (q_assign rfl) ?_
        refine TO.nil (T.ret (Res.drop ?_))
        refine Res.one (.bool true) Try.results3 rfl ?_
        exact ⟨[], (Sub.pick [] rfl), rfl, rfl⟩
      refine T.skip ?_
      exact ⟨(Sub.pick [2, 2] rfl), ⟨by simp_all, by simp_all⟩, ⟨rfl, rfl, rfl, rfl, trivial⟩⟩
    refine TO.guarded rfl rfl rfl (LT.of_quiet rfl rfl (QT.toB (q_move rfl) (Bool.eq_false_iff.2 hs27)) ?_)
    refine TO.passed rfl rfl ?_
    refine TO.passed rfl rfl ?_
    refine TO.passed rfl rfl ?_
    refine TO.guarded rfl rfl rfl (LT.of_quiet rfl rfl (q_pick0 rfl rfl) ?_)
    refine TO.quiet (q_pick0 rfl rfl) ?_
    refine TO.nil ?_
    refine T.cond0 rfl ?_
    refine T.skip ?_
    exact ⟨(Sub.pick [2, 2] rfl), ⟨by simp_all, by simp_all⟩, ⟨rfl, rfl, rfl, rfl, trivial⟩⟩
  rintro ρ O ⟨hS, ⟨hnb, hnl⟩, hH⟩
  obtain ⟨ρ0, rfl⟩ := hH.elim
  clear hH
  refine T.sub hS ?_
  have hB : BuB b := longB_no (by simp_all) hpn
  have hL : LaB l := longL_lab (by simp_all) hp8 hl8
  have hE : b.edges.length ≤ 5000 := by have := longB_ed (b := b) (by simp_all); omega
  have hlv : (livesB b).length ≤ 4096 := livesB_le b
  refine T.cut (fun ρ O => ∃ (sb2 eb2 tb2 : Option Addr) (sc2 ec2 tc2 : Nat) (qs : List Rec) (pb2 lb2 : Option Addr) (pc2 lc2 zB zL : Nat), nums qs = b.sets ∧ O = ([oI zB 26 (buCells b sb2 sc2 eb2 ec2 tb2 tc2), oI zL 29 (laCells l pb2 pc2 lb2 lc2), rowI sb2 sc2 3 1 (ints b.start), rowI eb2 ec2 54 4 (edsC b.edges), rowI tb2 tc2 22 1 (vals qs), rowI pb2 pc2 5 1 (byts l.pre), rowI lb2 lc2 5 1 (byts l.loop), oI bx2 29 (laCells l pb pc lb lc), oI bx1 26 (buCells b sb sc eb ec tb tc)] ++ (itms 3 qs)) ∧ Heads [(0, (.agg (buCells b sb sc eb ec tb tc).toArray)), (1, (.agg (laCells l pb pc lb lc).toArray)), (2, (.pointer (some ⟨bx1, 0, none⟩))), (3, (.pointer (some ⟨bx2, 0, none⟩))), (5, (.pointer (some ⟨zB, 0, none⟩))), (6, (.pointer (some ⟨zL, 0, none⟩)))] ρ) ?_ ?_
  · refine T.tree [oI bx2 29 (laCells l pb pc lb lc), oI bx1 26 (buCells b sb sc eb ec tb tc)] 8 mixed rfl (Sub.pick [0, 0] rfl) (fun _ _ _ h => h) ?_
    refine RO.quietT 0 rfl (by kernel_rfl) (q_load_boxAgg 1 Try.underlying26 rfl inf26 rfl rfl rfl) ?_
    refine RO.quietT 2 rfl (by kernel_rfl) (q_load_boxAgg 0 Try.underlying29 rfl inf29 rfl rfl rfl) ?_
    have hk35 := fun (w1 : World) (hI : Inv w [oI bx2 29 (laCells l pb pc lb lc), oI bx1 26 (buCells b sb sc eb ec tb tc)] w1) => copyBuchi w1 b sb eb tb sc ec tc vs (hI.bu h) hB
    refine RO.fork [1, 4, 5] (by kernel_rfl) rfl ⟨⟨_, rfl, rfl, l_call ent15 (CallT.of_pure hk35) rfl ?_⟩, ⟨_, rfl, rfl, l_alloc inf26 rfl (fun zB => ⟨Sub.pick [1, 1] rfl, ?_⟩)⟩, ⟨_, rfl, rfl, l_alloc inf29 rfl (fun zL => ⟨Sub.pick [1, 1] rfl, ?_⟩)⟩, trivial⟩
    · clear hk35
      rintro vr O' ⟨N, rfl, sb2, eb2, tb2, sc2, ec2, tc2, qs, rfl, rfl, hqs⟩
      refine ⟨Sub.cnt ([rowI sb2 sc2 3 1 (ints b.start), rowI eb2 ec2 54 4 (edsC b.edges), rowI tb2 tc2 22 1 (vals qs)] ++ (itms 3 qs)) (by intro a; simp only [itms, oI, List.set_cons_zero, List.set_cons_succ, putL, List.cons_append, List.nil_append, List.append_nil, List.append_assoc, List.map_append, List.map_cons, List.map_nil, cnt_append, cnt_cons, cnt_nil, buCells, laCells] <;> omega), ?_⟩
      refine RO.sub (O' := ([rowI sb2 sc2 3 1 (ints b.start), rowI eb2 ec2 54 4 (edsC b.edges), rowI tb2 tc2 22 1 (vals qs), oI bx2 29 (laCells l pb pc lb lc), oI bx1 26 (buCells b sb sc eb ec tb tc)] ++ (itms 3 qs))) (Sub.cnt [] (by intro a; simp only [itms, oI, List.set_cons_zero, List.set_cons_succ, putL, List.cons_append, List.nil_append, List.append_nil, List.append_assoc, List.map_append, List.map_cons, List.map_nil, cnt_append, cnt_cons, cnt_nil, buCells, laCells] <;> omega)) ?_
      have hk37 := fun (w1 : World) (hI : Inv w ([rowI sb2 sc2 3 1 (ints b.start), rowI eb2 ec2 54 4 (edsC b.edges), rowI tb2 tc2 22 1 (vals qs), oI bx2 29 (laCells l pb pc lb lc), oI bx1 26 (buCells b sb sc eb ec tb tc)] ++ (itms 3 qs)) w1) => ownLa w1 l pb lb pc lc (hI.la h2) hL
      refine RO.fork [3, 4, 5] (by kernel_rfl) rfl ⟨⟨_, rfl, rfl, l_call ent16 (CallT.of_pure hk37) rfl ?_⟩, ⟨_, rfl, rfl, l_alloc inf26 rfl (fun zB => ⟨Sub.pick0 [4, 4] [oI zB 26 [(.int .i64 0), (.int .i64 0), (.slice none 0 0), (.slice none 0 0), (.slice none 0 0)], rowI sb2 sc2 3 1 (ints b.start), rowI eb2 ec2 54 4 (edsC b.edges), rowI tb2 tc2 22 1 (vals qs), oI bx2 29 (laCells l pb pc lb lc), oI bx1 26 (buCells b sb sc eb ec tb tc)] (itms 3 qs) rfl rfl, ?_⟩)⟩, ⟨_, rfl, rfl, l_alloc inf29 rfl (fun zL => ⟨Sub.pick0 [4, 4] [oI zL 29 [(.slice none 0 0), (.slice none 0 0)], rowI sb2 sc2 3 1 (ints b.start), rowI eb2 ec2 54 4 (edsC b.edges), rowI tb2 tc2 22 1 (vals qs), oI bx2 29 (laCells l pb pc lb lc), oI bx1 26 (buCells b sb sc eb ec tb tc)] (itms 3 qs) rfl rfl, ?_⟩)⟩, trivial⟩
      · clear hk37
        rintro vr O' ⟨N, rfl, pb2, lb2, pc2, lc2, rfl, rfl⟩
        refine ⟨Sub.pick0 [5, 5] [rowI pb2 pc2 5 1 (byts l.pre), rowI lb2 lc2 5 1 (byts l.loop), rowI sb2 sc2 3 1 (ints b.start), rowI eb2 ec2 54 4 (edsC b.edges), rowI tb2 tc2 22 1 (vals qs), oI bx2 29 (laCells l pb pc lb lc), oI bx1 26 (buCells b sb sc eb ec tb tc)] (itms 3 qs) rfl rfl, ?_⟩
        refine RO.fork [4, 5] (by kernel_rfl) rfl ⟨⟨_, rfl, rfl, l_alloc inf26 rfl (fun zB => ⟨Sub.pick0 [6, 6] [oI zB 26 [(.int .i64 0), (.int .i64 0), (.slice none 0 0), (.slice none 0 0), (.slice none 0 0)], rowI pb2 pc2 5 1 (byts l.pre), rowI lb2 lc2 5 1 (byts l.loop), rowI sb2 sc2 3 1 (ints b.start), rowI eb2 ec2 54 4 (edsC b.edges), rowI tb2 tc2 22 1 (vals qs), oI bx2 29 (laCells l pb pc lb lc), oI bx1 26 (buCells b sb sc eb ec tb tc)] (itms 3 qs) rfl rfl, ?_⟩)⟩, ⟨_, rfl, rfl, l_alloc inf29 rfl (fun zL => ⟨Sub.pick0 [6, 6] [oI zL 29 [(.slice none 0 0), (.slice none 0 0)], rowI pb2 pc2 5 1 (byts l.pre), rowI lb2 lc2 5 1 (byts l.loop), rowI sb2 sc2 3 1 (ints b.start), rowI eb2 ec2 54 4 (edsC b.edges), rowI tb2 tc2 22 1 (vals qs), oI bx2 29 (laCells l pb pc lb lc), oI bx1 26 (buCells b sb sc eb ec tb tc)] (itms 3 qs) rfl rfl, ?_⟩)⟩, trivial⟩
        · refine RO.fork [5] (by kernel_rfl) rfl ⟨⟨_, rfl, rfl, l_alloc inf29 rfl (fun zL => ⟨Sub.pick0 [7, 7] [oI zL 29 [(.slice none 0 0), (.slice none 0 0)], oI zB 26 [(.int .i64 0), (.int .i64 0), (.slice none 0 0), (.slice none 0 0), (.slice none 0 0)], rowI pb2 pc2 5 1 (byts l.pre), rowI lb2 lc2 5 1 (byts l.loop), rowI sb2 sc2 3 1 (ints b.start), rowI eb2 ec2 54 4 (edsC b.edges), rowI tb2 tc2 22 1 (vals qs), oI bx2 29 (laCells l pb pc lb lc), oI bx1 26 (buCells b sb sc eb ec tb tc)] (itms 3 qs) rfl rfl, ?_⟩)⟩, trivial⟩
          refine RO.fork [6] (by kernel_rfl) rfl ⟨⟨_, rfl, rfl, l_store_box (v := (.agg (buCells b sb2 sc2 eb2 ec2 tb2 tc2).toArray)) (vs := (buCells b sb2 sc2 eb2 ec2 tb2 tc2)) 1 inf26 rfl rfl rfl rfl rfl rfl (by simp [putL]) ⟨Sub.pick0 [7, 7] [oI zL 29 [(.slice none 0 0), (.slice none 0 0)], oI zB 26 (buCells b sb2 sc2 eb2 ec2 tb2 tc2), rowI pb2 pc2 5 1 (byts l.pre), rowI lb2 lc2 5 1 (byts l.loop), rowI sb2 sc2 3 1 (ints b.start), rowI eb2 ec2 54 4 (edsC b.edges), rowI tb2 tc2 22 1 (vals qs), oI bx2 29 (laCells l pb pc lb lc), oI bx1 26 (buCells b sb sc eb ec tb tc)] (itms 3 qs) rfl rfl, ?_⟩⟩, trivial⟩
          refine RO.fork [7] (by kernel_rfl) rfl ⟨⟨_, rfl, rfl, l_store_box (v := (.agg (laCells l pb2 pc2 lb2 lc2).toArray)) (vs := (laCells l pb2 pc2 lb2 lc2)) 0 inf29 rfl rfl rfl rfl rfl rfl (by simp [putL]) ⟨Sub.pick0 [7, 7] [oI zL 29 (laCells l pb2 pc2 lb2 lc2), oI zB 26 (buCells b sb2 sc2 eb2 ec2 tb2 tc2), rowI pb2 pc2 5 1 (byts l.pre), rowI lb2 lc2 5 1 (byts l.loop), rowI sb2 sc2 3 1 (ints b.start), rowI eb2 ec2 54 4 (edsC b.edges), rowI tb2 tc2 22 1 (vals qs), oI bx2 29 (laCells l pb pc lb lc), oI bx1 26 (buCells b sb sc eb ec tb tc)] (itms 3 qs) rfl rfl, ?_⟩⟩, trivial⟩
          exact RO.fin (by kernel_rfl) ⟨sb2, eb2, tb2, sc2, ec2, tc2, qs, pb2, lb2, pc2, lc2, zB, zL, hqs, rfl, ⟨rfl, rfl, rfl, rfl, rfl, rfl, trivial⟩⟩ (Sub.pickR [1, 0, 2, 2, 2, 0, 0, 0, 0] [oI zL 29 (laCells l pb2 pc2 lb2 lc2), oI zB 26 (buCells b sb2 sc2 eb2 ec2 tb2 tc2), rowI pb2 pc2 5 1 (byts l.pre), rowI lb2 lc2 5 1 (byts l.loop), rowI sb2 sc2 3 1 (ints b.start), rowI eb2 ec2 54 4 (edsC b.edges), rowI tb2 tc2 22 1 (vals qs), oI bx2 29 (laCells l pb pc lb lc), oI bx1 26 (buCells b sb sc eb ec tb tc)] (itms 3 qs) rfl rfl)
        refine RO.fork [4] (by kernel_rfl) rfl ⟨⟨_, rfl, rfl, l_alloc inf26 rfl (fun zB => ⟨Sub.pick0 [7, 7] [oI zB 26 [(.int .i64 0), (.int .i64 0), (.slice none 0 0), (.slice none 0 0), (.slice none 0 0)], oI zL 29 [(.slice none 0 0), (.slice none 0 0)], rowI pb2 pc2 5 1 (byts l.pre), rowI lb2 lc2 5 1 (byts l.loop), rowI sb2 sc2 3 1 (ints b.start), rowI eb2 ec2 54 4 (edsC b.edges), rowI tb2 tc2 22 1 (vals qs), oI bx2 29 (laCells l pb pc lb lc), oI bx1 26 (buCells b sb sc eb ec tb tc)] (itms 3 qs) rfl rfl, ?_⟩)⟩, trivial⟩
        refine RO.fork [6] (by kernel_rfl) rfl ⟨⟨_, rfl, rfl, l_store_box (v := (.agg (buCells b sb2 sc2 eb2 ec2 tb2 tc2).toArray)) (vs := (buCells b sb2 sc2 eb2 ec2 tb2 tc2)) 0 inf26 rfl rfl rfl rfl rfl rfl (by simp [putL]) ⟨Sub.pick0 [7, 7] [oI zB 26 (buCells b sb2 sc2 eb2 ec2 tb2 tc2), oI zL 29 [(.slice none 0 0), (.slice none 0 0)], rowI pb2 pc2 5 1 (byts l.pre), rowI lb2 lc2 5 1 (byts l.loop), rowI sb2 sc2 3 1 (ints b.start), rowI eb2 ec2 54 4 (edsC b.edges), rowI tb2 tc2 22 1 (vals qs), oI bx2 29 (laCells l pb pc lb lc), oI bx1 26 (buCells b sb sc eb ec tb tc)] (itms 3 qs) rfl rfl, ?_⟩⟩, trivial⟩
        refine RO.fork [7] (by kernel_rfl) rfl ⟨⟨_, rfl, rfl, l_store_box (v := (.agg (laCells l pb2 pc2 lb2 lc2).toArray)) (vs := (laCells l pb2 pc2 lb2 lc2)) 1 inf29 rfl rfl rfl rfl rfl rfl (by simp [putL]) ⟨Sub.pick0 [7, 7] [oI zB 26 (buCells b sb2 sc2 eb2 ec2 tb2 tc2), oI zL 29 (laCells l pb2 pc2 lb2 lc2), rowI pb2 pc2 5 1 (byts l.pre), rowI lb2 lc2 5 1 (byts l.loop), rowI sb2 sc2 3 1 (ints b.start), rowI eb2 ec2 54 4 (edsC b.edges), rowI tb2 tc2 22 1 (vals qs), oI bx2 29 (laCells l pb pc lb lc), oI bx1 26 (buCells b sb sc eb ec tb tc)] (itms 3 qs) rfl rfl, ?_⟩⟩, trivial⟩
        exact RO.fin (by kernel_rfl) ⟨sb2, eb2, tb2, sc2, ec2, tc2, qs, pb2, lb2, pc2, lc2, zB, zL, hqs, rfl, ⟨rfl, rfl, rfl, rfl, rfl, rfl, trivial⟩⟩ (Sub.pickR [0, 0, 2, 2, 2, 0, 0, 0, 0] [oI zB 26 (buCells b sb2 sc2 eb2 ec2 tb2 tc2), oI zL 29 (laCells l pb2 pc2 lb2 lc2), rowI pb2 pc2 5 1 (byts l.pre), rowI lb2 lc2 5 1 (byts l.loop), rowI sb2 sc2 3 1 (ints b.start), rowI eb2 ec2 54 4 (edsC b.edges), rowI tb2 tc2 22 1 (vals qs), oI bx2 29 (laCells l pb pc lb lc), oI bx1 26 (buCells b sb sc eb ec tb tc)] (itms 3 qs) rfl rfl)
      · have hk37 := fun (w1 : World) (hI : Inv w ([oI zB 26 [(.int .i64 0), (.int .i64 0), (.slice none 0 0), (.slice none 0 0), (.slice none 0 0)], rowI sb2 sc2 3 1 (ints b.start), rowI eb2 ec2 54 4 (edsC b.edges), rowI tb2 tc2 22 1 (vals qs), oI bx2 29 (laCells l pb pc lb lc), oI bx1 26 (buCells b sb sc eb ec tb tc)] ++ (itms 3 qs)) w1) => ownLa w1 l pb lb pc lc (hI.la h2) hL
        refine RO.fork [3, 5] (by kernel_rfl) rfl ⟨⟨_, rfl, rfl, l_call ent16 (CallT.of_pure hk37) rfl ?_⟩, ⟨_, rfl, rfl, l_alloc inf29 rfl (fun zL => ⟨Sub.pick0 [5, 5] [oI zL 29 [(.slice none 0 0), (.slice none 0 0)], oI zB 26 [(.int .i64 0), (.int .i64 0), (.slice none 0 0), (.slice none 0 0), (.slice none 0 0)], rowI sb2 sc2 3 1 (ints b.start), rowI eb2 ec2 54 4 (edsC b.edges), rowI tb2 tc2 22 1 (vals qs), oI bx2 29 (laCells l pb pc lb lc), oI bx1 26 (buCells b sb sc eb ec tb tc)] (itms 3 qs) rfl rfl, ?_⟩)⟩, trivial⟩
        · clear hk37
          rintro vr O' ⟨N, rfl, pb2, lb2, pc2, lc2, rfl, rfl⟩
          refine ⟨Sub.pick0 [6, 6] [rowI pb2 pc2 5 1 (byts l.pre), rowI lb2 lc2 5 1 (byts l.loop), oI zB 26 [(.int .i64 0), (.int .i64 0), (.slice none 0 0), (.slice none 0 0), (.slice none 0 0)], rowI sb2 sc2 3 1 (ints b.start), rowI eb2 ec2 54 4 (edsC b.edges), rowI tb2 tc2 22 1 (vals qs), oI bx2 29 (laCells l pb pc lb lc), oI bx1 26 (buCells b sb sc eb ec tb tc)] (itms 3 qs) rfl rfl, ?_⟩
          refine RO.fork [5] (by kernel_rfl) rfl ⟨⟨_, rfl, rfl, l_alloc inf29 rfl (fun zL => ⟨Sub.pick0 [7, 7] [oI zL 29 [(.slice none 0 0), (.slice none 0 0)], rowI pb2 pc2 5 1 (byts l.pre), rowI lb2 lc2 5 1 (byts l.loop), oI zB 26 [(.int .i64 0), (.int .i64 0), (.slice none 0 0), (.slice none 0 0), (.slice none 0 0)], rowI sb2 sc2 3 1 (ints b.start), rowI eb2 ec2 54 4 (edsC b.edges), rowI tb2 tc2 22 1 (vals qs), oI bx2 29 (laCells l pb pc lb lc), oI bx1 26 (buCells b sb sc eb ec tb tc)] (itms 3 qs) rfl rfl, ?_⟩)⟩, trivial⟩
          refine RO.fork [6] (by kernel_rfl) rfl ⟨⟨_, rfl, rfl, l_store_box (v := (.agg (buCells b sb2 sc2 eb2 ec2 tb2 tc2).toArray)) (vs := (buCells b sb2 sc2 eb2 ec2 tb2 tc2)) 3 inf26 rfl rfl rfl rfl rfl rfl (by simp [putL]) ⟨Sub.pick0 [7, 7] [oI zL 29 [(.slice none 0 0), (.slice none 0 0)], rowI pb2 pc2 5 1 (byts l.pre), rowI lb2 lc2 5 1 (byts l.loop), oI zB 26 (buCells b sb2 sc2 eb2 ec2 tb2 tc2), rowI sb2 sc2 3 1 (ints b.start), rowI eb2 ec2 54 4 (edsC b.edges), rowI tb2 tc2 22 1 (vals qs), oI bx2 29 (laCells l pb pc lb lc), oI bx1 26 (buCells b sb sc eb ec tb tc)] (itms 3 qs) rfl rfl, ?_⟩⟩, trivial⟩
          refine RO.fork [7] (by kernel_rfl) rfl ⟨⟨_, rfl, rfl, l_store_box (v := (.agg (laCells l pb2 pc2 lb2 lc2).toArray)) (vs := (laCells l pb2 pc2 lb2 lc2)) 0 inf29 rfl rfl rfl rfl rfl rfl (by simp [putL]) ⟨Sub.pick0 [7, 7] [oI zL 29 (laCells l pb2 pc2 lb2 lc2), rowI pb2 pc2 5 1 (byts l.pre), rowI lb2 lc2 5 1 (byts l.loop), oI zB 26 (buCells b sb2 sc2 eb2 ec2 tb2 tc2), rowI sb2 sc2 3 1 (ints b.start), rowI eb2 ec2 54 4 (edsC b.edges), rowI tb2 tc2 22 1 (vals qs), oI bx2 29 (laCells l pb pc lb lc), oI bx1 26 (buCells b sb sc eb ec tb tc)] (itms 3 qs) rfl rfl, ?_⟩⟩, trivial⟩
          exact RO.fin (by kernel_rfl) ⟨sb2, eb2, tb2, sc2, ec2, tc2, qs, pb2, lb2, pc2, lc2, zB, zL, hqs, rfl, ⟨rfl, rfl, rfl, rfl, rfl, rfl, trivial⟩⟩ (Sub.pickR [3, 0, 2, 2, 2, 0, 0, 0, 0] [oI zL 29 (laCells l pb2 pc2 lb2 lc2), rowI pb2 pc2 5 1 (byts l.pre), rowI lb2 lc2 5 1 (byts l.loop), oI zB 26 (buCells b sb2 sc2 eb2 ec2 tb2 tc2), rowI sb2 sc2 3 1 (ints b.start), rowI eb2 ec2 54 4 (edsC b.edges), rowI tb2 tc2 22 1 (vals qs), oI bx2 29 (laCells l pb pc lb lc), oI bx1 26 (buCells b sb sc eb ec tb tc)] (itms 3 qs) rfl rfl)
        have hk37 := fun (w1 : World) (hI : Inv w ([oI zL 29 [(.slice none 0 0), (.slice none 0 0)], oI zB 26 [(.int .i64 0), (.int .i64 0), (.slice none 0 0), (.slice none 0 0), (.slice none 0 0)], rowI sb2 sc2 3 1 (ints b.start), rowI eb2 ec2 54 4 (edsC b.edges), rowI tb2 tc2 22 1 (vals qs), oI bx2 29 (laCells l pb pc lb lc), oI bx1 26 (buCells b sb sc eb ec tb tc)] ++ (itms 3 qs)) w1) => ownLa w1 l pb lb pc lc (hI.la h2) hL
        refine RO.fork [3] (by kernel_rfl) rfl ⟨⟨_, rfl, rfl, l_call ent16 (CallT.of_pure hk37) rfl ?_⟩, trivial⟩
        clear hk37
        rintro vr O' ⟨N, rfl, pb2, lb2, pc2, lc2, rfl, rfl⟩
        refine ⟨Sub.pick0 [7, 7] [rowI pb2 pc2 5 1 (byts l.pre), rowI lb2 lc2 5 1 (byts l.loop), oI zL 29 [(.slice none 0 0), (.slice none 0 0)], oI zB 26 [(.int .i64 0), (.int .i64 0), (.slice none 0 0), (.slice none 0 0), (.slice none 0 0)], rowI sb2 sc2 3 1 (ints b.start), rowI eb2 ec2 54 4 (edsC b.edges), rowI tb2 tc2 22 1 (vals qs), oI bx2 29 (laCells l pb pc lb lc), oI bx1 26 (buCells b sb sc eb ec tb tc)] (itms 3 qs) rfl rfl, ?_⟩
        refine RO.fork [6] (by kernel_rfl) rfl ⟨⟨_, rfl, rfl, l_store_box (v := (.agg (buCells b sb2 sc2 eb2 ec2 tb2 tc2).toArray)) (vs := (buCells b sb2 sc2 eb2 ec2 tb2 tc2)) 3 inf26 rfl rfl rfl rfl rfl rfl (by simp [putL]) ⟨Sub.pick0 [7, 7] [rowI pb2 pc2 5 1 (byts l.pre), rowI lb2 lc2 5 1 (byts l.loop), oI zL 29 [(.slice none 0 0), (.slice none 0 0)], oI zB 26 (buCells b sb2 sc2 eb2 ec2 tb2 tc2), rowI sb2 sc2 3 1 (ints b.start), rowI eb2 ec2 54 4 (edsC b.edges), rowI tb2 tc2 22 1 (vals qs), oI bx2 29 (laCells l pb pc lb lc), oI bx1 26 (buCells b sb sc eb ec tb tc)] (itms 3 qs) rfl rfl, ?_⟩⟩, trivial⟩
        refine RO.fork [7] (by kernel_rfl) rfl ⟨⟨_, rfl, rfl, l_store_box (v := (.agg (laCells l pb2 pc2 lb2 lc2).toArray)) (vs := (laCells l pb2 pc2 lb2 lc2)) 2 inf29 rfl rfl rfl rfl rfl rfl (by simp [putL]) ⟨Sub.pick0 [7, 7] [rowI pb2 pc2 5 1 (byts l.pre), rowI lb2 lc2 5 1 (byts l.loop), oI zL 29 (laCells l pb2 pc2 lb2 lc2), oI zB 26 (buCells b sb2 sc2 eb2 ec2 tb2 tc2), rowI sb2 sc2 3 1 (ints b.start), rowI eb2 ec2 54 4 (edsC b.edges), rowI tb2 tc2 22 1 (vals qs), oI bx2 29 (laCells l pb pc lb lc), oI bx1 26 (buCells b sb sc eb ec tb tc)] (itms 3 qs) rfl rfl, ?_⟩⟩, trivial⟩
        exact RO.fin (by kernel_rfl) ⟨sb2, eb2, tb2, sc2, ec2, tc2, qs, pb2, lb2, pc2, lc2, zB, zL, hqs, rfl, ⟨rfl, rfl, rfl, rfl, rfl, rfl, trivial⟩⟩ (Sub.pickR [3, 2, 2, 2, 2, 0, 0, 0, 0] [rowI pb2 pc2 5 1 (byts l.pre), rowI lb2 lc2 5 1 (byts l.loop), oI zL 29 (laCells l pb2 pc2 lb2 lc2), oI zB 26 (buCells b sb2 sc2 eb2 ec2 tb2 tc2), rowI sb2 sc2 3 1 (ints b.start), rowI eb2 ec2 54 4 (edsC b.edges), rowI tb2 tc2 22 1 (vals qs), oI bx2 29 (laCells l pb pc lb lc), oI bx1 26 (buCells b sb sc eb ec tb tc)] (itms 3 qs) rfl rfl)
      have hk37 := fun (w1 : World) (hI : Inv w ([oI zL 29 [(.slice none 0 0), (.slice none 0 0)], rowI sb2 sc2 3 1 (ints b.start), rowI eb2 ec2 54 4 (edsC b.edges), rowI tb2 tc2 22 1 (vals qs), oI bx2 29 (laCells l pb pc lb lc), oI bx1 26 (buCells b sb sc eb ec tb tc)] ++ (itms 3 qs)) w1) => ownLa w1 l pb lb pc lc (hI.la h2) hL
      refine RO.fork [3, 4] (by kernel_rfl) rfl ⟨⟨_, rfl, rfl, l_call ent16 (CallT.of_pure hk37) rfl ?_⟩, ⟨_, rfl, rfl, l_alloc inf26 rfl (fun zB => ⟨Sub.pick0 [5, 5] [oI zB 26 [(.int .i64 0), (.int .i64 0), (.slice none 0 0), (.slice none 0 0), (.slice none 0 0)], oI zL 29 [(.slice none 0 0), (.slice none 0 0)], rowI sb2 sc2 3 1 (ints b.start), rowI eb2 ec2 54 4 (edsC b.edges), rowI tb2 tc2 22 1 (vals qs), oI bx2 29 (laCells l pb pc lb lc), oI bx1 26 (buCells b sb sc eb ec tb tc)] (itms 3 qs) rfl rfl, ?_⟩)⟩, trivial⟩
      · clear hk37
        rintro vr O' ⟨N, rfl, pb2, lb2, pc2, lc2, rfl, rfl⟩
        refine ⟨Sub.pick0 [6, 6] [rowI pb2 pc2 5 1 (byts l.pre), rowI lb2 lc2 5 1 (byts l.loop), oI zL 29 [(.slice none 0 0), (.slice none 0 0)], rowI sb2 sc2 3 1 (ints b.start), rowI eb2 ec2 54 4 (edsC b.edges), rowI tb2 tc2 22 1 (vals qs), oI bx2 29 (laCells l pb pc lb lc), oI bx1 26 (buCells b sb sc eb ec tb tc)] (itms 3 qs) rfl rfl, ?_⟩
        refine RO.fork [4] (by kernel_rfl) rfl ⟨⟨_, rfl, rfl, l_alloc inf26 rfl (fun zB => ⟨Sub.pick0 [7, 7] [oI zB 26 [(.int .i64 0), (.int .i64 0), (.slice none 0 0), (.slice none 0 0), (.slice none 0 0)], rowI pb2 pc2 5 1 (byts l.pre), rowI lb2 lc2 5 1 (byts l.loop), oI zL 29 [(.slice none 0 0), (.slice none 0 0)], rowI sb2 sc2 3 1 (ints b.start), rowI eb2 ec2 54 4 (edsC b.edges), rowI tb2 tc2 22 1 (vals qs), oI bx2 29 (laCells l pb pc lb lc), oI bx1 26 (buCells b sb sc eb ec tb tc)] (itms 3 qs) rfl rfl, ?_⟩)⟩, trivial⟩
        refine RO.fork [6] (by kernel_rfl) rfl ⟨⟨_, rfl, rfl, l_store_box (v := (.agg (buCells b sb2 sc2 eb2 ec2 tb2 tc2).toArray)) (vs := (buCells b sb2 sc2 eb2 ec2 tb2 tc2)) 0 inf26 rfl rfl rfl rfl rfl rfl (by simp [putL]) ⟨Sub.pick0 [7, 7] [oI zB 26 (buCells b sb2 sc2 eb2 ec2 tb2 tc2), rowI pb2 pc2 5 1 (byts l.pre), rowI lb2 lc2 5 1 (byts l.loop), oI zL 29 [(.slice none 0 0), (.slice none 0 0)], rowI sb2 sc2 3 1 (ints b.start), rowI eb2 ec2 54 4 (edsC b.edges), rowI tb2 tc2 22 1 (vals qs), oI bx2 29 (laCells l pb pc lb lc), oI bx1 26 (buCells b sb sc eb ec tb tc)] (itms 3 qs) rfl rfl, ?_⟩⟩, trivial⟩
        refine RO.fork [7] (by kernel_rfl) rfl ⟨⟨_, rfl, rfl, l_store_box (v := (.agg (laCells l pb2 pc2 lb2 lc2).toArray)) (vs := (laCells l pb2 pc2 lb2 lc2)) 3 inf29 rfl rfl rfl rfl rfl rfl (by simp [putL]) ⟨Sub.pick0 [7, 7] [oI zB 26 (buCells b sb2 sc2 eb2 ec2 tb2 tc2), rowI pb2 pc2 5 1 (byts l.pre), rowI lb2 lc2 5 1 (byts l.loop), oI zL 29 (laCells l pb2 pc2 lb2 lc2), rowI sb2 sc2 3 1 (ints b.start), rowI eb2 ec2 54 4 (edsC b.edges), rowI tb2 tc2 22 1 (vals qs), oI bx2 29 (laCells l pb pc lb lc), oI bx1 26 (buCells b sb sc eb ec tb tc)] (itms 3 qs) rfl rfl, ?_⟩⟩, trivial⟩
        exact RO.fin (by kernel_rfl) ⟨sb2, eb2, tb2, sc2, ec2, tc2, qs, pb2, lb2, pc2, lc2, zB, zL, hqs, rfl, ⟨rfl, rfl, rfl, rfl, rfl, rfl, trivial⟩⟩ (Sub.pickR [0, 2, 2, 2, 2, 0, 0, 0, 0] [oI zB 26 (buCells b sb2 sc2 eb2 ec2 tb2 tc2), rowI pb2 pc2 5 1 (byts l.pre), rowI lb2 lc2 5 1 (byts l.loop), oI zL 29 (laCells l pb2 pc2 lb2 lc2), rowI sb2 sc2 3 1 (ints b.start), rowI eb2 ec2 54 4 (edsC b.edges), rowI tb2 tc2 22 1 (vals qs), oI bx2 29 (laCells l pb pc lb lc), oI bx1 26 (buCells b sb sc eb ec tb tc)] (itms 3 qs) rfl rfl)
      have hk37 := fun (w1 : World) (hI : Inv w ([oI zB 26 [(.int .i64 0), (.int .i64 0), (.slice none 0 0), (.slice none 0 0), (.slice none 0 0)], oI zL 29 [(.slice none 0 0), (.slice none 0 0)], rowI sb2 sc2 3 1 (ints b.start), rowI eb2 ec2 54 4 (edsC b.edges), rowI tb2 tc2 22 1 (vals qs), oI bx2 29 (laCells l pb pc lb lc), oI bx1 26 (buCells b sb sc eb ec tb tc)] ++ (itms 3 qs)) w1) => ownLa w1 l pb lb pc lc (hI.la h2) hL
      refine RO.fork [3] (by kernel_rfl) rfl ⟨⟨_, rfl, rfl, l_call ent16 (CallT.of_pure hk37) rfl ?_⟩, trivial⟩
      clear hk37
      rintro vr O' ⟨N, rfl, pb2, lb2, pc2, lc2, rfl, rfl⟩
      refine ⟨Sub.pick0 [7, 7] [rowI pb2 pc2 5 1 (byts l.pre), rowI lb2 lc2 5 1 (byts l.loop), oI zB 26 [(.int .i64 0), (.int .i64 0), (.slice none 0 0), (.slice none 0 0), (.slice none 0 0)], oI zL 29 [(.slice none 0 0), (.slice none 0 0)], rowI sb2 sc2 3 1 (ints b.start), rowI eb2 ec2 54 4 (edsC b.edges), rowI tb2 tc2 22 1 (vals qs), oI bx2 29 (laCells l pb pc lb lc), oI bx1 26 (buCells b sb sc eb ec tb tc)] (itms 3 qs) rfl rfl, ?_⟩
      refine RO.fork [6] (by kernel_rfl) rfl ⟨⟨_, rfl, rfl, l_store_box (v := (.agg (buCells b sb2 sc2 eb2 ec2 tb2 tc2).toArray)) (vs := (buCells b sb2 sc2 eb2 ec2 tb2 tc2)) 2 inf26 rfl rfl rfl rfl rfl rfl (by simp [putL]) ⟨Sub.pick0 [7, 7] [rowI pb2 pc2 5 1 (byts l.pre), rowI lb2 lc2 5 1 (byts l.loop), oI zB 26 (buCells b sb2 sc2 eb2 ec2 tb2 tc2), oI zL 29 [(.slice none 0 0), (.slice none 0 0)], rowI sb2 sc2 3 1 (ints b.start), rowI eb2 ec2 54 4 (edsC b.edges), rowI tb2 tc2 22 1 (vals qs), oI bx2 29 (laCells l pb pc lb lc), oI bx1 26 (buCells b sb sc eb ec tb tc)] (itms 3 qs) rfl rfl, ?_⟩⟩, trivial⟩
      refine RO.fork [7] (by kernel_rfl) rfl ⟨⟨_, rfl, rfl, l_store_box (v := (.agg (laCells l pb2 pc2 lb2 lc2).toArray)) (vs := (laCells l pb2 pc2 lb2 lc2)) 3 inf29 rfl rfl rfl rfl rfl rfl (by simp [putL]) ⟨Sub.pick0 [7, 7] [rowI pb2 pc2 5 1 (byts l.pre), rowI lb2 lc2 5 1 (byts l.loop), oI zB 26 (buCells b sb2 sc2 eb2 ec2 tb2 tc2), oI zL 29 (laCells l pb2 pc2 lb2 lc2), rowI sb2 sc2 3 1 (ints b.start), rowI eb2 ec2 54 4 (edsC b.edges), rowI tb2 tc2 22 1 (vals qs), oI bx2 29 (laCells l pb pc lb lc), oI bx1 26 (buCells b sb sc eb ec tb tc)] (itms 3 qs) rfl rfl, ?_⟩⟩, trivial⟩
      exact RO.fin (by kernel_rfl) ⟨sb2, eb2, tb2, sc2, ec2, tc2, qs, pb2, lb2, pc2, lc2, zB, zL, hqs, rfl, ⟨rfl, rfl, rfl, rfl, rfl, rfl, trivial⟩⟩ (Sub.pickR [2, 2, 2, 2, 2, 0, 0, 0, 0] [rowI pb2 pc2 5 1 (byts l.pre), rowI lb2 lc2 5 1 (byts l.loop), oI zB 26 (buCells b sb2 sc2 eb2 ec2 tb2 tc2), oI zL 29 (laCells l pb2 pc2 lb2 lc2), rowI sb2 sc2 3 1 (ints b.start), rowI eb2 ec2 54 4 (edsC b.edges), rowI tb2 tc2 22 1 (vals qs), oI bx2 29 (laCells l pb pc lb lc), oI bx1 26 (buCells b sb sc eb ec tb tc)] (itms 3 qs) rfl rfl)
    · have hk35 := fun (w1 : World) (hI : Inv w [oI zB 26 [(.int .i64 0), (.int .i64 0), (.slice none 0 0), (.slice none 0 0), (.slice none 0 0)], oI bx2 29 (laCells l pb pc lb lc), oI bx1 26 (buCells b sb sc eb ec tb tc)] w1) => copyBuchi w1 b sb eb tb sc ec tc vs (hI.bu h) hB
      refine RO.fork [1, 5] (by kernel_rfl) rfl ⟨⟨_, rfl, rfl, l_call ent15 (CallT.of_pure hk35) rfl ?_⟩, ⟨_, rfl, rfl, l_alloc inf29 rfl (fun zL => ⟨Sub.pick [2, 2] rfl, ?_⟩)⟩, trivial⟩
      · clear hk35
        rintro vr O' ⟨N, rfl, sb2, eb2, tb2, sc2, ec2, tc2, qs, rfl, rfl, hqs⟩
        refine ⟨Sub.cnt ([rowI sb2 sc2 3 1 (ints b.start), rowI eb2 ec2 54 4 (edsC b.edges), rowI tb2 tc2 22 1 (vals qs), oI zB 26 [(.int .i64 0), (.int .i64 0), (.slice none 0 0), (.slice none 0 0), (.slice none 0 0)]] ++ (itms 3 qs)) (by intro a; simp only [itms, oI, List.set_cons_zero, List.set_cons_succ, putL, List.cons_append, List.nil_append, List.append_nil, List.append_assoc, List.map_append, List.map_cons, List.map_nil, cnt_append, cnt_cons, cnt_nil, buCells, laCells] <;> omega), ?_⟩
        refine RO.sub (O' := ([rowI sb2 sc2 3 1 (ints b.start), rowI eb2 ec2 54 4 (edsC b.edges), rowI tb2 tc2 22 1 (vals qs), oI zB 26 [(.int .i64 0), (.int .i64 0), (.slice none 0 0), (.slice none 0 0), (.slice none 0 0)], oI bx2 29 (laCells l pb pc lb lc), oI bx1 26 (buCells b sb sc eb ec tb tc)] ++ (itms 3 qs))) (Sub.cnt [] (by intro a; simp only [itms, oI, List.set_cons_zero, List.set_cons_succ, putL, List.cons_append, List.nil_append, List.append_nil, List.append_assoc, List.map_append, List.map_cons, List.map_nil, cnt_append, cnt_cons, cnt_nil, buCells, laCells] <;> omega)) ?_
        have hk37 := fun (w1 : World) (hI : Inv w ([rowI sb2 sc2 3 1 (ints b.start), rowI eb2 ec2 54 4 (edsC b.edges), rowI tb2 tc2 22 1 (vals qs), oI zB 26 [(.int .i64 0), (.int .i64 0), (.slice none 0 0), (.slice none 0 0), (.slice none 0 0)], oI bx2 29 (laCells l pb pc lb lc), oI bx1 26 (buCells b sb sc eb ec tb tc)] ++ (itms 3 qs)) w1) => ownLa w1 l pb lb pc lc (hI.la h2) hL
        refine RO.fork [3, 5] (by kernel_rfl) rfl ⟨⟨_, rfl, rfl, l_call ent16 (CallT.of_pure hk37) rfl ?_⟩, ⟨_, rfl, rfl, l_alloc inf29 rfl (fun zL => ⟨Sub.pick0 [5, 5] [oI zL 29 [(.slice none 0 0), (.slice none 0 0)], rowI sb2 sc2 3 1 (ints b.start), rowI eb2 ec2 54 4 (edsC b.edges), rowI tb2 tc2 22 1 (vals qs), oI zB 26 [(.int .i64 0), (.int .i64 0), (.slice none 0 0), (.slice none 0 0), (.slice none 0 0)], oI bx2 29 (laCells l pb pc lb lc), oI bx1 26 (buCells b sb sc eb ec tb tc)] (itms 3 qs) rfl rfl, ?_⟩)⟩, trivial⟩
        · clear hk37
          rintro vr O' ⟨N, rfl, pb2, lb2, pc2, lc2, rfl, rfl⟩
          refine ⟨Sub.pick0 [6, 6] [rowI pb2 pc2 5 1 (byts l.pre), rowI lb2 lc2 5 1 (byts l.loop), rowI sb2 sc2 3 1 (ints b.start), rowI eb2 ec2 54 4 (edsC b.edges), rowI tb2 tc2 22 1 (vals qs), oI zB 26 [(.int .i64 0), (.int .i64 0), (.slice none 0 0), (.slice none 0 0), (.slice none 0 0)], oI bx2 29 (laCells l pb pc lb lc), oI bx1 26 (buCells b sb sc eb ec tb tc)] (itms 3 qs) rfl rfl, ?_⟩
          refine RO.fork [5] (by kernel_rfl) rfl ⟨⟨_, rfl, rfl, l_alloc inf29 rfl (fun zL => ⟨Sub.pick0 [7, 7] [oI zL 29 [(.slice none 0 0), (.slice none 0 0)], rowI pb2 pc2 5 1 (byts l.pre), rowI lb2 lc2 5 1 (byts l.loop), rowI sb2 sc2 3 1 (ints b.start), rowI eb2 ec2 54 4 (edsC b.edges), rowI tb2 tc2 22 1 (vals qs), oI zB 26 [(.int .i64 0), (.int .i64 0), (.slice none 0 0), (.slice none 0 0), (.slice none 0 0)], oI bx2 29 (laCells l pb pc lb lc), oI bx1 26 (buCells b sb sc eb ec tb tc)] (itms 3 qs) rfl rfl, ?_⟩)⟩, trivial⟩
          refine RO.fork [6] (by kernel_rfl) rfl ⟨⟨_, rfl, rfl, l_store_box (v := (.agg (buCells b sb2 sc2 eb2 ec2 tb2 tc2).toArray)) (vs := (buCells b sb2 sc2 eb2 ec2 tb2 tc2)) 6 inf26 rfl rfl rfl rfl rfl rfl (by simp [putL]) ⟨Sub.pick0 [7, 7] [oI zL 29 [(.slice none 0 0), (.slice none 0 0)], rowI pb2 pc2 5 1 (byts l.pre), rowI lb2 lc2 5 1 (byts l.loop), rowI sb2 sc2 3 1 (ints b.start), rowI eb2 ec2 54 4 (edsC b.edges), rowI tb2 tc2 22 1 (vals qs), oI zB 26 (buCells b sb2 sc2 eb2 ec2 tb2 tc2), oI bx2 29 (laCells l pb pc lb lc), oI bx1 26 (buCells b sb sc eb ec tb tc)] (itms 3 qs) rfl rfl, ?_⟩⟩, trivial⟩
          refine RO.fork [7] (by kernel_rfl) rfl ⟨⟨_, rfl, rfl, l_store_box (v := (.agg (laCells l pb2 pc2 lb2 lc2).toArray)) (vs := (laCells l pb2 pc2 lb2 lc2)) 0 inf29 rfl rfl rfl rfl rfl rfl (by simp [putL]) ⟨Sub.pick0 [7, 7] [oI zL 29 (laCells l pb2 pc2 lb2 lc2), rowI pb2 pc2 5 1 (byts l.pre), rowI lb2 lc2 5 1 (byts l.loop), rowI sb2 sc2 3 1 (ints b.start), rowI eb2 ec2 54 4 (edsC b.edges), rowI tb2 tc2 22 1 (vals qs), oI zB 26 (buCells b sb2 sc2 eb2 ec2 tb2 tc2), oI bx2 29 (laCells l pb pc lb lc), oI bx1 26 (buCells b sb sc eb ec tb tc)] (itms 3 qs) rfl rfl, ?_⟩⟩, trivial⟩
          exact RO.fin (by kernel_rfl) ⟨sb2, eb2, tb2, sc2, ec2, tc2, qs, pb2, lb2, pc2, lc2, zB, zL, hqs, rfl, ⟨rfl, rfl, rfl, rfl, rfl, rfl, trivial⟩⟩ (Sub.pickR [6, 0, 2, 2, 2, 0, 0, 0, 0] [oI zL 29 (laCells l pb2 pc2 lb2 lc2), rowI pb2 pc2 5 1 (byts l.pre), rowI lb2 lc2 5 1 (byts l.loop), rowI sb2 sc2 3 1 (ints b.start), rowI eb2 ec2 54 4 (edsC b.edges), rowI tb2 tc2 22 1 (vals qs), oI zB 26 (buCells b sb2 sc2 eb2 ec2 tb2 tc2), oI bx2 29 (laCells l pb pc lb lc), oI bx1 26 (buCells b sb sc eb ec tb tc)] (itms 3 qs) rfl rfl)
        have hk37 := fun (w1 : World) (hI : Inv w ([oI zL 29 [(.slice none 0 0), (.slice none 0 0)], rowI sb2 sc2 3 1 (ints b.start), rowI eb2 ec2 54 4 (edsC b.edges), rowI tb2 tc2 22 1 (vals qs), oI zB 26 [(.int .i64 0), (.int .i64 0), (.slice none 0 0), (.slice none 0 0), (.slice none 0 0)], oI bx2 29 (laCells l pb pc lb lc), oI bx1 26 (buCells b sb sc eb ec tb tc)] ++ (itms 3 qs)) w1) => ownLa w1 l pb lb pc lc (hI.la h2) hL
        refine RO.fork [3] (by kernel_rfl) rfl ⟨⟨_, rfl, rfl, l_call ent16 (CallT.of_pure hk37) rfl ?_⟩, trivial⟩
        clear hk37
        rintro vr O' ⟨N, rfl, pb2, lb2, pc2, lc2, rfl, rfl⟩
        refine ⟨Sub.pick0 [7, 7] [rowI pb2 pc2 5 1 (byts l.pre), rowI lb2 lc2 5 1 (byts l.loop), oI zL 29 [(.slice none 0 0), (.slice none 0 0)], rowI sb2 sc2 3 1 (ints b.start), rowI eb2 ec2 54 4 (edsC b.edges), rowI tb2 tc2 22 1 (vals qs), oI zB 26 [(.int .i64 0), (.int .i64 0), (.slice none 0 0), (.slice none 0 0), (.slice none 0 0)], oI bx2 29 (laCells l pb pc lb lc), oI bx1 26 (buCells b sb sc eb ec tb tc)] (itms 3 qs) rfl rfl, ?_⟩
        refine RO.fork [6] (by kernel_rfl) rfl ⟨⟨_, rfl, rfl, l_store_box (v := (.agg (buCells b sb2 sc2 eb2 ec2 tb2 tc2).toArray)) (vs := (buCells b sb2 sc2 eb2 ec2 tb2 tc2)) 6 inf26 rfl rfl rfl rfl rfl rfl (by simp [putL]) ⟨Sub.pick0 [7, 7] [rowI pb2 pc2 5 1 (byts l.pre), rowI lb2 lc2 5 1 (byts l.loop), oI zL 29 [(.slice none 0 0), (.slice none 0 0)], rowI sb2 sc2 3 1 (ints b.start), rowI eb2 ec2 54 4 (edsC b.edges), rowI tb2 tc2 22 1 (vals qs), oI zB 26 (buCells b sb2 sc2 eb2 ec2 tb2 tc2), oI bx2 29 (laCells l pb pc lb lc), oI bx1 26 (buCells b sb sc eb ec tb tc)] (itms 3 qs) rfl rfl, ?_⟩⟩, trivial⟩
        refine RO.fork [7] (by kernel_rfl) rfl ⟨⟨_, rfl, rfl, l_store_box (v := (.agg (laCells l pb2 pc2 lb2 lc2).toArray)) (vs := (laCells l pb2 pc2 lb2 lc2)) 2 inf29 rfl rfl rfl rfl rfl rfl (by simp [putL]) ⟨Sub.pick0 [7, 7] [rowI pb2 pc2 5 1 (byts l.pre), rowI lb2 lc2 5 1 (byts l.loop), oI zL 29 (laCells l pb2 pc2 lb2 lc2), rowI sb2 sc2 3 1 (ints b.start), rowI eb2 ec2 54 4 (edsC b.edges), rowI tb2 tc2 22 1 (vals qs), oI zB 26 (buCells b sb2 sc2 eb2 ec2 tb2 tc2), oI bx2 29 (laCells l pb pc lb lc), oI bx1 26 (buCells b sb sc eb ec tb tc)] (itms 3 qs) rfl rfl, ?_⟩⟩, trivial⟩
        exact RO.fin (by kernel_rfl) ⟨sb2, eb2, tb2, sc2, ec2, tc2, qs, pb2, lb2, pc2, lc2, zB, zL, hqs, rfl, ⟨rfl, rfl, rfl, rfl, rfl, rfl, trivial⟩⟩ (Sub.pickR [6, 2, 2, 2, 2, 0, 0, 0, 0] [rowI pb2 pc2 5 1 (byts l.pre), rowI lb2 lc2 5 1 (byts l.loop), oI zL 29 (laCells l pb2 pc2 lb2 lc2), rowI sb2 sc2 3 1 (ints b.start), rowI eb2 ec2 54 4 (edsC b.edges), rowI tb2 tc2 22 1 (vals qs), oI zB 26 (buCells b sb2 sc2 eb2 ec2 tb2 tc2), oI bx2 29 (laCells l pb pc lb lc), oI bx1 26 (buCells b sb sc eb ec tb tc)] (itms 3 qs) rfl rfl)
      have hk35 := fun (w1 : World) (hI : Inv w [oI zL 29 [(.slice none 0 0), (.slice none 0 0)], oI zB 26 [(.int .i64 0), (.int .i64 0), (.slice none 0 0), (.slice none 0 0), (.slice none 0 0)], oI bx2 29 (laCells l pb pc lb lc), oI bx1 26 (buCells b sb sc eb ec tb tc)] w1) => copyBuchi w1 b sb eb tb sc ec tc vs (hI.bu h) hB
      refine RO.fork [1] (by kernel_rfl) rfl ⟨⟨_, rfl, rfl, l_call ent15 (CallT.of_pure hk35) rfl ?_⟩, trivial⟩
      clear hk35
      rintro vr O' ⟨N, rfl, sb2, eb2, tb2, sc2, ec2, tc2, qs, rfl, rfl, hqs⟩
      refine ⟨Sub.cnt ([rowI sb2 sc2 3 1 (ints b.start), rowI eb2 ec2 54 4 (edsC b.edges), rowI tb2 tc2 22 1 (vals qs), oI zL 29 [(.slice none 0 0), (.slice none 0 0)], oI zB 26 [(.int .i64 0), (.int .i64 0), (.slice none 0 0), (.slice none 0 0), (.slice none 0 0)]] ++ (itms 3 qs)) (by intro a; simp only [itms, oI, List.set_cons_zero, List.set_cons_succ, putL, List.cons_append, List.nil_append, List.append_nil, List.append_assoc, List.map_append, List.map_cons, List.map_nil, cnt_append, cnt_cons, cnt_nil, buCells, laCells] <;> omega), ?_⟩
      refine RO.sub (O' := ([rowI sb2 sc2 3 1 (ints b.start), rowI eb2 ec2 54 4 (edsC b.edges), rowI tb2 tc2 22 1 (vals qs), oI zL 29 [(.slice none 0 0), (.slice none 0 0)], oI zB 26 [(.int .i64 0), (.int .i64 0), (.slice none 0 0), (.slice none 0 0), (.slice none 0 0)], oI bx2 29 (laCells l pb pc lb lc), oI bx1 26 (buCells b sb sc eb ec tb tc)] ++ (itms 3 qs))) (Sub.cnt [] (by intro a; simp only [itms, oI, List.set_cons_zero, List.set_cons_succ, putL, List.cons_append, List.nil_append, List.append_nil, List.append_assoc, List.map_append, List.map_cons, List.map_nil, cnt_append, cnt_cons, cnt_nil, buCells, laCells] <;> omega)) ?_
      have hk37 := fun (w1 : World) (hI : Inv w ([rowI sb2 sc2 3 1 (ints b.start), rowI eb2 ec2 54 4 (edsC b.edges), rowI tb2 tc2 22 1 (vals qs), oI zL 29 [(.slice none 0 0), (.slice none 0 0)], oI zB 26 [(.int .i64 0), (.int .i64 0), (.slice none 0 0), (.slice none 0 0), (.slice none 0 0)], oI bx2 29 (laCells l pb pc lb lc), oI bx1 26 (buCells b sb sc eb ec tb tc)] ++ (itms 3 qs)) w1) => ownLa w1 l pb lb pc lc (hI.la h2) hL
      refine RO.fork [3] (by kernel_rfl) rfl ⟨⟨_, rfl, rfl, l_call ent16 (CallT.of_pure hk37) rfl ?_⟩, trivial⟩
      clear hk37
      rintro vr O' ⟨N, rfl, pb2, lb2, pc2, lc2, rfl, rfl⟩
      refine ⟨Sub.pick0 [7, 7] [rowI pb2 pc2 5 1 (byts l.pre), rowI lb2 lc2 5 1 (byts l.loop), rowI sb2 sc2 3 1 (ints b.start), rowI eb2 ec2 54 4 (edsC b.edges), rowI tb2 tc2 22 1 (vals qs), oI zL 29 [(.slice none 0 0), (.slice none 0 0)], oI zB 26 [(.int .i64 0), (.int .i64 0), (.slice none 0 0), (.slice none 0 0), (.slice none 0 0)], oI bx2 29 (laCells l pb pc lb lc), oI bx1 26 (buCells b sb sc eb ec tb tc)] (itms 3 qs) rfl rfl, ?_⟩
      refine RO.fork [6] (by kernel_rfl) rfl ⟨⟨_, rfl, rfl, l_store_box (v := (.agg (buCells b sb2 sc2 eb2 ec2 tb2 tc2).toArray)) (vs := (buCells b sb2 sc2 eb2 ec2 tb2 tc2)) 6 inf26 rfl rfl rfl rfl rfl rfl (by simp [putL]) ⟨Sub.pick0 [7, 7] [rowI pb2 pc2 5 1 (byts l.pre), rowI lb2 lc2 5 1 (byts l.loop), rowI sb2 sc2 3 1 (ints b.start), rowI eb2 ec2 54 4 (edsC b.edges), rowI tb2 tc2 22 1 (vals qs), oI zL 29 [(.slice none 0 0), (.slice none 0 0)], oI zB 26 (buCells b sb2 sc2 eb2 ec2 tb2 tc2), oI bx2 29 (laCells l pb pc lb lc), oI bx1 26 (buCells b sb sc eb ec tb tc)] (itms 3 qs) rfl rfl, ?_⟩⟩, trivial⟩
      refine RO.fork [7] (by kernel_rfl) rfl ⟨⟨_, rfl, rfl, l_store_box (v := (.agg (laCells l pb2 pc2 lb2 lc2).toArray)) (vs := (laCells l pb2 pc2 lb2 lc2)) 5 inf29 rfl rfl rfl rfl rfl rfl (by simp [putL]) ⟨Sub.pick0 [7, 7] [rowI pb2 pc2 5 1 (byts l.pre), rowI lb2 lc2 5 1 (byts l.loop), rowI sb2 sc2 3 1 (ints b.start), rowI eb2 ec2 54 4 (edsC b.edges), rowI tb2 tc2 22 1 (vals qs), oI zL 29 (laCells l pb2 pc2 lb2 lc2), oI zB 26 (buCells b sb2 sc2 eb2 ec2 tb2 tc2), oI bx2 29 (laCells l pb pc lb lc), oI bx1 26 (buCells b sb sc eb ec tb tc)] (itms 3 qs) rfl rfl, ?_⟩⟩, trivial⟩
      exact RO.fin (by kernel_rfl) ⟨sb2, eb2, tb2, sc2, ec2, tc2, qs, pb2, lb2, pc2, lc2, zB, zL, hqs, rfl, ⟨rfl, rfl, rfl, rfl, rfl, rfl, trivial⟩⟩ (Sub.pickR [6, 5, 2, 2, 2, 0, 0, 0, 0] [rowI pb2 pc2 5 1 (byts l.pre), rowI lb2 lc2 5 1 (byts l.loop), rowI sb2 sc2 3 1 (ints b.start), rowI eb2 ec2 54 4 (edsC b.edges), rowI tb2 tc2 22 1 (vals qs), oI zL 29 (laCells l pb2 pc2 lb2 lc2), oI zB 26 (buCells b sb2 sc2 eb2 ec2 tb2 tc2), oI bx2 29 (laCells l pb pc lb lc), oI bx1 26 (buCells b sb sc eb ec tb tc)] (itms 3 qs) rfl rfl)
    have hk35 := fun (w1 : World) (hI : Inv w [oI zL 29 [(.slice none 0 0), (.slice none 0 0)], oI bx2 29 (laCells l pb pc lb lc), oI bx1 26 (buCells b sb sc eb ec tb tc)] w1) => copyBuchi w1 b sb eb tb sc ec tc vs (hI.bu h) hB
    refine RO.fork [1, 4] (by kernel_rfl) rfl ⟨⟨_, rfl, rfl, l_call ent15 (CallT.of_pure hk35) rfl ?_⟩, ⟨_, rfl, rfl, l_alloc inf26 rfl (fun zB => ⟨Sub.pick [2, 2] rfl, ?_⟩)⟩, trivial⟩
    · clear hk35
      rintro vr O' ⟨N, rfl, sb2, eb2, tb2, sc2, ec2, tc2, qs, rfl, rfl, hqs⟩
      refine ⟨Sub.cnt ([rowI sb2 sc2 3 1 (ints b.start), rowI eb2 ec2 54 4 (edsC b.edges), rowI tb2 tc2 22 1 (vals qs), oI zL 29 [(.slice none 0 0), (.slice none 0 0)]] ++ (itms 3 qs)) (by intro a; simp only [itms, oI, List.set_cons_zero, List.set_cons_succ, putL, List.cons_append, List.nil_append, List.append_nil, List.append_assoc, List.map_append, List.map_cons, List.map_nil, cnt_append, cnt_cons, cnt_nil, buCells, laCells] <;> omega), ?_⟩
      refine RO.sub (O' := ([rowI sb2 sc2 3 1 (ints b.start), rowI eb2 ec2 54 4 (edsC b.edges), rowI tb2 tc2 22 1 (vals qs), oI zL 29 [(.slice none 0 0), (.slice none 0 0)], oI bx2 29 (laCells l pb pc lb lc), oI bx1 26 (buCells b sb sc eb ec tb tc)] ++ (itms 3 qs))) (Sub.cnt [] (by intro a; simp only [itms, oI, List.set_cons_zero, List.set_cons_succ, putL, List.cons_append, List.nil_append, List.append_nil, List.append_assoc, List.map_append, List.map_cons, List.map_nil, cnt_append, cnt_cons, cnt_nil, buCells, laCells] <;> omega)) ?_
      have hk37 := fun (w1 : World) (hI : Inv w ([rowI sb2 sc2 3 1 (ints b.start), rowI eb2 ec2 54 4 (edsC b.edges), rowI tb2 tc2 22 1 (vals qs), oI zL 29 [(.slice none 0 0), (.slice none 0 0)], oI bx2 29 (laCells l pb pc lb lc), oI bx1 26 (buCells b sb sc eb ec tb tc)] ++ (itms 3 qs)) w1) => ownLa w1 l pb lb pc lc (hI.la h2) hL
      refine RO.fork [3, 4] (by kernel_rfl) rfl ⟨⟨_, rfl, rfl, l_call ent16 (CallT.of_pure hk37) rfl ?_⟩, ⟨_, rfl, rfl, l_alloc inf26 rfl (fun zB => ⟨Sub.pick0 [5, 5] [oI zB 26 [(.int .i64 0), (.int .i64 0), (.slice none 0 0), (.slice none 0 0), (.slice none 0 0)], rowI sb2 sc2 3 1 (ints b.start), rowI eb2 ec2 54 4 (edsC b.edges), rowI tb2 tc2 22 1 (vals qs), oI zL 29 [(.slice none 0 0), (.slice none 0 0)], oI bx2 29 (laCells l pb pc lb lc), oI bx1 26 (buCells b sb sc eb ec tb tc)] (itms 3 qs) rfl rfl, ?_⟩)⟩, trivial⟩
      · clear hk37
        rintro vr O' ⟨N, rfl, pb2, lb2, pc2, lc2, rfl, rfl⟩
        refine ⟨Sub.pick0 [6, 6] [rowI pb2 pc2 5 1 (byts l.pre), rowI lb2 lc2 5 1 (byts l.loop), rowI sb2 sc2 3 1 (ints b.start), rowI eb2 ec2 54 4 (edsC b.edges), rowI tb2 tc2 22 1 (vals qs), oI zL 29 [(.slice none 0 0), (.slice none 0 0)], oI bx2 29 (laCells l pb pc lb lc), oI bx1 26 (buCells b sb sc eb ec tb tc)] (itms 3 qs) rfl rfl, ?_⟩
        refine RO.fork [4] (by kernel_rfl) rfl ⟨⟨_, rfl, rfl, l_alloc inf26 rfl (fun zB => ⟨Sub.pick0 [7, 7] [oI zB 26 [(.int .i64 0), (.int .i64 0), (.slice none 0 0), (.slice none 0 0), (.slice none 0 0)], rowI pb2 pc2 5 1 (byts l.pre), rowI lb2 lc2 5 1 (byts l.loop), rowI sb2 sc2 3 1 (ints b.start), rowI eb2 ec2 54 4 (edsC b.edges), rowI tb2 tc2 22 1 (vals qs), oI zL 29 [(.slice none 0 0), (.slice none 0 0)], oI bx2 29 (laCells l pb pc lb lc), oI bx1 26 (buCells b sb sc eb ec tb tc)] (itms 3 qs) rfl rfl, ?_⟩)⟩, trivial⟩
        refine RO.fork [6] (by kernel_rfl) rfl ⟨⟨_, rfl, rfl, l_store_box (v := (.agg (buCells b sb2 sc2 eb2 ec2 tb2 tc2).toArray)) (vs := (buCells b sb2 sc2 eb2 ec2 tb2 tc2)) 0 inf26 rfl rfl rfl rfl rfl rfl (by simp [putL]) ⟨Sub.pick0 [7, 7] [oI zB 26 (buCells b sb2 sc2 eb2 ec2 tb2 tc2), rowI pb2 pc2 5 1 (byts l.pre), rowI lb2 lc2 5 1 (byts l.loop), rowI sb2 sc2 3 1 (ints b.start), rowI eb2 ec2 54 4 (edsC b.edges), rowI tb2 tc2 22 1 (vals qs), oI zL 29 [(.slice none 0 0), (.slice none 0 0)], oI bx2 29 (laCells l pb pc lb lc), oI bx1 26 (buCells b sb sc eb ec tb tc)] (itms 3 qs) rfl rfl, ?_⟩⟩, trivial⟩
        refine RO.fork [7] (by kernel_rfl) rfl ⟨⟨_, rfl, rfl, l_store_box (v := (.agg (laCells l pb2 pc2 lb2 lc2).toArray)) (vs := (laCells l pb2 pc2 lb2 lc2)) 6 inf29 rfl rfl rfl rfl rfl rfl (by simp [putL]) ⟨Sub.pick0 [7, 7] [oI zB 26 (buCells b sb2 sc2 eb2 ec2 tb2 tc2), rowI pb2 pc2 5 1 (byts l.pre), rowI lb2 lc2 5 1 (byts l.loop), rowI sb2 sc2 3 1 (ints b.start), rowI eb2 ec2 54 4 (edsC b.edges), rowI tb2 tc2 22 1 (vals qs), oI zL 29 (laCells l pb2 pc2 lb2 lc2), oI bx2 29 (laCells l pb pc lb lc), oI bx1 26 (buCells b sb sc eb ec tb tc)] (itms 3 qs) rfl rfl, ?_⟩⟩, trivial⟩
        exact RO.fin (by kernel_rfl) ⟨sb2, eb2, tb2, sc2, ec2, tc2, qs, pb2, lb2, pc2, lc2, zB, zL, hqs, rfl, ⟨rfl, rfl, rfl, rfl, rfl, rfl, trivial⟩⟩ (Sub.pickR [0, 5, 2, 2, 2, 0, 0, 0, 0] [oI zB 26 (buCells b sb2 sc2 eb2 ec2 tb2 tc2), rowI pb2 pc2 5 1 (byts l.pre), rowI lb2 lc2 5 1 (byts l.loop), rowI sb2 sc2 3 1 (ints b.start), rowI eb2 ec2 54 4 (edsC b.edges), rowI tb2 tc2 22 1 (vals qs), oI zL 29 (laCells l pb2 pc2 lb2 lc2), oI bx2 29 (laCells l pb pc lb lc), oI bx1 26 (buCells b sb sc eb ec tb tc)] (itms 3 qs) rfl rfl)
      have hk37 := fun (w1 : World) (hI : Inv w ([oI zB 26 [(.int .i64 0), (.int .i64 0), (.slice none 0 0), (.slice none 0 0), (.slice none 0 0)], rowI sb2 sc2 3 1 (ints b.start), rowI eb2 ec2 54 4 (edsC b.edges), rowI tb2 tc2 22 1 (vals qs), oI zL 29 [(.slice none 0 0), (.slice none 0 0)], oI bx2 29 (laCells l pb pc lb lc), oI bx1 26 (buCells b sb sc eb ec tb tc)] ++ (itms 3 qs)) w1) => ownLa w1 l pb lb pc lc (hI.la h2) hL
      refine RO.fork [3] (by kernel_rfl) rfl ⟨⟨_, rfl, rfl, l_call ent16 (CallT.of_pure hk37) rfl ?_⟩, trivial⟩
      clear hk37
      rintro vr O' ⟨N, rfl, pb2, lb2, pc2, lc2, rfl, rfl⟩
      refine ⟨Sub.pick0 [7, 7] [rowI pb2 pc2 5 1 (byts l.pre), rowI lb2 lc2 5 1 (byts l.loop), oI zB 26 [(.int .i64 0), (.int .i64 0), (.slice none 0 0), (.slice none 0 0), (.slice none 0 0)], rowI sb2 sc2 3 1 (ints b.start), rowI eb2 ec2 54 4 (edsC b.edges), rowI tb2 tc2 22 1 (vals qs), oI zL 29 [(.slice none 0 0), (.slice none 0 0)], oI bx2 29 (laCells l pb pc lb lc), oI bx1 26 (buCells b sb sc eb ec tb tc)] (itms 3 qs) rfl rfl, ?_⟩
      refine RO.fork [6] (by kernel_rfl) rfl ⟨⟨_, rfl, rfl, l_store_box (v := (.agg (buCells b sb2 sc2 eb2 ec2 tb2 tc2).toArray)) (vs := (buCells b sb2 sc2 eb2 ec2 tb2 tc2)) 2 inf26 rfl rfl rfl rfl rfl rfl (by simp [putL]) ⟨Sub.pick0 [7, 7] [rowI pb2 pc2 5 1 (byts l.pre), rowI lb2 lc2 5 1 (byts l.loop), oI zB 26 (buCells b sb2 sc2 eb2 ec2 tb2 tc2), rowI sb2 sc2 3 1 (ints b.start), rowI eb2 ec2 54 4 (edsC b.edges), rowI tb2 tc2 22 1 (vals qs), oI zL 29 [(.slice none 0 0), (.slice none 0 0)], oI bx2 29 (laCells l pb pc lb lc), oI bx1 26 (buCells b sb sc eb ec tb tc)] (itms 3 qs) rfl rfl, ?_⟩⟩, trivial⟩
      refine RO.fork [7] (by kernel_rfl) rfl ⟨⟨_, rfl, rfl, l_store_box (v := (.agg (laCells l pb2 pc2 lb2 lc2).toArray)) (vs := (laCells l pb2 pc2 lb2 lc2)) 6 inf29 rfl rfl rfl rfl rfl rfl (by simp [putL]) ⟨Sub.pick0 [7, 7] [rowI pb2 pc2 5 1 (byts l.pre), rowI lb2 lc2 5 1 (byts l.loop), oI zB 26 (buCells b sb2 sc2 eb2 ec2 tb2 tc2), rowI sb2 sc2 3 1 (ints b.start), rowI eb2 ec2 54 4 (edsC b.edges), rowI tb2 tc2 22 1 (vals qs), oI zL 29 (laCells l pb2 pc2 lb2 lc2), oI bx2 29 (laCells l pb pc lb lc), oI bx1 26 (buCells b sb sc eb ec tb tc)] (itms 3 qs) rfl rfl, ?_⟩⟩, trivial⟩
      exact RO.fin (by kernel_rfl) ⟨sb2, eb2, tb2, sc2, ec2, tc2, qs, pb2, lb2, pc2, lc2, zB, zL, hqs, rfl, ⟨rfl, rfl, rfl, rfl, rfl, rfl, trivial⟩⟩ (Sub.pickR [2, 5, 2, 2, 2, 0, 0, 0, 0] [rowI pb2 pc2 5 1 (byts l.pre), rowI lb2 lc2 5 1 (byts l.loop), oI zB 26 (buCells b sb2 sc2 eb2 ec2 tb2 tc2), rowI sb2 sc2 3 1 (ints b.start), rowI eb2 ec2 54 4 (edsC b.edges), rowI tb2 tc2 22 1 (vals qs), oI zL 29 (laCells l pb2 pc2 lb2 lc2), oI bx2 29 (laCells l pb pc lb lc), oI bx1 26 (buCells b sb sc eb ec tb tc)] (itms 3 qs) rfl rfl)
    have hk35 := fun (w1 : World) (hI : Inv w [oI zB 26 [(.int .i64 0), (.int .i64 0), (.slice none 0 0), (.slice none 0 0), (.slice none 0 0)], oI zL 29 [(.slice none 0 0), (.slice none 0 0)], oI bx2 29 (laCells l pb pc lb lc), oI bx1 26 (buCells b sb sc eb ec tb tc)] w1) => copyBuchi w1 b sb eb tb sc ec tc vs (hI.bu h) hB
    refine RO.fork [1] (by kernel_rfl) rfl ⟨⟨_, rfl, rfl, l_call ent15 (CallT.of_pure hk35) rfl ?_⟩, trivial⟩
    clear hk35
    rintro vr O' ⟨N, rfl, sb2, eb2, tb2, sc2, ec2, tc2, qs, rfl, rfl, hqs⟩
    refine ⟨Sub.cnt ([rowI sb2 sc2 3 1 (ints b.start), rowI eb2 ec2 54 4 (edsC b.edges), rowI tb2 tc2 22 1 (vals qs), oI zB 26 [(.int .i64 0), (.int .i64 0), (.slice none 0 0), (.slice none 0 0), (.slice none 0 0)], oI zL 29 [(.slice none 0 0), (.slice none 0 0)]] ++ (itms 3 qs)) (by intro a; simp only [itms, oI, List.set_cons_zero, List.set_cons_succ, putL, List.cons_append, List.nil_append, List.append_nil, List.append_assoc, List.map_append, List.map_cons, List.map_nil, cnt_append, cnt_cons, cnt_nil, buCells, laCells] <;> omega), ?_⟩
    refine RO.sub (O' := ([rowI sb2 sc2 3 1 (ints b.start), rowI eb2 ec2 54 4 (edsC b.edges), rowI tb2 tc2 22 1 (vals qs), oI zB 26 [(.int .i64 0), (.int .i64 0), (.slice none 0 0), (.slice none 0 0), (.slice none 0 0)], oI zL 29 [(.slice none 0 0), (.slice none 0 0)], oI bx2 29 (laCells l pb pc lb lc), oI bx1 26 (buCells b sb sc eb ec tb tc)] ++ (itms 3 qs))) (Sub.cnt [] (by intro a; simp only [itms, oI, List.set_cons_zero, List.set_cons_succ, putL, List.cons_append, List.nil_append, List.append_nil, List.append_assoc, List.map_append, List.map_cons, List.map_nil, cnt_append, cnt_cons, cnt_nil, buCells, laCells] <;> omega)) ?_
    have hk37 := fun (w1 : World) (hI : Inv w ([rowI sb2 sc2 3 1 (ints b.start), rowI eb2 ec2 54 4 (edsC b.edges), rowI tb2 tc2 22 1 (vals qs), oI zB 26 [(.int .i64 0), (.int .i64 0), (.slice none 0 0), (.slice none 0 0), (.slice none 0 0)], oI zL 29 [(.slice none 0 0), (.slice none 0 0)], oI bx2 29 (laCells l pb pc lb lc), oI bx1 26 (buCells b sb sc eb ec tb tc)] ++ (itms 3 qs)) w1) => ownLa w1 l pb lb pc lc (hI.la h2) hL
    refine RO.fork [3] (by kernel_rfl) rfl ⟨⟨_, rfl, rfl, l_call ent16 (CallT.of_pure hk37) rfl ?_⟩, trivial⟩
    clear hk37
    rintro vr O' ⟨N, rfl, pb2, lb2, pc2, lc2, rfl, rfl⟩
    refine ⟨Sub.pick0 [7, 7] [rowI pb2 pc2 5 1 (byts l.pre), rowI lb2 lc2 5 1 (byts l.loop), rowI sb2 sc2 3 1 (ints b.start), rowI eb2 ec2 54 4 (edsC b.edges), rowI tb2 tc2 22 1 (vals qs), oI zB 26 [(.int .i64 0), (.int .i64 0), (.slice none 0 0), (.slice none 0 0), (.slice none 0 0)], oI zL 29 [(.slice none 0 0), (.slice none 0 0)], oI bx2 29 (laCells l pb pc lb lc), oI bx1 26 (buCells b sb sc eb ec tb tc)] (itms 3 qs) rfl rfl, ?_⟩
    refine RO.fork [6] (by kernel_rfl) rfl ⟨⟨_, rfl, rfl, l_store_box (v := (.agg (buCells b sb2 sc2 eb2 ec2 tb2 tc2).toArray)) (vs := (buCells b sb2 sc2 eb2 ec2 tb2 tc2)) 5 inf26 rfl rfl rfl rfl rfl rfl (by simp [putL]) ⟨Sub.pick0 [7, 7] [rowI pb2 pc2 5 1 (byts l.pre), rowI lb2 lc2 5 1 (byts l.loop), rowI sb2 sc2 3 1 (ints b.start), rowI eb2 ec2 54 4 (edsC b.edges), rowI tb2 tc2 22 1 (vals qs), oI zB 26 (buCells b sb2 sc2 eb2 ec2 tb2 tc2), oI zL 29 [(.slice none 0 0), (.slice none 0 0)], oI bx2 29 (laCells l pb pc lb lc), oI bx1 26 (buCells b sb sc eb ec tb tc)] (itms 3 qs) rfl rfl, ?_⟩⟩, trivial⟩
    refine RO.fork [7] (by kernel_rfl) rfl ⟨⟨_, rfl, rfl, l_store_box (v := (.agg (laCells l pb2 pc2 lb2 lc2).toArray)) (vs := (laCells l pb2 pc2 lb2 lc2)) 6 inf29 rfl rfl rfl rfl rfl rfl (by simp [putL]) ⟨Sub.pick0 [7, 7] [rowI pb2 pc2 5 1 (byts l.pre), rowI lb2 lc2 5 1 (byts l.loop), rowI sb2 sc2 3 1 (ints b.start), rowI eb2 ec2 54 4 (edsC b.edges), rowI tb2 tc2 22 1 (vals qs), oI zB 26 (buCells b sb2 sc2 eb2 ec2 tb2 tc2), oI zL 29 (laCells l pb2 pc2 lb2 lc2), oI bx2 29 (laCells l pb pc lb lc), oI bx1 26 (buCells b sb sc eb ec tb tc)] (itms 3 qs) rfl rfl, ?_⟩⟩, trivial⟩
    exact RO.fin (by kernel_rfl) ⟨sb2, eb2, tb2, sc2, ec2, tc2, qs, pb2, lb2, pc2, lc2, zB, zL, hqs, rfl, ⟨rfl, rfl, rfl, rfl, rfl, rfl, trivial⟩⟩ (Sub.pickR [5, 5, 2, 2, 2, 0, 0, 0, 0] [rowI pb2 pc2 5 1 (byts l.pre), rowI lb2 lc2 5 1 (byts l.loop), rowI sb2 sc2 3 1 (ints b.start), rowI eb2 ec2 54 4 (edsC b.edges), rowI tb2 tc2 22 1 (vals qs), oI zB 26 (buCells b sb2 sc2 eb2 ec2 tb2 tc2), oI zL 29 (laCells l pb2 pc2 lb2 lc2), oI bx2 29 (laCells l pb pc lb lc), oI bx1 26 (buCells b sb sc eb ec tb tc)] (itms 3 qs) rfl rfl)
  rintro ρ O ⟨sb2, eb2, tb2, sc2, ec2, tc2, qs, pb2, lb2, pc2, lc2, zB, zL, hqs, rfl, hH⟩
  obtain ⟨ρ0, rfl⟩ := hH.elim
  clear hH
  refine T.seq (T.region ?_)
  refine TO.quiet (q_load_boxAgg 0 Try.underlying26 rfl inf26 rfl rfl rfl) (TO.quiet (q_load_boxAgg 1 Try.underlying29 rfl inf29 rfl rfl rfl) ?_)
  have hk41 := fun (w1 : World) (hI : Inv w ([oI zB 26 (buCells b sb2 sc2 eb2 ec2 tb2 tc2), oI zL 29 (laCells l pb2 pc2 lb2 lc2), rowI sb2 sc2 3 1 (ints b.start), rowI eb2 ec2 54 4 (edsC b.edges), rowI tb2 tc2 22 1 (vals qs), rowI pb2 pc2 5 1 (byts l.pre), rowI lb2 lc2 5 1 (byts l.loop), oI bx2 29 (laCells l pb pc lb lc), oI bx1 26 (buCells b sb sc eb ec tb tc)] ++ (itms 3 qs)) w1) => acceptsF w1 b sb2 eb2 tb2 sc2 ec2 tc2 (vals qs) (show BuAt w1 b sb2 eb2 tb2 (vals qs) from ⟨(hI.slOf (List.mem_of_getElem? (i := 2) rfl)), (hI.slOf (List.mem_of_getElem? (i := 3) rfl)), (hI.slOf (List.mem_of_getElem? (i := 4) rfl)), hqs ▸ Inv.recs (E := 3) hI (fun q hq => List.mem_append_right _ (List.mem_map.2 ⟨q, hq, rfl⟩))⟩) hB l pb2 lb2 pc2 lc2 (show LaAt w1 l pb2 lb2 pc2 lc2 from ⟨(hI.slOf (List.mem_of_getElem? (i := 5) rfl)), (hI.slOf (List.mem_of_getElem? (i := 6) rfl)), by have h9 := rowP.cap (hI.row (i := 5) rfl); simpa using h9, by have h9 := rowP.cap (hI.row (i := 6) rfl); simpa using h9⟩) hL hE
  refine TO.loud rfl (l_call ent17 (CallT.of_pure hk41) rfl ?_)
  clear hk41
  rintro vr O' ⟨N, rfl, rfl, rfl⟩
  refine TO.quiet (q_move rfl) (TO.quiet (q_extract (vs := _) rfl rfl) (TO.quiet (q_extract (vs := _) rfl rfl) (TO.quiet (q_assign rfl) ?_)))
  refine TO.quiet (q_assign rfl) ?_
  refine TO.nil (T.seq (T.region ?_))
  refine TO.quiet (q_load_boxAgg 8 Try.underlying26 rfl inf26 rfl rfl rfl) (TO.quiet (q_load_boxAgg 7 Try.underlying29 rfl inf29 rfl rfl rfl) ?_)
  have hk47 := fun (w1 : World) (hI : Inv w ([oI zB 26 (buCells b sb2 sc2 eb2 ec2 tb2 tc2), oI zL 29 (laCells l pb2 pc2 lb2 lc2), rowI sb2 sc2 3 1 (ints b.start), rowI eb2 ec2 54 4 (edsC b.edges), rowI tb2 tc2 22 1 (vals qs), rowI pb2 pc2 5 1 (byts l.pre), rowI lb2 lc2 5 1 (byts l.loop), oI bx2 29 (laCells l pb pc lb lc), oI bx1 26 (buCells b sb sc eb ec tb tc)] ++ (itms 3 qs)) w1) => refAcceptsF w1 b sb eb tb sc ec tc vs (hI.bu h) hB l pb lb pc lc (hI.la h2) hL hE
  refine TO.loud rfl (l_call ent18 (CallT.of_pure hk47) rfl ?_)
  clear hk47
  rintro vr O' ⟨N, rfl, rfl, rfl⟩
  refine TO.quiet (q_move rfl) (TO.quiet (q_extract (vs := _) rfl rfl) (TO.quiet (q_extract (vs := _) rfl rfl) (TO.quiet (q_assign rfl) ?_)))
  refine TO.quiet (q_assign rfl) ?_
  refine TO.nil (T.seq (T.region ?_))
  refine TO.quiet (q_load_boxAgg 0 Try.underlying26 rfl inf26 rfl rfl rfl) ?_
  have hk52 := fun (w1 : World) (hI : Inv w ([oI zB 26 (buCells b sb2 sc2 eb2 ec2 tb2 tc2), oI zL 29 (laCells l pb2 pc2 lb2 lc2), rowI sb2 sc2 3 1 (ints b.start), rowI eb2 ec2 54 4 (edsC b.edges), rowI tb2 tc2 22 1 (vals qs), rowI pb2 pc2 5 1 (byts l.pre), rowI lb2 lc2 5 1 (byts l.loop), oI bx2 29 (laCells l pb pc lb lc), oI bx1 26 (buCells b sb sc eb ec tb tc)] ++ (itms 3 qs)) w1) => livesF w1 b sb2 eb2 tb2 sc2 ec2 tc2 (vals qs) (show BuAt w1 b sb2 eb2 tb2 (vals qs) from ⟨(hI.slOf (List.mem_of_getElem? (i := 2) rfl)), (hI.slOf (List.mem_of_getElem? (i := 3) rfl)), (hI.slOf (List.mem_of_getElem? (i := 4) rfl)), hqs ▸ Inv.recs (E := 3) hI (fun q hq => List.mem_append_right _ (List.mem_map.2 ⟨q, hq, rfl⟩))⟩) hB
  refine TO.loud rfl (l_call ent19 (CallT.of_pure hk52) rfl ?_)
  clear hk52
  rintro vr O' ⟨N, rfl, mb, mc, rfl, rfl⟩
  refine TO.quiet (q_move rfl) (TO.quiet (q_extract (vs := _) rfl rfl) (TO.quiet (q_extract (vs := _) rfl rfl) (TO.quiet (q_assign rfl) ?_)))
  refine TO.quiet (q_assign rfl) ?_
  refine TO.nil (T.seq (T.region ?_))
  refine TO.quiet (q_load_boxAgg 9 Try.underlying26 rfl inf26 rfl rfl rfl) ?_
  have hk57 := fun (w1 : World) (hI : Inv w ([rowI mb mc 4 1 (bools (livesB b)), oI zB 26 (buCells b sb2 sc2 eb2 ec2 tb2 tc2), oI zL 29 (laCells l pb2 pc2 lb2 lc2), rowI sb2 sc2 3 1 (ints b.start), rowI eb2 ec2 54 4 (edsC b.edges), rowI tb2 tc2 22 1 (vals qs), rowI pb2 pc2 5 1 (byts l.pre), rowI lb2 lc2 5 1 (byts l.loop), oI bx2 29 (laCells l pb pc lb lc), oI bx1 26 (buCells b sb sc eb ec tb tc)] ++ (itms 3 qs)) w1) => refLiveF w1 b sb eb tb sc ec tc vs (hI.bu h) hB
  refine TO.loud rfl (l_call ent20 (CallT.of_pure hk57) rfl ?_)
  clear hk57
  rintro vr O' ⟨N, rfl, rb, rc, rfl, rfl⟩
  refine TO.quiet (q_move rfl) (TO.quiet (q_extract (vs := _) rfl rfl) (TO.quiet (q_extract (vs := _) rfl rfl) (TO.quiet (q_assign rfl) ?_)))
  refine TO.quiet (q_assign rfl) ?_
  refine TO.nil (T.seq (T.seq ?_))
  refine T.draws _ [(0, 0), (2, 0), (1, 1), (3, 1), (4, 0), (5, 0), (6, 0), (7, 0), (8, 0), (9, 0), (10, 0), (11, 0), (12, 0), (13, 0), (14, 0), (15, 0), (16, 0), (17, 0), (18, 0), (19, 0), (20, 0), (21, 0), (22, 0), (23, 2), (24, 2), (25, 2)] mixed (by kernel_rfl) (Sub.of (List.Sublist.refl _)) (fun _ _ _ h => h) ?_
  refine DO.quiet rfl (q_load_boxAgg 2 Try.underlying26 rfl inf26 rfl rfl rfl) (DO.quiet rfl (q_load_boxAgg 10 Try.underlying26 rfl inf26 rfl rfl rfl) ?_)
  have hk61 := fun (w1 : World) (hI : Inv w ([rowI rb rc 4 1 (bools (livesB b)), rowI mb mc 4 1 (bools (livesB b)), oI zB 26 (buCells b sb2 sc2 eb2 ec2 tb2 tc2), oI zL 29 (laCells l pb2 pc2 lb2 lc2), rowI sb2 sc2 3 1 (ints b.start), rowI eb2 ec2 54 4 (edsC b.edges), rowI tb2 tc2 22 1 (vals qs), rowI pb2 pc2 5 1 (byts l.pre), rowI lb2 lc2 5 1 (byts l.loop), oI bx2 29 (laCells l pb pc lb lc), oI bx1 26 (buCells b sb sc eb ec tb tc)] ++ (itms 3 qs)) w1) => checkF w1 b sb2 eb2 tb2 sc2 ec2 tc2 (vals qs) (show BuAt w1 b sb2 eb2 tb2 (vals qs) from ⟨(hI.slOf (List.mem_of_getElem? (i := 4) rfl)), (hI.slOf (List.mem_of_getElem? (i := 5) rfl)), (hI.slOf (List.mem_of_getElem? (i := 6) rfl)), hqs ▸ Inv.recs (E := 3) hI (fun q hq => List.mem_append_right _ (List.mem_map.2 ⟨q, hq, rfl⟩))⟩) hB
  refine DO.loud rfl rfl (l_call ent21 (CallT.of_pure hk61) rfl ?_)
  clear hk61
  rintro vr O' ⟨N, rfl, rfl, rfl⟩
  refine ⟨Sub.pickR [0, 0, 0, 0, 0, 0, 0, 0, 0, 0, 0] [rowI rb rc 4 1 (bools (livesB b)), rowI mb mc 4 1 (bools (livesB b)), oI zB 26 (buCells b sb2 sc2 eb2 ec2 tb2 tc2), oI zL 29 (laCells l pb2 pc2 lb2 lc2), rowI sb2 sc2 3 1 (ints b.start), rowI eb2 ec2 54 4 (edsC b.edges), rowI tb2 tc2 22 1 (vals qs), rowI pb2 pc2 5 1 (byts l.pre), rowI lb2 lc2 5 1 (byts l.loop), oI bx2 29 (laCells l pb pc lb lc), oI bx1 26 (buCells b sb sc eb ec tb tc)] (itms 3 qs) rfl rfl, ?_⟩
  have hk63 := fun (w1 : World) (hI : Inv w ([rowI rb rc 4 1 (bools (livesB b)), rowI mb mc 4 1 (bools (livesB b)), oI zB 26 (buCells b sb2 sc2 eb2 ec2 tb2 tc2), oI zL 29 (laCells l pb2 pc2 lb2 lc2), rowI sb2 sc2 3 1 (ints b.start), rowI eb2 ec2 54 4 (edsC b.edges), rowI tb2 tc2 22 1 (vals qs), rowI pb2 pc2 5 1 (byts l.pre), rowI lb2 lc2 5 1 (byts l.loop), oI bx2 29 (laCells l pb pc lb lc), oI bx1 26 (buCells b sb sc eb ec tb tc)] ++ (itms 3 qs)) w1) => refCheckF w1 b sb eb tb sc ec tc vs (hI.bu h) hB
  refine DO.loud rfl rfl (l_call ent22 (CallT.of_pure hk63) rfl ?_)
  clear hk63
  rintro vr O' ⟨N, rfl, rfl, rfl⟩
  refine ⟨Sub.pickR [0, 0, 0, 0, 0, 0, 0, 0, 0, 0, 0] [rowI rb rc 4 1 (bools (livesB b)), rowI mb mc 4 1 (bools (livesB b)), oI zB 26 (buCells b sb2 sc2 eb2 ec2 tb2 tc2), oI zL 29 (laCells l pb2 pc2 lb2 lc2), rowI sb2 sc2 3 1 (ints b.start), rowI eb2 ec2 54 4 (edsC b.edges), rowI tb2 tc2 22 1 (vals qs), rowI pb2 pc2 5 1 (byts l.pre), rowI lb2 lc2 5 1 (byts l.loop), oI bx2 29 (laCells l pb pc lb lc), oI bx1 26 (buCells b sb sc eb ec tb tc)] (itms 3 qs) rfl rfl, ?_⟩
  refine DO.quiet rfl (QT.toB (q_neq rfl rfl) (decide_eq_false (fun h9 => h9 rfl))) (DO.quiet rfl (q_move rfl) ?_)
  refine DO.guarded rfl rfl rfl (q_move rfl) ?_
  refine DO.guarded rfl rfl rfl (q_move rfl) ?_
  refine DO.guarded rfl rfl rfl (QT.toB (q_bneq Try.underlying4 rfl rfl) (bne_self_eq_false _)) ?_
  refine DO.quiet rfl (q_pick0 rfl rfl) (DO.quiet rfl (q_move rfl) ?_)
  refine DO.guarded rfl rfl rfl (q_move rfl) ?_
  refine DO.guarded rfl rfl rfl (q_move rfl) ?_
  refine DO.guarded rfl rfl rfl (QT.toB (q_neq rfl rfl) (decide_eq_false (fun h9 => h9 rfl))) ?_
  refine DO.quiet rfl (q_pick0 rfl rfl) (DO.quiet rfl (q_move rfl) ?_)
  refine DO.guarded rfl rfl rfl (q_move rfl) ?_
  refine DO.guarded rfl rfl rfl (q_move rfl) ?_
  refine DO.guarded rfl rfl rfl (QT.toB (q_neq rfl rfl) (decide_eq_false (fun h9 => h9 rfl))) ?_
  refine DO.quiet rfl (q_pick0 rfl rfl) (DO.quiet rfl (q_move rfl) ?_)
  refine DO.guarded rfl rfl rfl (q_move rfl) ?_
  refine DO.guarded rfl rfl rfl (q_move rfl) ?_
  have hk83 := fun (w1 : World) (hI : Inv w ([rowI rb rc 4 1 (bools (livesB b)), rowI mb mc 4 1 (bools (livesB b)), oI zB 26 (buCells b sb2 sc2 eb2 ec2 tb2 tc2), oI zL 29 (laCells l pb2 pc2 lb2 lc2), rowI sb2 sc2 3 1 (ints b.start), rowI eb2 ec2 54 4 (edsC b.edges), rowI tb2 tc2 22 1 (vals qs), rowI pb2 pc2 5 1 (byts l.pre), rowI lb2 lc2 5 1 (byts l.loop), oI bx2 29 (laCells l pb pc lb lc), oI bx1 26 (buCells b sb sc eb ec tb tc)] ++ (itms 3 qs)) w1) => (by
    have h9 := equalBools w1 mb rb mc rc (livesB b) (livesB b) (hI.slOf (List.mem_of_getElem? (i := 1) rfl)) (hI.slOf (List.mem_of_getElem? (i := 0) rfl)) (by omega)
    rw [decide_eq_true rfl] at h9; exact h9)
  refine DO.lastG rfl rfl rfl rfl (l_call ent23 (CallT.of_pure hk83) rfl ?_)
  clear hk83
  rintro vr O' ⟨N, rfl, rfl, rfl⟩
  refine DO.lastG rfl rfl rfl rfl (LT.of_quiet rfl rfl (q_not rfl) ?_)
  refine DO.last rfl rfl (LT.of_quiet rfl rfl (q_pick0 rfl rfl) ?_)
  refine DO.done ?_
  refine T.cond0 rfl ?_
  refine T.skip (T.seq (T.region ?_))
  refine TO.quiet (q_move rfl) ?_
  have hk87 := CallT.under (A := [rowI mb mc 4 1 (bools (livesB b))]) (B := [rowI rb rc 4 1 (bools (livesB b)), oI zB 26 (buCells b sb2 sc2 eb2 ec2 tb2 tc2), oI zL 29 (laCells l pb2 pc2 lb2 lc2), rowI sb2 sc2 3 1 (ints b.start), rowI eb2 ec2 54 4 (edsC b.edges), rowI tb2 tc2 22 1 (vals qs), rowI pb2 pc2 5 1 (byts l.pre), rowI lb2 lc2 5 1 (byts l.loop), oI bx2 29 (laCells l pb pc lb lc), oI bx1 26 (buCells b sb sc eb ec tb tc)] ++ itms 3 qs) (O := ([rowI rb rc 4 1 (bools (livesB b)), rowI mb mc 4 1 (bools (livesB b)), oI zB 26 (buCells b sb2 sc2 eb2 ec2 tb2 tc2), oI zL 29 (laCells l pb2 pc2 lb2 lc2), rowI sb2 sc2 3 1 (ints b.start), rowI eb2 ec2 54 4 (edsC b.edges), rowI tb2 tc2 22 1 (vals qs), rowI pb2 pc2 5 1 (byts l.pre), rowI lb2 lc2 5 1 (byts l.loop), oI bx2 29 (laCells l pb pc lb lc), oI bx1 26 (buCells b sb sc eb ec tb tc)] ++ (itms 3 qs))) (overBools w mb mc mc (livesB b) (by omega)) (Sub.pickR [1, 0, 0, 0, 0, 0, 0, 0, 0, 0, 0] [rowI rb rc 4 1 (bools (livesB b)), rowI mb mc 4 1 (bools (livesB b)), oI zB 26 (buCells b sb2 sc2 eb2 ec2 tb2 tc2), oI zL 29 (laCells l pb2 pc2 lb2 lc2), rowI sb2 sc2 3 1 (ints b.start), rowI eb2 ec2 54 4 (edsC b.edges), rowI tb2 tc2 22 1 (vals qs), rowI pb2 pc2 5 1 (byts l.pre), rowI lb2 lc2 5 1 (byts l.loop), oI bx2 29 (laCells l pb pc lb lc), oI bx1 26 (buCells b sb sc eb ec tb tc)] (itms 3 qs) rfl rfl)
  refine TO.loud rfl (l_call ent24 hk87 rfl ?_)
  clear hk87
  rintro vr O' ⟨A1, rfl, rfl⟩
  refine TO.nil (T.seq (T.region ?_))
  refine TO.quiet (q_load_boxAgg 1 Try.underlying26 rfl inf26 rfl rfl rfl) (TO.quiet (q_load_boxAgg 9 Try.underlying26 rfl inf26 rfl rfl rfl) ?_)
  have hk90 := fun (w1 : World) (hI : Inv w ([rowI rb rc 4 1 (bools (livesB b)), oI zB 26 (buCells b sb2 sc2 eb2 ec2 tb2 tc2), oI zL 29 (laCells l pb2 pc2 lb2 lc2), rowI sb2 sc2 3 1 (ints b.start), rowI eb2 ec2 54 4 (edsC b.edges), rowI tb2 tc2 22 1 (vals qs), rowI pb2 pc2 5 1 (byts l.pre), rowI lb2 lc2 5 1 (byts l.loop), oI bx2 29 (laCells l pb pc lb lc), oI bx1 26 (buCells b sb sc eb ec tb tc)] ++ (itms 3 qs)) w1) => (by
    have h9 := equalBuchi w1 b sb2 eb2 tb2 sc2 ec2 tc2 (vals qs) (show BuAt w1 b sb2 eb2 tb2 (vals qs) from ⟨(hI.slOf (List.mem_of_getElem? (i := 3) rfl)), (hI.slOf (List.mem_of_getElem? (i := 4) rfl)), (hI.slOf (List.mem_of_getElem? (i := 5) rfl)), hqs ▸ Inv.recs (E := 3) hI (fun q hq => List.mem_append_right _ (List.mem_map.2 ⟨q, hq, rfl⟩))⟩) hB b sb eb tb sc ec tc vs (hI.bu h)
    rw [decide_eq_true rfl] at h9; exact h9)
  refine TO.loud rfl (l_call ent25 (CallT.of_pure hk90) rfl ?_)
  clear hk90
  rintro vr O' ⟨N, rfl, rfl, rfl⟩
  refine TO.quiet (q_move rfl) ?_
  refine TO.guarded rfl rfl rfl (LT.of_quiet rfl rfl (q_load_boxAgg 2 Try.underlying29 rfl inf29 rfl rfl rfl) ?_)
  refine TO.guarded rfl rfl rfl (LT.of_quiet rfl rfl (q_load_boxAgg 8 Try.underlying29 rfl inf29 rfl rfl rfl) ?_)
  have hk94 := fun (w1 : World) (hI : Inv w ([rowI rb rc 4 1 (bools (livesB b)), oI zB 26 (buCells b sb2 sc2 eb2 ec2 tb2 tc2), oI zL 29 (laCells l pb2 pc2 lb2 lc2), rowI sb2 sc2 3 1 (ints b.start), rowI eb2 ec2 54 4 (edsC b.edges), rowI tb2 tc2 22 1 (vals qs), rowI pb2 pc2 5 1 (byts l.pre), rowI lb2 lc2 5 1 (byts l.loop), oI bx2 29 (laCells l pb pc lb lc), oI bx1 26 (buCells b sb sc eb ec tb tc)] ++ (itms 3 qs)) w1) => (by
    have h9 := isF w1 l pb2 lb2 pc2 lc2 (show LaAt w1 l pb2 lb2 pc2 lc2 from ⟨(hI.slOf (List.mem_of_getElem? (i := 6) rfl)), (hI.slOf (List.mem_of_getElem? (i := 7) rfl)), by have h9 := rowP.cap (hI.row (i := 6) rfl); simpa using h9, by have h9 := rowP.cap (hI.row (i := 7) rfl); simpa using h9⟩) (by have := hL.pre; omega) (by have := hL.loop; omega) l pb lb pc lc (hI.la h2)
    rw [decide_eq_true rfl] at h9; exact h9)
  refine TO.guarded rfl rfl rfl (l_call ent26 (CallT.of_pure hk94) rfl ?_)
  clear hk94
  rintro vr O' ⟨N, rfl, rfl, rfl⟩
  refine TO.quiet (q_pick1 rfl rfl) (TO.quiet (q_move rfl) ?_)
  have hk97 := fun (w1 : World) (hI : Inv w ([rowI rb rc 4 1 (bools (livesB b)), oI zB 26 (buCells b sb2 sc2 eb2 ec2 tb2 tc2), oI zL 29 (laCells l pb2 pc2 lb2 lc2), rowI sb2 sc2 3 1 (ints b.start), rowI eb2 ec2 54 4 (edsC b.edges), rowI tb2 tc2 22 1 (vals qs), rowI pb2 pc2 5 1 (byts l.pre), rowI lb2 lc2 5 1 (byts l.loop), oI bx2 29 (laCells l pb pc lb lc), oI bx1 26 (buCells b sb sc eb ec tb tc)] ++ (itms 3 qs)) w1) => awakeF w1
  refine TO.guarded rfl rfl rfl (l_call ent14 (CallT.of_pure hk97) rfl ?_)
  clear hk97
  rintro vr O' ⟨N, rfl, rfl, rfl⟩
  refine TO.quiet (q_pick1 rfl rfl) (TO.quiet (q_assign rfl) ?_)
  refine TO.nil (T.ret (Res.drop ?_))
  refine Res.one (.bool true) Try.results3 rfl ?_
  exact ⟨[], (Sub.pick0 [] [rowI rb rc 4 1 (bools (livesB b)), oI zB 26 (buCells b sb2 sc2 eb2 ec2 tb2 tc2), oI zL 29 (laCells l pb2 pc2 lb2 lc2), rowI sb2 sc2 3 1 (ints b.start), rowI eb2 ec2 54 4 (edsC b.edges), rowI tb2 tc2 22 1 (vals qs), rowI pb2 pc2 5 1 (byts l.pre), rowI lb2 lc2 5 1 (byts l.loop), oI bx2 29 (laCells l pb pc lb lc), oI bx1 26 (buCells b sb sc eb ec tb tc)] (itms 3 qs) rfl rfl), rfl, rfl⟩
end Go.Proofs.Ytnamoapbienooaa

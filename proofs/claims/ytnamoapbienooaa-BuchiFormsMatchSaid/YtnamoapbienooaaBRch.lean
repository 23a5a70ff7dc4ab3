/- Contracts of functions of the program (BRch): what each call answers and that it leaves memory as it was. Conditions: those each theorem names. -/
import Derived.Test.YtnamoapbienooaaEndB
set_option linter.unusedSectionVars false
set_option linter.unusedSimpArgs false
set_option linter.unusedVariables false
set_option linter.unnecessarySimpa false
namespace Go.Proofs.Ytnamoapbienooaa
open Go.Lx Go.RowKit
set_option linter.unusedVariables false
set_option linter.unusedSimpArgs false
set_option maxHeartbeats 1000000 in
set_option maxRecDepth 20000 in
theorem reachF (w : World) (b : Bu) (sb eb tb : Option Addr) (sc ec tc : Nat) (ab nb : Option Addr) (ac nc : Nat) (vs : List Value) (nx : List (List Int)) (hS : Sl w nb vs) (hR : RowsR w vs nx) (hn : nx.length ≤ 1000000) (hrl : ∀ r ∈ nx, r.length ≤ 1000000) (hval : okRows nx) (v0 : Nat) (hv0 : v0 < nx.length) :
    PureT Try.prog 83 [.agg #[(.int .i64 b.vars), (.int .i64 b.states), (.slice sb b.start.length sc), (.slice eb b.edges.length ec), (.slice tb b.sets.length tc), (.slice ab nx.length ac), (.slice nb nx.length nc)], .int .i64 (v0 : Int)] w fun v N => ∃ rb rc rs, v = .slice rb nx.length rc ∧ N = [rowI rb rc 4 1 (bools rs)] ∧ rs.length = nx.length ∧ ∀ x, x < nx.length → (rs.getD x false = true ↔ ∃ u, adjE nx v0 u ∧ Rch (adjE nx) u x) := by
  refine CallT.enter Try.func83 rfl Try.ntmps83 rfl ?_
  refine T.seq (T.region ?_)
  refine TO.loud rfl (l_box (v := (.agg #[(.int .i64 b.vars), (.int .i64 b.states), (.slice sb b.start.length sc), (.slice eb b.edges.length ec), (.slice tb b.sets.length tc), (.slice ab nx.length ac), (.slice nb nx.length nc)])) (cs := [(.int .i64 b.vars), (.int .i64 b.states), (.slice sb b.start.length sc), (.slice eb b.edges.length ec), (.slice tb b.sets.length tc), (.slice ab nx.length ac), (.slice nb nx.length nc)]) rfl rfl (fun bx1 => ?_))
  refine TO.quiet (q_assign rfl) ?_
  refine TO.nil (T.seq (T.region ?_))
  refine TO.quiet (q_fieldAddr Try.underlying91 rfl inf22 rfl rfl) (TO.quiet (q_load_box 0 Try.underlying22 rfl rfl rfl rfl) (TO.quiet (q_len Try.underlying22 rfl) ?_))
  refine TO.loud rfl (l_makeSlice (m := nx.length) Try.underlying39 inf4 rfl rfl (by omega) (by omega) (fun bx2 => ?_))
  refine TO.quiet (q_assign rfl) ?_
  refine TO.nil (T.seq (T.region ?_))
  refine TO.quiet (q_move rfl) ?_
  refine TO.loud rfl (l_build1 (v := .int .i64 (v0 : Int)) Try.underlying22 inf3 rfl rfl rfl (fun bx3 => ?_))
  refine TO.quiet (q_assign rfl) ?_
  refine TO.nil (T.seq (T.block ?_))
  refine T.sub (O' := [rowI (some ⟨bx2, 0, none⟩) nx.length 4 1 (List.replicate nx.length (.bool false)), rowI (some ⟨bx3, 0, none⟩) 1 3 1 [.int .i64 (v0 : Int)], oI bx1 91 [(.int .i64 b.vars), (.int .i64 b.states), (.slice sb b.start.length sc), (.slice eb b.edges.length ec), (.slice tb b.sets.length tc), (.slice ab nx.length ac), (.slice nb nx.length nc)]]) (Sub.pick [1, 0, 0] rfl) ?_
  refine T.loop (fun (M : Nat) ρ O => ∃ (ks : List Bool) (todo : List Nat) (qb : Option Addr) (qc cur jl : Nat), O = [rowI (some ⟨bx2, 0, none⟩) nx.length 4 1 (bools ks), rowI qb qc 3 1 (nats todo), oI bx1 91 [(.int .i64 b.vars), (.int .i64 b.states), (.slice sb b.start.length sc), (.slice eb b.edges.length ec), (.slice tb b.sets.length tc), (.slice ab nx.length ac), (.slice nb nx.length nc)]] ∧ SeaP nx (fun _ => true) [] (fun u => u = v0) ks todo 0 cur jl ∧ (∀ r, nx[cur]? = some r → r.length ≤ jl) ∧ todo.length + ks.count false = M ∧ Heads [(0, (.agg #[(.int .i64 b.vars), (.int .i64 b.states), (.slice sb b.start.length sc), (.slice eb b.edges.length ec), (.slice tb b.sets.length tc), (.slice ab nx.length ac), (.slice nb nx.length nc)])), (1, .int .i64 (v0 : Int)), (2, (.pointer (some ⟨bx1, 0, none⟩))), (4, (.slice none 0 0)), (5, (.slice (some ⟨bx2, 0, none⟩) nx.length nx.length)), (6, (.slice qb todo.length qc))] ρ) (fun M => M) (1 + (List.replicate nx.length false).count false) ?_ ?_
  · exact ⟨List.replicate nx.length false, [v0], (some ⟨bx3, 0, none⟩), 1, nx.length, 0, by simp only [List.map_replicate]; rfl, SeaP.start0 (fun u => u = v0) (fun u hu => by rw [hu]; simp) (fun u hu => by have h9 := List.mem_singleton.1 hu; exact ⟨by rw [h9]; exact hv0, h9⟩) (Nat.le_refl _), (fun r hr => by rw [List.getElem?_eq_none (Nat.le_refl _)] at hr; cases hr), rfl, ⟨rfl, rfl, rfl, rfl, rfl, rfl, trivial⟩⟩
  rintro M ρ O ⟨ks, todo, qb, qc, cur, jl, rfl, hsb, hjl, hM, hH⟩
  obtain ⟨ρ0, rfl⟩ := hH.elim
  clear hH
  have hkb : ks.length = nx.length := hsb.l
  have hmb := hsb.mu
  refine T.seq (T.seq (T.region ?_))
  refine TO.quiet (q_move rfl) (TO.quiet (q_len Try.underlying22 rfl) (TO.quiet (q_gtr rfl rfl) ?_))
  refine TO.nil ?_
  refine T.condP rfl (fun hc => ?_) (fun hc => ?_)
  · have hlt17 : todo.length > 0 := by omega
    obtain ⟨u, rest, htd⟩ : ∃ u rest, todo = u :: rest := List.exists_cons_of_length_pos (by omega)
    refine T.skip (T.block (T.seq (T.region ?_)))
    refine TO.quiet (q_move rfl) (TO.quiet (q_ix (i := 0) Try.underlying22 inf3 rfl rfl (rowO (List.mem_of_getElem? (i := 1) rfl))) (TO.quiet (q_ld Try.underlying3 rfl rfl (rowO (List.mem_of_getElem? (i := 1) rfl)) (show (nats todo)[0]? = some (.int .i64 ((u : Nat) : Int)) by rw [htd]; rfl)) (TO.quiet (q_assign rfl) ?_)))
    refine TO.nil (T.seq (T.region ?_))
    refine TO.quiet (q_move rfl) ?_
    refine TO.loud rfl (l_tail 1 Try.underlying22 inf3 (by decide) rfl rfl rfl (by simp) (by omega) (fun bx4 => ?_))
    refine TO.quiet (q_assign rfl) ?_
    refine TO.nil (T.seq (T.region ?_))
    refine TO.quiet (q_assign rfl) ?_
    refine TO.nil (T.block ?_)
    have hun : u < nx.length := (hsb.td u (by rw [htd]; simp)).1
    have hku : u = v0 ∨ ks.getD u false = true := (hsb.td u (by rw [htd]; simp)).2
    have htl : todo.length = todo.tail.length + 1 := by rw [htd]; rfl
    have hp : SeaP nx (fun _ => true) [] (fun u => u = v0) ks todo.tail 0 u 0 := by
      rw [htd] at hsb ⊢; exact hsb.pop hjl
    obtain ⟨rb1, rc1, g1, s1⟩ := hR.get hun
    have hrl1 := hrl _ (List.getElem_mem hun)
    refine T.loopS (fun (j : Nat) ρ O => ∃ (k3 : List Bool) (t3 : List Nat) (tb3 : Option Addr) (tc3 : Nat), O = [rowI (some ⟨bx2, 0, none⟩) nx.length 4 1 (bools k3), rowI tb3 tc3 3 1 (nats t3), oI bx1 91 [(.int .i64 b.vars), (.int .i64 b.states), (.slice sb b.start.length sc), (.slice eb b.edges.length ec), (.slice tb b.sets.length tc), (.slice ab nx.length ac), (.slice nb nx.length nc)]] ∧ j ≤ nx[u].length ∧ SeaP nx (fun _ => true) [] (fun u => u = v0) k3 t3 0 u j ∧ t3.length + k3.count false + 1 = M ∧ (u = v0 ∨ k3.getD u false = true) ∧ Heads [(0, (.agg #[(.int .i64 b.vars), (.int .i64 b.states), (.slice sb b.start.length sc), (.slice eb b.edges.length ec), (.slice tb b.sets.length tc), (.slice ab nx.length ac), (.slice nb nx.length nc)])), (1, .int .i64 (v0 : Int)), (2, (.pointer (some ⟨bx1, 0, none⟩))), (4, (.slice none 0 0)), (5, (.slice (some ⟨bx2, 0, none⟩) nx.length nx.length)), (6, (.slice tb3 t3.length tc3)), (7, .int .i64 ((u : Nat) : Int)), (8, .int .i64 (j : Int))] ρ) (fun j => nx[u].length - j) 0 ?_ ?_
    · exact ⟨ks, todo.tail, bx4, qc - 1, (by rw [show nats todo.tail = (nats todo).drop 1 by cases todo <;> rfl]; rfl), Nat.zero_le _, hp, by omega, hku, ⟨rfl, rfl, rfl, rfl, rfl, (by rw [List.length_tail]; rfl), rfl, rfl, trivial⟩⟩
    rintro j ρ O ⟨k3, t3, tb3, tc3, rfl, hj, hs3, hM3, hk3, hH⟩
    obtain ⟨ρ0, rfl⟩ := hH.elim
    clear hH
    have hkc : k3.length = nx.length := hs3.l
    have hmc := hs3.mu
    refine T.seq (T.seq (T.region ?_))
    refine TO.quiet (q_move rfl) (TO.quiet (q_fieldAddr Try.underlying91 rfl inf24 rfl rfl) (TO.quiet (q_load_box 2 Try.underlying24 rfl rfl rfl rfl) (TO.quiet (q_move rfl) ?_)))
    refine TO.quiet (q_ix (i := u) Try.underlying24 inf22 rfl rfl (Sl.o hS) (by first | assumption | omega | (simp; omega) | simp_all) (by rw [hR.1]; exact hun)) (TO.quiet (q_ld Try.underlying22 rfl rfl (Sl.o hS) g1) (TO.quiet (q_len Try.underlying22 rfl) (TO.quiet (q_lss rfl rfl) ?_)))
    refine TO.nil ?_
    refine T.condP rfl (fun hc => ?_) (fun hc => ?_)
    · have hlt30 : j < nx[u].length := by omega
      obtain ⟨y, hy, hyn⟩ : ∃ y : Nat, nx[u][j] = (y : Int) ∧ y < nx.length := by
        have h9 := hval _ (List.getElem_mem hun) _ (List.getElem_mem hlt30)
        exact ⟨nx[u][j].toNat, by omega, by omega⟩
      refine T.skip (T.seq (T.block (T.seq (T.region ?_))))
      refine TO.quiet (q_move rfl) (TO.quiet (q_fieldAddr Try.underlying91 rfl inf24 rfl rfl) (TO.quiet (q_load_box 2 Try.underlying24 rfl rfl rfl rfl) (TO.quiet (q_move rfl) ?_)))
      refine TO.quiet (q_ix (i := u) Try.underlying24 inf22 rfl rfl (Sl.o hS) (by first | assumption | omega | (simp; omega) | simp_all) (by rw [hR.1]; exact hun)) (TO.quiet (q_ld Try.underlying22 rfl rfl (Sl.o hS) g1) (TO.quiet (q_move rfl) (TO.quiet (q_ix (i := j) Try.underlying22 inf3 rfl rfl (Sl.o s1)) ?_)))
      refine TO.quiet (q_ld Try.underlying3 rfl rfl (Sl.o s1) (show (ints nx[u])[j]? = _ by rw [ints_get hlt30, hy])) (TO.quiet (q_ix (i := y) Try.underlying39 inf4 rfl rfl (rowO (List.mem_of_getElem? (i := 0) rfl))) (TO.quiet (q_ld Try.underlying4 rfl rfl (rowO (List.mem_of_getElem? (i := 0) rfl)) bools_get) (TO.quiet (q_not rfl) ?_)))
      refine TO.nil ?_
      refine T.cond rfl (fun hc => ?_) (fun hc => ?_)
      · refine T.seq ?_
        refine T.region ?_
        refine TO.quiet (q_move rfl) (TO.quiet (q_fieldAddr Try.underlying91 rfl inf24 rfl rfl) (TO.quiet (q_load_box 2 Try.underlying24 rfl rfl rfl rfl) (TO.quiet (q_move rfl) ?_)))
        refine TO.quiet (q_ix (i := u) Try.underlying24 inf22 rfl rfl (Sl.o hS) (by first | assumption | omega | (simp; omega) | simp_all) (by rw [hR.1]; exact hun)) (TO.quiet (q_ld Try.underlying22 rfl rfl (Sl.o hS) g1) (TO.quiet (q_move rfl) (TO.quiet (q_ix (i := j) Try.underlying22 inf3 rfl rfl (Sl.o s1)) ?_)))
        refine TO.quiet (q_ld Try.underlying3 rfl rfl (Sl.o s1) (show (ints nx[u])[j]? = _ by rw [ints_get hlt30, hy])) (TO.quiet (q_ix (i := y) Try.underlying39 inf4 rfl rfl (rowO (List.mem_of_getElem? (i := 0) rfl))) ?_)
        refine TO.loud rfl (l_st (j := y) (v := .bool true) (vs := [(.bool true)]) (cs := bools k3) 0 inf4 rfl rfl rfl rfl rfl (by simp) rfl (by first | (simp; omega) | (simp_all; omega)) ?_)
        refine TO.sub (O' := [rowI (some ⟨bx2, 0, none⟩) nx.length 4 1 (bools (k3.set y true)), rowI tb3 tc3 3 1 (nats t3), oI bx1 91 [(.int .i64 b.vars), (.int .i64 b.states), (.slice sb b.start.length sc), (.slice eb b.edges.length ec), (.slice tb b.sets.length tc), (.slice ab nx.length ac), (.slice nb nx.length nc)]]) (by rw [show putL (bools k3) y [(.bool true)] = bools (k3.set y true) from (by simp [putL])]; exact Sub.of (List.Sublist.refl _)) ?_
        refine TO.nil (T.region ?_)
        refine TO.quiet (q_move rfl) (TO.quiet (q_fieldAddr Try.underlying91 rfl inf24 rfl rfl) (TO.quiet (q_load_box 2 Try.underlying24 rfl rfl rfl rfl) (TO.quiet (q_move rfl) ?_)))
        refine TO.quiet (q_ix (i := u) Try.underlying24 inf22 rfl rfl (Sl.o hS) (by first | assumption | omega | (simp; omega) | simp_all) (by rw [hR.1]; exact hun)) (TO.quiet (q_ld Try.underlying22 rfl rfl (Sl.o hS) g1) (TO.quiet (q_move rfl) (TO.quiet (q_ix (i := j) Try.underlying22 inf3 rfl rfl (Sl.o s1)) ?_)))
        refine TO.quiet (q_ld Try.underlying3 rfl rfl (Sl.o s1) (show (ints nx[u])[j]? = _ by rw [ints_get hlt30, hy])) ?_
        refine TO.loud rfl (l_build1 (v := .int .i64 ((y : Nat) : Int)) Try.underlying22 inf3 rfl rfl rfl (fun bx5 => ?_))
        refine TO.loud rfl (l_append 2 Try.underlying22 Try.underlying22 inf3 rfl rfl rfl rfl (by simp) (by decide) (Src.row (j := 0) rfl (by simp)) (by simp [oneB]) (by omega) (by decide) (by decide) (fun bx6 c7 => ?_))
        refine TO.quiet (q_assign rfl) ?_
        refine TO.nil (T.region ?_)
        refine TO.quiet (q_move rfl) (TO.quiet (q_addN (a := j) (b := 1) rfl rfl (by omega)) (TO.quiet (q_assign rfl) ?_))
        refine TO.nil ?_
        have hed3 := hs3.edge hun hk3 hlt30 hy hyn
        have hvis := vis_hit (al := fun _ => true) (keep := k3) (todo := t3) (v := y) rfl (by rw [gb (by omega)]; simp_all)
        rw [hvis.1, hvis.2] at hed3
        exact ⟨j + 1, by omega, [rowI (some ⟨bx2, 0, none⟩) nx.length 4 1 (bools (k3.set y true)), rowI bx6 c7 3 1 ((nats t3) ++ [.int .i64 ((y : Nat) : Int)]), oI bx1 91 [(.int .i64 b.vars), (.int .i64 b.states), (.slice sb b.start.length sc), (.slice eb b.edges.length ec), (.slice tb b.sets.length tc), (.slice ab nx.length ac), (.slice nb nx.length nc)]], (Sub.pick [1, 1, 1] rfl), k3.set y true, t3 ++ [y], bx6, c7, (by rw [show nats (t3 ++ [y]) = nats t3 ++ [.int .i64 ((y : Nat) : Int)] from List.map_append]), by omega, hed3.1, by have := hed3.2; omega, hk3.imp id (fun q => by have h9 := SeaP.edge_mono (fun _ => true) (v := y) q; rw [hvis.1] at h9; exact h9), ⟨rfl, rfl, rfl, rfl, rfl, (by rw [List.length_append]; rfl), rfl, rfl, trivial⟩⟩
      refine T.skip (T.region ?_)
      refine TO.quiet (q_move rfl) (TO.quiet (q_addN (a := j) (b := 1) rfl rfl (by omega)) (TO.quiet (q_assign rfl) ?_))
      refine TO.nil ?_
      have hed3 := hs3.edge hun hk3 hlt30 hy hyn
      have hvis := vis_miss (al := fun _ => true) (keep := k3) (todo := t3) (v := y) (by rw [gb (by omega)]; simp_all)
      rw [hvis.1, hvis.2] at hed3
      exact ⟨j + 1, by omega, [rowI (some ⟨bx2, 0, none⟩) nx.length 4 1 (bools k3), rowI tb3 tc3 3 1 (nats t3), oI bx1 91 [(.int .i64 b.vars), (.int .i64 b.states), (.slice sb b.start.length sc), (.slice eb b.edges.length ec), (.slice tb b.sets.length tc), (.slice ab nx.length ac), (.slice nb nx.length nc)]], (Sub.pick [0, 0, 0] rfl), k3, t3, tb3, tc3, rfl, by omega, hed3.1, by omega, hk3, ⟨rfl, rfl, rfl, rfl, rfl, rfl, rfl, rfl, trivial⟩⟩
    have hge30 : ¬ j < nx[u].length := by omega
    refine T.exit ?_
    exact ⟨M - 1, by omega, k3, t3, tb3, tc3, u, j, rfl, hs3, (fun r hr => by rw [List.getElem?_eq_getElem hun] at hr; cases hr; omega), by omega, ⟨rfl, rfl, rfl, rfl, rfl, rfl, trivial⟩⟩
  have hge17 : ¬ todo.length > 0 := by omega
  refine T.exit ?_
  refine T.seq (T.region ?_)
  refine TO.quiet (q_move rfl) (TO.quiet (q_assign rfl) ?_)
  refine TO.nil (T.ret (Res.drop ?_))
  refine Res.one (.slice (some ⟨bx2, 0, none⟩) nx.length nx.length) Try.results83 rfl ?_
  have htn : todo = [] := List.eq_nil_of_length_eq_zero (by omega)
  exact ⟨[rowI (some ⟨bx2, 0, none⟩) nx.length 4 1 (bools ks)], (Sub.pick [0] rfl), _, _, ks, rfl, rfl, hkb, fun x hx => by
    rw [htn] at hsb
    have h9 := hsb.done hval (Nat.zero_le _) hjl x
    rw [h9, ← rea_all]
    simp only [List.not_mem_nil]⟩
end Go.Proofs.Ytnamoapbienooaa


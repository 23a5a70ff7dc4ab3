/- Contracts of functions of the program (RefM): what each call answers and that it leaves memory as it was. Conditions: those each theorem names. -/
import Derived.Test.YthfemndklplpbaaDoorRefR
import Derived.Test.YthfemndklplpbaaDoorRef7
set_option linter.unusedSectionVars false
set_option linter.unusedSimpArgs false
set_option linter.unusedVariables false
set_option linter.unnecessarySimpa false
namespace Go.Proofs.YthfemndklplpbaaDoor
open Go.Lx Go.RowKit
set_option linter.unusedVariables false
set_option linter.unusedSimpArgs false

set_option maxHeartbeats 1000000 in
set_option maxRecDepth 20000 in
theorem rMinBad (w : World) (d : DFA) (nb fb : Option Addr) (nc fc : Nat) (vs : List Value) (h : DfaAt w d nb vs fb) (hb : d.next.length < 9223372036854775807) (hbr : ∀ r ∈ d.next, r.length < 9223372036854775807) (hbf : d.final.length < 9223372036854775807) (he : checkD d ≠ 0) :
    PureT Tryd.prog 14 [.agg (dfaCells d nb nc fb fc).toArray] w fun v N => v = .tuple #[.agg #[.int .i64 0, .int .i64 0, .slice none 0 0, .slice none 0 0], .int .i64 (checkD d : Int)] ∧ N = [] := by
  refine CallT.enter Tryd.func14 rfl Tryd.ntmps14 rfl ?_
  refine T.seq ?_
  refine T.region ?_
  refine TO.loud rfl (l_box (v := (.agg #[(.int .i64 d.vars), (.int .i64 d.start), (.slice nb d.next.length nc), (.slice fb d.final.length fc)])) (cs := [(.int .i64 d.vars), (.int .i64 d.start), (.slice nb d.next.length nc), (.slice fb d.final.length fc)]) rfl rfl (fun b1 => ?_))
  refine TO.loud rfl (l_alloc inf25 rfl (fun b2 => ?_))
  refine TO.quiet (q_assign rfl) ?_
  refine TO.nil ?_
  refine T.seq ?_
  refine T.region ?_
  refine TO.quiet (q_load_boxAgg 1 Tryd.underlying25 rfl inf25 rfl rfl rfl) ?_
  have hk12 := fun (w1 : World) (hI : Inv w [objI b2 (.cells (List.toArray [(.int .i64 0), (.int .i64 0), (.slice none 0 0), (.slice none 0 0)]) 25 (0, 0)), objI b1 (.cells (List.toArray [(.int .i64 d.vars), (.int .i64 d.start), (.slice nb d.next.length nc), (.slice fb d.final.length fc)]) 25 (0, 0))] w1) => rClassesBad w1 d nb fb nc fc vs (hI.dfa h) hb hbr hbf he
  refine TO.loud rfl (l_call ent15 (CallT.of_pure hk12) rfl ?_)
  clear hk12
  rintro v O' ⟨N, rfl, rfl, rfl⟩
  refine TO.quiet (q_move rfl) ?_
  refine TO.quiet (q_extract (vs := _) rfl rfl) ?_
  refine TO.quiet (q_extract (vs := _) rfl rfl) ?_
  refine TO.quiet (q_assign rfl) ?_
  refine TO.quiet (q_assign rfl) ?_
  refine TO.nil ?_
  refine T.seq ?_
  refine T.seq ?_
  refine T.region ?_
  refine TO.quiet (q_move rfl) ?_
  refine TO.quiet (QT.toB (q_neq rfl rfl) (decide_eq_true (by omega))) ?_
  refine TO.nil ?_
  refine T.cond1 rfl ?_
  refine T.seq ?_
  refine T.region ?_
  refine TO.quiet (q_build plan25 inf25 rfl) ?_
  refine TO.quiet (q_move rfl) ?_
  refine TO.loud rfl (l_store_box (v := (.agg #[(.int .i64 0), (.int .i64 0), (.slice none 0 0), (.slice none 0 0)])) (vs := [(.int .i64 0), (.int .i64 0), (.slice none 0 0), (.slice none 0 0)]) 0 inf25 rfl rfl rfl rfl rfl rfl (by simp [putL]) ?_)
  refine TO.quiet (q_assign rfl) ?_
  refine TO.nil ?_
  refine T.ret ?_
  refine Res.drop ?_
  refine Res.cell1b (.int .i64 (checkD d : Int)) (i := 0) Tryd.results14 Tryd.underlying25 rfl inf25 rfl rfl rfl rfl ?_
  exact ⟨[], Sub.of (List.nil_sublist _), rfl, rfl⟩

set_option maxHeartbeats 4000000 in
set_option maxRecDepth 20000 in
theorem rMinOk (w : World) (d : DFA) (nb fb : Option Addr) (nc fc : Nat) (vs : List Value) (h : DfaAt w d nb vs fb) (hv : Valid d) (hn : d.next.length < 100) (hqv : Valid (quo d (itF d d.next.length))) (hqn : (quo d (itF d d.next.length)).next.length < 100) :
    PureT Tryd.prog 14 [.agg (dfaCells d nb nc fb fc).toArray] w fun v N => ∃ nb' nc' fb' fc' qs, v = .tuple #[.agg (dfaCells (renum (quo d (itF d d.next.length))) nb' nc' fb' fc').toArray, .int .i64 0] ∧ N = [rowI nb' nc' 33 1 (vals qs), rowI fb' fc' 4 1 (bools (renum (quo d (itF d d.next.length))).final)] ++ itms 3 qs ∧ nums qs = (renum (quo d (itF d d.next.length))).next := by
  refine CallT.enter Tryd.func14 rfl Tryd.ntmps14 rfl ?_
  obtain ⟨cs, hcs⟩ : ∃ cs, itF d d.next.length = cs := ⟨_, rfl⟩
  rw [hcs] at hqv hqn ⊢
  have hcl : cs.length = d.next.length := hcs ▸ itF_length d _
  have hs0 := hv.s0
  have hs1 := hv.s1
  have hn0 := hv.n0
  have hn4 := hv.n4
  have hsn : d.start.toNat < cs.length := by omega
  have hb : d.next.length < 9223372036854775807 := by omega
  have hvl := h.rows.1
  have hww := hv.width
  refine T.seq ?_
  refine T.region ?_
  refine TO.loud rfl (l_box (v := (.agg #[(.int .i64 d.vars), (.int .i64 d.start), (.slice nb d.next.length nc), (.slice fb d.final.length fc)])) (cs := [(.int .i64 d.vars), (.int .i64 d.start), (.slice nb d.next.length nc), (.slice fb d.final.length fc)]) rfl rfl (fun z1 => ?_))
  refine TO.loud rfl (l_alloc inf25 rfl (fun z2 => ?_))
  refine TO.quiet (q_assign rfl) ?_
  refine TO.nil ?_
  refine T.seq ?_
  refine T.region ?_
  refine TO.quiet (q_load_boxAgg 1 Tryd.underlying25 rfl inf25 rfl rfl rfl) ?_
  have hk12 := fun (w1 : World) (hI : Inv w [objI z2 (.cells (List.toArray [(.int .i64 0), (.int .i64 0), (.slice none 0 0), (.slice none 0 0)]) 25 (0, 0)), objI z1 (.cells (List.toArray [(.int .i64 d.vars), (.int .i64 d.start), (.slice nb d.next.length nc), (.slice fb d.final.length fc)]) 25 (0, 0))] w1) => rClassesOk w1 d nb fb nc fc vs (hI.dfa h) hv hn
  refine TO.loud rfl (l_call ent15 (CallT.of_pure hk12) rfl ?_)
  clear hk12
  rintro v O' ⟨N, rfl, cb, cc, rfl, rfl⟩
  rw [hcs]
  refine TO.quiet (q_move rfl) ?_
  refine TO.quiet (q_extract (vs := _) rfl rfl) ?_
  refine TO.quiet (q_extract (vs := _) rfl rfl) ?_
  refine TO.quiet (q_assign rfl) ?_
  refine TO.quiet (q_assign rfl) ?_
  refine TO.nil ?_
  refine T.seq ?_
  refine T.seq ?_
  refine T.region ?_
  refine TO.quiet (q_move rfl) ?_
  refine TO.quiet (q_neq rfl rfl) ?_
  refine TO.nil ?_
  refine T.cond0 rfl ?_
  refine T.skip ?_
  refine T.seq ?_
  refine T.draws [rowI cb cc 3 1 (nats cs), objI z1 (.cells (List.toArray [(.int .i64 d.vars), (.int .i64 d.start), (.slice nb d.next.length nc), (.slice fb d.final.length fc)]) 25 (0, 0))] [(0, 0), (1, 0), (2, 0), (3, 0), (4, 0), (5, 0), (6, 0), (7, 0), (8, 1), (9, 2)] mixed (by kernel_rfl) (Sub.pick [0, 1] rfl) (fun _ _ _ h => h) ?_
  refine DO.quiet rfl (q_fieldAddr Tryd.underlying25 rfl inf3 rfl rfl) ?_
  refine DO.quiet rfl (q_load_box 1 Tryd.underlying3 rfl rfl rfl rfl) ?_
  refine DO.quiet rfl (q_move rfl) ?_
  refine DO.quiet rfl (q_fieldAddr Tryd.underlying25 rfl inf3 rfl rfl) ?_
  refine DO.quiet rfl (q_load_box 1 Tryd.underlying3 rfl rfl rfl rfl) ?_
  refine DO.quiet rfl (q_ixz (i := d.start) Tryd.underlying33 inf3 rfl rfl (rowO (List.mem_of_getElem? (i := 0) rfl)) hs0 (hcl ▸ hsn) (by rw [List.length_map]; exact hsn)) ?_
  refine DO.quiet rfl (q_ld Tryd.underlying3 rfl rfl (rowO (List.mem_of_getElem? (i := 0) rfl)) (show (nats cs)[d.start.toNat]? = some (.int .i64 ((cs.getD d.start.toNat 0 : Nat) : Int)) by rw [nats_get hsn]; simp [hsn])) ?_
  refine DO.quiet rfl (q_build (cs := [(.int .i64 d.vars), .int .i64 ((cs.getD d.start.toNat 0 : Nat) : Int), (.slice none 0 0), (.slice none 0 0)]) plan25 inf25 (by kernel_rfl)) ?_
  refine DO.loud rfl rfl (l_alloc inf25 rfl (fun z3 => ⟨Sub.pick [1, 2] rfl, ?_⟩))
  refine DO.last rfl rfl (l_store_box (v := (.agg #[(.int .i64 d.vars), .int .i64 ((cs.getD d.start.toNat 0 : Nat) : Int), (.slice none 0 0), (.slice none 0 0)])) (vs := [(.int .i64 d.vars), .int .i64 ((cs.getD d.start.toNat 0 : Nat) : Int), (.slice none 0 0), (.slice none 0 0)]) 0 inf25 rfl rfl rfl rfl rfl rfl (by simp [putL]) ?_)
  refine DO.done ?_
  refine T.seq ?_
  refine T.seq ?_
  refine T.region ?_
  refine TO.quiet (q_assign rfl) ?_
  refine TO.nil ?_
  refine T.block ?_
  refine T.nilRow 4 1 ?_
  refine T.nilRow 33 1 ?_
  refine T.loop (fun (k : Nat) ρ O => ∃ (ob fb9 : Option Addr) (oc fc9 : Nat) (qs : List Rec) (fs : List Bool), O = ([rowI ob oc 33 1 (vals qs), rowI fb9 fc9 4 1 (bools fs), objI z3 (.cells (List.toArray [(.int .i64 d.vars), (.int .i64 ((cs.getD d.start.toNat 0 : Nat) : Int)), (.slice ob qs.length oc), (.slice fb9 fs.length fc9)]) 25 (0, 0)), rowI cb cc 3 1 (nats cs), objI z2 (.cells (List.toArray [(.int .i64 0), (.int .i64 0), (.slice none 0 0), (.slice none 0 0)]) 25 (0, 0)), objI z1 (.cells (List.toArray [(.int .i64 d.vars), (.int .i64 d.start), (.slice nb d.next.length nc), (.slice fb d.final.length fc)]) 25 (0, 0))] ++ itms 3 qs) ∧ k ≤ d.next.length ∧ nums qs = (quoN d cs k).1 ∧ fs = (quoN d cs k).2 ∧ Heads [(0, (.agg #[(.int .i64 d.vars), (.int .i64 d.start), (.slice nb d.next.length nc), (.slice fb d.final.length fc)])), (1, (.pointer (some ⟨z1, 0, none⟩))), (2, (.pointer (some ⟨z2, 0, none⟩))), (3, .int .i64 0), (4, (.slice cb d.next.length cc)), (5, .int .i64 0), (6, (.pointer (some ⟨z3, 0, none⟩))), (7, .int .i64 (k : Int))] ρ) (fun k => d.next.length - k) 0 ?_ ?_
  · exact ⟨none, none, 0, 0, [], [], rfl, Nat.zero_le _, rfl, rfl, ⟨rfl, rfl, rfl, rfl, rfl, rfl, rfl, rfl, trivial⟩⟩
  · rintro k ρ O ⟨ob, fb9, oc, fc9, qs, fs, rfl, hk, hqs, hfs, hH⟩
    obtain ⟨ρ0, rfl⟩ := hH.elim
    clear hH
    refine T.seq ?_
    refine T.seq ?_
    refine T.region ?_
    refine TO.quiet (q_move rfl) ?_
    refine TO.quiet (q_move rfl) ?_
    refine TO.quiet (q_len Tryd.underlying33 rfl) ?_
    refine TO.quiet (q_lss rfl rfl) ?_
    refine TO.nil ?_
    refine T.condP rfl (fun hc => ?_) (fun hc => ?_)
    · have hlt30 : k < d.next.length := by omega
      have hkc : k < cs.length := by omega
      have hql : qs.length = (quoN d cs k).1.length := by rw [← hqs]; simp
      have hfl : fs.length = (quoN d cs k).1.length := by rw [hfs]; exact (quoN_len d cs k).1.symm
      have hqk := (quoN_len d cs k).2
      have hkf : k < d.final.length := by have := hv.fin; omega
      obtain ⟨vb, vc, g1, s1⟩ := h.rows.get hlt30
      have hrl : d.next[k].length ≤ 64 := by
        have := hv.len _ (List.getElem_mem hlt30); omega
      have hto : ∀ j (hj : j < d.next[k].length), 0 ≤ d.next[k][j] ∧ d.next[k][j].toNat < cs.length := fun j hj => by have := hv.ok _ (List.getElem_mem hlt30) _ (List.getElem_mem hj); omega
      refine T.skip ?_
      refine T.seq ?_
      refine T.block ?_
      refine T.seq ?_
      refine T.seq ?_
      refine T.draws [objI z3 (.cells (List.toArray [(.int .i64 d.vars), (.int .i64 ((cs.getD d.start.toNat 0 : Nat) : Int)), (.slice ob qs.length oc), (.slice fb9 fs.length fc9)]) 25 (0, 0)), rowI cb cc 3 1 (nats cs)] [(0, 0), (1, 0), (2, 0), (3, 0), (4, 0), (5, 0), (6, 0), (7, 0)] mixed (by kernel_rfl) (Sub.pick0 [2, 2] [rowI ob oc 33 1 (vals qs), rowI fb9 fc9 4 1 (bools fs), objI z3 (.cells (List.toArray [(.int .i64 d.vars), (.int .i64 ((cs.getD d.start.toNat 0 : Nat) : Int)), (.slice ob qs.length oc), (.slice fb9 fs.length fc9)]) 25 (0, 0)), rowI cb cc 3 1 (nats cs), objI z2 (.cells (List.toArray [(.int .i64 0), (.int .i64 0), (.slice none 0 0), (.slice none 0 0)]) 25 (0, 0)), objI z1 (.cells (List.toArray [(.int .i64 d.vars), (.int .i64 d.start), (.slice nb d.next.length nc), (.slice fb d.final.length fc)]) 25 (0, 0))] (itms 3 qs) rfl rfl) (fun _ _ _ h => h) ?_
      refine DO.quiet rfl (q_move rfl) ?_
      refine DO.quiet rfl (q_move rfl) ?_
      refine DO.quiet rfl (q_ix (i := k) Tryd.underlying33 inf3 rfl rfl (rowO (List.mem_of_getElem? (i := 1) rfl)) hlt30 (by rw [List.length_map]; exact hkc)) ?_
      refine DO.quiet rfl (q_ld Tryd.underlying3 rfl rfl (rowO (List.mem_of_getElem? (i := 1) rfl)) (nats_get hkc)) ?_
      refine DO.quiet rfl (q_fieldAddr Tryd.underlying25 rfl inf22 rfl rfl) ?_
      refine DO.quiet rfl (q_load_box 0 Tryd.underlying22 rfl rfl rfl rfl) ?_
      refine DO.quiet rfl (q_len Tryd.underlying22 rfl) ?_
      refine DO.quiet rfl (q_lss rfl rfl) ?_
      refine DO.done ?_
      refine T.condP rfl (fun hc => ?_) (fun hc => ?_)
      · have hlt40 : cs[k] < qs.length := by omega
        have hqn1 : quoN d cs (k + 1) = quoN d cs k := by rw [quoN, if_pos (by simp [hkc]; omega)]
        refine T.exit ?_
        refine T.region ?_
        refine TO.quiet (q_move rfl) ?_
        refine TO.quiet (q_inc rfl rfl (by omega)) ?_
        refine TO.quiet (q_assign rfl) ?_
        skip
        refine TO.nil ?_
        refine ⟨k + 1, by omega, ob, fb9, oc, fc9, qs, fs, rfl, by omega, ?_, ?_, ⟨rfl, rfl, rfl, rfl, rfl, rfl, rfl, rfl, trivial⟩⟩
        · rw [hqn1]; exact hqs
        · rw [hqn1]; exact hfs
      · have hge40 : ¬ cs[k] < qs.length := by omega
        have hqn2 : quoN d cs (k + 1) = ((quoN d cs k).1 ++ [(rowK cs d.next[k]).map fun c : Nat => (c : Int)], (quoN d cs k).2 ++ [d.final[k]]) := by rw [quoN, if_neg (by simp [hkc]; omega)]; simp [hlt30, hkf]
        refine T.skip ?_
        refine T.seq ?_
        refine T.region ?_
        refine TO.quiet (q_assign rfl) ?_
        refine TO.nil ?_
        refine T.seq ?_
        refine T.seq ?_
        refine T.region ?_
        refine TO.quiet (q_assign rfl) ?_
        refine TO.nil ?_
        refine T.block ?_
        refine T.nilRow 3 1 ?_
        refine T.loop (fun (j : Nat) ρ O => ∃ (kb : Option Addr) (kc : Nat), O = ([rowI kb kc 3 1 (nats ((rowK cs d.next[k]).take j)), rowI ob oc 33 1 (vals qs), rowI fb9 fc9 4 1 (bools fs), objI z3 (.cells (List.toArray [(.int .i64 d.vars), (.int .i64 ((cs.getD d.start.toNat 0 : Nat) : Int)), (.slice ob qs.length oc), (.slice fb9 fs.length fc9)]) 25 (0, 0)), rowI cb cc 3 1 (nats cs), objI z2 (.cells (List.toArray [(.int .i64 0), (.int .i64 0), (.slice none 0 0), (.slice none 0 0)]) 25 (0, 0)), objI z1 (.cells (List.toArray [(.int .i64 d.vars), (.int .i64 d.start), (.slice nb d.next.length nc), (.slice fb d.final.length fc)]) 25 (0, 0))] ++ itms 3 qs) ∧ j ≤ d.next[k].length ∧ Heads [(0, (.agg #[(.int .i64 d.vars), (.int .i64 d.start), (.slice nb d.next.length nc), (.slice fb d.final.length fc)])), (1, (.pointer (some ⟨z1, 0, none⟩))), (2, (.pointer (some ⟨z2, 0, none⟩))), (3, .int .i64 0), (4, (.slice cb d.next.length cc)), (5, .int .i64 0), (6, (.pointer (some ⟨z3, 0, none⟩))), (7, .int .i64 (k : Int)), (8, (.slice kb j kc)), (9, .int .i64 (j : Int))] ρ) (fun j => d.next[k].length - j) 0 ?_ ?_
        · exact ⟨none, 0, rfl, Nat.zero_le _, ⟨rfl, rfl, rfl, rfl, rfl, rfl, rfl, rfl, rfl, rfl, trivial⟩⟩
        · rintro j ρ O ⟨kb, kc, rfl, hj, hH⟩
          obtain ⟨ρ0, rfl⟩ := hH.elim
          clear hH
          refine T.seq ?_
          refine T.seq ?_
          refine T.region ?_
          refine TO.quiet (q_move rfl) ?_
          refine TO.quiet (q_fieldAddr Tryd.underlying25 rfl inf22 rfl rfl) ?_
          refine TO.quiet (q_load_box 6 Tryd.underlying22 rfl rfl rfl rfl) ?_
          refine TO.quiet (q_move rfl) ?_
          refine TO.quiet (q_ix (i := k) Tryd.underlying22 inf33 rfl rfl (Sl.o h.outer) hlt30 (hvl ▸ hlt30)) ?_
          refine TO.quiet (q_ld Tryd.underlying33 rfl rfl (Sl.o h.outer) g1) ?_
          refine TO.quiet (q_len Tryd.underlying33 rfl) ?_
          refine TO.quiet (q_lss rfl rfl) ?_
          refine TO.nil ?_
          refine T.condP rfl (fun hc => ?_) (fun hc => ?_)
          · have hlt48 : j < d.next[k].length := by omega
            have htj := (hto j hlt48).2
            refine T.skip ?_
            refine T.seq ?_
            refine T.block ?_
            refine T.region ?_
            refine TO.quiet (q_move rfl) ?_
            refine TO.quiet (q_move rfl) ?_
            refine TO.quiet (q_fieldAddr Tryd.underlying25 rfl inf22 rfl rfl) ?_
            refine TO.quiet (q_load_box 6 Tryd.underlying22 rfl rfl rfl rfl) ?_
            refine TO.quiet (q_move rfl) ?_
            refine TO.quiet (q_ix (i := k) Tryd.underlying22 inf33 rfl rfl (Sl.o h.outer) hlt30 (hvl ▸ hlt30)) ?_
            refine TO.quiet (q_ld Tryd.underlying33 rfl rfl (Sl.o h.outer) g1) ?_
            refine TO.quiet (q_move rfl) ?_
            refine TO.quiet (q_ix (i := j) Tryd.underlying33 inf3 rfl rfl (Sl.o s1) hlt48 (by rw [List.length_map]; exact hlt48)) ?_
            refine TO.quiet (q_ld Tryd.underlying3 rfl rfl (Sl.o s1) (ints_get hlt48)) ?_
            refine TO.quiet (q_ixz (i := d.next[k][j]) Tryd.underlying33 inf3 rfl rfl (rowO (List.mem_of_getElem? (i := 4) rfl)) (hto j hlt48).1 (hcl ▸ (hto j hlt48).2) (by rw [List.length_map]; exact (hto j hlt48).2)) ?_
            refine TO.quiet (q_ld Tryd.underlying3 rfl rfl (rowO (List.mem_of_getElem? (i := 4) rfl)) (nats_get (hto j hlt48).2)) ?_
            refine TO.loud rfl (l_build1 (v := .int .i64 ((cs[d.next[k][j].toNat] : Nat) : Int)) Tryd.underlying33 inf3 rfl rfl rfl (fun z4 => ?_))
            refine TO.loud rfl (l_append 1 Tryd.underlying33 Tryd.underlying33 inf3 rfl rfl rfl rfl (by rw [List.length_map, List.length_take, rowK_length]; omega) (by decide) (Src.row (j := 0) rfl (by simp)) (by simp [oneB]) (by omega) (by decide) (by decide) (fun z5 zc6 => ?_))
            refine TO.quiet (q_assign rfl) ?_
            refine TO.nil ?_
            refine T.region ?_
            refine TO.quiet (q_move rfl) ?_
            refine TO.quiet (q_inc rfl rfl (by omega)) ?_
            refine TO.quiet (q_assign rfl) ?_
            refine TO.sub (O' := ([rowI z5 zc6 3 1 ((nats ((rowK cs d.next[k]).take j)) ++ [.int .i64 ((cs[d.next[k][j].toNat] : Nat) : Int)]), rowI ob oc 33 1 (vals qs), rowI fb9 fc9 4 1 (bools fs), objI z3 (.cells (List.toArray [(.int .i64 d.vars), (.int .i64 ((cs.getD d.start.toNat 0 : Nat) : Int)), (.slice ob qs.length oc), (.slice fb9 fs.length fc9)]) 25 (0, 0)), rowI cb cc 3 1 (nats cs), objI z2 (.cells (List.toArray [(.int .i64 0), (.int .i64 0), (.slice none 0 0), (.slice none 0 0)]) 25 (0, 0)), objI z1 (.cells (List.toArray [(.int .i64 d.vars), (.int .i64 d.start), (.slice nb d.next.length nc), (.slice fb d.final.length fc)]) 25 (0, 0))] ++ itms 3 qs)) (Sub.pickR [1, 1, 1, 1, 1, 1, 1] [rowI (some ⟨z4, 0, none⟩) 1 3 1 [.int .i64 ((cs[d.next[k][j].toNat] : Nat) : Int)], rowI z5 zc6 3 1 ((nats ((rowK cs d.next[k]).take j)) ++ [.int .i64 ((cs[d.next[k][j].toNat] : Nat) : Int)]), rowI ob oc 33 1 (vals qs), rowI fb9 fc9 4 1 (bools fs), objI z3 (.cells (List.toArray [(.int .i64 d.vars), (.int .i64 ((cs.getD d.start.toNat 0 : Nat) : Int)), (.slice ob qs.length oc), (.slice fb9 fs.length fc9)]) 25 (0, 0)), rowI cb cc 3 1 (nats cs), objI z2 (.cells (List.toArray [(.int .i64 0), (.int .i64 0), (.slice none 0 0), (.slice none 0 0)]) 25 (0, 0)), objI z1 (.cells (List.toArray [(.int .i64 d.vars), (.int .i64 d.start), (.slice nb d.next.length nc), (.slice fb d.final.length fc)]) 25 (0, 0))] (itms 3 qs) rfl rfl) ?_
            refine TO.nil ?_
            have hst : (rowK cs d.next[k]).take (j + 1) = (rowK cs d.next[k]).take j ++ [cs[d.next[k][j].toNat]] := by rw [List.take_succ_eq_append_getElem (by rw [rowK_length]; exact hlt48), rowK_get hlt48 (hto j hlt48).2]
            exact ⟨j + 1, by omega, z5, zc6, by rw [hst, show nats ((rowK cs d.next[k]).take j ++ [cs[d.next[k][j].toNat]]) = nats ((rowK cs d.next[k]).take j) ++ [.int .i64 ((cs[d.next[k][j].toNat] : Nat) : Int)] from List.map_append], by omega, ⟨rfl, rfl, rfl, rfl, rfl, rfl, rfl, rfl, rfl, rfl, trivial⟩⟩
          · have hge48 : ¬ j < d.next[k].length := by omega
            refine T.exit ?_
            refine T.seq ?_
            refine T.region ?_
            refine TO.quiet (q_fieldAddr Tryd.underlying25 rfl inf22 rfl rfl) ?_
            refine TO.quiet (q_load_box 3 Tryd.underlying22 rfl rfl rfl rfl) ?_
            refine TO.quiet (q_move rfl) ?_
            refine TO.loud rfl (l_build1 (v := (.slice kb j kc)) Tryd.underlying22 inf33 rfl rfl rfl (fun z7 => ?_))
            refine TO.loud rfl (l_append 2 Tryd.underlying22 Tryd.underlying22 inf33 rfl rfl rfl rfl (by rw [List.length_map]; omega) (by decide) (Src.row (j := 0) rfl (by simp)) (by simp [oneB]) (by omega) (by decide) (by decide) (fun z8 zc9 => ?_))
            refine TO.quiet (q_fieldAddr Tryd.underlying25 rfl inf22 rfl rfl) ?_
            refine TO.loud rfl (l_store_box (v := (.slice z8 (qs.length + 1) zc9)) (vs := [(.slice z8 (qs.length + 1) zc9)]) 4 inf22 rfl rfl rfl rfl rfl rfl (by simp [putL]) ?_)
            refine TO.nil ?_
            refine T.draws _ [(0, 0), (1, 0), (2, 0), (3, 0), (4, 0), (5, 0), (6, 0), (7, 1), (8, 2), (9, 2), (10, 2)] mixed (by kernel_rfl) (Sub.of (List.Sublist.refl _)) (fun _ _ _ h => h) ?_
            refine DO.quiet rfl (q_fieldAddr Tryd.underlying25 rfl inf23 rfl rfl) ?_
            refine DO.quiet rfl (q_load_box 4 Tryd.underlying23 rfl rfl rfl rfl) ?_
            refine DO.quiet rfl (q_fieldAddr Tryd.underlying25 rfl inf23 rfl rfl) ?_
            refine DO.quiet rfl (q_load_box 7 Tryd.underlying23 rfl rfl rfl rfl) ?_
            refine DO.quiet rfl (q_move rfl) ?_
            refine DO.quiet rfl (q_ix (i := k) Tryd.underlying23 inf4 rfl rfl (Sl.o h.final) hkf (by rw [List.length_map]; exact hkf)) ?_
            refine DO.quiet rfl (q_ld Tryd.underlying4 rfl rfl (Sl.o h.final) (bools_get hkf)) ?_
            refine DO.loud rfl rfl (l_build1 (v := .bool d.final[k]) Tryd.underlying23 inf4 rfl rfl rfl (fun z10 => ⟨Sub.pickR [1, 1, 1, 1, 1, 1, 1, 1] [rowI (some ⟨z10, 0, none⟩) 1 4 1 [.bool d.final[k]], rowI (some ⟨z7, 0, none⟩) 1 33 1 [(.slice kb j kc)], rowI kb kc 3 1 (nats ((rowK cs d.next[k]).take j)), rowI z8 zc9 33 1 ((vals qs) ++ [(.slice kb j kc)]), rowI fb9 fc9 4 1 (bools fs), objI z3 (.cells (List.toArray [(.int .i64 d.vars), (.int .i64 ((cs.getD d.start.toNat 0 : Nat) : Int)), (.slice z8 (qs.length + 1) zc9), (.slice fb9 fs.length fc9)]) 25 (0, 0)), rowI cb cc 3 1 (nats cs), objI z2 (.cells (List.toArray [(.int .i64 0), (.int .i64 0), (.slice none 0 0), (.slice none 0 0)]) 25 (0, 0)), objI z1 (.cells (List.toArray [(.int .i64 d.vars), (.int .i64 d.start), (.slice nb d.next.length nc), (.slice fb d.final.length fc)]) 25 (0, 0))] (itms 3 qs) rfl rfl, ?_⟩))
            refine DO.last rfl rfl (l_append 4 Tryd.underlying23 Tryd.underlying23 inf4 rfl rfl rfl rfl (by rw [List.length_map]; omega) (by decide) (Src.row (j := 0) rfl (by simp)) (by simp [oneB]) (by omega) (by decide) (by decide) (fun z11 zc12 => ?_))
            refine DO.last rfl rfl (LT.of_quiet rfl rfl (q_fieldAddr Tryd.underlying25 rfl inf23 rfl rfl) ?_)
            refine DO.last rfl rfl (l_store_box (v := (.slice z11 (fs.length + 1) zc12)) (vs := [(.slice z11 (fs.length + 1) zc12)]) 5 inf23 rfl rfl rfl rfl rfl rfl (by simp [putL]) ?_)
            refine DO.done ?_
            refine T.region ?_
            refine TO.quiet (q_move rfl) ?_
            refine TO.quiet (q_inc rfl rfl (by omega)) ?_
            refine TO.quiet (q_assign rfl) ?_
            have hjf : j = d.next[k].length := by omega
            have hR : rowI kb kc 3 1 (nats ((rowK cs d.next[k]).take j)) = Rec.itm 3 ⟨kb, kc, (rowK cs d.next[k]).map fun c : Nat => (c : Int)⟩ := by
              rw [List.take_of_length_le (by rw [rowK_length]; omega)]; simp [Rec.itm, Function.comp_def]
            refine TO.sub (O' := [rowI z8 zc9 33 1 ((vals qs) ++ [(.slice kb j kc)]), rowI z11 zc12 4 1 ((bools fs) ++ [.bool d.final[k]]), objI z3 (.cells (List.toArray [(.int .i64 d.vars), (.int .i64 ((cs.getD d.start.toNat 0 : Nat) : Int)), (.slice z8 (qs.length + 1) zc9), (.slice z11 (fs.length + 1) zc12)]) 25 (0, 0)), rowI cb cc 3 1 (nats cs), objI z2 (.cells (List.toArray [(.int .i64 0), (.int .i64 0), (.slice none 0 0), (.slice none 0 0)]) 25 (0, 0)), objI z1 (.cells (List.toArray [(.int .i64 d.vars), (.int .i64 d.start), (.slice nb d.next.length nc), (.slice fb d.final.length fc)]) 25 (0, 0))] ++ itms 3 (qs ++ [⟨kb, kc, (rowK cs d.next[k]).map fun c : Nat => (c : Int)⟩])) (by show Sub _ ([rowI (some ⟨z10, 0, none⟩) 1 4 1 [.bool d.final[k]], rowI (some ⟨z7, 0, none⟩) 1 33 1 [(.slice kb j kc)], rowI kb kc 3 1 (nats ((rowK cs d.next[k]).take j)), rowI z8 zc9 33 1 ((vals qs) ++ [(.slice kb j kc)]), rowI z11 zc12 4 1 ((bools fs) ++ [.bool d.final[k]]), objI z3 (.cells (List.toArray [(.int .i64 d.vars), (.int .i64 ((cs.getD d.start.toNat 0 : Nat) : Int)), (.slice z8 (qs.length + 1) zc9), (.slice z11 (fs.length + 1) zc12)]) 25 (0, 0)), rowI cb cc 3 1 (nats cs), objI z2 (.cells (List.toArray [(.int .i64 0), (.int .i64 0), (.slice none 0 0), (.slice none 0 0)]) 25 (0, 0)), objI z1 (.cells (List.toArray [(.int .i64 d.vars), (.int .i64 d.start), (.slice nb d.next.length nc), (.slice fb d.final.length fc)]) 25 (0, 0))] ++ itms 3 qs); rw [hR]; exact Sub.cnt [rowI (some ⟨z10, 0, none⟩) 1 4 1 [.bool d.final[k]], rowI (some ⟨z7, 0, none⟩) 1 33 1 [(.slice kb j kc)]] (by intro a; simp only [itms, List.set_cons_zero, List.set_cons_succ, putL, List.cons_append, List.nil_append, List.append_nil, List.append_assoc, List.map_append, List.map_cons, List.map_nil, cnt_append, cnt_cons, cnt_nil] <;> omega)) ?_
            refine TO.nil ?_
            refine ⟨k + 1, by omega, z8, z11, zc9, zc12, qs ++ [⟨kb, kc, (rowK cs d.next[k]).map fun c : Nat => (c : Int)⟩], fs ++ [d.final[k]], ?_, by omega, ?_, ?_, ⟨rfl, rfl, rfl, rfl, rfl, rfl, rfl, rfl, trivial⟩⟩
            · simp [Rec.val, rowK_length, hjf]
            · rw [hqn2, ← hqs]; simp
            · rw [hqn2, hfs]
    · have hge30 : ¬ k < d.next.length := by omega
      refine T.exit ?_
      refine T.seq ?_
      have hke : k = d.next.length := by omega
      rw [hke] at hqs hfs
      have hql : qs.length = (quo d cs).next.length := by rw [show qs.length = (nums qs).length by simp, hqs]; rfl
      obtain rfl : fs = (quo d cs).final := hfs
      rw [hql]
      refine T.region ?_
      refine TO.quiet (q_load_boxAgg 2 Tryd.underlying25 rfl inf25 rfl rfl rfl) ?_
      have hk82 := fun (w1 : World) (hI : Inv w ([rowI ob oc 33 1 (vals qs), rowI fb9 fc9 4 1 (bools (quo d cs).final), objI z3 (.cells (List.toArray [(.int .i64 d.vars), (.int .i64 ((cs.getD d.start.toNat 0 : Nat) : Int)), (.slice ob ((quo d cs).next.length) oc), (.slice fb9 ((quo d cs).final.length) fc9)]) 25 (0, 0)), rowI cb cc 3 1 (nats cs), objI z2 (.cells (List.toArray [(.int .i64 0), (.int .i64 0), (.slice none 0 0), (.slice none 0 0)]) 25 (0, 0)), objI z1 (.cells (List.toArray [(.int .i64 d.vars), (.int .i64 d.start), (.slice nb d.next.length nc), (.slice fb d.final.length fc)]) 25 (0, 0))] ++ itms 3 qs) w1) => rRenumOk w1 (quo d cs) ob fb9 oc fc9 (vals qs) ⟨hI.slOf (List.mem_of_getElem? (i := 0) rfl), (show nums qs = (quo d cs).next from hqs) ▸ hI.recs (fun q hq => List.mem_append_right _ (List.mem_map_of_mem (f := Rec.itm 3) hq)), hI.slOf (List.mem_of_getElem? (i := 1) rfl)⟩ hqv hqn
      refine TO.loud rfl (l_call ent40 (CallT.of_pure hk82) rfl ?_)
      clear hk82
      rintro v O' ⟨N, rfl, nb', nc', fb', fc', qs', rfl, rfl, hnx⟩
      refine TO.sub (O' := ([rowI nb' nc' 33 1 (vals qs'), rowI fb' fc' 4 1 (bools (renum (quo d cs)).final), rowI ob oc 33 1 (vals qs), rowI fb9 fc9 4 1 (bools (quo d cs).final), objI z3 (.cells (List.toArray [(.int .i64 d.vars), (.int .i64 ((cs.getD d.start.toNat 0 : Nat) : Int)), (.slice ob ((quo d cs).next.length) oc), (.slice fb9 ((quo d cs).final.length) fc9)]) 25 (0, 0)), rowI cb cc 3 1 (nats cs), objI z2 (.cells (List.toArray [(.int .i64 0), (.int .i64 0), (.slice none 0 0), (.slice none 0 0)]) 25 (0, 0)), objI z1 (.cells (List.toArray [(.int .i64 d.vars), (.int .i64 d.start), (.slice nb d.next.length nc), (.slice fb d.final.length fc)]) 25 (0, 0))] ++ (itms 3 qs') ++ itms 3 qs)) (Sub.cnt [] (by intro a; simp only [itms, List.set_cons_zero, List.set_cons_succ, putL, List.cons_append, List.nil_append, List.append_nil, List.append_assoc, List.map_append, List.map_cons, List.map_nil, cnt_append, cnt_cons, cnt_nil] <;> omega)) ?_
      refine TO.quiet (q_extract (vs := _) rfl rfl) ?_
      refine TO.quiet (q_extract (vs := _) rfl rfl) ?_
      refine TO.loud rfl (l_store_box (v := (.agg #[(.int .i64 (renum (quo d cs)).vars), (.int .i64 (renum (quo d cs)).start), (.slice nb' ((renum (quo d cs)).next.length) nc'), (.slice fb' ((renum (quo d cs)).final.length) fc')])) (vs := [(.int .i64 (renum (quo d cs)).vars), (.int .i64 (renum (quo d cs)).start), (.slice nb' ((renum (quo d cs)).next.length) nc'), (.slice fb' ((renum (quo d cs)).final.length) fc')]) 6 inf25 rfl rfl rfl rfl rfl rfl (by simp [putL]) ?_)
      refine TO.quiet (q_assign rfl) ?_
      refine TO.nil ?_
      refine T.ret ?_
      refine Res.drop ?_
      refine Res.cell1b (.int .i64 0) (i := 6) Tryd.results14 Tryd.underlying25 rfl inf25 rfl rfl rfl rfl ?_
      exact ⟨[rowI nb' nc' 33 1 (vals qs'), rowI fb' fc' 4 1 (bools (renum (quo d cs)).final)] ++ itms 3 qs', Sub.cnt ([rowI ob oc 33 1 (vals qs), rowI fb9 fc9 4 1 (bools (quo d cs).final), objI z3 (.cells (List.toArray [(.int .i64 d.vars), (.int .i64 ((cs.getD d.start.toNat 0 : Nat) : Int)), (.slice ob ((quo d cs).next.length) oc), (.slice fb9 ((quo d cs).final.length) fc9)]) 25 (0, 0)), rowI cb cc 3 1 (nats cs), objI z2 (.cells (List.toArray [(.int .i64 (renum (quo d cs)).vars), (.int .i64 (renum (quo d cs)).start), (.slice nb' ((renum (quo d cs)).next.length) nc'), (.slice fb' ((renum (quo d cs)).final.length) fc')]) 25 (0, 0)), objI z1 (.cells (List.toArray [(.int .i64 d.vars), (.int .i64 d.start), (.slice nb d.next.length nc), (.slice fb d.final.length fc)]) 25 (0, 0))] ++ itms 3 qs) (by intro a; simp only [itms, List.set_cons_zero, List.set_cons_succ, putL, List.cons_append, List.nil_append, List.append_nil, List.append_assoc, List.map_append, List.map_cons, List.map_nil, cnt_append, cnt_cons, cnt_nil] <;> omega), nb', nc', fb', fc', qs', rfl, rfl, hnx⟩
end Go.Proofs.YthfemndklplpbaaDoor

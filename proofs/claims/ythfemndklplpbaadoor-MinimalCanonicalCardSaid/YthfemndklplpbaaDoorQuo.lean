/- Contracts of functions of the program (Quo): what each call answers and that it leaves memory as it was. Conditions: those each theorem names. -/
import Derived.Test.YthfemndklplpbaaDoorRn
import Derived.Test.YthfemndklplpbaaDoorCoreJ
set_option linter.unusedSectionVars false
set_option linter.unusedSimpArgs false
set_option linter.unusedVariables false
set_option linter.unnecessarySimpa false
namespace Go.Proofs.YthfemndklplpbaaDoor
open Go.Lx Go.RowKit
set_option linter.unusedVariables false
set_option linter.unusedSimpArgs false

set_option maxHeartbeats 1000000 in
set_option maxRecDepth 20000 in
theorem minBad (w : World) (d : DFA) (nb fb : Option Addr) (nc fc : Nat) (vs : List Value) (h : DfaAt w d nb vs fb) (hb : d.next.length < 9223372036854775807) (hbr : ∀ r ∈ d.next, r.length < 9223372036854775807) (hbf : d.final.length < 9223372036854775807) (he : checkD d ≠ 0) :
    PureT Tryd.prog 17 [.agg (dfaCells d nb nc fb fc).toArray] w fun v N => v = .tuple #[.agg #[.int .i64 0, .int .i64 0, .slice none 0 0, .slice none 0 0], .int .i64 (checkD d : Int)] ∧ N = [] := by
  refine CallT.enter Tryd.func17 rfl Tryd.ntmps17 rfl ?_
  refine T.seq ?_
  refine T.region ?_
  refine TO.loud rfl (l_box (v := (.agg #[(.int .i64 d.vars), (.int .i64 d.start), (.slice nb d.next.length nc), (.slice fb d.final.length fc)])) (cs := [(.int .i64 d.vars), (.int .i64 d.start), (.slice nb d.next.length nc), (.slice fb d.final.length fc)]) rfl rfl (fun b1 => ?_))
  refine TO.loud rfl (l_alloc inf25 rfl (fun b2 => ?_))
  refine TO.quiet (q_assign rfl) ?_
  refine TO.nil ?_
  refine T.seq ?_
  refine T.region ?_
  refine TO.quiet (q_load_boxAgg 1 Tryd.underlying25 rfl inf25 rfl rfl rfl) ?_
  have hk14 := fun (w1 : World) (hI : Inv w [objI b2 (.cells (List.toArray [(.int .i64 0), (.int .i64 0), (.slice none 0 0), (.slice none 0 0)]) 25 (0, 0)), objI b1 (.cells (List.toArray [(.int .i64 d.vars), (.int .i64 d.start), (.slice nb d.next.length nc), (.slice fb d.final.length fc)]) 25 (0, 0))] w1) => classesBad w1 d nb fb nc fc vs (hI.dfa h) hb hbr hbf he
  refine TO.loud rfl (l_call ent18 (CallT.of_pure hk14) rfl ?_)
  clear hk14
  rintro v O' ⟨N, rfl, rfl, rfl⟩
  refine TO.quiet (q_move rfl) ?_
  refine TO.quiet (q_extract (vs := _) rfl rfl) ?_
  refine TO.quiet (q_extract (vs := _) rfl rfl) ?_
  refine TO.loud rfl (l_alloc inf33 rfl (fun b3 => ?_))
  refine TO.loud rfl (l_store_box (v := (.slice none 0 0)) (vs := [(.slice none 0 0)]) 0 inf33 rfl rfl rfl rfl rfl rfl (by simp [putL]) ?_)
  refine TO.quiet (q_assign rfl) ?_
  refine TO.nil ?_
  refine T.seq ?_
  refine T.seq ?_
  refine T.region ?_
  refine TO.quiet (q_move rfl) ?_
  refine TO.quiet (QT.toB (q_neq rfl rfl) (decide_eq_true (by omega))) ?_
  refine TO.nil ?_
  refine T.cond1 rfl ?_
  refine T.seq ?_
  refine T.region ?_
  refine TO.quiet (q_build plan25 inf25 rfl) ?_
  refine TO.quiet (q_move rfl) ?_
  refine TO.loud rfl (l_store_box (v := (.agg #[(.int .i64 0), (.int .i64 0), (.slice none 0 0), (.slice none 0 0)])) (vs := [(.int .i64 0), (.int .i64 0), (.slice none 0 0), (.slice none 0 0)]) 1 inf25 rfl rfl rfl rfl rfl rfl (by simp [putL]) ?_)
  refine TO.quiet (q_assign rfl) ?_
  refine TO.nil ?_
  refine T.ret ?_
  refine Res.drop ?_
  refine Res.cell1b (.int .i64 (checkD d : Int)) (i := 1) Tryd.results17 Tryd.underlying25 rfl inf25 rfl rfl rfl rfl ?_
  exact ⟨[], Sub.of (List.nil_sublist _), rfl, rfl⟩

set_option maxHeartbeats 1000000 in
set_option maxRecDepth 20000 in
theorem minOk (w : World) (d : DFA) (nb fb : Option Addr) (nc fc : Nat) (vs : List Value) (h : DfaAt w d nb vs fb) (hv : Valid d) (hn : d.next.length < 100) (hqv : Valid (quo d (itF d d.next.length))) (hqn : (quo d (itF d d.next.length)).next.length < 100) :
    PureT Tryd.prog 17 [.agg (dfaCells d nb nc fb fc).toArray] w fun v N => ∃ nb' nc' fb' fc' qs, v = .tuple #[.agg (dfaCells (renum (quo d (itF d d.next.length))) nb' nc' fb' fc').toArray, .int .i64 0] ∧ N = [rowI nb' nc' 33 1 (vals qs), rowI fb' fc' 4 1 (bools (renum (quo d (itF d d.next.length))).final)] ++ itms 3 qs ∧ nums qs = (renum (quo d (itF d d.next.length))).next := by
  refine CallT.enter Tryd.func17 rfl Tryd.ntmps17 rfl ?_
  obtain ⟨cs, hcs⟩ : ∃ cs, itF d d.next.length = cs := ⟨_, rfl⟩
  rw [hcs] at hqv hqn ⊢
  have hcl : cs.length = d.next.length := hcs ▸ itF_length d _
  have hc9 : ∀ x ∈ cs, x < 100 := hcs ▸ itF_lt hn _
  have hs0 := hv.s0
  have hs1 := hv.s1
  have hn0 := hv.n0
  have hn4 := hv.n4
  have hsn : d.start.toNat < cs.length := by omega
  have hb : d.next.length < 9223372036854775807 := by omega
  refine T.seq ?_
  refine T.region ?_
  refine TO.loud rfl (l_box (v := (.agg #[(.int .i64 d.vars), (.int .i64 d.start), (.slice nb d.next.length nc), (.slice fb d.final.length fc)])) (cs := [(.int .i64 d.vars), (.int .i64 d.start), (.slice nb d.next.length nc), (.slice fb d.final.length fc)]) rfl rfl (fun z1 => ?_))
  refine TO.loud rfl (l_alloc inf25 rfl (fun z2 => ?_))
  refine TO.quiet (q_assign rfl) ?_
  refine TO.nil ?_
  refine T.seq ?_
  refine T.region ?_
  refine TO.quiet (q_load_boxAgg 1 Tryd.underlying25 rfl inf25 rfl rfl rfl) ?_
  have hk14 := fun (w1 : World) (hI : Inv w [objI z2 (.cells (List.toArray [(.int .i64 0), (.int .i64 0), (.slice none 0 0), (.slice none 0 0)]) 25 (0, 0)), objI z1 (.cells (List.toArray [(.int .i64 d.vars), (.int .i64 d.start), (.slice nb d.next.length nc), (.slice fb d.final.length fc)]) 25 (0, 0))] w1) => classesOk w1 d nb fb nc fc vs (hI.dfa h) hv hn
  refine TO.loud rfl (l_call ent18 (CallT.of_pure hk14) rfl ?_)
  clear hk14
  rintro v O' ⟨N, rfl, cb, cc, rfl, rfl⟩
  rw [hcs]
  refine TO.quiet (q_move rfl) ?_
  refine TO.quiet (q_extract (vs := _) rfl rfl) ?_
  refine TO.quiet (q_extract (vs := _) rfl rfl) ?_
  refine TO.loud rfl (l_alloc inf33 rfl (fun z3 => ?_))
  refine TO.loud rfl (l_store_box (v := (.slice cb d.next.length cc)) (vs := [(.slice cb d.next.length cc)]) 0 inf33 rfl rfl rfl rfl rfl rfl (by simp [putL]) ?_)
  refine TO.quiet (q_assign rfl) ?_
  refine TO.nil ?_
  refine T.seq ?_
  refine T.seq ?_
  refine T.region ?_
  refine TO.quiet (q_move rfl) ?_
  refine TO.quiet (q_neq rfl rfl) ?_
  refine TO.nil ?_
  refine T.cond0 rfl ?_
  refine T.skip ?_
  refine T.seq ?_
  refine T.draws [objI z3 (.cells (List.toArray [(.slice cb d.next.length cc)]) 33 (0, 0)), rowI cb cc 3 1 (nats cs), objI z1 (.cells (List.toArray [(.int .i64 d.vars), (.int .i64 d.start), (.slice nb d.next.length nc), (.slice fb d.final.length fc)]) 25 (0, 0))] [(0, 0), (1, 0), (2, 0), (3, 0), (4, 0), (5, 0), (6, 0), (7, 0), (8, 1), (9, 2)] mixed (by kernel_rfl) (Sub.pick [0, 0, 1] rfl) (fun _ _ _ h => h) ?_
  refine DO.quiet rfl (q_fieldAddr Tryd.underlying25 rfl inf3 rfl rfl) ?_
  refine DO.quiet rfl (q_load_box 2 Tryd.underlying3 rfl rfl rfl rfl) ?_
  refine DO.quiet rfl (q_load_box 0 Tryd.underlying33 rfl rfl rfl rfl) ?_
  refine DO.quiet rfl (q_fieldAddr Tryd.underlying25 rfl inf3 rfl rfl) ?_
  refine DO.quiet rfl (q_load_box 2 Tryd.underlying3 rfl rfl rfl rfl) ?_
  refine DO.quiet rfl (q_ixz (i := d.start) Tryd.underlying33 inf3 rfl rfl (rowO (List.mem_of_getElem? (i := 1) rfl)) hs0 (hcl ▸ hsn) (by rw [List.length_map]; exact hsn)) ?_
  refine DO.quiet rfl (q_ld Tryd.underlying3 rfl rfl (rowO (List.mem_of_getElem? (i := 1) rfl)) (show (nats cs)[d.start.toNat]? = some (.int .i64 ((cs.getD d.start.toNat 0 : Nat) : Int)) by rw [nats_get hsn]; simp [hsn])) ?_
  refine DO.quiet rfl (q_build plan25 inf25 rfl) ?_
  refine DO.loud rfl rfl (l_alloc inf25 rfl (fun z4 => ⟨Sub.pick [1, 1, 2] rfl, ?_⟩))
  refine DO.last rfl rfl (l_store_box (v := (.agg #[(.int .i64 d.vars), .int .i64 ((cs.getD d.start.toNat 0 : Nat) : Int), (.slice none 0 0), (.slice none 0 0)])) (vs := [(.int .i64 d.vars), .int .i64 ((cs.getD d.start.toNat 0 : Nat) : Int), (.slice none 0 0), (.slice none 0 0)]) 0 inf25 rfl rfl rfl rfl rfl rfl (by simp [putL]) ?_)
  refine DO.done ?_
  refine T.seq ?_
  refine T.seq ?_
  refine T.region ?_
  refine TO.quiet (q_load_boxAgg 4 Tryd.underlying25 rfl inf25 rfl rfl rfl) ?_
  have hk30 := fun (w1 : World) (hI : Inv w [objI z4 (.cells (List.toArray [(.int .i64 d.vars), .int .i64 ((cs.getD d.start.toNat 0 : Nat) : Int), (.slice none 0 0), (.slice none 0 0)]) 25 (0, 0)), objI z3 (.cells (List.toArray [(.slice cb d.next.length cc)]) 33 (0, 0)), rowI cb cc 3 1 (nats cs), objI z2 (.cells (List.toArray [(.int .i64 0), (.int .i64 0), (.slice none 0 0), (.slice none 0 0)]) 25 (0, 0)), objI z1 (.cells (List.toArray [(.int .i64 d.vars), (.int .i64 d.start), (.slice nb d.next.length nc), (.slice fb d.final.length fc)]) 25 (0, 0))] w1) => rowsF w1 d nb fb nc fc
  refine TO.loud rfl (l_call ent42 (CallT.of_pure hk30) rfl ?_)
  clear hk30
  rintro v O' ⟨N, rfl, bR, rfl, rfl⟩
  refine TO.nil ?_
  refine T.nilRow 4 1 ?_
  refine T.nilRow 33 1 ?_
  refine T.sub (O' := [objI bR (.cells (List.toArray [(.int .i64 d.vars), (.int .i64 d.start), (.slice nb d.next.length nc), (.slice fb d.final.length fc)]) 25 (0, 0)), objI z4 (.cells (List.toArray [(.int .i64 d.vars), .int .i64 ((cs.getD d.start.toNat 0 : Nat) : Int), (.slice none 0 0), (.slice none 0 0)]) 25 (0, 0)), rowI none 0 33 1 (vals []), rowI none 0 4 1 (bools []), objI z3 (.cells (List.toArray [(.slice cb d.next.length cc)]) 33 (0, 0)), rowI cb cc 3 1 (nats cs), objI z2 (.cells (List.toArray [(.int .i64 0), (.int .i64 0), (.slice none 0 0), (.slice none 0 0)]) 25 (0, 0)), objI z1 (.cells (List.toArray [(.int .i64 d.vars), (.int .i64 d.start), (.slice nb d.next.length nc), (.slice fb d.final.length fc)]) 25 (0, 0))]) (Sub.pick [2, 2, 0, 0, 0, 0, 0, 0] rfl) ?_
  refine T.block ?_
  refine T.rangeFunc (first := []) (caps := [(.pointer (some ⟨bR, 0, none⟩))]) rfl ent60 (fun l q hq => ?_)
  refine CallT.mono (CallT.sub (O' := objI bR (.cells (List.toArray [(.int .i64 d.vars), (.int .i64 d.start), (.slice nb d.next.length nc), (.slice fb d.final.length fc)]) 25 (0, 0)) :: (objI l (lp q none) :: [objI z4 (.cells (List.toArray [(.int .i64 d.vars), .int .i64 ((cs.getD d.start.toNat 0 : Nat) : Int), (.slice none 0 0), (.slice none 0 0)]) 25 (0, 0)), rowI none 0 33 1 (vals []), rowI none 0 4 1 (bools []), objI z3 (.cells (List.toArray [(.slice cb d.next.length cc)]) 33 (0, 0)), rowI cb cc 3 1 (nats cs), objI z2 (.cells (List.toArray [(.int .i64 0), (.int .i64 0), (.slice none 0 0), (.slice none 0 0)]) 25 (0, 0)), objI z1 (.cells (List.toArray [(.int .i64 d.vars), (.int .i64 d.start), (.slice nb d.next.length nc), (.slice fb d.final.length fc)]) 25 (0, 0))])) (Sub.pick [1, 0, 0, 0, 0, 0, 0, 0, 0] rfl) (rows1 w d nb fb nc fc vs h hb bR (.func (.yield l) #[] #[]) (fun k O => ∃ (ob fb9 : Option Addr) (oc fc9 : Nat) (qs : List Rec) (fs : List Bool), O = objI l (lp q none) :: ([objI z4 (.cells (List.toArray [(.int .i64 d.vars), (.int .i64 ((cs.getD d.start.toNat 0 : Nat) : Int)), (.slice ob qs.length oc), (.slice fb9 fs.length fc9)]) 25 (0, 0)), rowI ob oc 33 1 (vals qs), rowI fb9 fc9 4 1 (bools fs), objI z3 (.cells (List.toArray [(.slice cb d.next.length cc)]) 33 (0, 0)), rowI cb cc 3 1 (nats cs), objI z2 (.cells (List.toArray [(.int .i64 0), (.int .i64 0), (.slice none 0 0), (.slice none 0 0)]) 25 (0, 0)), objI z1 (.cells (List.toArray [(.int .i64 d.vars), (.int .i64 d.start), (.slice nb d.next.length nc), (.slice fb d.final.length fc)]) 25 (0, 0))] ++ itms 3 qs) ∧ k ≤ d.next.length ∧ nums qs = (quoN d cs k).1 ∧ fs = (quoN d cs k).2) (fun _ => False) ?_ _ ?_)) ?_
  · intro k hlt vb vc O g1 s1 hJ
    obtain ⟨ob, fb9, oc, fc9, qs, fs, rfl, hk, hqs, hfs⟩ := hJ
    refine CallV.yield hq rfl rfl ?_
    have hkc : k < cs.length := by omega
    have hql : qs.length = (quoN d cs k).1.length := by rw [← hqs]; simp
    have hfl : fs.length = (quoN d cs k).1.length := by rw [hfs]; exact (quoN_len d cs k).1.symm
    have hqk := (quoN_len d cs k).2
    have hkf : k < d.final.length := by have := hv.fin; omega
    have hrl : d.next[k].length ≤ 64 := by
      have := hv.len _ (List.getElem_mem hlt); have := hv.width; omega
    have hto : ∀ j (hj : j < d.next[k].length), 0 ≤ d.next[k][j] ∧ d.next[k][j].toNat < cs.length := fun j hj => by have := hv.ok _ (List.getElem_mem hlt) _ (List.getElem_mem hj); omega
    refine T.seq ?_
    refine T.region ?_
    refine TO.quiet (q_assign rfl) ?_
    refine TO.nil ?_
    refine T.region ?_
    refine TO.quiet (q_assign rfl) ?_
    refine TO.nil ?_
    refine T.block ?_
    refine T.seq ?_
    refine T.seq ?_
    refine T.draws [objI z4 (.cells (List.toArray [(.int .i64 d.vars), (.int .i64 ((cs.getD d.start.toNat 0 : Nat) : Int)), (.slice ob qs.length oc), (.slice fb9 fs.length fc9)]) 25 (0, 0)), objI z3 (.cells (List.toArray [(.slice cb d.next.length cc)]) 33 (0, 0)), rowI cb cc 3 1 (nats cs)] [(0, 0), (1, 0), (2, 0), (3, 0), (4, 0), (5, 0), (6, 0), (7, 0)] mixed (by kernel_rfl) (Sub.pick0 [0, 2, 2] [objI z4 (.cells (List.toArray [(.int .i64 d.vars), (.int .i64 ((cs.getD d.start.toNat 0 : Nat) : Int)), (.slice ob qs.length oc), (.slice fb9 fs.length fc9)]) 25 (0, 0)), rowI ob oc 33 1 (vals qs), rowI fb9 fc9 4 1 (bools fs), objI z3 (.cells (List.toArray [(.slice cb d.next.length cc)]) 33 (0, 0)), rowI cb cc 3 1 (nats cs), objI z2 (.cells (List.toArray [(.int .i64 0), (.int .i64 0), (.slice none 0 0), (.slice none 0 0)]) 25 (0, 0)), objI z1 (.cells (List.toArray [(.int .i64 d.vars), (.int .i64 d.start), (.slice nb d.next.length nc), (.slice fb d.final.length fc)]) 25 (0, 0))] (itms 3 qs) rfl rfl) (fun _ _ _ h => h) ?_
    refine DO.quiet rfl (q_load_box 1 Tryd.underlying33 rfl rfl rfl rfl) ?_
    refine DO.quiet rfl (q_move rfl) ?_
    refine DO.quiet rfl (q_ix (i := k) Tryd.underlying33 inf3 rfl rfl (rowO (List.mem_of_getElem? (i := 2) rfl)) (by first | assumption | omega | (simp; omega) | simp_all) (by first | omega | (simp; done) | (simp; omega) | (simp_all; done) | (simp_all; omega))) ?_
    refine DO.quiet rfl (q_ld Tryd.underlying3 rfl rfl (rowO (List.mem_of_getElem? (i := 2) rfl)) (nats_get (by first | assumption | omega | (simp; omega) | simp_all))) ?_
    refine DO.quiet rfl (q_fieldAddr Tryd.underlying25 rfl inf22 rfl rfl) ?_
    refine DO.quiet rfl (q_load_box 0 Tryd.underlying22 rfl rfl rfl rfl) ?_
    refine DO.quiet rfl (q_len Tryd.underlying22 rfl) ?_
    refine DO.quiet rfl (q_lss rfl rfl) ?_
    refine DO.done ?_
    refine T.condP rfl (fun hc => ?_) (fun hc => ?_)
    · have hlt40 : cs[k] < qs.length := by omega
      have hqn1 : quoN d cs (k + 1) = quoN d cs k := by rw [quoN, if_pos (by simp [hkc]; omega)]
      refine T.exit ?_
      refine .inl ⟨rfl, ob, fb9, oc, fc9, qs, fs, rfl, by omega, ?_, ?_⟩
      · rw [hqn1]; exact hqs
      · rw [hqn1]; exact hfs
    · have hge40 : ¬ cs[k] < qs.length := by omega
      have hqn2 : quoN d cs (k + 1) = ((quoN d cs k).1 ++ [(rowK cs d.next[k]).map fun c : Nat => (c : Int)], (quoN d cs k).2 ++ [d.final[k]]) := by rw [quoN, if_neg (by simp [hkc]; omega)]; simp [hlt, hkf]
      refine T.skip ?_
      refine T.seq ?_
      refine T.region ?_
      refine TO.quiet (q_assign rfl) ?_
      refine TO.nil ?_
      refine T.seq ?_
      refine T.seq ?_
      refine T.region ?_
      refine TO.quiet (q_move rfl) ?_
      refine TO.quiet (q_len Tryd.underlying33 rfl) ?_
      refine TO.quiet (q_move rfl) ?_
      refine TO.nil ?_
      refine T.block ?_
      refine T.nilRow 3 1 ?_
      refine T.loop (fun (j : Nat) ρ O => ∃ (kb : Option Addr) (kc : Nat), O = ([rowI kb kc 3 1 (nats ((rowK cs d.next[k]).take j)), objI z4 (.cells (List.toArray [(.int .i64 d.vars), (.int .i64 ((cs.getD d.start.toNat 0 : Nat) : Int)), (.slice ob qs.length oc), (.slice fb9 fs.length fc9)]) 25 (0, 0)), rowI ob oc 33 1 (vals qs), rowI fb9 fc9 4 1 (bools fs), objI z3 (.cells (List.toArray [(.slice cb d.next.length cc)]) 33 (0, 0)), rowI cb cc 3 1 (nats cs), objI z2 (.cells (List.toArray [(.int .i64 0), (.int .i64 0), (.slice none 0 0), (.slice none 0 0)]) 25 (0, 0)), objI z1 (.cells (List.toArray [(.int .i64 d.vars), (.int .i64 d.start), (.slice nb d.next.length nc), (.slice fb d.final.length fc)]) 25 (0, 0))] ++ itms 3 qs) ∧ j ≤ d.next[k].length ∧ Heads [(0, (.agg #[(.int .i64 d.vars), (.int .i64 d.start), (.slice nb d.next.length nc), (.slice fb d.final.length fc)])), (1, (.pointer (some ⟨z1, 0, none⟩))), (2, (.pointer (some ⟨z2, 0, none⟩))), (3, .int .i64 0), (4, (.pointer (some ⟨z3, 0, none⟩))), (5, .int .i64 0), (6, (.pointer (some ⟨z4, 0, none⟩))), (7, .int .i64 (k : Int)), (8, (.slice vb d.next[k].length vc)), (9, (.slice kb j kc)), (41, (.slice vb d.next[k].length vc)), (42, .int .i64 (d.next[k].length : Int)), (43, .int .i64 (j : Int))] ρ) (fun j => d.next[k].length - j) 0 ?_ ?_
      · exact ⟨none, 0, rfl, Nat.zero_le _, ⟨rfl, rfl, rfl, rfl, rfl, rfl, rfl, rfl, rfl, rfl, rfl, rfl, rfl, trivial⟩⟩
      · rintro j ρ O ⟨kb, kc, rfl, hj, hH⟩
        obtain ⟨ρ0, rfl⟩ := hH.elim
        clear hH
        refine T.seq ?_
        refine T.region ?_
        refine TO.quiet (q_lss rfl rfl) ?_
        refine TO.nil ?_
        refine T.seq ?_
        refine T.condP rfl (fun hc => ?_) (fun hc => ?_)
        · have hlt44 : j < d.next[k].length := by omega
          have htj := (hto j hlt44).2
          refine T.skip ?_
          refine T.seq ?_
          refine T.block ?_
          refine T.seq ?_
          refine T.region ?_
          refine TO.quiet (q_ix (i := j) Tryd.underlying33 inf3 rfl rfl (Sl.o s1) (by first | assumption | omega | (simp; omega) | simp_all) (by first | omega | (simp; done) | (simp; omega) | (simp_all; done) | (simp_all; omega))) ?_
          refine TO.quiet (q_ld Tryd.underlying3 rfl rfl (Sl.o s1) (ints_get (by first | assumption | omega | (simp; omega) | simp_all))) ?_
          refine TO.quiet (q_assign rfl) ?_
          refine TO.nil ?_
          refine T.region ?_
          refine TO.quiet (q_move rfl) ?_
          refine TO.quiet (q_load_box 4 Tryd.underlying33 rfl rfl rfl rfl) ?_
          refine TO.quiet (q_move rfl) ?_
          refine TO.quiet (q_ixz (i := d.next[k][j]) Tryd.underlying33 inf3 rfl rfl (rowO (List.mem_of_getElem? (i := 5) rfl)) (hto j hlt44).1 (hcl ▸ (hto j hlt44).2) (by rw [List.length_map]; exact (hto j hlt44).2)) ?_
          refine TO.quiet (q_ld Tryd.underlying3 rfl rfl (rowO (List.mem_of_getElem? (i := 5) rfl)) (nats_get (hto j hlt44).2)) ?_
          refine TO.loud rfl (l_build1 (v := .int .i64 ((cs[d.next[k][j].toNat] : Nat) : Int)) Tryd.underlying33 inf3 rfl rfl rfl (fun z5 => ?_))
          refine TO.loud rfl (l_append 1 Tryd.underlying33 Tryd.underlying33 inf3 rfl rfl rfl rfl (by rw [List.length_map, List.length_take, rowK_length]; omega) (by decide) (Src.row (j := 0) rfl (by simp)) (by simp [oneB]) (by omega) (by decide) (by decide) (fun z6 zc7 => ?_))
          refine TO.quiet (q_assign rfl) ?_
          refine TO.sub (O' := ([rowI z6 zc7 3 1 ((nats ((rowK cs d.next[k]).take j)) ++ [.int .i64 ((cs[d.next[k][j].toNat] : Nat) : Int)]), objI z4 (.cells (List.toArray [(.int .i64 d.vars), (.int .i64 ((cs.getD d.start.toNat 0 : Nat) : Int)), (.slice ob qs.length oc), (.slice fb9 fs.length fc9)]) 25 (0, 0)), rowI ob oc 33 1 (vals qs), rowI fb9 fc9 4 1 (bools fs), objI z3 (.cells (List.toArray [(.slice cb d.next.length cc)]) 33 (0, 0)), rowI cb cc 3 1 (nats cs), objI z2 (.cells (List.toArray [(.int .i64 0), (.int .i64 0), (.slice none 0 0), (.slice none 0 0)]) 25 (0, 0)), objI z1 (.cells (List.toArray [(.int .i64 d.vars), (.int .i64 d.start), (.slice nb d.next.length nc), (.slice fb d.final.length fc)]) 25 (0, 0))] ++ itms 3 qs)) (Sub.pickR [1, 1, 1, 1, 1, 1, 1, 1] [rowI (some ⟨z5, 0, none⟩) 1 3 1 [.int .i64 ((cs[d.next[k][j].toNat] : Nat) : Int)], rowI z6 zc7 3 1 ((nats ((rowK cs d.next[k]).take j)) ++ [.int .i64 ((cs[d.next[k][j].toNat] : Nat) : Int)]), objI z4 (.cells (List.toArray [(.int .i64 d.vars), (.int .i64 ((cs.getD d.start.toNat 0 : Nat) : Int)), (.slice ob qs.length oc), (.slice fb9 fs.length fc9)]) 25 (0, 0)), rowI ob oc 33 1 (vals qs), rowI fb9 fc9 4 1 (bools fs), objI z3 (.cells (List.toArray [(.slice cb d.next.length cc)]) 33 (0, 0)), rowI cb cc 3 1 (nats cs), objI z2 (.cells (List.toArray [(.int .i64 0), (.int .i64 0), (.slice none 0 0), (.slice none 0 0)]) 25 (0, 0)), objI z1 (.cells (List.toArray [(.int .i64 d.vars), (.int .i64 d.start), (.slice nb d.next.length nc), (.slice fb d.final.length fc)]) 25 (0, 0))] (itms 3 qs) rfl rfl) ?_
          refine TO.nil ?_
          refine T.region ?_
          refine TO.quiet (q_inc rfl rfl (by omega)) ?_
          refine TO.quiet (q_move rfl) ?_
          refine TO.nil ?_
          have hst : (rowK cs d.next[k]).take (j + 1) = (rowK cs d.next[k]).take j ++ [cs[d.next[k][j].toNat]] := by rw [List.take_succ_eq_append_getElem (by rw [rowK_length]; exact hlt44), rowK_get hlt44 (hto j hlt44).2]
          exact ⟨j + 1, by omega, z6, zc7, by rw [hst, show nats ((rowK cs d.next[k]).take j ++ [cs[d.next[k][j].toNat]]) = nats ((rowK cs d.next[k]).take j) ++ [.int .i64 ((cs[d.next[k][j].toNat] : Nat) : Int)] from List.map_append], by omega, ⟨rfl, rfl, rfl, rfl, rfl, rfl, rfl, rfl, rfl, rfl, rfl, rfl, rfl, trivial⟩⟩
        · have hge44 : ¬ j < d.next[k].length := by omega
          refine T.exit ?_
          have hjf : j = d.next[k].length := by omega
          have hR : rowI kb kc 3 1 (nats ((rowK cs d.next[k]).take j)) = Rec.itm 3 ⟨kb, kc, (rowK cs d.next[k]).map fun c : Nat => (c : Int)⟩ := by
            rw [List.take_of_length_le (by rw [rowK_length]; omega)]; simp [Rec.itm, Function.comp_def]
          refine T.cut1 (fun ρ O => ∃ (ob2 : Option Addr) (oc2 : Nat) (fb2 : Option Addr) (fc2 : Nat), O = ([objI z4 (.cells (List.toArray [(.int .i64 d.vars), (.int .i64 ((cs.getD d.start.toNat 0 : Nat) : Int)), (.slice ob2 (qs.length + 1) oc2), (.slice fb2 (fs.length + 1) fc2)]) 25 (0, 0)), rowI ob2 oc2 33 1 ((vals qs) ++ [(.slice kb j kc)]), rowI fb2 fc2 4 1 ((bools fs) ++ [(.bool d.final[k])]), objI z3 (.cells (List.toArray [(.slice cb d.next.length cc)]) 33 (0, 0)), rowI cb cc 3 1 (nats cs), objI z2 (.cells (List.toArray [(.int .i64 0), (.int .i64 0), (.slice none 0 0), (.slice none 0 0)]) 25 (0, 0)), objI z1 (.cells (List.toArray [(.int .i64 d.vars), (.int .i64 d.start), (.slice nb d.next.length nc), (.slice fb d.final.length fc)]) 25 (0, 0))] ++ itms 3 (qs ++ [⟨kb, kc, (rowK cs d.next[k]).map fun c : Nat => (c : Int)⟩])) ∧ Heads [(0, (.agg #[(.int .i64 d.vars), (.int .i64 d.start), (.slice nb d.next.length nc), (.slice fb d.final.length fc)])), (1, (.pointer (some ⟨z1, 0, none⟩))), (2, (.pointer (some ⟨z2, 0, none⟩))), (3, .int .i64 0), (4, (.pointer (some ⟨z3, 0, none⟩))), (5, .int .i64 0), (6, (.pointer (some ⟨z4, 0, none⟩))), (7, .int .i64 (k : Int)), (8, (.slice vb d.next[k].length vc)), (9, (.slice kb j kc))] ρ) ?_ ?_
          · refine T.treeT [objI z4 (.cells (List.toArray [(.int .i64 d.vars), (.int .i64 ((cs.getD d.start.toNat 0 : Nat) : Int)), (.slice ob qs.length oc), (.slice fb9 fs.length fc9)]) 25 (0, 0)), objI z1 (.cells (List.toArray [(.int .i64 d.vars), (.int .i64 d.start), (.slice nb d.next.length nc), (.slice fb d.final.length fc)]) 25 (0, 0))] [15, 17] 18 mixed rfl (Sub.pick0 [1, 6] [rowI kb kc 3 1 (nats ((rowK cs d.next[k]).take j)), objI z4 (.cells (List.toArray [(.int .i64 d.vars), (.int .i64 ((cs.getD d.start.toNat 0 : Nat) : Int)), (.slice ob qs.length oc), (.slice fb9 fs.length fc9)]) 25 (0, 0)), rowI ob oc 33 1 (vals qs), rowI fb9 fc9 4 1 (bools fs), objI z3 (.cells (List.toArray [(.slice cb d.next.length cc)]) 33 (0, 0)), rowI cb cc 3 1 (nats cs), objI z2 (.cells (List.toArray [(.int .i64 0), (.int .i64 0), (.slice none 0 0), (.slice none 0 0)]) 25 (0, 0)), objI z1 (.cells (List.toArray [(.int .i64 d.vars), (.int .i64 d.start), (.slice nb d.next.length nc), (.slice fb d.final.length fc)]) 25 (0, 0))] (itms 3 qs) rfl rfl) (fun _ _ _ h => h) ?_
            refine RO.quietTT 0 rfl (by kernel_rfl) (q_fieldAddr Tryd.underlying25 rfl inf22 rfl rfl) ?_
            refine RO.quietTT 1 rfl (by kernel_rfl) (q_load_box 0 Tryd.underlying22 rfl rfl rfl rfl) ?_
            refine RO.quietTT 2 rfl (by kernel_rfl) (q_move rfl) ?_
            refine RO.quietTT 5 rfl (by kernel_rfl) (q_fieldAddr Tryd.underlying25 rfl inf23 rfl rfl) ?_
            refine RO.quietTT 6 rfl (by kernel_rfl) (q_load_box 0 Tryd.underlying23 rfl rfl rfl rfl) ?_
            refine RO.quietTT 7 rfl (by kernel_rfl) (q_fieldAddr Tryd.underlying25 rfl inf23 rfl rfl) ?_
            refine RO.quietTT 8 rfl (by kernel_rfl) (q_load_box 1 Tryd.underlying23 rfl rfl rfl rfl) ?_
            refine RO.quietTT 9 rfl (by kernel_rfl) (q_move rfl) ?_
            refine RO.quietTT 10 rfl (by kernel_rfl) (q_ix (i := k) Tryd.underlying23 inf4 rfl rfl (Sl.o h.final) hkf (by rw [List.length_map]; exact hkf)) ?_
            refine RO.quietTT 11 rfl (by kernel_rfl) (q_ld Tryd.underlying4 rfl rfl (Sl.o h.final) (bools_get hkf)) ?_
            refine RO.forkT [3, 12] (by kernel_rfl) rfl ⟨⟨_, rfl, rfl, l_build1 (v := (.slice kb j kc)) Tryd.underlying22 inf33 rfl rfl rfl (fun zA => ⟨.inr (Sub.pick0 [2, 7] [rowI (some ⟨zA, 0, none⟩) 1 33 1 [(.slice kb j kc)], rowI kb kc 3 1 (nats ((rowK cs d.next[k]).take j)), objI z4 (.cells (List.toArray [(.int .i64 d.vars), (.int .i64 ((cs.getD d.start.toNat 0 : Nat) : Int)), (.slice ob qs.length oc), (.slice fb9 fs.length fc9)]) 25 (0, 0)), rowI ob oc 33 1 (vals qs), rowI fb9 fc9 4 1 (bools fs), objI z3 (.cells (List.toArray [(.slice cb d.next.length cc)]) 33 (0, 0)), rowI cb cc 3 1 (nats cs), objI z2 (.cells (List.toArray [(.int .i64 0), (.int .i64 0), (.slice none 0 0), (.slice none 0 0)]) 25 (0, 0)), objI z1 (.cells (List.toArray [(.int .i64 d.vars), (.int .i64 d.start), (.slice nb d.next.length nc), (.slice fb d.final.length fc)]) 25 (0, 0))] (itms 3 qs) rfl rfl), ?_⟩)⟩, ⟨_, rfl, rfl, l_build1 (v := (.bool d.final[k])) Tryd.underlying23 inf4 rfl rfl rfl (fun zB => ⟨.inr (Sub.pick0 [2, 7] [rowI (some ⟨zB, 0, none⟩) 1 4 1 [(.bool d.final[k])], rowI kb kc 3 1 (nats ((rowK cs d.next[k]).take j)), objI z4 (.cells (List.toArray [(.int .i64 d.vars), (.int .i64 ((cs.getD d.start.toNat 0 : Nat) : Int)), (.slice ob qs.length oc), (.slice fb9 fs.length fc9)]) 25 (0, 0)), rowI ob oc 33 1 (vals qs), rowI fb9 fc9 4 1 (bools fs), objI z3 (.cells (List.toArray [(.slice cb d.next.length cc)]) 33 (0, 0)), rowI cb cc 3 1 (nats cs), objI z2 (.cells (List.toArray [(.int .i64 0), (.int .i64 0), (.slice none 0 0), (.slice none 0 0)]) 25 (0, 0)), objI z1 (.cells (List.toArray [(.int .i64 d.vars), (.int .i64 d.start), (.slice nb d.next.length nc), (.slice fb d.final.length fc)]) 25 (0, 0))] (itms 3 qs) rfl rfl), ?_⟩)⟩, trivial⟩ (by kernel_rfl)
            · refine RO.forkT [4, 12] (by kernel_rfl) rfl ⟨⟨_, rfl, rfl, l_append 3 Tryd.underlying22 Tryd.underlying22 inf33 rfl rfl rfl rfl (by rw [List.length_map]; omega) (by decide) (Src.row (j := 0) rfl (by simp)) (by simp [oneB]) (by omega) (by decide) (by decide) (fun ob2 oc2 => ⟨.inr (Sub.pick0 [2, 7] [rowI (some ⟨zA, 0, none⟩) 1 33 1 [(.slice kb j kc)], rowI kb kc 3 1 (nats ((rowK cs d.next[k]).take j)), objI z4 (.cells (List.toArray [(.int .i64 d.vars), (.int .i64 ((cs.getD d.start.toNat 0 : Nat) : Int)), (.slice ob qs.length oc), (.slice fb9 fs.length fc9)]) 25 (0, 0)), rowI ob2 oc2 33 1 ((vals qs) ++ [(.slice kb j kc)]), rowI fb9 fc9 4 1 (bools fs), objI z3 (.cells (List.toArray [(.slice cb d.next.length cc)]) 33 (0, 0)), rowI cb cc 3 1 (nats cs), objI z2 (.cells (List.toArray [(.int .i64 0), (.int .i64 0), (.slice none 0 0), (.slice none 0 0)]) 25 (0, 0)), objI z1 (.cells (List.toArray [(.int .i64 d.vars), (.int .i64 d.start), (.slice nb d.next.length nc), (.slice fb d.final.length fc)]) 25 (0, 0))] (itms 3 qs) rfl rfl), ?_⟩)⟩, ⟨_, rfl, rfl, l_build1 (v := (.bool d.final[k])) Tryd.underlying23 inf4 rfl rfl rfl (fun zB => ⟨.inr (Sub.pick0 [3, 8] [rowI (some ⟨zB, 0, none⟩) 1 4 1 [(.bool d.final[k])], rowI (some ⟨zA, 0, none⟩) 1 33 1 [(.slice kb j kc)], rowI kb kc 3 1 (nats ((rowK cs d.next[k]).take j)), objI z4 (.cells (List.toArray [(.int .i64 d.vars), (.int .i64 ((cs.getD d.start.toNat 0 : Nat) : Int)), (.slice ob qs.length oc), (.slice fb9 fs.length fc9)]) 25 (0, 0)), rowI ob oc 33 1 (vals qs), rowI fb9 fc9 4 1 (bools fs), objI z3 (.cells (List.toArray [(.slice cb d.next.length cc)]) 33 (0, 0)), rowI cb cc 3 1 (nats cs), objI z2 (.cells (List.toArray [(.int .i64 0), (.int .i64 0), (.slice none 0 0), (.slice none 0 0)]) 25 (0, 0)), objI z1 (.cells (List.toArray [(.int .i64 d.vars), (.int .i64 d.start), (.slice nb d.next.length nc), (.slice fb d.final.length fc)]) 25 (0, 0))] (itms 3 qs) rfl rfl), ?_⟩)⟩, trivial⟩ (by kernel_rfl)
              · refine RO.quietE 14 rfl (by kernel_rfl) (q_fieldAddr Tryd.underlying25 rfl inf22 rfl rfl) ?_
                refine RO.forkT [12] (by kernel_rfl) rfl ⟨⟨_, rfl, rfl, l_build1 (v := (.bool d.final[k])) Tryd.underlying23 inf4 rfl rfl rfl (fun zB => ⟨.inr (Sub.pick0 [3, 8] [rowI (some ⟨zB, 0, none⟩) 1 4 1 [(.bool d.final[k])], rowI (some ⟨zA, 0, none⟩) 1 33 1 [(.slice kb j kc)], rowI kb kc 3 1 (nats ((rowK cs d.next[k]).take j)), objI z4 (.cells (List.toArray [(.int .i64 d.vars), (.int .i64 ((cs.getD d.start.toNat 0 : Nat) : Int)), (.slice ob qs.length oc), (.slice fb9 fs.length fc9)]) 25 (0, 0)), rowI ob2 oc2 33 1 ((vals qs) ++ [(.slice kb j kc)]), rowI fb9 fc9 4 1 (bools fs), objI z3 (.cells (List.toArray [(.slice cb d.next.length cc)]) 33 (0, 0)), rowI cb cc 3 1 (nats cs), objI z2 (.cells (List.toArray [(.int .i64 0), (.int .i64 0), (.slice none 0 0), (.slice none 0 0)]) 25 (0, 0)), objI z1 (.cells (List.toArray [(.int .i64 d.vars), (.int .i64 d.start), (.slice nb d.next.length nc), (.slice fb d.final.length fc)]) 25 (0, 0))] (itms 3 qs) rfl rfl), ?_⟩)⟩, trivial⟩ (by kernel_rfl)
                refine RO.forkT [13] (by kernel_rfl) rfl ⟨⟨_, rfl, rfl, l_append 5 Tryd.underlying23 Tryd.underlying23 inf4 rfl rfl rfl rfl (by rw [List.length_map]; omega) (by decide) (Src.row (j := 0) rfl (by simp)) (by simp [oneB]) (by omega) (by decide) (by decide) (fun fb2 fc2 => ⟨.inr (Sub.pick0 [3, 8] [rowI (some ⟨zB, 0, none⟩) 1 4 1 [(.bool d.final[k])], rowI (some ⟨zA, 0, none⟩) 1 33 1 [(.slice kb j kc)], rowI kb kc 3 1 (nats ((rowK cs d.next[k]).take j)), objI z4 (.cells (List.toArray [(.int .i64 d.vars), (.int .i64 ((cs.getD d.start.toNat 0 : Nat) : Int)), (.slice ob qs.length oc), (.slice fb9 fs.length fc9)]) 25 (0, 0)), rowI ob2 oc2 33 1 ((vals qs) ++ [(.slice kb j kc)]), rowI fb2 fc2 4 1 ((bools fs) ++ [(.bool d.final[k])]), objI z3 (.cells (List.toArray [(.slice cb d.next.length cc)]) 33 (0, 0)), rowI cb cc 3 1 (nats cs), objI z2 (.cells (List.toArray [(.int .i64 0), (.int .i64 0), (.slice none 0 0), (.slice none 0 0)]) 25 (0, 0)), objI z1 (.cells (List.toArray [(.int .i64 d.vars), (.int .i64 d.start), (.slice nb d.next.length nc), (.slice fb d.final.length fc)]) 25 (0, 0))] (itms 3 qs) rfl rfl), ?_⟩)⟩, trivial⟩ (by kernel_rfl)
                refine RO.forkT [15] (by kernel_rfl) rfl ⟨⟨_, rfl, rfl, l_store_box (v := (.slice ob2 (qs.length + 1) oc2)) (vs := [(.slice ob2 (qs.length + 1) oc2)]) 3 inf22 rfl rfl rfl rfl rfl rfl (by simp [putL]) ⟨.inl (by decide), ?_⟩⟩, trivial⟩ (by kernel_rfl)
                refine RO.quietE 16 rfl (by kernel_rfl) (q_fieldAddr Tryd.underlying25 rfl inf23 rfl rfl) ?_
                refine RO.forkT [17] (by kernel_rfl) rfl ⟨⟨_, rfl, rfl, l_store_box (v := (.slice fb2 (fs.length + 1) fc2)) (vs := [(.slice fb2 (fs.length + 1) fc2)]) 3 inf23 rfl rfl rfl rfl rfl rfl (by simp [putL]) ⟨.inl (by decide), ?_⟩⟩, trivial⟩ (by kernel_rfl)
                exact RO.sub (O' := ([objI z4 (.cells (List.toArray [(.int .i64 d.vars), (.int .i64 ((cs.getD d.start.toNat 0 : Nat) : Int)), (.slice ob2 (qs.length + 1) oc2), (.slice fb2 (fs.length + 1) fc2)]) 25 (0, 0)), rowI ob2 oc2 33 1 ((vals qs) ++ [(.slice kb j kc)]), rowI fb2 fc2 4 1 ((bools fs) ++ [(.bool d.final[k])]), objI z3 (.cells (List.toArray [(.slice cb d.next.length cc)]) 33 (0, 0)), rowI cb cc 3 1 (nats cs), objI z2 (.cells (List.toArray [(.int .i64 0), (.int .i64 0), (.slice none 0 0), (.slice none 0 0)]) 25 (0, 0)), objI z1 (.cells (List.toArray [(.int .i64 d.vars), (.int .i64 d.start), (.slice nb d.next.length nc), (.slice fb d.final.length fc)]) 25 (0, 0))] ++ itms 3 (qs ++ [⟨kb, kc, (rowK cs d.next[k]).map fun c : Nat => (c : Int)⟩]))) (by show Sub _ ([rowI (some ⟨zB, 0, none⟩) 1 4 1 [(.bool d.final[k])], rowI (some ⟨zA, 0, none⟩) 1 33 1 [(.slice kb j kc)], rowI kb kc 3 1 (nats ((rowK cs d.next[k]).take j)), objI z4 (.cells (List.toArray [(.int .i64 d.vars), (.int .i64 ((cs.getD d.start.toNat 0 : Nat) : Int)), (.slice ob2 (qs.length + 1) oc2), (.slice fb2 (fs.length + 1) fc2)]) 25 (0, 0)), rowI ob2 oc2 33 1 ((vals qs) ++ [(.slice kb j kc)]), rowI fb2 fc2 4 1 ((bools fs) ++ [(.bool d.final[k])]), objI z3 (.cells (List.toArray [(.slice cb d.next.length cc)]) 33 (0, 0)), rowI cb cc 3 1 (nats cs), objI z2 (.cells (List.toArray [(.int .i64 0), (.int .i64 0), (.slice none 0 0), (.slice none 0 0)]) 25 (0, 0)), objI z1 (.cells (List.toArray [(.int .i64 d.vars), (.int .i64 d.start), (.slice nb d.next.length nc), (.slice fb d.final.length fc)]) 25 (0, 0))] ++ itms 3 qs); rw [hR]; exact Sub.cnt [rowI (some ⟨zB, 0, none⟩) 1 4 1 [(.bool d.final[k])], rowI (some ⟨zA, 0, none⟩) 1 33 1 [(.slice kb j kc)]] (by intro a; simp only [itms, List.set_cons_zero, List.set_cons_succ, putL, List.cons_append, List.nil_append, List.append_nil, List.append_assoc, List.map_append, List.map_cons, List.map_nil, cnt_append, cnt_cons, cnt_nil] <;> omega)) (RO.done (by kernel_rfl) ⟨ob2, oc2, fb2, fc2, rfl, ⟨rfl, rfl, rfl, rfl, rfl, rfl, rfl, rfl, rfl, rfl, trivial⟩⟩)
              · refine RO.forkT [4] (by kernel_rfl) rfl ⟨⟨_, rfl, rfl, l_append 4 Tryd.underlying22 Tryd.underlying22 inf33 rfl rfl rfl rfl (by rw [List.length_map]; omega) (by decide) (Src.row (j := 1) rfl (by simp)) (by simp [oneB]) (by omega) (by decide) (by decide) (fun ob2 oc2 => ⟨.inr (Sub.pick0 [3, 8] [rowI (some ⟨zB, 0, none⟩) 1 4 1 [(.bool d.final[k])], rowI (some ⟨zA, 0, none⟩) 1 33 1 [(.slice kb j kc)], rowI kb kc 3 1 (nats ((rowK cs d.next[k]).take j)), objI z4 (.cells (List.toArray [(.int .i64 d.vars), (.int .i64 ((cs.getD d.start.toNat 0 : Nat) : Int)), (.slice ob qs.length oc), (.slice fb9 fs.length fc9)]) 25 (0, 0)), rowI ob2 oc2 33 1 ((vals qs) ++ [(.slice kb j kc)]), rowI fb9 fc9 4 1 (bools fs), objI z3 (.cells (List.toArray [(.slice cb d.next.length cc)]) 33 (0, 0)), rowI cb cc 3 1 (nats cs), objI z2 (.cells (List.toArray [(.int .i64 0), (.int .i64 0), (.slice none 0 0), (.slice none 0 0)]) 25 (0, 0)), objI z1 (.cells (List.toArray [(.int .i64 d.vars), (.int .i64 d.start), (.slice nb d.next.length nc), (.slice fb d.final.length fc)]) 25 (0, 0))] (itms 3 qs) rfl rfl), ?_⟩)⟩, trivial⟩ (by kernel_rfl)
                refine RO.quietE 14 rfl (by kernel_rfl) (q_fieldAddr Tryd.underlying25 rfl inf22 rfl rfl) ?_
                refine RO.forkT [13] (by kernel_rfl) rfl ⟨⟨_, rfl, rfl, l_append 5 Tryd.underlying23 Tryd.underlying23 inf4 rfl rfl rfl rfl (by rw [List.length_map]; omega) (by decide) (Src.row (j := 0) rfl (by simp)) (by simp [oneB]) (by omega) (by decide) (by decide) (fun fb2 fc2 => ⟨.inr (Sub.pick0 [3, 8] [rowI (some ⟨zB, 0, none⟩) 1 4 1 [(.bool d.final[k])], rowI (some ⟨zA, 0, none⟩) 1 33 1 [(.slice kb j kc)], rowI kb kc 3 1 (nats ((rowK cs d.next[k]).take j)), objI z4 (.cells (List.toArray [(.int .i64 d.vars), (.int .i64 ((cs.getD d.start.toNat 0 : Nat) : Int)), (.slice ob qs.length oc), (.slice fb9 fs.length fc9)]) 25 (0, 0)), rowI ob2 oc2 33 1 ((vals qs) ++ [(.slice kb j kc)]), rowI fb2 fc2 4 1 ((bools fs) ++ [(.bool d.final[k])]), objI z3 (.cells (List.toArray [(.slice cb d.next.length cc)]) 33 (0, 0)), rowI cb cc 3 1 (nats cs), objI z2 (.cells (List.toArray [(.int .i64 0), (.int .i64 0), (.slice none 0 0), (.slice none 0 0)]) 25 (0, 0)), objI z1 (.cells (List.toArray [(.int .i64 d.vars), (.int .i64 d.start), (.slice nb d.next.length nc), (.slice fb d.final.length fc)]) 25 (0, 0))] (itms 3 qs) rfl rfl), ?_⟩)⟩, trivial⟩ (by kernel_rfl)
                refine RO.forkT [15] (by kernel_rfl) rfl ⟨⟨_, rfl, rfl, l_store_box (v := (.slice ob2 (qs.length + 1) oc2)) (vs := [(.slice ob2 (qs.length + 1) oc2)]) 3 inf22 rfl rfl rfl rfl rfl rfl (by simp [putL]) ⟨.inl (by decide), ?_⟩⟩, trivial⟩ (by kernel_rfl)
                refine RO.quietE 16 rfl (by kernel_rfl) (q_fieldAddr Tryd.underlying25 rfl inf23 rfl rfl) ?_
                refine RO.forkT [17] (by kernel_rfl) rfl ⟨⟨_, rfl, rfl, l_store_box (v := (.slice fb2 (fs.length + 1) fc2)) (vs := [(.slice fb2 (fs.length + 1) fc2)]) 3 inf23 rfl rfl rfl rfl rfl rfl (by simp [putL]) ⟨.inl (by decide), ?_⟩⟩, trivial⟩ (by kernel_rfl)
                exact RO.sub (O' := ([objI z4 (.cells (List.toArray [(.int .i64 d.vars), (.int .i64 ((cs.getD d.start.toNat 0 : Nat) : Int)), (.slice ob2 (qs.length + 1) oc2), (.slice fb2 (fs.length + 1) fc2)]) 25 (0, 0)), rowI ob2 oc2 33 1 ((vals qs) ++ [(.slice kb j kc)]), rowI fb2 fc2 4 1 ((bools fs) ++ [(.bool d.final[k])]), objI z3 (.cells (List.toArray [(.slice cb d.next.length cc)]) 33 (0, 0)), rowI cb cc 3 1 (nats cs), objI z2 (.cells (List.toArray [(.int .i64 0), (.int .i64 0), (.slice none 0 0), (.slice none 0 0)]) 25 (0, 0)), objI z1 (.cells (List.toArray [(.int .i64 d.vars), (.int .i64 d.start), (.slice nb d.next.length nc), (.slice fb d.final.length fc)]) 25 (0, 0))] ++ itms 3 (qs ++ [⟨kb, kc, (rowK cs d.next[k]).map fun c : Nat => (c : Int)⟩]))) (by show Sub _ ([rowI (some ⟨zB, 0, none⟩) 1 4 1 [(.bool d.final[k])], rowI (some ⟨zA, 0, none⟩) 1 33 1 [(.slice kb j kc)], rowI kb kc 3 1 (nats ((rowK cs d.next[k]).take j)), objI z4 (.cells (List.toArray [(.int .i64 d.vars), (.int .i64 ((cs.getD d.start.toNat 0 : Nat) : Int)), (.slice ob2 (qs.length + 1) oc2), (.slice fb2 (fs.length + 1) fc2)]) 25 (0, 0)), rowI ob2 oc2 33 1 ((vals qs) ++ [(.slice kb j kc)]), rowI fb2 fc2 4 1 ((bools fs) ++ [(.bool d.final[k])]), objI z3 (.cells (List.toArray [(.slice cb d.next.length cc)]) 33 (0, 0)), rowI cb cc 3 1 (nats cs), objI z2 (.cells (List.toArray [(.int .i64 0), (.int .i64 0), (.slice none 0 0), (.slice none 0 0)]) 25 (0, 0)), objI z1 (.cells (List.toArray [(.int .i64 d.vars), (.int .i64 d.start), (.slice nb d.next.length nc), (.slice fb d.final.length fc)]) 25 (0, 0))] ++ itms 3 qs); rw [hR]; exact Sub.cnt [rowI (some ⟨zB, 0, none⟩) 1 4 1 [(.bool d.final[k])], rowI (some ⟨zA, 0, none⟩) 1 33 1 [(.slice kb j kc)]] (by intro a; simp only [itms, List.set_cons_zero, List.set_cons_succ, putL, List.cons_append, List.nil_append, List.append_nil, List.append_assoc, List.map_append, List.map_cons, List.map_nil, cnt_append, cnt_cons, cnt_nil] <;> omega)) (RO.done (by kernel_rfl) ⟨ob2, oc2, fb2, fc2, rfl, ⟨rfl, rfl, rfl, rfl, rfl, rfl, rfl, rfl, rfl, rfl, trivial⟩⟩)
            · refine RO.forkT [3] (by kernel_rfl) rfl ⟨⟨_, rfl, rfl, l_build1 (v := (.slice kb j kc)) Tryd.underlying22 inf33 rfl rfl rfl (fun zA => ⟨.inr (Sub.pick0 [3, 8] [rowI (some ⟨zA, 0, none⟩) 1 33 1 [(.slice kb j kc)], rowI (some ⟨zB, 0, none⟩) 1 4 1 [(.bool d.final[k])], rowI kb kc 3 1 (nats ((rowK cs d.next[k]).take j)), objI z4 (.cells (List.toArray [(.int .i64 d.vars), (.int .i64 ((cs.getD d.start.toNat 0 : Nat) : Int)), (.slice ob qs.length oc), (.slice fb9 fs.length fc9)]) 25 (0, 0)), rowI ob oc 33 1 (vals qs), rowI fb9 fc9 4 1 (bools fs), objI z3 (.cells (List.toArray [(.slice cb d.next.length cc)]) 33 (0, 0)), rowI cb cc 3 1 (nats cs), objI z2 (.cells (List.toArray [(.int .i64 0), (.int .i64 0), (.slice none 0 0), (.slice none 0 0)]) 25 (0, 0)), objI z1 (.cells (List.toArray [(.int .i64 d.vars), (.int .i64 d.start), (.slice nb d.next.length nc), (.slice fb d.final.length fc)]) 25 (0, 0))] (itms 3 qs) rfl rfl), ?_⟩)⟩, trivial⟩ (by kernel_rfl)
              refine RO.forkT [4] (by kernel_rfl) rfl ⟨⟨_, rfl, rfl, l_append 4 Tryd.underlying22 Tryd.underlying22 inf33 rfl rfl rfl rfl (by rw [List.length_map]; omega) (by decide) (Src.row (j := 0) rfl (by simp)) (by simp [oneB]) (by omega) (by decide) (by decide) (fun ob2 oc2 => ⟨.inr (Sub.pick0 [3, 8] [rowI (some ⟨zA, 0, none⟩) 1 33 1 [(.slice kb j kc)], rowI (some ⟨zB, 0, none⟩) 1 4 1 [(.bool d.final[k])], rowI kb kc 3 1 (nats ((rowK cs d.next[k]).take j)), objI z4 (.cells (List.toArray [(.int .i64 d.vars), (.int .i64 ((cs.getD d.start.toNat 0 : Nat) : Int)), (.slice ob qs.length oc), (.slice fb9 fs.length fc9)]) 25 (0, 0)), rowI ob2 oc2 33 1 ((vals qs) ++ [(.slice kb j kc)]), rowI fb9 fc9 4 1 (bools fs), objI z3 (.cells (List.toArray [(.slice cb d.next.length cc)]) 33 (0, 0)), rowI cb cc 3 1 (nats cs), objI z2 (.cells (List.toArray [(.int .i64 0), (.int .i64 0), (.slice none 0 0), (.slice none 0 0)]) 25 (0, 0)), objI z1 (.cells (List.toArray [(.int .i64 d.vars), (.int .i64 d.start), (.slice nb d.next.length nc), (.slice fb d.final.length fc)]) 25 (0, 0))] (itms 3 qs) rfl rfl), ?_⟩)⟩, trivial⟩ (by kernel_rfl)
              refine RO.quietE 14 rfl (by kernel_rfl) (q_fieldAddr Tryd.underlying25 rfl inf22 rfl rfl) ?_
              refine RO.forkT [13] (by kernel_rfl) rfl ⟨⟨_, rfl, rfl, l_append 5 Tryd.underlying23 Tryd.underlying23 inf4 rfl rfl rfl rfl (by rw [List.length_map]; omega) (by decide) (Src.row (j := 1) rfl (by simp)) (by simp [oneB]) (by omega) (by decide) (by decide) (fun fb2 fc2 => ⟨.inr (Sub.pick0 [3, 8] [rowI (some ⟨zA, 0, none⟩) 1 33 1 [(.slice kb j kc)], rowI (some ⟨zB, 0, none⟩) 1 4 1 [(.bool d.final[k])], rowI kb kc 3 1 (nats ((rowK cs d.next[k]).take j)), objI z4 (.cells (List.toArray [(.int .i64 d.vars), (.int .i64 ((cs.getD d.start.toNat 0 : Nat) : Int)), (.slice ob qs.length oc), (.slice fb9 fs.length fc9)]) 25 (0, 0)), rowI ob2 oc2 33 1 ((vals qs) ++ [(.slice kb j kc)]), rowI fb2 fc2 4 1 ((bools fs) ++ [(.bool d.final[k])]), objI z3 (.cells (List.toArray [(.slice cb d.next.length cc)]) 33 (0, 0)), rowI cb cc 3 1 (nats cs), objI z2 (.cells (List.toArray [(.int .i64 0), (.int .i64 0), (.slice none 0 0), (.slice none 0 0)]) 25 (0, 0)), objI z1 (.cells (List.toArray [(.int .i64 d.vars), (.int .i64 d.start), (.slice nb d.next.length nc), (.slice fb d.final.length fc)]) 25 (0, 0))] (itms 3 qs) rfl rfl), ?_⟩)⟩, trivial⟩ (by kernel_rfl)
              refine RO.forkT [15] (by kernel_rfl) rfl ⟨⟨_, rfl, rfl, l_store_box (v := (.slice ob2 (qs.length + 1) oc2)) (vs := [(.slice ob2 (qs.length + 1) oc2)]) 3 inf22 rfl rfl rfl rfl rfl rfl (by simp [putL]) ⟨.inl (by decide), ?_⟩⟩, trivial⟩ (by kernel_rfl)
              refine RO.quietE 16 rfl (by kernel_rfl) (q_fieldAddr Tryd.underlying25 rfl inf23 rfl rfl) ?_
              refine RO.forkT [17] (by kernel_rfl) rfl ⟨⟨_, rfl, rfl, l_store_box (v := (.slice fb2 (fs.length + 1) fc2)) (vs := [(.slice fb2 (fs.length + 1) fc2)]) 3 inf23 rfl rfl rfl rfl rfl rfl (by simp [putL]) ⟨.inl (by decide), ?_⟩⟩, trivial⟩ (by kernel_rfl)
              exact RO.sub (O' := ([objI z4 (.cells (List.toArray [(.int .i64 d.vars), (.int .i64 ((cs.getD d.start.toNat 0 : Nat) : Int)), (.slice ob2 (qs.length + 1) oc2), (.slice fb2 (fs.length + 1) fc2)]) 25 (0, 0)), rowI ob2 oc2 33 1 ((vals qs) ++ [(.slice kb j kc)]), rowI fb2 fc2 4 1 ((bools fs) ++ [(.bool d.final[k])]), objI z3 (.cells (List.toArray [(.slice cb d.next.length cc)]) 33 (0, 0)), rowI cb cc 3 1 (nats cs), objI z2 (.cells (List.toArray [(.int .i64 0), (.int .i64 0), (.slice none 0 0), (.slice none 0 0)]) 25 (0, 0)), objI z1 (.cells (List.toArray [(.int .i64 d.vars), (.int .i64 d.start), (.slice nb d.next.length nc), (.slice fb d.final.length fc)]) 25 (0, 0))] ++ itms 3 (qs ++ [⟨kb, kc, (rowK cs d.next[k]).map fun c : Nat => (c : Int)⟩]))) (by show Sub _ ([rowI (some ⟨zA, 0, none⟩) 1 33 1 [(.slice kb j kc)], rowI (some ⟨zB, 0, none⟩) 1 4 1 [(.bool d.final[k])], rowI kb kc 3 1 (nats ((rowK cs d.next[k]).take j)), objI z4 (.cells (List.toArray [(.int .i64 d.vars), (.int .i64 ((cs.getD d.start.toNat 0 : Nat) : Int)), (.slice ob2 (qs.length + 1) oc2), (.slice fb2 (fs.length + 1) fc2)]) 25 (0, 0)), rowI ob2 oc2 33 1 ((vals qs) ++ [(.slice kb j kc)]), rowI fb2 fc2 4 1 ((bools fs) ++ [(.bool d.final[k])]), objI z3 (.cells (List.toArray [(.slice cb d.next.length cc)]) 33 (0, 0)), rowI cb cc 3 1 (nats cs), objI z2 (.cells (List.toArray [(.int .i64 0), (.int .i64 0), (.slice none 0 0), (.slice none 0 0)]) 25 (0, 0)), objI z1 (.cells (List.toArray [(.int .i64 d.vars), (.int .i64 d.start), (.slice nb d.next.length nc), (.slice fb d.final.length fc)]) 25 (0, 0))] ++ itms 3 qs); rw [hR]; exact Sub.cnt [rowI (some ⟨zA, 0, none⟩) 1 33 1 [(.slice kb j kc)], rowI (some ⟨zB, 0, none⟩) 1 4 1 [(.bool d.final[k])]] (by intro a; simp only [itms, List.set_cons_zero, List.set_cons_succ, putL, List.cons_append, List.nil_append, List.append_nil, List.append_assoc, List.map_append, List.map_cons, List.map_nil, cnt_append, cnt_cons, cnt_nil] <;> omega)) (RO.done (by kernel_rfl) ⟨ob2, oc2, fb2, fc2, rfl, ⟨rfl, rfl, rfl, rfl, rfl, rfl, rfl, rfl, rfl, rfl, trivial⟩⟩)
          · rintro ρ O ⟨ob2, oc2, fb2, fc2, rfl, hH⟩
            obtain ⟨ρ0, rfl⟩ := hH.elim
            clear hH
            refine .inl ⟨rfl, ob2, fb2, oc2, fc2, qs ++ [⟨kb, kc, (rowK cs d.next[k]).map fun c : Nat => (c : Int)⟩], fs ++ [d.final[k]], ?_, by omega, ?_, ?_⟩
            · simp [Rec.val, rowK_length, hjf]
            · rw [hqn2, ← hqs]; simp
            · rw [hqn2, hfs]
  · refine ⟨none, none, 0, 0, [], [], ?_, Nat.zero_le _, rfl, rfl⟩
    rfl
  · rintro v O' (⟨ob, fb9, oc, fc9, qs, fs, rfl, hk, hqs, hfs⟩ | hF)
    rotate_left
    · exact hF.elim
    refine ⟨none, _, rfl, ?_⟩
    refine T.seq ?_
    have hql : qs.length = (quo d cs).next.length := by rw [show qs.length = (nums qs).length by simp, hqs]; rfl
    obtain rfl : fs = (quo d cs).final := hfs
    rw [hql]
    refine T.region ?_
    refine TO.quiet (q_load_boxAgg 0 Tryd.underlying25 rfl inf25 rfl rfl rfl) ?_
    have hk72 := fun (w1 : World) (hI : Inv w ([objI z4 (.cells (List.toArray [(.int .i64 d.vars), (.int .i64 ((cs.getD d.start.toNat 0 : Nat) : Int)), (.slice ob ((quo d cs).next.length) oc), (.slice fb9 ((quo d cs).final.length) fc9)]) 25 (0, 0)), rowI ob oc 33 1 (vals qs), rowI fb9 fc9 4 1 (bools (quo d cs).final), objI z3 (.cells (List.toArray [(.slice cb d.next.length cc)]) 33 (0, 0)), rowI cb cc 3 1 (nats cs), objI z2 (.cells (List.toArray [(.int .i64 0), (.int .i64 0), (.slice none 0 0), (.slice none 0 0)]) 25 (0, 0)), objI z1 (.cells (List.toArray [(.int .i64 d.vars), (.int .i64 d.start), (.slice nb d.next.length nc), (.slice fb d.final.length fc)]) 25 (0, 0))] ++ itms 3 qs) w1) => renumOk w1 (quo d cs) ob fb9 oc fc9 (vals qs) ⟨hI.slOf (List.mem_of_getElem? (i := 1) rfl), (show nums qs = (quo d cs).next from hqs) ▸ hI.recs (fun q hq => List.mem_append_right _ (List.mem_map_of_mem (f := Rec.itm 3) hq)), hI.slOf (List.mem_of_getElem? (i := 2) rfl)⟩ hqv hqn
    refine TO.loud rfl (l_call ent33 (CallT.of_pure hk72) rfl ?_)
    clear hk72
    rintro v O' ⟨N, rfl, nb', nc', fb', fc', qs', rfl, rfl, hnx⟩
    refine TO.sub (O' := ([rowI nb' nc' 33 1 (vals qs'), rowI fb' fc' 4 1 (bools (renum (quo d cs)).final), objI z4 (.cells (List.toArray [(.int .i64 d.vars), (.int .i64 ((cs.getD d.start.toNat 0 : Nat) : Int)), (.slice ob ((quo d cs).next.length) oc), (.slice fb9 ((quo d cs).final.length) fc9)]) 25 (0, 0)), rowI ob oc 33 1 (vals qs), rowI fb9 fc9 4 1 (bools (quo d cs).final), objI z3 (.cells (List.toArray [(.slice cb d.next.length cc)]) 33 (0, 0)), rowI cb cc 3 1 (nats cs), objI z2 (.cells (List.toArray [(.int .i64 0), (.int .i64 0), (.slice none 0 0), (.slice none 0 0)]) 25 (0, 0)), objI z1 (.cells (List.toArray [(.int .i64 d.vars), (.int .i64 d.start), (.slice nb d.next.length nc), (.slice fb d.final.length fc)]) 25 (0, 0))] ++ (itms 3 qs') ++ itms 3 qs)) (Sub.cnt [] (by intro a; simp only [itms, List.set_cons_zero, List.set_cons_succ, putL, List.cons_append, List.nil_append, List.append_nil, List.append_assoc, List.map_append, List.map_cons, List.map_nil, cnt_append, cnt_cons, cnt_nil] <;> omega)) ?_
    refine TO.quiet (q_extract (vs := _) rfl rfl) ?_
    refine TO.quiet (q_extract (vs := _) rfl rfl) ?_
    refine TO.loud rfl (l_store_box (v := (.agg #[(.int .i64 (renum (quo d cs)).vars), (.int .i64 (renum (quo d cs)).start), (.slice nb' ((renum (quo d cs)).next.length) nc'), (.slice fb' ((renum (quo d cs)).final.length) fc')])) (vs := [(.int .i64 (renum (quo d cs)).vars), (.int .i64 (renum (quo d cs)).start), (.slice nb' ((renum (quo d cs)).next.length) nc'), (.slice fb' ((renum (quo d cs)).final.length) fc')]) 7 inf25 rfl rfl rfl rfl rfl rfl (by simp [putL]) ?_)
    refine TO.quiet (q_assign rfl) ?_
    refine TO.nil ?_
    refine T.ret ?_
    refine Res.drop ?_
    refine Res.cell1b (.int .i64 0) (i := 7) Tryd.results17 Tryd.underlying25 rfl inf25 rfl rfl rfl rfl ?_
    exact ⟨[rowI nb' nc' 33 1 (vals qs'), rowI fb' fc' 4 1 (bools (renum (quo d cs)).final)] ++ itms 3 qs', Sub.cnt ([objI z4 (.cells (List.toArray [(.int .i64 d.vars), (.int .i64 ((cs.getD d.start.toNat 0 : Nat) : Int)), (.slice ob ((quo d cs).next.length) oc), (.slice fb9 ((quo d cs).final.length) fc9)]) 25 (0, 0)), rowI ob oc 33 1 (vals qs), rowI fb9 fc9 4 1 (bools (quo d cs).final), objI z3 (.cells (List.toArray [(.slice cb d.next.length cc)]) 33 (0, 0)), rowI cb cc 3 1 (nats cs), objI z2 (.cells (List.toArray [(.int .i64 (renum (quo d cs)).vars), (.int .i64 (renum (quo d cs)).start), (.slice nb' ((renum (quo d cs)).next.length) nc'), (.slice fb' ((renum (quo d cs)).final.length) fc')]) 25 (0, 0)), objI z1 (.cells (List.toArray [(.int .i64 d.vars), (.int .i64 d.start), (.slice nb d.next.length nc), (.slice fb d.final.length fc)]) 25 (0, 0))] ++ itms 3 qs) (by intro a; simp only [itms, List.set_cons_zero, List.set_cons_succ, putL, List.cons_append, List.nil_append, List.append_nil, List.append_assoc, List.map_append, List.map_cons, List.map_nil, cnt_append, cnt_cons, cnt_nil] <;> omega), nb', nc', fb', fc', qs', rfl, rfl, hnx⟩
end Go.Proofs.YthfemndklplpbaaDoor

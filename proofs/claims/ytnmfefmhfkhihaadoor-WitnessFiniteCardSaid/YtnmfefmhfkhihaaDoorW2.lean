/- Contracts of functions of the program (Quo, Dist, Uni, P1, P2, P3, P4, P5, W1, W2): what each call answers and that it leaves memory as it was. Conditions: those each theorem names. -/
import Derived.Test.YtnmfefmhfkhihaaDoorCoreK
import Derived.Test.YtnmfefmhfkhihaaDoorRn
import Derived.Test.YtnmfefmhfkhihaaDoorWtC
set_option linter.unusedSectionVars false
set_option linter.unusedSimpArgs false
set_option linter.unusedVariables false
set_option linter.unnecessarySimpa false
namespace Go.Proofs.YtnmfefmhfkhihaaDoor
open Go.Lx Go.RowKit
set_option linter.unusedVariables false
set_option linter.unusedSimpArgs false
set_option maxHeartbeats 1000000 in
set_option maxRecDepth 20000 in
theorem minBad (w : World) [Tab Tryd.prog w] (d : DFA) (nb fb : Option Addr) (nc fc : Nat) (vs : List Value) (h : DfaAt w d nb vs fb) (hb : d.next.length < 9223372036854775807) (hbr : ∀ r ∈ d.next, r.length < 9223372036854775807) (hbf : d.final.length < 9223372036854775807) (he : checkD d ≠ 0) :
    PureT Tryd.prog 75 [.agg (dfaCells d nb nc fb fc).toArray] w fun v N => v = .tuple #[.agg #[.int .i64 0, .int .i64 0, .slice none 0 0, .slice none 0 0], .int .i64 (checkD d : Int)] ∧ N = [] := by
  refine CallT.enter Tryd.func75 rfl Tryd.ntmps75 rfl ?_
  refine T.seq (T.region ?_)
  refine TO.loud rfl (l_box (v := (.agg #[(.int .i64 d.vars), (.int .i64 d.start), (.slice nb d.next.length nc), (.slice fb d.final.length fc)])) (cs := [(.int .i64 d.vars), (.int .i64 d.start), (.slice nb d.next.length nc), (.slice fb d.final.length fc)]) rfl rfl (fun b1 => ?_))
  refine TO.loud rfl (l_alloc inf25 rfl (fun b2 => ?_))
  refine TO.quiet (q_assign rfl) ?_
  refine TO.nil (T.seq (T.region ?_))
  refine TO.quiet (q_load_boxAgg 1 Tryd.underlying25 rfl inf25 rfl rfl rfl) ?_
  have hk14 := fun (w1 : World) (hI : Inv w [oI b2 25 [(.int .i64 0), (.int .i64 0), (.slice none 0 0), (.slice none 0 0)], oI b1 25 [(.int .i64 d.vars), (.int .i64 d.start), (.slice nb d.next.length nc), (.slice fb d.final.length fc)]] w1) => (haveI := Inv.tab (P := Tryd.prog) hI; classesBad w1 d nb fb nc fc vs (hI.dfa h) hb hbr hbf he)
  refine TO.loud rfl (l_call ent84 (CallT.of_pure hk14) rfl ?_)
  clear hk14
  rintro v O' ⟨N, rfl, rfl, rfl⟩
  refine TO.quiet (q_move rfl) (TO.quiet (q_extract (vs := _) rfl rfl) (TO.quiet (q_extract (vs := _) rfl rfl) ?_))
  refine TO.loud rfl (l_alloc inf41 rfl (fun b3 => ?_))
  refine TO.loud rfl (l_store_box (v := (.slice none 0 0)) (vs := [(.slice none 0 0)]) 0 inf41 rfl rfl rfl rfl rfl rfl (by simp [putL]) ?_)
  refine TO.quiet (q_assign rfl) ?_
  refine TO.nil (T.seq (T.seq (T.region ?_)))
  refine TO.quiet (q_move rfl) (TO.quiet (QT.toB (q_neq rfl rfl) (decide_eq_true (by omega))) ?_)
  refine TO.nil ?_
  refine T.cond1 rfl ?_
  refine T.seq (T.region ?_)
  refine TO.quiet (q_build plan25 inf25 rfl) (TO.quiet (q_move rfl) ?_)
  refine TO.loud rfl (l_store_box (v := (.agg #[(.int .i64 0), (.int .i64 0), (.slice none 0 0), (.slice none 0 0)])) (vs := [(.int .i64 0), (.int .i64 0), (.slice none 0 0), (.slice none 0 0)]) 1 inf25 rfl rfl rfl rfl rfl rfl (by simp [putL]) ?_)
  refine TO.quiet (q_assign rfl) ?_
  refine TO.nil (T.ret (Res.drop ?_))
  refine Res.cell1b (.int .i64 (checkD d : Int)) (i := 1) Tryd.results75 Tryd.underlying25 rfl inf25 rfl rfl rfl rfl ?_
  exact ⟨[], Sub.of (List.nil_sublist _), rfl, rfl⟩
set_option maxHeartbeats 1000000 in
set_option maxRecDepth 20000 in
theorem minOk (w : World) [Tab Tryd.prog w] (d : DFA) (nb fb : Option Addr) (nc fc : Nat) (vs : List Value) (h : DfaAt w d nb vs fb) (hv : Valid d) (hn : d.next.length < 10000) (hqv : Valid (quo d (itF d d.next.length))) (hqn : (quo d (itF d d.next.length)).next.length < 10000) :
    PureT Tryd.prog 75 [.agg (dfaCells d nb nc fb fc).toArray] w fun v N => ∃ nb' nc' fb' fc' qs, v = .tuple #[.agg (dfaCells (renum (quo d (itF d d.next.length))) nb' nc' fb' fc').toArray, .int .i64 0] ∧ N = [rowI nb' nc' 41 1 (vals qs), rowI fb' fc' 4 1 (bools (renum (quo d (itF d d.next.length))).final)] ++ itms 3 qs ∧ nums qs = (renum (quo d (itF d d.next.length))).next := by
  refine CallT.enter Tryd.func75 rfl Tryd.ntmps75 rfl ?_
  obtain ⟨cs, hcs⟩ : ∃ cs, itF d d.next.length = cs := ⟨_, rfl⟩
  rw [hcs] at hqv hqn ⊢
  have hcl : cs.length = d.next.length := hcs ▸ itF_length d _
  have hc9 : ∀ x ∈ cs, x < 10000 := hcs ▸ itF_lt hn _
  have hs0 := hv.s0
  have hs1 := hv.s1
  have hn0 := hv.n0
  have hn4 := hv.n4
  have hsn : d.start.toNat < cs.length := by omega
  have hb : d.next.length < 9223372036854775807 := by omega
  refine T.seq (T.region ?_)
  refine TO.loud rfl (l_box (v := (.agg #[(.int .i64 d.vars), (.int .i64 d.start), (.slice nb d.next.length nc), (.slice fb d.final.length fc)])) (cs := [(.int .i64 d.vars), (.int .i64 d.start), (.slice nb d.next.length nc), (.slice fb d.final.length fc)]) rfl rfl (fun z1 => ?_))
  refine TO.loud rfl (l_alloc inf25 rfl (fun z2 => ?_))
  refine TO.quiet (q_assign rfl) ?_
  refine TO.nil (T.seq (T.region ?_))
  refine TO.quiet (q_load_boxAgg 1 Tryd.underlying25 rfl inf25 rfl rfl rfl) ?_
  have hk14 := fun (w1 : World) (hI : Inv w [oI z2 25 [(.int .i64 0), (.int .i64 0), (.slice none 0 0), (.slice none 0 0)], oI z1 25 [(.int .i64 d.vars), (.int .i64 d.start), (.slice nb d.next.length nc), (.slice fb d.final.length fc)]] w1) => (haveI := Inv.tab (P := Tryd.prog) hI; classesOk w1 d nb fb nc fc vs (hI.dfa h) hv hn)
  refine TO.loud rfl (l_call ent84 (CallT.of_pure hk14) rfl ?_)
  clear hk14
  rintro v O' ⟨N, rfl, cb, cc, rfl, rfl⟩
  rw [hcs]
  refine TO.quiet (q_move rfl) (TO.quiet (q_extract (vs := _) rfl rfl) (TO.quiet (q_extract (vs := _) rfl rfl) ?_))
  refine TO.loud rfl (l_alloc inf41 rfl (fun z3 => ?_))
  refine TO.loud rfl (l_store_box (v := (.slice cb d.next.length cc)) (vs := [(.slice cb d.next.length cc)]) 0 inf41 rfl rfl rfl rfl rfl rfl (by simp [putL]) ?_)
  refine TO.quiet (q_assign rfl) ?_
  refine TO.nil (T.seq (T.seq (T.region ?_)))
  refine TO.quiet (q_move rfl) (TO.quiet (q_neq rfl rfl) ?_)
  refine TO.nil ?_
  refine T.cond0 rfl ?_
  refine T.skip (T.seq ?_)
  refine T.draws [oI z3 41 [(.slice cb d.next.length cc)], rowI cb cc 3 1 (nats cs), oI z1 25 [(.int .i64 d.vars), (.int .i64 d.start), (.slice nb d.next.length nc), (.slice fb d.final.length fc)]] [(0, 0), (1, 0), (2, 0), (3, 0), (4, 0), (5, 0), (6, 0), (7, 0), (8, 1), (9, 2)] mixed (by kernel_rfl) (Sub.pick [0, 0, 1] rfl) (fun _ _ _ h => h) ?_
  refine DO.quiet rfl (q_fieldAddr Tryd.underlying25 rfl inf3 rfl rfl) (DO.quiet rfl (q_load_box 2 Tryd.underlying3 rfl rfl rfl rfl) (DO.quiet rfl (q_load_box 0 Tryd.underlying41 rfl rfl rfl rfl) (DO.quiet rfl (q_fieldAddr Tryd.underlying25 rfl inf3 rfl rfl) ?_)))
  refine DO.quiet rfl (q_load_box 2 Tryd.underlying3 rfl rfl rfl rfl) (DO.quiet rfl (q_ixz (i := d.start) Tryd.underlying41 inf3 rfl rfl (rowO (List.mem_of_getElem? (i := 1) rfl)) hs0 (hcl ▸ hsn) (by rw [List.length_map]; exact hsn)) (DO.quiet rfl (q_ld Tryd.underlying3 rfl rfl (rowO (List.mem_of_getElem? (i := 1) rfl)) (show (nats cs)[d.start.toNat]? = some (.int .i64 ((cs.getD d.start.toNat 0 : Nat) : Int)) by rw [nats_get hsn]; simp [hsn])) (DO.quiet rfl (q_build (cs := [(.int .i64 d.vars), .int .i64 ((cs.getD d.start.toNat 0 : Nat) : Int), (.slice none 0 0), (.slice none 0 0)]) plan25 inf25 (by kernel_rfl)) ?_)))
  refine DO.loud rfl rfl (l_alloc inf25 rfl (fun z4 => ⟨Sub.pick [1, 1, 2] rfl, ?_⟩))
  refine DO.last rfl rfl (l_store_box (v := (.agg #[(.int .i64 d.vars), .int .i64 ((cs.getD d.start.toNat 0 : Nat) : Int), (.slice none 0 0), (.slice none 0 0)])) (vs := [(.int .i64 d.vars), .int .i64 ((cs.getD d.start.toNat 0 : Nat) : Int), (.slice none 0 0), (.slice none 0 0)]) 0 inf25 rfl rfl rfl rfl rfl rfl (by simp [putL]) ?_)
  refine DO.done ?_
  refine T.seq (T.seq (T.region ?_))
  refine TO.quiet (q_load_boxAgg 4 Tryd.underlying25 rfl inf25 rfl rfl rfl) ?_
  have hk30 := fun (w1 : World) (hI : Inv w [oI z4 25 [(.int .i64 d.vars), .int .i64 ((cs.getD d.start.toNat 0 : Nat) : Int), (.slice none 0 0), (.slice none 0 0)], oI z3 41 [(.slice cb d.next.length cc)], rowI cb cc 3 1 (nats cs), oI z2 25 [(.int .i64 0), (.int .i64 0), (.slice none 0 0), (.slice none 0 0)], oI z1 25 [(.int .i64 d.vars), (.int .i64 d.start), (.slice nb d.next.length nc), (.slice fb d.final.length fc)]] w1) => (haveI := Inv.tab (P := Tryd.prog) hI; rowsF w1 d nb fb nc fc)
  refine TO.loud rfl (l_call ent85 (CallT.of_pure hk30) rfl ?_)
  clear hk30
  rintro v O' ⟨N, rfl, bR, rfl, rfl⟩
  refine TO.nil ?_
  refine T.nilRow 4 1 ?_
  refine T.nilRow 41 1 ?_
  refine T.sub (O' := [oI bR 25 [(.int .i64 d.vars), (.int .i64 d.start), (.slice nb d.next.length nc), (.slice fb d.final.length fc)], oI z4 25 [(.int .i64 d.vars), .int .i64 ((cs.getD d.start.toNat 0 : Nat) : Int), (.slice none 0 0), (.slice none 0 0)], rowI none 0 41 1 (vals []), rowI none 0 4 1 (bools []), oI z3 41 [(.slice cb d.next.length cc)], rowI cb cc 3 1 (nats cs), oI z2 25 [(.int .i64 0), (.int .i64 0), (.slice none 0 0), (.slice none 0 0)], oI z1 25 [(.int .i64 d.vars), (.int .i64 d.start), (.slice nb d.next.length nc), (.slice fb d.final.length fc)]]) (Sub.pick [2, 2, 0, 0, 0, 0, 0, 0] rfl) ?_
  refine T.block ?_
  refine T.rangeFunc (first := []) (caps := [(.pointer (some ⟨bR, 0, none⟩))]) rfl ent89 (fun yl yq yhq => ?_)
  refine CallT.mono (CallT.sub (O' := oI bR 25 [(.int .i64 d.vars), (.int .i64 d.start), (.slice nb d.next.length nc), (.slice fb d.final.length fc)] :: (objI yl (lp yq none) :: [oI z4 25 [(.int .i64 d.vars), .int .i64 ((cs.getD d.start.toNat 0 : Nat) : Int), (.slice none 0 0), (.slice none 0 0)], rowI none 0 41 1 (vals []), rowI none 0 4 1 (bools []), oI z3 41 [(.slice cb d.next.length cc)], rowI cb cc 3 1 (nats cs), oI z2 25 [(.int .i64 0), (.int .i64 0), (.slice none 0 0), (.slice none 0 0)], oI z1 25 [(.int .i64 d.vars), (.int .i64 d.start), (.slice nb d.next.length nc), (.slice fb d.final.length fc)]])) (Sub.pick [1, 0, 0, 0, 0, 0, 0, 0, 0] rfl) (rows1 w d nb fb nc fc vs h hb bR (.func (.yield yl) #[] #[]) (fun k O => ∃ (ob fb9 : Option Addr) (oc fc9 : Nat) (qs : List Rec) (fs : List Bool), O = objI yl (lp yq none) :: ([oI z4 25 [(.int .i64 d.vars), (.int .i64 ((cs.getD d.start.toNat 0 : Nat) : Int)), (.slice ob qs.length oc), (.slice fb9 fs.length fc9)], rowI ob oc 41 1 (vals qs), rowI fb9 fc9 4 1 (bools fs), oI z3 41 [(.slice cb d.next.length cc)], rowI cb cc 3 1 (nats cs), oI z2 25 [(.int .i64 0), (.int .i64 0), (.slice none 0 0), (.slice none 0 0)], oI z1 25 [(.int .i64 d.vars), (.int .i64 d.start), (.slice nb d.next.length nc), (.slice fb d.final.length fc)]] ++ (itms 3 qs)) ∧ k ≤ d.next.length ∧ nums qs = (quoN d cs k).1 ∧ fs = (quoN d cs k).2) (fun _ => False) ?_ _ ?_)) ?_
  · intro k hlt vb vc O g1 s1 hJ
    obtain ⟨ob, fb9, oc, fc9, qs, fs, rfl, hk, hqs, hfs⟩ := hJ
    refine CallV.yield yhq rfl rfl ?_
    have hkc : k < cs.length := by omega
    have hql : qs.length = (quoN d cs k).1.length := by rw [← hqs]; simp
    have hfl : fs.length = (quoN d cs k).1.length := by rw [hfs]; exact (quoN_len d cs k).1.symm
    have hqk := (quoN_len d cs k).2
    have hkf : k < d.final.length := by have := hv.fin; omega
    have hrl : d.next[k].length ≤ 64 := by
      have := hv.len _ (List.getElem_mem hlt); have := hv.width; omega
    have hto : ∀ j (hj : j < d.next[k].length), 0 ≤ d.next[k][j] ∧ d.next[k][j].toNat < cs.length := fun j hj => by have := hv.ok _ (List.getElem_mem hlt) _ (List.getElem_mem hj); omega
    refine T.seq (T.region ?_)
    refine TO.quiet (q_assign rfl) ?_
    refine TO.nil (T.region ?_)
    refine TO.quiet (q_assign rfl) ?_
    refine TO.nil (T.block (T.seq (T.seq ?_)))
    refine T.draws [oI z4 25 [(.int .i64 d.vars), (.int .i64 ((cs.getD d.start.toNat 0 : Nat) : Int)), (.slice ob qs.length oc), (.slice fb9 fs.length fc9)], oI z3 41 [(.slice cb d.next.length cc)], rowI cb cc 3 1 (nats cs)] [(0, 0), (1, 0), (2, 0), (3, 0), (4, 0), (5, 0), (6, 0), (7, 0)] mixed (by kernel_rfl) (Sub.pick0 [0, 2, 2] [oI z4 25 [(.int .i64 d.vars), (.int .i64 ((cs.getD d.start.toNat 0 : Nat) : Int)), (.slice ob qs.length oc), (.slice fb9 fs.length fc9)], rowI ob oc 41 1 (vals qs), rowI fb9 fc9 4 1 (bools fs), oI z3 41 [(.slice cb d.next.length cc)], rowI cb cc 3 1 (nats cs), oI z2 25 [(.int .i64 0), (.int .i64 0), (.slice none 0 0), (.slice none 0 0)], oI z1 25 [(.int .i64 d.vars), (.int .i64 d.start), (.slice nb d.next.length nc), (.slice fb d.final.length fc)]] (itms 3 qs) rfl rfl) (fun _ _ _ h => h) ?_
    refine DO.quiet rfl (q_load_box 1 Tryd.underlying41 rfl rfl rfl rfl) (DO.quiet rfl (q_move rfl) (DO.quiet rfl (q_ix (i := k) Tryd.underlying41 inf3 rfl rfl (rowO (List.mem_of_getElem? (i := 2) rfl))) (DO.quiet rfl (q_ld Tryd.underlying3 rfl rfl (rowO (List.mem_of_getElem? (i := 2) rfl)) nats_get) ?_)))
    refine DO.quiet rfl (q_fieldAddr Tryd.underlying25 rfl inf22 rfl rfl) (DO.quiet rfl (q_load_box 0 Tryd.underlying22 rfl rfl rfl rfl) (DO.quiet rfl (q_len Tryd.underlying22 rfl) (DO.quiet rfl (q_lss rfl rfl) ?_)))
    refine DO.done ?_
    refine T.condP rfl (fun hc => ?_) (fun hc => ?_)
    · have hlt40 : cs[k] < qs.length := by omega
      have hqn1 : quoN d cs (k + 1) = quoN d cs k := by rw [quoN, if_pos (by simp [hkc]; omega)]
      refine T.exit ?_
      refine .inl ⟨rfl, ob, fb9, oc, fc9, qs, fs, rfl, by omega, ?_, ?_⟩
      · rw [hqn1]; exact hqs
      · rw [hqn1]; exact hfs
    have hge40 : ¬ cs[k] < qs.length := by omega
    have hqn2 : quoN d cs (k + 1) = ((quoN d cs k).1 ++ [(rowK cs d.next[k]).map fun c : Nat => (c : Int)], (quoN d cs k).2 ++ [d.final[k]]) := by rw [quoN, if_neg (by simp [hkc]; omega)]; simp [hlt, hkf]
    refine T.skip (T.seq (T.region ?_))
    refine TO.quiet (q_assign rfl) ?_
    refine TO.nil (T.seq (T.seq (T.region ?_)))
    refine TO.quiet (q_move rfl) (TO.quiet (q_len Tryd.underlying41 rfl) (TO.quiet (q_move rfl) ?_))
    refine TO.nil (T.block ?_)
    refine T.nilRow 3 1 ?_
    refine T.loop (fun (j : Nat) ρ O => ∃ (kb : Option Addr) (kc : Nat), O = ([rowI kb kc 3 1 (nats ((rowK cs d.next[k]).take j)), oI z4 25 [(.int .i64 d.vars), (.int .i64 ((cs.getD d.start.toNat 0 : Nat) : Int)), (.slice ob qs.length oc), (.slice fb9 fs.length fc9)], rowI ob oc 41 1 (vals qs), rowI fb9 fc9 4 1 (bools fs), oI z3 41 [(.slice cb d.next.length cc)], rowI cb cc 3 1 (nats cs), oI z2 25 [(.int .i64 0), (.int .i64 0), (.slice none 0 0), (.slice none 0 0)], oI z1 25 [(.int .i64 d.vars), (.int .i64 d.start), (.slice nb d.next.length nc), (.slice fb d.final.length fc)]] ++ (itms 3 qs)) ∧ j ≤ d.next[k].length ∧ Heads [(0, (.agg #[(.int .i64 d.vars), (.int .i64 d.start), (.slice nb d.next.length nc), (.slice fb d.final.length fc)])), (1, (.pointer (some ⟨z1, 0, none⟩))), (2, (.pointer (some ⟨z2, 0, none⟩))), (3, .int .i64 0), (4, (.pointer (some ⟨z3, 0, none⟩))), (5, .int .i64 0), (6, (.pointer (some ⟨z4, 0, none⟩))), (7, .int .i64 (k : Int)), (8, (.slice vb d.next[k].length vc)), (9, (.slice kb j kc)), (41, (.slice vb d.next[k].length vc)), (42, .int .i64 (d.next[k].length : Int)), (43, .int .i64 (j : Int))] ρ) (fun j => d.next[k].length - j) 0 ?_ ?_
    · exact ⟨none, 0, rfl, Nat.zero_le _, ⟨rfl, rfl, rfl, rfl, rfl, rfl, rfl, rfl, rfl, rfl, rfl, rfl, rfl, trivial⟩⟩
    rintro j ρ O ⟨kb, kc, rfl, hj, hH⟩
    obtain ⟨ρ0, rfl⟩ := hH.elim
    clear hH
    refine T.seq (T.region ?_)
    refine TO.quiet (q_lss rfl rfl) ?_
    refine TO.nil (T.seq ?_)
    refine T.condP rfl (fun hc => ?_) (fun hc => ?_)
    · have hlt44 : j < d.next[k].length := by omega
      have htj := (hto j hlt44).2
      refine T.skip (T.seq (T.block (T.seq (T.region ?_))))
      refine TO.quiet (q_ix (i := j) Tryd.underlying41 inf3 rfl rfl (Sl.o s1)) (TO.quiet (q_ld Tryd.underlying3 rfl rfl (Sl.o s1) ints_get) (TO.quiet (q_assign rfl) ?_))
      refine TO.nil (T.region ?_)
      refine TO.quiet (q_move rfl) (TO.quiet (q_load_box 4 Tryd.underlying41 rfl rfl rfl rfl) (TO.quiet (q_move rfl) (TO.quiet (q_ixz (i := d.next[k][j]) Tryd.underlying41 inf3 rfl rfl (rowO (List.mem_of_getElem? (i := 5) rfl)) (hto j hlt44).1 (hcl ▸ (hto j hlt44).2) (by rw [List.length_map]; exact (hto j hlt44).2)) ?_)))
      refine TO.quiet (q_ld Tryd.underlying3 rfl rfl (rowO (List.mem_of_getElem? (i := 5) rfl)) (nats_get (hto j hlt44).2)) ?_
      refine TO.loud rfl (l_build1 (v := .int .i64 ((cs[d.next[k][j].toNat] : Nat) : Int)) Tryd.underlying41 inf3 rfl rfl rfl (fun z5 => ?_))
      refine TO.loud rfl (l_append 1 Tryd.underlying41 Tryd.underlying41 inf3 rfl rfl rfl rfl (by rw [List.length_map, List.length_take, rowK_length]; omega) (by decide) (Src.row (j := 0) rfl (by simp)) (by simp [oneB]) (by omega) (by decide) (by decide) (fun z6 zc7 => ?_))
      refine TO.quiet (q_assign rfl) ?_
      refine TO.sub (O' := ([rowI z6 zc7 3 1 ((nats ((rowK cs d.next[k]).take j)) ++ [.int .i64 ((cs[d.next[k][j].toNat] : Nat) : Int)]), oI z4 25 [(.int .i64 d.vars), (.int .i64 ((cs.getD d.start.toNat 0 : Nat) : Int)), (.slice ob qs.length oc), (.slice fb9 fs.length fc9)], rowI ob oc 41 1 (vals qs), rowI fb9 fc9 4 1 (bools fs), oI z3 41 [(.slice cb d.next.length cc)], rowI cb cc 3 1 (nats cs), oI z2 25 [(.int .i64 0), (.int .i64 0), (.slice none 0 0), (.slice none 0 0)], oI z1 25 [(.int .i64 d.vars), (.int .i64 d.start), (.slice nb d.next.length nc), (.slice fb d.final.length fc)]] ++ (itms 3 qs))) (Sub.pickR [1, 1, 1, 1, 1, 1, 1, 1] [rowI (some ⟨z5, 0, none⟩) 1 3 1 [.int .i64 ((cs[d.next[k][j].toNat] : Nat) : Int)], rowI z6 zc7 3 1 ((nats ((rowK cs d.next[k]).take j)) ++ [.int .i64 ((cs[d.next[k][j].toNat] : Nat) : Int)]), oI z4 25 [(.int .i64 d.vars), (.int .i64 ((cs.getD d.start.toNat 0 : Nat) : Int)), (.slice ob qs.length oc), (.slice fb9 fs.length fc9)], rowI ob oc 41 1 (vals qs), rowI fb9 fc9 4 1 (bools fs), oI z3 41 [(.slice cb d.next.length cc)], rowI cb cc 3 1 (nats cs), oI z2 25 [(.int .i64 0), (.int .i64 0), (.slice none 0 0), (.slice none 0 0)], oI z1 25 [(.int .i64 d.vars), (.int .i64 d.start), (.slice nb d.next.length nc), (.slice fb d.final.length fc)]] (itms 3 qs) rfl rfl) ?_
      refine TO.nil (T.region ?_)
      refine TO.quiet (q_inc rfl rfl (by omega)) (TO.quiet (q_move rfl) ?_)
      refine TO.nil ?_
      have hst : (rowK cs d.next[k]).take (j + 1) = (rowK cs d.next[k]).take j ++ [cs[d.next[k][j].toNat]] := by rw [List.take_succ_eq_append_getElem (by rw [rowK_length]; exact hlt44), rowK_get hlt44 (hto j hlt44).2]
      exact ⟨j + 1, by omega, z6, zc7, by rw [hst, show nats ((rowK cs d.next[k]).take j ++ [cs[d.next[k][j].toNat]]) = nats ((rowK cs d.next[k]).take j) ++ [.int .i64 ((cs[d.next[k][j].toNat] : Nat) : Int)] from List.map_append], by omega, ⟨rfl, rfl, rfl, rfl, rfl, rfl, rfl, rfl, rfl, rfl, rfl, rfl, rfl, trivial⟩⟩
    have hge44 : ¬ j < d.next[k].length := by omega
    refine T.exit ?_
    have hjf : j = d.next[k].length := by omega
    have hR : rowI kb kc 3 1 (nats ((rowK cs d.next[k]).take j)) = Rec.itm 3 ⟨kb, kc, (rowK cs d.next[k]).map fun c : Nat => (c : Int)⟩ := by
      rw [List.take_of_length_le (by rw [rowK_length]; omega)]; simp [Rec.itm, Function.comp_def]
    refine T.cut1 (fun ρ O => ∃ (ob2 : Option Addr) (oc2 : Nat) (fb2 : Option Addr) (fc2 : Nat), O = ([oI z4 25 [(.int .i64 d.vars), (.int .i64 ((cs.getD d.start.toNat 0 : Nat) : Int)), (.slice ob2 (qs.length + 1) oc2), (.slice fb2 (fs.length + 1) fc2)], rowI ob2 oc2 41 1 ((vals qs) ++ [(.slice kb j kc)]), rowI fb2 fc2 4 1 ((bools fs) ++ [(.bool d.final[k])]), oI z3 41 [(.slice cb d.next.length cc)], rowI cb cc 3 1 (nats cs), oI z2 25 [(.int .i64 0), (.int .i64 0), (.slice none 0 0), (.slice none 0 0)], oI z1 25 [(.int .i64 d.vars), (.int .i64 d.start), (.slice nb d.next.length nc), (.slice fb d.final.length fc)]] ++ (itms 3 (qs ++ [⟨kb, kc, (rowK cs d.next[k]).map fun c : Nat => (c : Int)⟩]))) ∧ Heads [(0, (.agg #[(.int .i64 d.vars), (.int .i64 d.start), (.slice nb d.next.length nc), (.slice fb d.final.length fc)])), (1, (.pointer (some ⟨z1, 0, none⟩))), (2, (.pointer (some ⟨z2, 0, none⟩))), (3, .int .i64 0), (4, (.pointer (some ⟨z3, 0, none⟩))), (5, .int .i64 0), (6, (.pointer (some ⟨z4, 0, none⟩))), (7, .int .i64 (k : Int)), (8, (.slice vb d.next[k].length vc)), (9, (.slice kb j kc)), (41, (.slice vb d.next[k].length vc)), (42, .int .i64 (d.next[k].length : Int)), (43, .int .i64 (j : Int))] ρ) ?_ ?_
    · refine T.treeT [oI z4 25 [(.int .i64 d.vars), (.int .i64 ((cs.getD d.start.toNat 0 : Nat) : Int)), (.slice ob qs.length oc), (.slice fb9 fs.length fc9)], oI z1 25 [(.int .i64 d.vars), (.int .i64 d.start), (.slice nb d.next.length nc), (.slice fb d.final.length fc)]] [15, 17] 18 mixed rfl (Sub.pick0 [1, 6] [rowI kb kc 3 1 (nats ((rowK cs d.next[k]).take j)), oI z4 25 [(.int .i64 d.vars), (.int .i64 ((cs.getD d.start.toNat 0 : Nat) : Int)), (.slice ob qs.length oc), (.slice fb9 fs.length fc9)], rowI ob oc 41 1 (vals qs), rowI fb9 fc9 4 1 (bools fs), oI z3 41 [(.slice cb d.next.length cc)], rowI cb cc 3 1 (nats cs), oI z2 25 [(.int .i64 0), (.int .i64 0), (.slice none 0 0), (.slice none 0 0)], oI z1 25 [(.int .i64 d.vars), (.int .i64 d.start), (.slice nb d.next.length nc), (.slice fb d.final.length fc)]] (itms 3 qs) rfl rfl) (fun _ _ _ h => h) ?_
      refine RO.quietTT 0 rfl (by kernel_rfl) (q_fieldAddr Tryd.underlying25 rfl inf22 rfl rfl) ?_
      refine RO.quietTT 1 rfl (by kernel_rfl) (q_load_box 0 Tryd.underlying22 rfl rfl rfl rfl) ?_
      refine RO.quietTT 2 rfl (by kernel_rfl) (q_move rfl) ?_
      refine RO.quietTT 5 rfl (by kernel_rfl) (q_fieldAddr Tryd.underlying25 rfl inf23 rfl rfl) ?_
      refine RO.quietTT 6 rfl (by kernel_rfl) (q_load_box 0 Tryd.underlying23 rfl rfl rfl rfl) ?_
      refine RO.quietTT 7 rfl (by kernel_rfl) (q_fieldAddr Tryd.underlying25 rfl inf23 rfl rfl) ?_
      refine RO.quietTT 8 rfl (by kernel_rfl) (q_load_box 1 Tryd.underlying23 rfl rfl rfl rfl) ?_
      refine RO.quietTT 9 rfl (by kernel_rfl) (q_move rfl) ?_
      refine RO.quietTT 10 rfl (by kernel_rfl) (q_ix (i := k) Tryd.underlying23 inf4 rfl rfl (Sl.o h.final) hkf (by rw [List.length_map]; exact hkf)) ?_
      refine RO.quietTT 11 rfl (by kernel_rfl) (q_ld Tryd.underlying4 rfl rfl (Sl.o h.final) (bools_get hkf)) ?_
      refine RO.forkT [3, 12] (by kernel_rfl) rfl ⟨⟨_, rfl, rfl, l_build1 (v := (.slice kb j kc)) Tryd.underlying22 inf41 rfl rfl rfl (fun zA => ⟨.inr (Sub.pick0 [2, 7] [rowI (some ⟨zA, 0, none⟩) 1 41 1 [(.slice kb j kc)], rowI kb kc 3 1 (nats ((rowK cs d.next[k]).take j)), oI z4 25 [(.int .i64 d.vars), (.int .i64 ((cs.getD d.start.toNat 0 : Nat) : Int)), (.slice ob qs.length oc), (.slice fb9 fs.length fc9)], rowI ob oc 41 1 (vals qs), rowI fb9 fc9 4 1 (bools fs), oI z3 41 [(.slice cb d.next.length cc)], rowI cb cc 3 1 (nats cs), oI z2 25 [(.int .i64 0), (.int .i64 0), (.slice none 0 0), (.slice none 0 0)], oI z1 25 [(.int .i64 d.vars), (.int .i64 d.start), (.slice nb d.next.length nc), (.slice fb d.final.length fc)]] (itms 3 qs) rfl rfl), ?_⟩)⟩, ⟨_, rfl, rfl, l_build1 (v := (.bool d.final[k])) Tryd.underlying23 inf4 rfl rfl rfl (fun zB => ⟨.inr (Sub.pick0 [2, 7] [rowI (some ⟨zB, 0, none⟩) 1 4 1 [(.bool d.final[k])], rowI kb kc 3 1 (nats ((rowK cs d.next[k]).take j)), oI z4 25 [(.int .i64 d.vars), (.int .i64 ((cs.getD d.start.toNat 0 : Nat) : Int)), (.slice ob qs.length oc), (.slice fb9 fs.length fc9)], rowI ob oc 41 1 (vals qs), rowI fb9 fc9 4 1 (bools fs), oI z3 41 [(.slice cb d.next.length cc)], rowI cb cc 3 1 (nats cs), oI z2 25 [(.int .i64 0), (.int .i64 0), (.slice none 0 0), (.slice none 0 0)], oI z1 25 [(.int .i64 d.vars), (.int .i64 d.start), (.slice nb d.next.length nc), (.slice fb d.final.length fc)]] (itms 3 qs) rfl rfl), ?_⟩)⟩, trivial⟩ (by kernel_rfl)
      · refine RO.forkT [4, 12] (by kernel_rfl) rfl ⟨⟨_, rfl, rfl, l_append 3 Tryd.underlying22 Tryd.underlying22 inf41 rfl rfl rfl rfl (by rw [List.length_map]; omega) (by decide) (Src.row (j := 0) rfl (by simp)) (by simp [oneB]) (by omega) (by decide) (by decide) (fun ob2 oc2 => ⟨.inr (Sub.pick0 [2, 7] [rowI (some ⟨zA, 0, none⟩) 1 41 1 [(.slice kb j kc)], rowI kb kc 3 1 (nats ((rowK cs d.next[k]).take j)), oI z4 25 [(.int .i64 d.vars), (.int .i64 ((cs.getD d.start.toNat 0 : Nat) : Int)), (.slice ob qs.length oc), (.slice fb9 fs.length fc9)], rowI ob2 oc2 41 1 ((vals qs) ++ [(.slice kb j kc)]), rowI fb9 fc9 4 1 (bools fs), oI z3 41 [(.slice cb d.next.length cc)], rowI cb cc 3 1 (nats cs), oI z2 25 [(.int .i64 0), (.int .i64 0), (.slice none 0 0), (.slice none 0 0)], oI z1 25 [(.int .i64 d.vars), (.int .i64 d.start), (.slice nb d.next.length nc), (.slice fb d.final.length fc)]] (itms 3 qs) rfl rfl), ?_⟩)⟩, ⟨_, rfl, rfl, l_build1 (v := (.bool d.final[k])) Tryd.underlying23 inf4 rfl rfl rfl (fun zB => ⟨.inr (Sub.pick0 [3, 8] [rowI (some ⟨zB, 0, none⟩) 1 4 1 [(.bool d.final[k])], rowI (some ⟨zA, 0, none⟩) 1 41 1 [(.slice kb j kc)], rowI kb kc 3 1 (nats ((rowK cs d.next[k]).take j)), oI z4 25 [(.int .i64 d.vars), (.int .i64 ((cs.getD d.start.toNat 0 : Nat) : Int)), (.slice ob qs.length oc), (.slice fb9 fs.length fc9)], rowI ob oc 41 1 (vals qs), rowI fb9 fc9 4 1 (bools fs), oI z3 41 [(.slice cb d.next.length cc)], rowI cb cc 3 1 (nats cs), oI z2 25 [(.int .i64 0), (.int .i64 0), (.slice none 0 0), (.slice none 0 0)], oI z1 25 [(.int .i64 d.vars), (.int .i64 d.start), (.slice nb d.next.length nc), (.slice fb d.final.length fc)]] (itms 3 qs) rfl rfl), ?_⟩)⟩, trivial⟩ (by kernel_rfl)
        · refine RO.quietE 14 rfl (by kernel_rfl) (q_fieldAddr Tryd.underlying25 rfl inf22 rfl rfl) ?_
          refine RO.forkT [12] (by kernel_rfl) rfl ⟨⟨_, rfl, rfl, l_build1 (v := (.bool d.final[k])) Tryd.underlying23 inf4 rfl rfl rfl (fun zB => ⟨.inr (Sub.pick0 [3, 8] [rowI (some ⟨zB, 0, none⟩) 1 4 1 [(.bool d.final[k])], rowI (some ⟨zA, 0, none⟩) 1 41 1 [(.slice kb j kc)], rowI kb kc 3 1 (nats ((rowK cs d.next[k]).take j)), oI z4 25 [(.int .i64 d.vars), (.int .i64 ((cs.getD d.start.toNat 0 : Nat) : Int)), (.slice ob qs.length oc), (.slice fb9 fs.length fc9)], rowI ob2 oc2 41 1 ((vals qs) ++ [(.slice kb j kc)]), rowI fb9 fc9 4 1 (bools fs), oI z3 41 [(.slice cb d.next.length cc)], rowI cb cc 3 1 (nats cs), oI z2 25 [(.int .i64 0), (.int .i64 0), (.slice none 0 0), (.slice none 0 0)], oI z1 25 [(.int .i64 d.vars), (.int .i64 d.start), (.slice nb d.next.length nc), (.slice fb d.final.length fc)]] (itms 3 qs) rfl rfl), ?_⟩)⟩, trivial⟩ (by kernel_rfl)
          refine RO.forkT [13] (by kernel_rfl) rfl ⟨⟨_, rfl, rfl, l_append 5 Tryd.underlying23 Tryd.underlying23 inf4 rfl rfl rfl rfl (by rw [List.length_map]; omega) (by decide) (Src.row (j := 0) rfl (by simp)) (by simp [oneB]) (by omega) (by decide) (by decide) (fun fb2 fc2 => ⟨.inr (Sub.pick0 [3, 8] [rowI (some ⟨zB, 0, none⟩) 1 4 1 [(.bool d.final[k])], rowI (some ⟨zA, 0, none⟩) 1 41 1 [(.slice kb j kc)], rowI kb kc 3 1 (nats ((rowK cs d.next[k]).take j)), oI z4 25 [(.int .i64 d.vars), (.int .i64 ((cs.getD d.start.toNat 0 : Nat) : Int)), (.slice ob qs.length oc), (.slice fb9 fs.length fc9)], rowI ob2 oc2 41 1 ((vals qs) ++ [(.slice kb j kc)]), rowI fb2 fc2 4 1 ((bools fs) ++ [(.bool d.final[k])]), oI z3 41 [(.slice cb d.next.length cc)], rowI cb cc 3 1 (nats cs), oI z2 25 [(.int .i64 0), (.int .i64 0), (.slice none 0 0), (.slice none 0 0)], oI z1 25 [(.int .i64 d.vars), (.int .i64 d.start), (.slice nb d.next.length nc), (.slice fb d.final.length fc)]] (itms 3 qs) rfl rfl), ?_⟩)⟩, trivial⟩ (by kernel_rfl)
          refine RO.forkT [15] (by kernel_rfl) rfl ⟨⟨_, rfl, rfl, l_store_box (v := (.slice ob2 (qs.length + 1) oc2)) (vs := [(.slice ob2 (qs.length + 1) oc2)]) 3 inf22 rfl rfl rfl rfl rfl rfl (by simp [putL]) ⟨.inl (by decide), ?_⟩⟩, trivial⟩ (by kernel_rfl)
          refine RO.quietE 16 rfl (by kernel_rfl) (q_fieldAddr Tryd.underlying25 rfl inf23 rfl rfl) ?_
          refine RO.forkT [17] (by kernel_rfl) rfl ⟨⟨_, rfl, rfl, l_store_box (v := (.slice fb2 (fs.length + 1) fc2)) (vs := [(.slice fb2 (fs.length + 1) fc2)]) 3 inf23 rfl rfl rfl rfl rfl rfl (by simp [putL]) ⟨.inl (by decide), ?_⟩⟩, trivial⟩ (by kernel_rfl)
          exact RO.fin (by kernel_rfl) ⟨ob2, oc2, fb2, fc2, rfl, ⟨rfl, rfl, rfl, rfl, rfl, rfl, rfl, rfl, rfl, rfl, rfl, rfl, rfl, trivial⟩⟩ (by show Sub _ ([rowI (some ⟨zB, 0, none⟩) 1 4 1 [(.bool d.final[k])], rowI (some ⟨zA, 0, none⟩) 1 41 1 [(.slice kb j kc)], rowI kb kc 3 1 (nats ((rowK cs d.next[k]).take j)), oI z4 25 [(.int .i64 d.vars), (.int .i64 ((cs.getD d.start.toNat 0 : Nat) : Int)), (.slice ob2 (qs.length + 1) oc2), (.slice fb2 (fs.length + 1) fc2)], rowI ob2 oc2 41 1 ((vals qs) ++ [(.slice kb j kc)]), rowI fb2 fc2 4 1 ((bools fs) ++ [(.bool d.final[k])]), oI z3 41 [(.slice cb d.next.length cc)], rowI cb cc 3 1 (nats cs), oI z2 25 [(.int .i64 0), (.int .i64 0), (.slice none 0 0), (.slice none 0 0)], oI z1 25 [(.int .i64 d.vars), (.int .i64 d.start), (.slice nb d.next.length nc), (.slice fb d.final.length fc)]] ++ itms 3 qs); rw [hR]; exact Sub.cnt [rowI (some ⟨zB, 0, none⟩) 1 4 1 [(.bool d.final[k])], rowI (some ⟨zA, 0, none⟩) 1 41 1 [(.slice kb j kc)]] (by intro a; simp only [itms, oI, List.set_cons_zero, List.set_cons_succ, putL, List.cons_append, List.nil_append, List.append_nil, List.append_assoc, List.map_append, List.map_cons, List.map_nil, cnt_append, cnt_cons, cnt_nil] <;> omega))
        refine RO.forkT [4] (by kernel_rfl) rfl ⟨⟨_, rfl, rfl, l_append 4 Tryd.underlying22 Tryd.underlying22 inf41 rfl rfl rfl rfl (by rw [List.length_map]; omega) (by decide) (Src.row (j := 1) rfl (by simp)) (by simp [oneB]) (by omega) (by decide) (by decide) (fun ob2 oc2 => ⟨.inr (Sub.pick0 [3, 8] [rowI (some ⟨zB, 0, none⟩) 1 4 1 [(.bool d.final[k])], rowI (some ⟨zA, 0, none⟩) 1 41 1 [(.slice kb j kc)], rowI kb kc 3 1 (nats ((rowK cs d.next[k]).take j)), oI z4 25 [(.int .i64 d.vars), (.int .i64 ((cs.getD d.start.toNat 0 : Nat) : Int)), (.slice ob qs.length oc), (.slice fb9 fs.length fc9)], rowI ob2 oc2 41 1 ((vals qs) ++ [(.slice kb j kc)]), rowI fb9 fc9 4 1 (bools fs), oI z3 41 [(.slice cb d.next.length cc)], rowI cb cc 3 1 (nats cs), oI z2 25 [(.int .i64 0), (.int .i64 0), (.slice none 0 0), (.slice none 0 0)], oI z1 25 [(.int .i64 d.vars), (.int .i64 d.start), (.slice nb d.next.length nc), (.slice fb d.final.length fc)]] (itms 3 qs) rfl rfl), ?_⟩)⟩, trivial⟩ (by kernel_rfl)
        refine RO.quietE 14 rfl (by kernel_rfl) (q_fieldAddr Tryd.underlying25 rfl inf22 rfl rfl) ?_
        refine RO.forkT [13] (by kernel_rfl) rfl ⟨⟨_, rfl, rfl, l_append 5 Tryd.underlying23 Tryd.underlying23 inf4 rfl rfl rfl rfl (by rw [List.length_map]; omega) (by decide) (Src.row (j := 0) rfl (by simp)) (by simp [oneB]) (by omega) (by decide) (by decide) (fun fb2 fc2 => ⟨.inr (Sub.pick0 [3, 8] [rowI (some ⟨zB, 0, none⟩) 1 4 1 [(.bool d.final[k])], rowI (some ⟨zA, 0, none⟩) 1 41 1 [(.slice kb j kc)], rowI kb kc 3 1 (nats ((rowK cs d.next[k]).take j)), oI z4 25 [(.int .i64 d.vars), (.int .i64 ((cs.getD d.start.toNat 0 : Nat) : Int)), (.slice ob qs.length oc), (.slice fb9 fs.length fc9)], rowI ob2 oc2 41 1 ((vals qs) ++ [(.slice kb j kc)]), rowI fb2 fc2 4 1 ((bools fs) ++ [(.bool d.final[k])]), oI z3 41 [(.slice cb d.next.length cc)], rowI cb cc 3 1 (nats cs), oI z2 25 [(.int .i64 0), (.int .i64 0), (.slice none 0 0), (.slice none 0 0)], oI z1 25 [(.int .i64 d.vars), (.int .i64 d.start), (.slice nb d.next.length nc), (.slice fb d.final.length fc)]] (itms 3 qs) rfl rfl), ?_⟩)⟩, trivial⟩ (by kernel_rfl)
        refine RO.forkT [15] (by kernel_rfl) rfl ⟨⟨_, rfl, rfl, l_store_box (v := (.slice ob2 (qs.length + 1) oc2)) (vs := [(.slice ob2 (qs.length + 1) oc2)]) 3 inf22 rfl rfl rfl rfl rfl rfl (by simp [putL]) ⟨.inl (by decide), ?_⟩⟩, trivial⟩ (by kernel_rfl)
        refine RO.quietE 16 rfl (by kernel_rfl) (q_fieldAddr Tryd.underlying25 rfl inf23 rfl rfl) ?_
        refine RO.forkT [17] (by kernel_rfl) rfl ⟨⟨_, rfl, rfl, l_store_box (v := (.slice fb2 (fs.length + 1) fc2)) (vs := [(.slice fb2 (fs.length + 1) fc2)]) 3 inf23 rfl rfl rfl rfl rfl rfl (by simp [putL]) ⟨.inl (by decide), ?_⟩⟩, trivial⟩ (by kernel_rfl)
        exact RO.fin (by kernel_rfl) ⟨ob2, oc2, fb2, fc2, rfl, ⟨rfl, rfl, rfl, rfl, rfl, rfl, rfl, rfl, rfl, rfl, rfl, rfl, rfl, trivial⟩⟩ (by show Sub _ ([rowI (some ⟨zB, 0, none⟩) 1 4 1 [(.bool d.final[k])], rowI (some ⟨zA, 0, none⟩) 1 41 1 [(.slice kb j kc)], rowI kb kc 3 1 (nats ((rowK cs d.next[k]).take j)), oI z4 25 [(.int .i64 d.vars), (.int .i64 ((cs.getD d.start.toNat 0 : Nat) : Int)), (.slice ob2 (qs.length + 1) oc2), (.slice fb2 (fs.length + 1) fc2)], rowI ob2 oc2 41 1 ((vals qs) ++ [(.slice kb j kc)]), rowI fb2 fc2 4 1 ((bools fs) ++ [(.bool d.final[k])]), oI z3 41 [(.slice cb d.next.length cc)], rowI cb cc 3 1 (nats cs), oI z2 25 [(.int .i64 0), (.int .i64 0), (.slice none 0 0), (.slice none 0 0)], oI z1 25 [(.int .i64 d.vars), (.int .i64 d.start), (.slice nb d.next.length nc), (.slice fb d.final.length fc)]] ++ itms 3 qs); rw [hR]; exact Sub.cnt [rowI (some ⟨zB, 0, none⟩) 1 4 1 [(.bool d.final[k])], rowI (some ⟨zA, 0, none⟩) 1 41 1 [(.slice kb j kc)]] (by intro a; simp only [itms, oI, List.set_cons_zero, List.set_cons_succ, putL, List.cons_append, List.nil_append, List.append_nil, List.append_assoc, List.map_append, List.map_cons, List.map_nil, cnt_append, cnt_cons, cnt_nil] <;> omega))
      refine RO.forkT [3] (by kernel_rfl) rfl ⟨⟨_, rfl, rfl, l_build1 (v := (.slice kb j kc)) Tryd.underlying22 inf41 rfl rfl rfl (fun zA => ⟨.inr (Sub.pick0 [3, 8] [rowI (some ⟨zA, 0, none⟩) 1 41 1 [(.slice kb j kc)], rowI (some ⟨zB, 0, none⟩) 1 4 1 [(.bool d.final[k])], rowI kb kc 3 1 (nats ((rowK cs d.next[k]).take j)), oI z4 25 [(.int .i64 d.vars), (.int .i64 ((cs.getD d.start.toNat 0 : Nat) : Int)), (.slice ob qs.length oc), (.slice fb9 fs.length fc9)], rowI ob oc 41 1 (vals qs), rowI fb9 fc9 4 1 (bools fs), oI z3 41 [(.slice cb d.next.length cc)], rowI cb cc 3 1 (nats cs), oI z2 25 [(.int .i64 0), (.int .i64 0), (.slice none 0 0), (.slice none 0 0)], oI z1 25 [(.int .i64 d.vars), (.int .i64 d.start), (.slice nb d.next.length nc), (.slice fb d.final.length fc)]] (itms 3 qs) rfl rfl), ?_⟩)⟩, trivial⟩ (by kernel_rfl)
      refine RO.forkT [4] (by kernel_rfl) rfl ⟨⟨_, rfl, rfl, l_append 4 Tryd.underlying22 Tryd.underlying22 inf41 rfl rfl rfl rfl (by rw [List.length_map]; omega) (by decide) (Src.row (j := 0) rfl (by simp)) (by simp [oneB]) (by omega) (by decide) (by decide) (fun ob2 oc2 => ⟨.inr (Sub.pick0 [3, 8] [rowI (some ⟨zA, 0, none⟩) 1 41 1 [(.slice kb j kc)], rowI (some ⟨zB, 0, none⟩) 1 4 1 [(.bool d.final[k])], rowI kb kc 3 1 (nats ((rowK cs d.next[k]).take j)), oI z4 25 [(.int .i64 d.vars), (.int .i64 ((cs.getD d.start.toNat 0 : Nat) : Int)), (.slice ob qs.length oc), (.slice fb9 fs.length fc9)], rowI ob2 oc2 41 1 ((vals qs) ++ [(.slice kb j kc)]), rowI fb9 fc9 4 1 (bools fs), oI z3 41 [(.slice cb d.next.length cc)], rowI cb cc 3 1 (nats cs), oI z2 25 [(.int .i64 0), (.int .i64 0), (.slice none 0 0), (.slice none 0 0)], oI z1 25 [(.int .i64 d.vars), (.int .i64 d.start), (.slice nb d.next.length nc), (.slice fb d.final.length fc)]] (itms 3 qs) rfl rfl), ?_⟩)⟩, trivial⟩ (by kernel_rfl)
      refine RO.quietE 14 rfl (by kernel_rfl) (q_fieldAddr Tryd.underlying25 rfl inf22 rfl rfl) ?_
      refine RO.forkT [13] (by kernel_rfl) rfl ⟨⟨_, rfl, rfl, l_append 5 Tryd.underlying23 Tryd.underlying23 inf4 rfl rfl rfl rfl (by rw [List.length_map]; omega) (by decide) (Src.row (j := 1) rfl (by simp)) (by simp [oneB]) (by omega) (by decide) (by decide) (fun fb2 fc2 => ⟨.inr (Sub.pick0 [3, 8] [rowI (some ⟨zA, 0, none⟩) 1 41 1 [(.slice kb j kc)], rowI (some ⟨zB, 0, none⟩) 1 4 1 [(.bool d.final[k])], rowI kb kc 3 1 (nats ((rowK cs d.next[k]).take j)), oI z4 25 [(.int .i64 d.vars), (.int .i64 ((cs.getD d.start.toNat 0 : Nat) : Int)), (.slice ob qs.length oc), (.slice fb9 fs.length fc9)], rowI ob2 oc2 41 1 ((vals qs) ++ [(.slice kb j kc)]), rowI fb2 fc2 4 1 ((bools fs) ++ [(.bool d.final[k])]), oI z3 41 [(.slice cb d.next.length cc)], rowI cb cc 3 1 (nats cs), oI z2 25 [(.int .i64 0), (.int .i64 0), (.slice none 0 0), (.slice none 0 0)], oI z1 25 [(.int .i64 d.vars), (.int .i64 d.start), (.slice nb d.next.length nc), (.slice fb d.final.length fc)]] (itms 3 qs) rfl rfl), ?_⟩)⟩, trivial⟩ (by kernel_rfl)
      refine RO.forkT [15] (by kernel_rfl) rfl ⟨⟨_, rfl, rfl, l_store_box (v := (.slice ob2 (qs.length + 1) oc2)) (vs := [(.slice ob2 (qs.length + 1) oc2)]) 3 inf22 rfl rfl rfl rfl rfl rfl (by simp [putL]) ⟨.inl (by decide), ?_⟩⟩, trivial⟩ (by kernel_rfl)
      refine RO.quietE 16 rfl (by kernel_rfl) (q_fieldAddr Tryd.underlying25 rfl inf23 rfl rfl) ?_
      refine RO.forkT [17] (by kernel_rfl) rfl ⟨⟨_, rfl, rfl, l_store_box (v := (.slice fb2 (fs.length + 1) fc2)) (vs := [(.slice fb2 (fs.length + 1) fc2)]) 3 inf23 rfl rfl rfl rfl rfl rfl (by simp [putL]) ⟨.inl (by decide), ?_⟩⟩, trivial⟩ (by kernel_rfl)
      exact RO.fin (by kernel_rfl) ⟨ob2, oc2, fb2, fc2, rfl, ⟨rfl, rfl, rfl, rfl, rfl, rfl, rfl, rfl, rfl, rfl, rfl, rfl, rfl, trivial⟩⟩ (by show Sub _ ([rowI (some ⟨zA, 0, none⟩) 1 41 1 [(.slice kb j kc)], rowI (some ⟨zB, 0, none⟩) 1 4 1 [(.bool d.final[k])], rowI kb kc 3 1 (nats ((rowK cs d.next[k]).take j)), oI z4 25 [(.int .i64 d.vars), (.int .i64 ((cs.getD d.start.toNat 0 : Nat) : Int)), (.slice ob2 (qs.length + 1) oc2), (.slice fb2 (fs.length + 1) fc2)], rowI ob2 oc2 41 1 ((vals qs) ++ [(.slice kb j kc)]), rowI fb2 fc2 4 1 ((bools fs) ++ [(.bool d.final[k])]), oI z3 41 [(.slice cb d.next.length cc)], rowI cb cc 3 1 (nats cs), oI z2 25 [(.int .i64 0), (.int .i64 0), (.slice none 0 0), (.slice none 0 0)], oI z1 25 [(.int .i64 d.vars), (.int .i64 d.start), (.slice nb d.next.length nc), (.slice fb d.final.length fc)]] ++ itms 3 qs); rw [hR]; exact Sub.cnt [rowI (some ⟨zA, 0, none⟩) 1 41 1 [(.slice kb j kc)], rowI (some ⟨zB, 0, none⟩) 1 4 1 [(.bool d.final[k])]] (by intro a; simp only [itms, oI, List.set_cons_zero, List.set_cons_succ, putL, List.cons_append, List.nil_append, List.append_nil, List.append_assoc, List.map_append, List.map_cons, List.map_nil, cnt_append, cnt_cons, cnt_nil] <;> omega))
    rintro ρ O ⟨ob2, oc2, fb2, fc2, rfl, hH⟩
    obtain ⟨ρ0, rfl⟩ := hH.elim
    clear hH
    refine .inl ⟨rfl, ob2, fb2, oc2, fc2, qs ++ [⟨kb, kc, (rowK cs d.next[k]).map fun c : Nat => (c : Int)⟩], fs ++ [d.final[k]], ?_, by omega, ?_, ?_⟩
    · simp [Rec.val, rowK_length, hjf]
    · rw [hqn2, ← hqs]; simp
    · rw [hqn2, hfs]
  · refine ⟨none, none, 0, 0, [], [], ?_, Nat.zero_le _, rfl, rfl⟩
    rfl
  rintro v O' (⟨ob, fb9, oc, fc9, qs, fs, rfl, hk, hqs, hfs⟩ | hF)
  rotate_left
  · exact hF.elim
  refine ⟨none, _, rfl, ?_⟩
  refine T.seq ?_
  have hql : qs.length = (quo d cs).next.length := by rw [show qs.length = (nums qs).length by simp, hqs]; rfl
  obtain rfl : fs = (quo d cs).final := hfs
  rw [hql]
  refine T.region ?_
  refine TO.quiet (q_load_boxAgg 0 Tryd.underlying25 rfl inf25 rfl rfl rfl) ?_
  have hk72 := fun (w1 : World) (hI : Inv w ([oI z4 25 [(.int .i64 d.vars), (.int .i64 ((cs.getD d.start.toNat 0 : Nat) : Int)), (.slice ob ((quo d cs).next.length) oc), (.slice fb9 ((quo d cs).final.length) fc9)], rowI ob oc 41 1 (vals qs), rowI fb9 fc9 4 1 (bools (quo d cs).final), oI z3 41 [(.slice cb d.next.length cc)], rowI cb cc 3 1 (nats cs), oI z2 25 [(.int .i64 0), (.int .i64 0), (.slice none 0 0), (.slice none 0 0)], oI z1 25 [(.int .i64 d.vars), (.int .i64 d.start), (.slice nb d.next.length nc), (.slice fb d.final.length fc)]] ++ (itms 3 qs)) w1) => (haveI := Inv.tab (P := Tryd.prog) hI; renumOk w1 (quo d cs) ob fb9 oc fc9 (vals qs) ⟨hI.slOf (List.mem_of_getElem? (i := 1) rfl), (show nums qs = (quo d cs).next from hqs) ▸ hI.recs (fun q hq => List.mem_append_right _ (List.mem_map_of_mem (f := Rec.itm 3) hq)), hI.slOf (List.mem_of_getElem? (i := 2) rfl)⟩ hqv hqn)
  refine TO.loud rfl (l_call ent45 (CallT.of_pure hk72) rfl ?_)
  clear hk72
  rintro v O' ⟨N, rfl, nb', nc', fb', fc', qs', rfl, rfl, hnx⟩
  refine TO.sub (O' := ([rowI nb' nc' 41 1 (vals qs'), rowI fb' fc' 4 1 (bools (renum (quo d cs)).final), oI z4 25 [(.int .i64 d.vars), (.int .i64 ((cs.getD d.start.toNat 0 : Nat) : Int)), (.slice ob ((quo d cs).next.length) oc), (.slice fb9 ((quo d cs).final.length) fc9)], rowI ob oc 41 1 (vals qs), rowI fb9 fc9 4 1 (bools (quo d cs).final), oI z3 41 [(.slice cb d.next.length cc)], rowI cb cc 3 1 (nats cs), oI z2 25 [(.int .i64 0), (.int .i64 0), (.slice none 0 0), (.slice none 0 0)], oI z1 25 [(.int .i64 d.vars), (.int .i64 d.start), (.slice nb d.next.length nc), (.slice fb d.final.length fc)]] ++ ((itms 3 qs') ++ (itms 3 qs)))) (Sub.cnt [] (by intro a; simp only [itms, oI, List.set_cons_zero, List.set_cons_succ, putL, List.cons_append, List.nil_append, List.append_nil, List.append_assoc, List.map_append, List.map_cons, List.map_nil, cnt_append, cnt_cons, cnt_nil] <;> omega)) ?_
  refine TO.quiet (q_extract (vs := _) rfl rfl) (TO.quiet (q_extract (vs := _) rfl rfl) ?_)
  refine TO.loud rfl (l_store_box (v := (.agg #[(.int .i64 (renum (quo d cs)).vars), (.int .i64 (renum (quo d cs)).start), (.slice nb' ((renum (quo d cs)).next.length) nc'), (.slice fb' ((renum (quo d cs)).final.length) fc')])) (vs := [(.int .i64 (renum (quo d cs)).vars), (.int .i64 (renum (quo d cs)).start), (.slice nb' ((renum (quo d cs)).next.length) nc'), (.slice fb' ((renum (quo d cs)).final.length) fc')]) 7 inf25 rfl rfl rfl rfl rfl rfl (by simp [putL]) ?_)
  refine TO.quiet (q_assign rfl) ?_
  refine TO.nil (T.ret (Res.drop ?_))
  refine Res.cell1b (.int .i64 0) (i := 7) Tryd.results75 Tryd.underlying25 rfl inf25 rfl rfl rfl rfl ?_
  exact ⟨[rowI nb' nc' 41 1 (vals qs'), rowI fb' fc' 4 1 (bools (renum (quo d cs)).final)] ++ itms 3 qs', Sub.cnt ([oI z4 25 [(.int .i64 d.vars), (.int .i64 ((cs.getD d.start.toNat 0 : Nat) : Int)), (.slice ob ((quo d cs).next.length) oc), (.slice fb9 ((quo d cs).final.length) fc9)], rowI ob oc 41 1 (vals qs), rowI fb9 fc9 4 1 (bools (quo d cs).final), oI z3 41 [(.slice cb d.next.length cc)], rowI cb cc 3 1 (nats cs), oI z2 25 [(.int .i64 (renum (quo d cs)).vars), (.int .i64 (renum (quo d cs)).start), (.slice nb' ((renum (quo d cs)).next.length) nc'), (.slice fb' ((renum (quo d cs)).final.length) fc')], oI z1 25 [(.int .i64 d.vars), (.int .i64 d.start), (.slice nb d.next.length nc), (.slice fb d.final.length fc)]] ++ itms 3 qs) (by intro a; simp only [itms, oI, List.set_cons_zero, List.set_cons_succ, putL, List.cons_append, List.nil_append, List.append_nil, List.append_assoc, List.map_append, List.map_cons, List.map_nil, cnt_append, cnt_cons, cnt_nil] <;> omega), nb', nc', fb', fc', qs', rfl, rfl, hnx⟩
end Go.Proofs.YtnmfefmhfkhihaaDoor


namespace Go.Proofs.YtnmfefmhfkhihaaDoor
open Go.Lx Go.RowKit
set_option linter.unusedVariables false
set_option linter.unusedSimpArgs false
set_option maxHeartbeats 1000000 in
set_option maxRecDepth 20000 in
theorem cloneNil (w : World) [Tab Tryd.prog w] (c : Nat) :
    PureT Tryd.prog 44 [.slice none 0 c] w fun v N => ∃ b' c', v = .slice b' 0 c' ∧ N = [rowI b' c' 5 1 []] := by
  refine CallT.enter Tryd.func44 rfl Tryd.ntmps44 rfl ?_
  refine T.seq (T.region ?_)
  refine TO.quiet (q_assign rfl) ?_
  refine TO.nil (T.seq (T.seq (T.region ?_)))
  refine TO.quiet (q_move rfl) (TO.quiet (q_eqlNil Tryd.underlying29 rfl rfl) ?_)
  refine TO.nil ?_
  refine T.cond1 rfl ?_
  refine T.seq ?_
  refine T.nilRow 5 1 ?_
  refine T.region ?_
  refine TO.quiet (q_assign rfl) ?_
  refine TO.nil (T.ret ?_)
  refine Res.one (.slice none 0 0) Tryd.results44 rfl ?_
  exact ⟨_, _, rfl, rfl⟩
set_option maxHeartbeats 1000000 in
set_option maxRecDepth 20000 in
theorem cloneSome (w : World) [Tab Tryd.prog w] (a : Addr) (c : Nat) (xs : List Nat) (h1 : Sl w (some a) (byts xs)) (hb : xs.length * 1 ≤ 70368744177664) :
    PureT Tryd.prog 44 [.slice (some a) xs.length c] w fun v N => ∃ b' c', v = .slice b' xs.length c' ∧ N = [rowI b' c' 5 1 (byts xs)] := by
  refine CallT.enter Tryd.func44 rfl Tryd.ntmps44 rfl ?_
  refine T.seq (T.region ?_)
  refine TO.quiet (q_assign rfl) ?_
  refine TO.nil (T.seq (T.seq (T.region ?_)))
  refine TO.quiet (q_move rfl) (TO.quiet (q_eqlNil Tryd.underlying29 rfl rfl) ?_)
  refine TO.nil ?_
  refine T.cond0 rfl ?_
  refine T.skip (T.seq (T.region ?_))
  refine TO.loud rfl (l_buildSlice (m := 0) (parts := []) (cs := []) Tryd.underlying29 inf5 (by decide) (by simp [Instr.fill]) rfl (fun b1 => ?_))
  refine TO.quiet (q_move rfl) ?_
  refine TO.loud rfl (l_append 0 Tryd.underlying29 Tryd.underlying29 inf5 rfl rfl rfl rfl (by simp) (by decide) (Src.sl h1 (by simp)) (byts_one xs) (by omega) (by decide) (by decide) (fun b1 c2 => ?_))
  refine TO.quiet (q_assign rfl) ?_
  refine TO.nil (T.ret ?_)
  refine Res.one (.slice b1 (0 + xs.length) c2) Tryd.results44 rfl ?_
  exact ⟨_, _, by rw [Nat.zero_add], rfl⟩
theorem cloneC (w : World) [Tab Tryd.prog w] (b : Option Addr) (c : Nat) (xs : List Nat) (h1 : Sl w b (byts xs)) (hb : xs.length * 1 ≤ 70368744177664) :
    PureT Tryd.prog 44 [.slice b xs.length c] w fun v N => ∃ b' c', v = .slice b' xs.length c' ∧ N = [rowI b' c' 5 1 (byts xs)] := by
  cases b with
  | none =>
    have hx : xs = [] := by
      cases xs with
      | nil => rfl
      | cons x xs => obtain ⟨_, _, e⟩ := h1.addr (i := 0) (by simp); cases e
    subst hx
    exact cloneNil w c
  | some a => exact cloneSome w a c xs h1 hb
end Go.Proofs.YtnmfefmhfkhihaaDoor


namespace Go.Proofs.YtnmfefmhfkhihaaDoor
open Go.Lx Go.RowKit
set_option linter.unusedVariables false
set_option linter.unusedSimpArgs false
theorem minA (w : World) [Tab Tryd.prog w] (d : DFA) (nb fb : Option Addr) (nc fc : Nat) (vs : List Value) (h : DfaAt w d nb vs fb) (hb : d.next.length < 9223372036854775807) (hbr : ∀ r ∈ d.next, r.length < 9223372036854775807) (hbf : d.final.length < 9223372036854775807) (hn : Valid d → d.next.length < 10000) :
    PureT Tryd.prog 75 [.agg (dfaCells d nb nc fb fc).toArray] w fun v N => ∃ nb' nc' fb' fc' qs, v = .tuple #[.agg (dfaCells (minV d) nb' nc' fb' fc').toArray, .int .i64 (checkD d : Int)] ∧ N = [rowI nb' nc' 41 1 (vals qs), rowI fb' fc' 4 1 (bools (minV d).final)] ++ itms 3 qs ∧ nums qs = (minV d).next := by
  unfold minV
  by_cases he : checkD d = 0
  · have hv := checkD_zero.1 he
    obtain ⟨q1, q2⟩ := quo_itF hv d.next.length
    rw [he, if_pos rfl]
    exact minOk w d nb fb nc fc vs h hv (hn hv) q1 (by have := hn hv; omega)
  · rw [if_neg he]
    refine (CallT.addNil 41 1 (CallT.addNil 4 1 (minBad w d nb fb nc fc vs h hb hbr hbf he))).mono ?_
    rintro v N ⟨O2, rfl, O3, rfl, rfl, rfl⟩
    exact ⟨none, 0, none, 0, [], rfl, rfl, rfl⟩
end Go.Proofs.YtnmfefmhfkhihaaDoor


namespace Go.Proofs.YtnmfefmhfkhihaaDoor
open Go.Lx Go.RowKit
set_option linter.unusedVariables false
set_option linter.unusedSimpArgs false
theorem pairT : Pair2 Tryd.prog 103 { name := "s", type := 3, offset := 0, embedded := false, tag := "", pkgPath := "sentinel/boolean", byteOffset := 0 } { name := "t", type := 3, offset := 1, embedded := false, tag := "", pkgPath := "sentinel/boolean", byteOffset := 8 } := ⟨Tryd.underlying103, Tryd.underlying3, Tryd.underlying3, rfl, rfl, by decide, by decide, by kernel_rfl⟩
set_option maxHeartbeats 1000000 in
set_option maxRecDepth 20000 in
theorem beginBad (w : World) [Tab Tryd.prog w] (a b : DFA) (j k : DK) (ha : At w a j) (hb : At w b k) (haa : a.next.length < 9223372036854775807) (haar : ∀ r ∈ a.next, r.length < 9223372036854775807) (haaf : a.final.length < 9223372036854775807) (hbb : b.next.length < 9223372036854775807) (hbbr : ∀ r ∈ b.next, r.length < 9223372036854775807) (hbbf : b.final.length < 9223372036854775807) (he : wrongD a b ≠ 0) :
    PureT Tryd.prog 73 [dV a j, dV b k] w fun v N => v = .tuple #[.pointer none, .int .i64 (wrongD a b : Int)] ∧ N = [] := by
  refine CallT.enter Tryd.func73 rfl Tryd.ntmps73 rfl ?_
  refine T.seq (T.region ?_)
  refine TO.loud rfl (l_box (v := (dV a j)) (cs := (dC a j)) rfl rfl (fun bx1 => ?_))
  refine TO.loud rfl (l_box (v := (dV b k)) (cs := (dC b k)) rfl rfl (fun bx2 => ?_))
  refine TO.quiet (q_assign rfl) (TO.quiet (q_assign rfl) ?_)
  refine TO.nil (T.seq (T.seq (T.region ?_)))
  refine TO.quiet (q_load_boxAgg 1 Tryd.underlying25 rfl inf25 rfl rfl rfl) ?_
  have hk10 := fun (w1 : World) (hI : Inv w [oI bx2 25 (dC b k), oI bx1 25 (dC a j)] w1) => (haveI := Inv.tab (P := Tryd.prog) hI; subsetCheck w1 a j.nb j.fb j.nc j.fc (vals j.qs) (hI.dfa ha) haa haar haaf)
  refine TO.loud rfl (l_call ent33 (CallT.of_pure hk10) rfl ?_)
  clear hk10
  rintro vr O' ⟨N, rfl, rfl, rfl⟩
  refine TO.quiet (q_assign rfl) ?_
  refine TO.nil (T.seq (T.region ?_))
  refine TO.quiet (q_move rfl) (TO.quiet (q_neq rfl rfl) ?_)
  refine TO.nil ?_
  refine T.condP rfl (fun hc => ?_) (fun hc => ?_)
  · have hlt12 : checkD a ≠ 0 := by omega
    refine T.seq (T.region ?_)
    refine TO.quiet (q_move rfl) (TO.quiet (q_assign rfl) (TO.quiet (q_assign rfl) ?_))
    refine TO.nil (T.ret (Res.drop ?_))
    refine Res.two (.pointer none) (.int .i64 (checkD a : Int)) Tryd.results73 rfl rfl ?_
    exact ⟨[], Sub.z, by rw [wrong_first (by omega)], rfl⟩
  have hge12 : ¬ checkD a ≠ 0 := by omega
  refine T.skip (T.seq (T.seq (T.region ?_)))
  refine TO.quiet (q_load_boxAgg 0 Tryd.underlying25 rfl inf25 rfl rfl rfl) ?_
  have hk15 := fun (w1 : World) (hI : Inv w [oI bx2 25 (dC b k), oI bx1 25 (dC a j)] w1) => (haveI := Inv.tab (P := Tryd.prog) hI; subsetCheck w1 b k.nb k.fb k.nc k.fc (vals k.qs) (hI.dfa hb) hbb hbbr hbbf)
  refine TO.loud rfl (l_call ent33 (CallT.of_pure hk15) rfl ?_)
  clear hk15
  rintro vr O' ⟨N, rfl, rfl, rfl⟩
  refine TO.quiet (q_assign rfl) ?_
  refine TO.nil (T.seq (T.region ?_))
  refine TO.quiet (q_move rfl) (TO.quiet (q_neq rfl rfl) ?_)
  refine TO.nil ?_
  refine T.condP rfl (fun hc => ?_) (fun hc => ?_)
  · have hlt17 : checkD b ≠ 0 := by omega
    refine T.seq (T.region ?_)
    refine TO.quiet (q_move rfl) (TO.quiet (q_assign rfl) (TO.quiet (q_assign rfl) ?_))
    refine TO.nil (T.ret (Res.drop ?_))
    refine Res.two (.pointer none) (.int .i64 (checkD b : Int)) Tryd.results73 rfl rfl ?_
    exact ⟨[], Sub.z, by rw [wrong_second (by omega) (by omega)], rfl⟩
  have hge17 : ¬ checkD b ≠ 0 := by omega
  refine T.skip (T.seq (T.seq (T.region ?_)))
  refine TO.quiet (q_fieldAddr Tryd.underlying25 rfl inf3 rfl rfl) (TO.quiet (q_load_box 1 Tryd.underlying3 rfl rfl rfl rfl) (TO.quiet (q_fieldAddr Tryd.underlying25 rfl inf3 rfl rfl) (TO.quiet (q_load_box 0 Tryd.underlying3 rfl rfl rfl rfl) ?_)))
  refine TO.quiet (q_neq rfl rfl) ?_
  refine TO.nil ?_
  refine T.condP (p := ¬ a.vars = b.vars) (congrArg Value.bool (decide_eq_decide.2 (by omega))) (fun hc => ?_) (fun hc => ?_)
  · refine T.seq ?_
    refine T.region ?_
    refine TO.quiet (q_assign rfl) (TO.quiet (q_assign rfl) ?_)
    refine TO.nil (T.ret (Res.drop ?_))
    refine Res.two (.pointer none) (.int .i64 7) Tryd.results73 rfl rfl ?_
    exact ⟨[], Sub.z, by rw [wrong_vars (by omega) (by omega) hc]; rfl, rfl⟩
  refine absurd (wrongD_zero.2 ⟨checkD_zero.1 (by omega), checkD_zero.1 (by omega), Classical.not_not.1 hc⟩) he
set_option maxHeartbeats 1000000 in
set_option maxRecDepth 20000 in
theorem beginOk (w : World) [Tab Tryd.prog w] (a b : DFA) (j k : DK) (ha : At w a j) (hb : At w b k) (va : Valid a) (vb : Valid b) (hv : a.vars = b.vars) :
    PureT Tryd.prog 73 [dV a j, dV b k] w fun v N => ∃ (bp qb m : Nat), v = .tuple #[.pointer (some ⟨bp, 0, none⟩), .int .i64 0] ∧ N = [oI bp 107 [(.int .i64 a.vars), (.int .i64 a.start), (.slice j.nb a.next.length j.nc), (.slice j.fb a.final.length j.fc), (.int .i64 b.vars), (.int .i64 b.start), (.slice k.nb b.next.length k.nc), (.slice k.fb b.final.length k.fc), (.slice (some ⟨qb, 0, none⟩) ([a.start.toNat * b.next.length + b.start.toNat].length) 1), (.map (some m))], rowI (some ⟨qb, 0, none⟩) 1 103 2 (prs b.next.length [a.start.toNat * b.next.length + b.start.toNat]), mapI pairV (fun n : Nat => Value.int .i64 (n : Int)) m (pmap b.next.length [a.start.toNat * b.next.length + b.start.toNat])] := by
  refine CallT.enter Tryd.func73 rfl Tryd.ntmps73 rfl ?_
  have wa : checkD a = 0 := checkD_zero.2 va
  have wb : checkD b = 0 := checkD_zero.2 vb
  have hs1 : a.start = ((a.start.toNat : Nat) : Int) := by have := va.s0; omega
  have hs2 : b.start = ((b.start.toNat : Nat) : Int) := by have := vb.s0; omega
  have hpd := pr_div (s := a.start.toNat) (start_lt vb.toVal)
  refine T.seq (T.region ?_)
  refine TO.loud rfl (l_box (v := (dV a j)) (cs := (dC a j)) rfl rfl (fun bx1 => ?_))
  refine TO.loud rfl (l_box (v := (dV b k)) (cs := (dC b k)) rfl rfl (fun bx2 => ?_))
  refine TO.quiet (q_assign rfl) (TO.quiet (q_assign rfl) ?_)
  refine TO.nil (T.seq (T.seq (T.region ?_)))
  refine TO.quiet (q_load_boxAgg 1 Tryd.underlying25 rfl inf25 rfl rfl rfl) ?_
  have hk10 := fun (w1 : World) (hI : Inv w [oI bx2 25 (dC b k), oI bx1 25 (dC a j)] w1) => (haveI := Inv.tab (P := Tryd.prog) hI; subsetCheck w1 a j.nb j.fb j.nc j.fc (vals j.qs) (hI.dfa ha) (by have := va.n4; omega) va.bound (by have := va.fin; have := va.n4; omega))
  refine TO.loud rfl (l_call ent33 (CallT.of_pure hk10) rfl ?_)
  clear hk10
  rintro vr O' ⟨N, rfl, rfl, rfl⟩
  rw [wa]
  refine TO.quiet (q_assign rfl) ?_
  refine TO.nil (T.seq (T.region ?_))
  refine TO.quiet (q_move rfl) (TO.quiet (q_neq rfl rfl) ?_)
  refine TO.nil ?_
  refine T.cond0 rfl ?_
  refine T.skip (T.seq (T.seq (T.region ?_)))
  refine TO.quiet (q_load_boxAgg 0 Tryd.underlying25 rfl inf25 rfl rfl rfl) ?_
  have hk15 := fun (w1 : World) (hI : Inv w [oI bx2 25 (dC b k), oI bx1 25 (dC a j)] w1) => (haveI := Inv.tab (P := Tryd.prog) hI; subsetCheck w1 b k.nb k.fb k.nc k.fc (vals k.qs) (hI.dfa hb) (by have := vb.n4; omega) vb.bound (by have := vb.fin; have := vb.n4; omega))
  refine TO.loud rfl (l_call ent33 (CallT.of_pure hk15) rfl ?_)
  clear hk15
  rintro vr O' ⟨N, rfl, rfl, rfl⟩
  rw [wb]
  refine TO.quiet (q_assign rfl) ?_
  refine TO.nil (T.seq (T.region ?_))
  refine TO.quiet (q_move rfl) (TO.quiet (q_neq rfl rfl) ?_)
  refine TO.nil ?_
  refine T.cond0 rfl ?_
  refine T.skip (T.seq (T.seq (T.region ?_)))
  refine TO.quiet (q_fieldAddr Tryd.underlying25 rfl inf3 rfl rfl) (TO.quiet (q_load_box 1 Tryd.underlying3 rfl rfl rfl rfl) (TO.quiet (q_fieldAddr Tryd.underlying25 rfl inf3 rfl rfl) (TO.quiet (q_load_box 0 Tryd.underlying3 rfl rfl rfl rfl) ?_)))
  refine TO.quiet (q_neq rfl rfl) ?_
  refine TO.nil ?_
  refine T.cond0 (congrArg Value.bool (decide_eq_false (fun h => h hv))) ?_
  refine T.skip (T.seq (T.region ?_))
  refine TO.quiet (q_fieldAddr Tryd.underlying25 rfl inf3 rfl rfl) (TO.quiet (q_load_box 1 Tryd.underlying3 rfl rfl rfl rfl) (TO.quiet (q_fieldAddr Tryd.underlying25 rfl inf3 rfl rfl) (TO.quiet (q_load_box 0 Tryd.underlying3 rfl rfl rfl rfl) ?_)))
  refine TO.quiet (q_build (cs := [(.int .i64 a.start), (.int .i64 b.start)]) plan103 inf103 (by kernel_rfl)) ?_
  refine TO.loud rfl (l_alloc inf103 rfl (fun bx3 => ?_))
  refine TO.loud rfl (l_store_box (v := (.agg #[(.int .i64 a.start), (.int .i64 b.start)])) (vs := [(.int .i64 a.start), (.int .i64 b.start)]) 0 inf103 rfl rfl rfl rfl rfl rfl (by simp [putL]) ?_)
  refine TO.nil ?_
  refine T.cut (fun ρ O => ∃ (bp qb m : Nat), O = [oI bp 107 [(.int .i64 a.vars), (.int .i64 a.start), (.slice j.nb a.next.length j.nc), (.slice j.fb a.final.length j.fc), (.int .i64 b.vars), (.int .i64 b.start), (.slice k.nb b.next.length k.nc), (.slice k.fb b.final.length k.fc), (.slice (some ⟨qb, 0, none⟩) 1 1), (.map (some m))], rowI (some ⟨qb, 0, none⟩) 1 103 2 [(.int .i64 a.start), (.int .i64 b.start)], mapI pairV (fun n : Nat => Value.int .i64 (n : Int)) m [((a.start, b.start), (0 : Nat))]] ∧ Heads [(0, (dV a j)), (1, (dV b k)), (2, (.pointer (some ⟨bx1, 0, none⟩))), (3, (.pointer (some ⟨bx2, 0, none⟩))), (4, (.pointer (some ⟨bp, 0, none⟩))), (5, .int .i64 0), (6, .int .i64 ((0 : Nat) : Int)), (7, .int .i64 ((0 : Nat) : Int)), (8, (.pointer (some ⟨bx3, 0, none⟩)))] ρ) ?_ ?_
  · refine T.tree [oI bx3 103 [(.int .i64 a.start), (.int .i64 b.start)], oI bx2 25 (dC b k), oI bx1 25 (dC a j)] 12 mixed rfl (by exact Sub.rf) (fun _ _ _ h => h) ?_
    refine RO.quietT 0 rfl (by kernel_rfl) (q_load_boxAgg 2 Tryd.underlying25 rfl inf25 rfl rfl rfl) ?_
    refine RO.quietT 1 rfl (by kernel_rfl) (q_load_boxAgg 1 Tryd.underlying25 rfl inf25 rfl rfl rfl) ?_
    refine RO.quietT 2 rfl (by kernel_rfl) (q_load_boxAgg 0 Tryd.underlying103 rfl inf103 rfl rfl rfl) ?_
    refine RO.quietT 5 rfl (by kernel_rfl) (q_load_boxAgg 0 Tryd.underlying103 rfl inf103 rfl rfl rfl) ?_
    refine RO.fork [3, 4] (by kernel_rfl) rfl ⟨⟨_, rfl, rfl, l_buildSlice (m := 1) (parts := [(0, _)]) (cs := [(.int .i64 a.start), (.int .i64 b.start)]) Tryd.underlying104 inf103 (by decide) (by kernel_rfl) rfl (fun qb => ⟨by exact Sub.d (.k (.k (.k .z))), ?_⟩)⟩, ⟨_, rfl, rfl, l_makeMap pairV (fun n : Nat => Value.int .i64 (n : Int)) (fun m => ⟨by exact Sub.d (.k (.k (.k .z))), ?_⟩)⟩, trivial⟩
    · refine RO.fork [4] (by kernel_rfl) rfl ⟨⟨_, rfl, rfl, l_makeMap pairV (fun n : Nat => Value.int .i64 (n : Int)) (fun m => ⟨by exact Sub.d (.d (.k (.k (.k .z)))), ?_⟩)⟩, trivial⟩
      refine RO.fork [6] (by kernel_rfl) rfl ⟨⟨_, rfl, rfl, l_mapInsert (a := (a.start, b.start)) (v := (0 : Nat)) 0 Tryd.underlying105 (KeyOk.pair pairT) rfl rfl rfl rfl (by simp) ⟨by exact Sub.d (.d (.k (.k (.k .z)))), ?_⟩⟩, trivial⟩
      refine RO.quietT 7 rfl (by kernel_rfl) (q_move rfl) ?_
      refine RO.quietT 8 rfl (by kernel_rfl) (q_build (cs := [(.int .i64 a.vars), (.int .i64 a.start), (.slice j.nb a.next.length j.nc), (.slice j.fb a.final.length j.fc), (.int .i64 b.vars), (.int .i64 b.start), (.slice k.nb b.next.length k.nc), (.slice k.fb b.final.length k.fc), (.slice (some ⟨qb, 0, none⟩) 1 1), (.map (some m))]) plan107 inf107 (by kernel_rfl)) ?_
      refine RO.fork [9] (by kernel_rfl) rfl ⟨⟨_, rfl, rfl, l_box (v := (.agg #[(.int .i64 a.vars), (.int .i64 a.start), (.slice j.nb a.next.length j.nc), (.slice j.fb a.final.length j.fc), (.int .i64 b.vars), (.int .i64 b.start), (.slice k.nb b.next.length k.nc), (.slice k.fb b.final.length k.fc), (.slice (some ⟨qb, 0, none⟩) 1 1), (.map (some m))])) (cs := [(.int .i64 a.vars), (.int .i64 a.start), (.slice j.nb a.next.length j.nc), (.slice j.fb a.final.length j.fc), (.int .i64 b.vars), (.int .i64 b.start), (.slice k.nb b.next.length k.nc), (.slice k.fb b.final.length k.fc), (.slice (some ⟨qb, 0, none⟩) 1 1), (.map (some m))]) rfl rfl (fun bp => ⟨by exact Sub.d (.d (.d (.k (.k (.k .z))))), ?_⟩)⟩, trivial⟩
      refine RO.quietT 10 rfl (by kernel_rfl) (q_assign rfl) ?_
      refine RO.quietT 11 rfl (by kernel_rfl) (q_assign rfl) ?_
      exact RO.fin (by kernel_rfl) ⟨bp, qb, m, rfl, ⟨rfl, rfl, rfl, rfl, rfl, rfl, rfl, rfl, rfl, trivial⟩⟩ (by exact Sub.k (.pull [mapI pairV (fun n : Nat => Value.int .i64 (n : Int)) m [((a.start, b.start), (0 : Nat))]] _ (.k .z)))
    refine RO.fork [3, 6] (by kernel_rfl) rfl ⟨⟨_, rfl, rfl, l_buildSlice (m := 1) (parts := [(0, _)]) (cs := [(.int .i64 a.start), (.int .i64 b.start)]) Tryd.underlying104 inf103 (by decide) (by kernel_rfl) rfl (fun qb => ⟨by exact Sub.d (.d (.k (.k (.k .z)))), ?_⟩)⟩, ⟨_, rfl, rfl, l_mapInsert (a := (a.start, b.start)) (v := (0 : Nat)) 0 Tryd.underlying105 (KeyOk.pair pairT) rfl rfl rfl rfl (by simp) ⟨by exact Sub.d (.k (.k (.k .z))), ?_⟩⟩, trivial⟩
    · refine RO.fork [6] (by kernel_rfl) rfl ⟨⟨_, rfl, rfl, l_mapInsert (a := (a.start, b.start)) (v := (0 : Nat)) 1 Tryd.underlying105 (KeyOk.pair pairT) rfl rfl rfl rfl (by simp) ⟨by exact Sub.d (.d (.k (.k (.k .z)))), ?_⟩⟩, trivial⟩
      refine RO.quietT 7 rfl (by kernel_rfl) (q_move rfl) ?_
      refine RO.quietT 8 rfl (by kernel_rfl) (q_build (cs := [(.int .i64 a.vars), (.int .i64 a.start), (.slice j.nb a.next.length j.nc), (.slice j.fb a.final.length j.fc), (.int .i64 b.vars), (.int .i64 b.start), (.slice k.nb b.next.length k.nc), (.slice k.fb b.final.length k.fc), (.slice (some ⟨qb, 0, none⟩) 1 1), (.map (some m))]) plan107 inf107 (by kernel_rfl)) ?_
      refine RO.fork [9] (by kernel_rfl) rfl ⟨⟨_, rfl, rfl, l_box (v := (.agg #[(.int .i64 a.vars), (.int .i64 a.start), (.slice j.nb a.next.length j.nc), (.slice j.fb a.final.length j.fc), (.int .i64 b.vars), (.int .i64 b.start), (.slice k.nb b.next.length k.nc), (.slice k.fb b.final.length k.fc), (.slice (some ⟨qb, 0, none⟩) 1 1), (.map (some m))])) (cs := [(.int .i64 a.vars), (.int .i64 a.start), (.slice j.nb a.next.length j.nc), (.slice j.fb a.final.length j.fc), (.int .i64 b.vars), (.int .i64 b.start), (.slice k.nb b.next.length k.nc), (.slice k.fb b.final.length k.fc), (.slice (some ⟨qb, 0, none⟩) 1 1), (.map (some m))]) rfl rfl (fun bp => ⟨by exact Sub.d (.d (.d (.k (.k (.k .z))))), ?_⟩)⟩, trivial⟩
      refine RO.quietT 10 rfl (by kernel_rfl) (q_assign rfl) ?_
      refine RO.quietT 11 rfl (by kernel_rfl) (q_assign rfl) ?_
      exact RO.fin (by kernel_rfl) ⟨bp, qb, m, rfl, ⟨rfl, rfl, rfl, rfl, rfl, rfl, rfl, rfl, rfl, trivial⟩⟩ (by exact Sub.k (.k (.k .z)))
    refine RO.quietT 7 rfl (by kernel_rfl) (q_move rfl) ?_
    refine RO.fork [3] (by kernel_rfl) rfl ⟨⟨_, rfl, rfl, l_buildSlice (m := 1) (parts := [(0, _)]) (cs := [(.int .i64 a.start), (.int .i64 b.start)]) Tryd.underlying104 inf103 (by decide) (by kernel_rfl) rfl (fun qb => ⟨by exact Sub.d (.d (.k (.k (.k .z)))), ?_⟩)⟩, trivial⟩
    refine RO.quietT 8 rfl (by kernel_rfl) (q_build (cs := [(.int .i64 a.vars), (.int .i64 a.start), (.slice j.nb a.next.length j.nc), (.slice j.fb a.final.length j.fc), (.int .i64 b.vars), (.int .i64 b.start), (.slice k.nb b.next.length k.nc), (.slice k.fb b.final.length k.fc), (.slice (some ⟨qb, 0, none⟩) 1 1), (.map (some m))]) plan107 inf107 (by kernel_rfl)) ?_
    refine RO.fork [9] (by kernel_rfl) rfl ⟨⟨_, rfl, rfl, l_box (v := (.agg #[(.int .i64 a.vars), (.int .i64 a.start), (.slice j.nb a.next.length j.nc), (.slice j.fb a.final.length j.fc), (.int .i64 b.vars), (.int .i64 b.start), (.slice k.nb b.next.length k.nc), (.slice k.fb b.final.length k.fc), (.slice (some ⟨qb, 0, none⟩) 1 1), (.map (some m))])) (cs := [(.int .i64 a.vars), (.int .i64 a.start), (.slice j.nb a.next.length j.nc), (.slice j.fb a.final.length j.fc), (.int .i64 b.vars), (.int .i64 b.start), (.slice k.nb b.next.length k.nc), (.slice k.fb b.final.length k.fc), (.slice (some ⟨qb, 0, none⟩) 1 1), (.map (some m))]) rfl rfl (fun bp => ⟨by exact Sub.d (.d (.d (.k (.k (.k .z))))), ?_⟩)⟩, trivial⟩
    refine RO.quietT 10 rfl (by kernel_rfl) (q_assign rfl) ?_
    refine RO.quietT 11 rfl (by kernel_rfl) (q_assign rfl) ?_
    exact RO.fin (by kernel_rfl) ⟨bp, qb, m, rfl, ⟨rfl, rfl, rfl, rfl, rfl, rfl, rfl, rfl, rfl, trivial⟩⟩ (by exact Sub.k (.k (.k .z)))
  rintro ρ O ⟨bp, qb, m, rfl, hH⟩
  obtain ⟨ρ0, rfl⟩ := hH.elim
  clear hH
  refine T.ret (Res.drop ?_)
  refine Res.two (.pointer (some ⟨bp, 0, none⟩)) (.int .i64 0) Tryd.results73 rfl rfl ?_
  have e1 : prs b.next.length [a.start.toNat * b.next.length + b.start.toNat] = [.int .i64 a.start, .int .i64 b.start] := by
    simp only [prs, List.flatMap_cons, List.flatMap_nil, List.append_nil, unC, hpd.1, hpd.2, ← hs1, ← hs2]
  have e2 : pmap b.next.length [a.start.toNat * b.next.length + b.start.toNat] = [((a.start, b.start), 0)] := by
    show [(un _ _, 0)] = _
    simp only [un, hpd.1, hpd.2, ← hs1, ← hs2]
  exact ⟨[oI bp 107 [(.int .i64 a.vars), (.int .i64 a.start), (.slice j.nb a.next.length j.nc), (.slice j.fb a.final.length j.fc), (.int .i64 b.vars), (.int .i64 b.start), (.slice k.nb b.next.length k.nc), (.slice k.fb b.final.length k.fc), (.slice (some ⟨qb, 0, none⟩) 1 1), (.map (some m))], rowI (some ⟨qb, 0, none⟩) 1 103 2 [(.int .i64 a.start), (.int .i64 b.start)], mapI pairV (fun n : Nat => Value.int .i64 (n : Int)) m [((a.start, b.start), (0 : Nat))]], (by exact Sub.rf), bp, qb, m, rfl, by rw [e1, e2]; rfl⟩
set_option maxHeartbeats 1000000 in
set_option maxRecDepth 20000 in
theorem pairsF (w : World) [Tab Tryd.prog w] (bp : Nat) : PureT Tryd.prog 74 [.pointer (some ⟨bp, 0, none⟩)] w fun v N => ∃ b, v = .func (.func 82) #[] #[.pointer (some ⟨b, 0, none⟩)] ∧ N = [oI b 96 [(.pointer (some ⟨bp, 0, none⟩))]] := by
  refine CallT.enter Tryd.func74 rfl Tryd.ntmps74 rfl ?_
  refine T.seq (T.region ?_)
  refine TO.loud rfl (l_box (v := (.pointer (some ⟨bp, 0, none⟩))) (cs := [(.pointer (some ⟨bp, 0, none⟩))]) rfl rfl (fun bx1 => ?_))
  refine TO.quiet (q_assign rfl) ?_
  refine TO.nil (T.seq (T.region ?_))
  refine TO.quiet (q_makeFunc) (TO.quiet (q_assign rfl) ?_)
  refine TO.nil (T.ret ?_)
  refine Res.one (.func (.func 82) #[] #[(.pointer (some ⟨bx1, 0, none⟩))]) Tryd.results74 rfl ?_
  exact ⟨bx1, rfl, rfl⟩
set_option maxHeartbeats 1000000 in
set_option maxRecDepth 20000 in
theorem pvHit (base : World) [Tab Tryd.prog base] (a b : DFA) (j k : DK) (bp m : Nat) (ks : List Nat) (c : Nat) (qb : Option Addr) (qc : Nat) (hk : c ∈ ks) (hl : ks.length ≤ 17000000) :
    CallT Tryd.prog base 83 [.pointer (some ⟨bp, 0, none⟩), (.agg #[.int .i64 ((c / b.next.length : Nat) : Int), .int .i64 ((c % b.next.length : Nat) : Int)])] [oI bp 107 [(.int .i64 a.vars), (.int .i64 a.start), (.slice j.nb a.next.length j.nc), (.slice j.fb a.final.length j.fc), (.int .i64 b.vars), (.int .i64 b.start), (.slice k.nb b.next.length k.nc), (.slice k.fb b.final.length k.fc), (.slice qb ks.length qc), (.map (some m))], rowI qb qc 103 2 (prs b.next.length ks), mapI pairV (fun n : Nat => Value.int .i64 (n : Int)) m (pmap b.next.length ks)] (fun v O' => v = .int .i64 ((ix c (add ks c) : Nat) : Int) ∧ ∃ qb' qc', O' = [oI bp 107 [(.int .i64 a.vars), (.int .i64 a.start), (.slice j.nb a.next.length j.nc), (.slice j.fb a.final.length j.fc), (.int .i64 b.vars), (.int .i64 b.start), (.slice k.nb b.next.length k.nc), (.slice k.fb b.final.length k.fc), (.slice qb' ((add ks c).length) qc'), (.map (some m))], rowI qb' qc' 103 2 (prs b.next.length (add ks c)), mapI pairV (fun n : Nat => Value.int .i64 (n : Int)) m (pmap b.next.length (add ks c))]) := by
  refine CallT.enter Tryd.func83 rfl Tryd.ntmps83 rfl ?_
  refine T.seq (T.region ?_)
  refine TO.loud rfl (l_box (v := (.agg #[.int .i64 ((c / b.next.length : Nat) : Int), .int .i64 ((c % b.next.length : Nat) : Int)])) (cs := [.int .i64 ((c / b.next.length : Nat) : Int), .int .i64 ((c % b.next.length : Nat) : Int)]) rfl rfl (fun bx1 => ?_))
  refine TO.quiet (q_assign rfl) ?_
  refine TO.nil (T.seq ?_)
  refine T.draws [oI bx1 103 [.int .i64 ((c / b.next.length : Nat) : Int), .int .i64 ((c % b.next.length : Nat) : Int)], oI bp 107 [(.int .i64 a.vars), (.int .i64 a.start), (.slice j.nb a.next.length j.nc), (.slice j.fb a.final.length j.fc), (.int .i64 b.vars), (.int .i64 b.start), (.slice k.nb b.next.length k.nc), (.slice k.fb b.final.length k.fc), (.slice qb ks.length qc), (.map (some m))], rowI qb qc 103 2 (prs b.next.length ks), mapI pairV (fun n : Nat => Value.int .i64 (n : Int)) m (pmap b.next.length ks)] [(0, 0), (1, 0), (2, 0), (3, 0), (4, 0), (5, 0), (6, 0), (7, 0), (8, 0), (9, 0), (10, 0)] mixed (by kernel_rfl) (by exact Sub.rf) (fun _ _ _ h => h) ?_
  refine DO.quiet rfl (q_move rfl) (DO.quiet rfl (q_nilCheck rfl) (DO.quiet rfl (q_fieldAddr Tryd.underlying107 rfl inf105 rfl rfl) (DO.quiet rfl (q_load_box 1 Tryd.underlying105 rfl rfl rfl rfl) ?_)))
  refine DO.quiet rfl (q_load_boxAgg 0 Tryd.underlying103 rfl inf103 rfl rfl rfl) (DO.quiet rfl (QT.cast (q_lookupOk (a := un b.next.length c) Tryd.underlying105 inf3 (KeyOk.pair pairT) rfl rfl (List.mem_of_getElem? (i := 3) rfl)) (v' := (.tuple #[.int .i64 ((ix c ks : Nat) : Int), .bool true])) (by rw [look_zip]; simp only [un_mem, hk, if_true, if_false, un_ix, Nat.zero_add]; rfl)) (DO.quiet rfl (q_move rfl) (DO.quiet rfl (q_extract (vs := _) rfl rfl) ?_)))
  refine DO.quiet rfl (q_extract (vs := _) rfl rfl) (DO.quiet rfl (q_assign rfl) (DO.quiet rfl (q_assign rfl) ?_))
  refine DO.done ?_
  refine T.seq (T.seq (T.region ?_))
  refine TO.quiet (q_move rfl) (TO.quiet (q_not rfl) ?_)
  refine TO.nil ?_
  refine T.cond0 rfl ?_
  refine T.skip (T.seq (T.region ?_))
  refine TO.quiet (q_move rfl) (TO.quiet (q_assign rfl) ?_)
  refine TO.nil (T.ret (Res.drop ?_))
  refine Res.one (.int .i64 ((ix c ks : Nat) : Int)) Tryd.results83 rfl ?_
  have ha : add ks c = ks := if_pos hk
  rw [ha]
  exact ⟨[oI bp 107 [(.int .i64 a.vars), (.int .i64 a.start), (.slice j.nb a.next.length j.nc), (.slice j.fb a.final.length j.fc), (.int .i64 b.vars), (.int .i64 b.start), (.slice k.nb b.next.length k.nc), (.slice k.fb b.final.length k.fc), (.slice qb ks.length qc), (.map (some m))], rowI qb qc 103 2 (prs b.next.length ks), mapI pairV (fun n : Nat => Value.int .i64 (n : Int)) m (pmap b.next.length ks)], (by exact Sub.d (.k (.k (.k .z)))), rfl, qb, qc, rfl⟩
set_option maxHeartbeats 1000000 in
set_option maxRecDepth 20000 in
theorem pvNew (base : World) [Tab Tryd.prog base] (a b : DFA) (j k : DK) (bp m : Nat) (ks : List Nat) (c : Nat) (qb : Option Addr) (qc : Nat) (hk : c ∉ ks) (hl : ks.length ≤ 17000000) :
    CallT Tryd.prog base 83 [.pointer (some ⟨bp, 0, none⟩), (.agg #[.int .i64 ((c / b.next.length : Nat) : Int), .int .i64 ((c % b.next.length : Nat) : Int)])] [oI bp 107 [(.int .i64 a.vars), (.int .i64 a.start), (.slice j.nb a.next.length j.nc), (.slice j.fb a.final.length j.fc), (.int .i64 b.vars), (.int .i64 b.start), (.slice k.nb b.next.length k.nc), (.slice k.fb b.final.length k.fc), (.slice qb ks.length qc), (.map (some m))], rowI qb qc 103 2 (prs b.next.length ks), mapI pairV (fun n : Nat => Value.int .i64 (n : Int)) m (pmap b.next.length ks)] (fun v O' => v = .int .i64 ((ix c (add ks c) : Nat) : Int) ∧ ∃ qb' qc', O' = [oI bp 107 [(.int .i64 a.vars), (.int .i64 a.start), (.slice j.nb a.next.length j.nc), (.slice j.fb a.final.length j.fc), (.int .i64 b.vars), (.int .i64 b.start), (.slice k.nb b.next.length k.nc), (.slice k.fb b.final.length k.fc), (.slice qb' ((add ks c).length) qc'), (.map (some m))], rowI qb' qc' 103 2 (prs b.next.length (add ks c)), mapI pairV (fun n : Nat => Value.int .i64 (n : Int)) m (pmap b.next.length (add ks c))]) := by
  refine CallT.enter Tryd.func83 rfl Tryd.ntmps83 rfl ?_
  refine T.seq (T.region ?_)
  refine TO.loud rfl (l_box (v := (.agg #[.int .i64 ((c / b.next.length : Nat) : Int), .int .i64 ((c % b.next.length : Nat) : Int)])) (cs := [.int .i64 ((c / b.next.length : Nat) : Int), .int .i64 ((c % b.next.length : Nat) : Int)]) rfl rfl (fun bx1 => ?_))
  refine TO.quiet (q_assign rfl) ?_
  refine TO.nil (T.seq ?_)
  refine T.draws [oI bx1 103 [.int .i64 ((c / b.next.length : Nat) : Int), .int .i64 ((c % b.next.length : Nat) : Int)], oI bp 107 [(.int .i64 a.vars), (.int .i64 a.start), (.slice j.nb a.next.length j.nc), (.slice j.fb a.final.length j.fc), (.int .i64 b.vars), (.int .i64 b.start), (.slice k.nb b.next.length k.nc), (.slice k.fb b.final.length k.fc), (.slice qb ks.length qc), (.map (some m))], rowI qb qc 103 2 (prs b.next.length ks), mapI pairV (fun n : Nat => Value.int .i64 (n : Int)) m (pmap b.next.length ks)] [(0, 0), (1, 0), (2, 0), (3, 0), (4, 0), (5, 0), (6, 0), (7, 0), (8, 0), (9, 0), (10, 0)] mixed (by kernel_rfl) (by exact Sub.rf) (fun _ _ _ h => h) ?_
  refine DO.quiet rfl (q_move rfl) (DO.quiet rfl (q_nilCheck rfl) (DO.quiet rfl (q_fieldAddr Tryd.underlying107 rfl inf105 rfl rfl) (DO.quiet rfl (q_load_box 1 Tryd.underlying105 rfl rfl rfl rfl) ?_)))
  refine DO.quiet rfl (q_load_boxAgg 0 Tryd.underlying103 rfl inf103 rfl rfl rfl) (DO.quiet rfl (QT.cast (q_lookupOk (a := un b.next.length c) Tryd.underlying105 inf3 (KeyOk.pair pairT) rfl rfl (List.mem_of_getElem? (i := 3) rfl)) (v' := (.tuple #[.int .i64 0, .bool false])) (by rw [look_zip]; simp only [un_mem, hk, if_true, if_false, un_ix, Nat.zero_add]; rfl)) (DO.quiet rfl (q_move rfl) (DO.quiet rfl (q_extract (vs := _) rfl rfl) ?_)))
  refine DO.quiet rfl (q_extract (vs := _) rfl rfl) (DO.quiet rfl (q_assign rfl) (DO.quiet rfl (q_assign rfl) ?_))
  refine DO.done ?_
  refine T.seq (T.seq (T.region ?_))
  refine TO.quiet (q_move rfl) (TO.quiet (q_not rfl) ?_)
  refine TO.nil ?_
  refine T.cond1 rfl ?_
  refine T.seq (T.region ?_)
  refine TO.quiet (q_move rfl) (TO.quiet (q_nilCheck rfl) (TO.quiet (q_fieldAddr Tryd.underlying107 rfl inf104 rfl rfl) (TO.quiet (q_load_box 1 Tryd.underlying104 rfl rfl rfl rfl) ?_)))
  refine TO.quiet (q_len Tryd.underlying104 rfl) (TO.quiet (q_assign rfl) ?_)
  refine TO.nil (T.seq ?_)
  refine T.draws [oI bx1 103 [.int .i64 ((c / b.next.length : Nat) : Int), .int .i64 ((c % b.next.length : Nat) : Int)], oI bp 107 [(.int .i64 a.vars), (.int .i64 a.start), (.slice j.nb a.next.length j.nc), (.slice j.fb a.final.length j.fc), (.int .i64 b.vars), (.int .i64 b.start), (.slice k.nb b.next.length k.nc), (.slice k.fb b.final.length k.fc), (.slice qb ks.length qc), (.map (some m))], rowI qb qc 103 2 (prs b.next.length ks), mapI pairV (fun n : Nat => Value.int .i64 (n : Int)) m (pmap b.next.length ks)] [(0, 0), (1, 0), (2, 0), (3, 0), (4, 0), (5, 0), (6, 2)] mixed (by kernel_rfl) (by exact Sub.rf) (fun _ _ _ h => h) ?_
  refine DO.quiet rfl (q_move rfl) (DO.quiet rfl (q_nilCheck rfl) (DO.quiet rfl (q_fieldAddr Tryd.underlying107 rfl inf105 rfl rfl) (DO.quiet rfl (q_load_box 1 Tryd.underlying105 rfl rfl rfl rfl) ?_)))
  refine DO.quiet rfl (q_load_boxAgg 0 Tryd.underlying103 rfl inf103 rfl rfl rfl) (DO.quiet rfl (q_move rfl) ?_)
  refine DO.last rfl rfl (l_mapPut (a := un b.next.length c) (v := ks.length) 3 Tryd.underlying105 (KeyOk.pair pairT) rfl rfl rfl rfl (by rw [pmap_fst, un_mem]; exact hk) ?_)
  refine DO.done ?_
  refine T.draws [oI bx1 103 [.int .i64 ((c / b.next.length : Nat) : Int), .int .i64 ((c % b.next.length : Nat) : Int)], oI bp 107 [(.int .i64 a.vars), (.int .i64 a.start), (.slice j.nb a.next.length j.nc), (.slice j.fb a.final.length j.fc), (.int .i64 b.vars), (.int .i64 b.start), (.slice k.nb b.next.length k.nc), (.slice k.fb b.final.length k.fc), (.slice qb ks.length qc), (.map (some m))], mapI pairV (fun n : Nat => Value.int .i64 (n : Int)) m ((pmap b.next.length ks) ++ [(un b.next.length c, ks.length)])] [(0, 0), (1, 0), (2, 0), (3, 0), (4, 0), (5, 0), (6, 1), (7, 1), (8, 0), (9, 0), (10, 2)] mixed (by kernel_rfl) (by exact Sub.k (.k (.d (.k .z)))) (fun _ _ _ h => h) ?_
  refine DO.quiet rfl (q_move rfl) (DO.quiet rfl (q_move rfl) (DO.quiet rfl (q_nilCheck rfl) (DO.quiet rfl (q_fieldAddr Tryd.underlying107 rfl inf104 rfl rfl) ?_)))
  refine DO.quiet rfl (q_load_box 1 Tryd.underlying104 rfl rfl rfl rfl) (DO.quiet rfl (q_load_boxAgg 0 Tryd.underlying103 rfl inf103 rfl rfl rfl) ?_)
  refine DO.loud rfl rfl (l_buildSlice (m := 1) (parts := [(0, _)]) (cs := [.int .i64 ((c / b.next.length : Nat) : Int), .int .i64 ((c % b.next.length : Nat) : Int)]) Tryd.underlying104 inf103 (by decide) (by kernel_rfl) rfl (fun bx2 => ⟨by exact Sub.d (.k (.k (.d (.k .z)))), ?_⟩))
  refine DO.loud rfl rfl (l_append 3 Tryd.underlying104 Tryd.underlying104 inf103 rfl rfl rfl rfl (by rw [prs_len]) (by decide) (Src.row (j := 0) rfl (by simp)) (by simp [oneB]) (by omega) (by decide) (by decide) (fun bx3 c4 => ⟨by exact Sub.d (.k (.k (.d (.k .z)))), ?_⟩))
  refine DO.quiet rfl (q_nilCheck rfl) (DO.quiet rfl (q_fieldAddr Tryd.underlying107 rfl inf104 rfl rfl) ?_)
  refine DO.last rfl rfl (l_store_box (v := (.slice bx3 (ks.length + 1) c4)) (vs := [(.slice bx3 (ks.length + 1) c4)]) 2 inf104 rfl rfl rfl rfl rfl rfl (by simp [putL]) ?_)
  refine DO.done ?_
  refine T.seq (T.region ?_)
  refine TO.quiet (q_move rfl) (TO.quiet (q_assign rfl) ?_)
  refine TO.nil (T.ret (Res.drop ?_))
  refine Res.one (.int .i64 (ks.length : Int)) Tryd.results83 rfl ?_
  have ha : add ks c = ks ++ [c] := if_neg hk
  rw [ha]
  exact ⟨[oI bp 107 [(.int .i64 a.vars), (.int .i64 a.start), (.slice j.nb a.next.length j.nc), (.slice j.fb a.final.length j.fc), (.int .i64 b.vars), (.int .i64 b.start), (.slice k.nb b.next.length k.nc), (.slice k.fb b.final.length k.fc), (.slice bx3 (ks.length + 1) c4), (.map (some m))], rowI bx3 c4 103 2 ((prs b.next.length ks) ++ [.int .i64 ((c / b.next.length : Nat) : Int), .int .i64 ((c % b.next.length : Nat) : Int)]), mapI pairV (fun n : Nat => Value.int .i64 (n : Int)) m ((pmap b.next.length ks) ++ [(un b.next.length c, ks.length)])], (by exact Sub.d (.d (.k (.k (.k .z))))), by rw [ix_append_right hk]; simp [ix], _, _, by rw [prs_snoc, pmap_snoc, List.length_append]; rfl⟩
theorem pvC (base : World) [Tab Tryd.prog base] (a b : DFA) (j k : DK) (bp m : Nat) (ks : List Nat) (c : Nat) (qb : Option Addr) (qc : Nat) (hl : ks.length ≤ 17000000) :
    CallT Tryd.prog base 83 [.pointer (some ⟨bp, 0, none⟩), (.agg #[.int .i64 ((c / b.next.length : Nat) : Int), .int .i64 ((c % b.next.length : Nat) : Int)])] [objI bp (.cells (List.toArray [(.int .i64 a.vars), (.int .i64 a.start), (.slice j.nb a.next.length j.nc), (.slice j.fb a.final.length j.fc), (.int .i64 b.vars), (.int .i64 b.start), (.slice k.nb b.next.length k.nc), (.slice k.fb b.final.length k.fc), (.slice qb ks.length qc), (.map (some m))]) 107 (0, 0)), rowI qb qc 103 2 (prs b.next.length ks), mapI pairV (fun n : Nat => Value.int .i64 (n : Int)) m (pmap b.next.length ks)] (fun v O' => v = .int .i64 ((ix c (add ks c) : Nat) : Int) ∧ ∃ qb' qc', O' = [objI bp (.cells (List.toArray [(.int .i64 a.vars), (.int .i64 a.start), (.slice j.nb a.next.length j.nc), (.slice j.fb a.final.length j.fc), (.int .i64 b.vars), (.int .i64 b.start), (.slice k.nb b.next.length k.nc), (.slice k.fb b.final.length k.fc), (.slice qb' ((add ks c).length) qc'), (.map (some m))]) 107 (0, 0)), rowI qb' qc' 103 2 (prs b.next.length (add ks c)), mapI pairV (fun n : Nat => Value.int .i64 (n : Int)) m (pmap b.next.length (add ks c))]) := by
  by_cases hk : c ∈ ks
  · exact pvHit base a b j k bp m ks c qb qc hk hl
  · exact pvNew base a b j k bp m ks c qb qc hk hl
end Go.Proofs.YtnmfefmhfkhihaaDoor


namespace Go.Proofs.YtnmfefmhfkhihaaDoor
open Go.Lx Go.RowKit
set_option linter.unusedVariables false
set_option linter.unusedSimpArgs false
theorem pvS (base : World) [Tab Tryd.prog base] (f : Bool → Bool → Bool) (a b : DFA) (j k : DK) (bp m i o x : Nat) (qb : Option Addr) (qc : Nat) (va : Valid a) (vb : Valid b) (hv : a.vars = b.vars) (hq : (bfsN (prodD f a b) i)[i]? = some o) (hx : x < 2 ^ a.vars.toNat) :
    CallT Tryd.prog base 83 [.pointer (some ⟨bp, 0, none⟩), (.agg #[.int .i64 (((toN (prodD f a b) o x) / b.next.length : Nat) : Int), .int .i64 (((toN (prodD f a b) o x) % b.next.length : Nat) : Int)])] [objI bp (.cells (List.toArray [(.int .i64 a.vars), (.int .i64 a.start), (.slice j.nb a.next.length j.nc), (.slice j.fb a.final.length j.fc), (.int .i64 b.vars), (.int .i64 b.start), (.slice k.nb b.next.length k.nc), (.slice k.fb b.final.length k.fc), (.slice qb ((bfsM (prodD f a b) i o x).length) qc), (.map (some m))]) 107 (0, 0)), rowI qb qc 103 2 (prs b.next.length (bfsM (prodD f a b) i o x)), mapI pairV (fun n : Nat => Value.int .i64 (n : Int)) m (pmap b.next.length (bfsM (prodD f a b) i o x))] (fun v O' => v = .int .i64 ((ix (toN (prodD f a b) o x) (order (prodD f a b)) : Nat) : Int) ∧ ∃ qb' qc', O' = [objI bp (.cells (List.toArray [(.int .i64 a.vars), (.int .i64 a.start), (.slice j.nb a.next.length j.nc), (.slice j.fb a.final.length j.fc), (.int .i64 b.vars), (.int .i64 b.start), (.slice k.nb b.next.length k.nc), (.slice k.fb b.final.length k.fc), (.slice qb' ((bfsM (prodD f a b) i o (x + 1)).length) qc'), (.map (some m))]) 107 (0, 0)), rowI qb' qc' 103 2 (prs b.next.length (bfsM (prodD f a b) i o (x + 1))), mapI pairV (fun n : Nat => Value.int .i64 (n : Int)) m (pmap b.next.length (bfsM (prodD f a b) i o (x + 1)))]) := by
  have ho := (pr_bfs_ok (f := f) va vb hv i).2 o (List.mem_of_getElem? hq)
  have hil := (List.getElem?_eq_some_iff.1 hq).1
  have hbl := pr_bfs_len (f := f) va vb hv i
  have hml := pr_bfsM_len (f := f) va vb hv (i := i) ho (Nat.le_of_lt hx)
  have h4 : a.next.length * b.next.length ≤ 4096 * 4096 := Nat.mul_le_mul va.n4 vb.n4
  rw [bfsM_step]
  refine (pvC base a b j k bp m (bfsM (prodD f a b) i o x) (toN (prodD f a b) o x) qb qc (by omega)).mono ?_
  rintro v O' ⟨rfl, h⟩
  refine ⟨?_, h⟩
  rw [← bfsM_step, visit_old hq (x := x + 1) hx (by rw [prod_len]; omega) (by rw [bfsM_step]; exact mem_add.2 (.inr rfl))]
set_option maxHeartbeats 1000000 in
set_option maxRecDepth 20000 in
theorem pairs1 (base : World) [Tab Tryd.prog base] (f : Bool → Bool → Bool) (a b : DFA) (j k : DK) (ha : At base a j) (hb : At base b k) (va : Valid a) (vb : Valid b) (hv : a.vars = b.vars) (L : Nat) (hL : 2 ^ a.vars.toNat = L) (bx bp m : Nat) (qb0 : Option Addr) (qc0 : Nat) (yv : Value) (J : Nat → List Lx.Item → Prop) (Q : List Lx.Item → Prop)
    (hy : ∀ (i o : Nat) (qb : Option Addr) (qc rb : Nat) (O : List Lx.Item), (bfsN (prodD f a b) i)[i]? = some o → J i O → CallV Tryd.prog base yv [(.agg #[.int .i64 ((o / b.next.length : Nat) : Int), .int .i64 ((o % b.next.length : Nat) : Int)]), .slice (some ⟨rb, 0, none⟩) L L] (O ++ [oI bp 107 [(.int .i64 a.vars), (.int .i64 a.start), (.slice j.nb a.next.length j.nc), (.slice j.fb a.final.length j.fc), (.int .i64 b.vars), (.int .i64 b.start), (.slice k.nb b.next.length k.nc), (.slice k.fb b.final.length k.fc), (.slice qb ((bfsN (prodD f a b) (i + 1)).length) qc), (.map (some m))], rowI qb qc 103 2 (prs b.next.length (bfsN (prodD f a b) (i + 1))), mapI pairV (fun n : Nat => Value.int .i64 (n : Int)) m (pmap b.next.length (bfsN (prodD f a b) (i + 1))), rowI (some ⟨rb, 0, none⟩) L 3 1 (ints (rnR (prodD f a b) o))])
      (fun v O' => (v = .bool true ∧ ∃ O2, O' = O2 ++ [oI bp 107 [(.int .i64 a.vars), (.int .i64 a.start), (.slice j.nb a.next.length j.nc), (.slice j.fb a.final.length j.fc), (.int .i64 b.vars), (.int .i64 b.start), (.slice k.nb b.next.length k.nc), (.slice k.fb b.final.length k.fc), (.slice qb ((bfsN (prodD f a b) (i + 1)).length) qc), (.map (some m))], rowI qb qc 103 2 (prs b.next.length (bfsN (prodD f a b) (i + 1))), mapI pairV (fun n : Nat => Value.int .i64 (n : Int)) m (pmap b.next.length (bfsN (prodD f a b) (i + 1)))] ∧ J (i + 1) O2) ∨ (v = .bool false ∧ Q O')))
    (O : List Lx.Item) (h0 : J 0 O) :
    CallT Tryd.prog base 82 [yv, .pointer (some ⟨bx, 0, none⟩)] ([oI bx 96 [(.pointer (some ⟨bp, 0, none⟩))], oI bp 107 [(.int .i64 a.vars), (.int .i64 a.start), (.slice j.nb a.next.length j.nc), (.slice j.fb a.final.length j.fc), (.int .i64 b.vars), (.int .i64 b.start), (.slice k.nb b.next.length k.nc), (.slice k.fb b.final.length k.fc), (.slice qb0 ((bfsN (prodD f a b) 0).length) qc0), (.map (some m))], rowI qb0 qc0 103 2 (prs b.next.length (bfsN (prodD f a b) 0)), mapI pairV (fun n : Nat => Value.int .i64 (n : Int)) m (pmap b.next.length (bfsN (prodD f a b) 0))] ++ O) (fun _ O' => (∃ N qb qc O2, O' = O2 ++ [oI bp 107 [(.int .i64 a.vars), (.int .i64 a.start), (.slice j.nb a.next.length j.nc), (.slice j.fb a.final.length j.fc), (.int .i64 b.vars), (.int .i64 b.start), (.slice k.nb b.next.length k.nc), (.slice k.fb b.final.length k.fc), (.slice qb ((bfsN (prodD f a b) N).length) qc), (.map (some m))], rowI qb qc 103 2 (prs b.next.length (bfsN (prodD f a b) N)), mapI pairV (fun n : Nat => Value.int .i64 (n : Int)) m (pmap b.next.length (bfsN (prodD f a b) N))] ∧ (bfsN (prodD f a b) N).length = N ∧ J N O2) ∨ Q O') := by
  refine CallT.enter Tryd.func82 rfl Tryd.ntmps82 rfl ?_
  have h4 : a.next.length * b.next.length ≤ 4096 * 4096 := Nat.mul_le_mul va.n4 vb.n4
  have hw : L ≤ 64 := by rw [← hL]; exact va.width
  have ha1 := ha.rows.1
  have hb1 := hb.rows.1
  refine T.seq (T.region ?_)
  refine TO.quiet (q_assign rfl) ?_
  refine TO.nil (T.block ?_)
  refine T.loop (fun (i : Nat) ρ O => ∃ (qb : Option Addr) (qc : Nat) (O1 : List Lx.Item), O = ([oI bx 96 [(.pointer (some ⟨bp, 0, none⟩))], oI bp 107 [(.int .i64 a.vars), (.int .i64 a.start), (.slice j.nb a.next.length j.nc), (.slice j.fb a.final.length j.fc), (.int .i64 b.vars), (.int .i64 b.start), (.slice k.nb b.next.length k.nc), (.slice k.fb b.final.length k.fc), (.slice qb ((bfsN (prodD f a b) i).length) qc), (.map (some m))], rowI qb qc 103 2 (prs b.next.length (bfsN (prodD f a b) i)), mapI pairV (fun n : Nat => Value.int .i64 (n : Int)) m (pmap b.next.length (bfsN (prodD f a b) i))] ++ O1) ∧ i ≤ (bfsN (prodD f a b) i).length ∧ J i O1 ∧ Heads [(0, yv), (1, (.pointer (some ⟨bx, 0, none⟩))), (3, .int .i64 ((i : Nat) : Int))] ρ) (fun i => a.next.length * b.next.length - i) 0 ?_ ?_
  · exact ⟨qb0, qc0, O, rfl, Nat.zero_le _, h0, ⟨rfl, rfl, rfl, trivial⟩⟩
  rintro i ρ O ⟨qb, qc, O1, rfl, hle, hJ, hH⟩
  obtain ⟨ρ0, rfl⟩ := hH.elim
  clear hH
  have hbl := pr_bfs_len (f := f) va vb hv i
  refine T.seq (T.seq (T.region ?_))
  refine TO.quiet (q_move rfl) (TO.quiet (q_load_box 0 Tryd.underlying96 rfl rfl rfl rfl) (TO.quiet (q_nilCheck rfl) (TO.quiet (q_fieldAddr Tryd.underlying107 rfl inf104 rfl rfl) ?_)))
  refine TO.quiet (q_load_box 1 Tryd.underlying104 rfl rfl rfl rfl) (TO.quiet (q_len Tryd.underlying104 rfl) (TO.quiet (q_lss rfl rfl) ?_))
  refine TO.nil ?_
  refine T.condP rfl (fun hc => ?_) (fun hc => ?_)
  · have hlt13 : i < (bfsN (prodD f a b) i).length := by omega
    obtain ⟨o, hq⟩ : ∃ o, (bfsN (prodD f a b) i)[i]? = some o := ⟨_, List.getElem?_eq_getElem hlt13⟩
    have ho := (pr_bfs_ok (f := f) va vb hv i).2 o (List.mem_of_getElem? hq)
    obtain ⟨hs, ht⟩ := pr_split ho
    obtain ⟨v1, c1, g1, s1⟩ := ha.rows.get hs
    obtain ⟨v2, c2, g2, s2⟩ := hb.rows.get ht
    refine T.skip (T.seq (T.block (T.seq (T.region ?_))))
    refine TO.quiet (q_load_box 0 Tryd.underlying96 rfl rfl rfl rfl) (TO.quiet (q_nilCheck rfl) (TO.quiet (q_fieldAddr Tryd.underlying107 rfl inf104 rfl rfl) (TO.quiet (q_load_box 1 Tryd.underlying104 rfl rfl rfl rfl) ?_)))
    refine TO.quiet (q_move rfl) (TO.quiet (q_ixK (i := i) Tryd.underlying104 inf103 rfl rfl (rowO (List.mem_of_getElem? (i := 2) rfl)) hlt13 (by rw [prs_len]; omega)) (TO.quiet (q_ldK (vs := [.int .i64 ((o / b.next.length : Nat) : Int), .int .i64 ((o % b.next.length : Nat) : Int)]) Tryd.underlying103 rfl inf103 rfl rfl (Nat.succ_pos _) (rowO (List.mem_of_getElem? (i := 2) rfl)) (prs_get hq)) ?_))
    refine TO.loud rfl (l_alloc inf103 rfl (fun z1 => ?_))
    refine TO.loud rfl (l_store_box (v := (.agg #[.int .i64 ((o / b.next.length : Nat) : Int), .int .i64 ((o % b.next.length : Nat) : Int)])) (vs := [.int .i64 ((o / b.next.length : Nat) : Int), .int .i64 ((o % b.next.length : Nat) : Int)]) 0 inf103 rfl rfl rfl rfl rfl rfl (by simp [putL]) ?_)
    refine TO.nil (T.seq (T.region ?_))
    refine TO.quiet (q_load_box 1 Tryd.underlying96 rfl rfl rfl rfl) (TO.quiet (q_nilCheck rfl) (TO.quiet (q_fieldAddr Tryd.underlying107 rfl inf25 rfl rfl) (TO.quiet (q_fieldAddr Tryd.underlying25 rfl inf3 rfl rfl) ?_)))
    refine TO.quiet (q_load_box 2 Tryd.underlying3 rfl rfl rfl rfl) (TO.quiet (QT.cast (q_shl1 (v := a.vars.toNat) rfl (by show Value.int _ a.vars = _; rw [Int.toNat_of_nonneg va.v0]) (by have := va.v6; omega)) (v' := .int .i64 ((L : Nat) : Int)) (by rw [hL])) ?_)
    refine TO.loud rfl (l_makeSlice (m := L) Tryd.underlying41 inf3 rfl rfl (by omega) (by omega) (fun z2 => ?_))
    refine TO.quiet (q_assign rfl) ?_
    refine TO.nil (T.seq (T.seq (T.region ?_)))
    refine TO.quiet (q_move rfl) (TO.quiet (q_len Tryd.underlying41 rfl) (TO.quiet (q_move rfl) ?_))
    refine TO.nil (T.block ?_)
    refine T.sub (O' := ([oI bp 107 [(.int .i64 a.vars), (.int .i64 a.start), (.slice j.nb a.next.length j.nc), (.slice j.fb a.final.length j.fc), (.int .i64 b.vars), (.int .i64 b.start), (.slice k.nb b.next.length k.nc), (.slice k.fb b.final.length k.fc), (.slice qb ((bfsN (prodD f a b) i).length) qc), (.map (some m))], rowI qb qc 103 2 (prs b.next.length (bfsN (prodD f a b) i)), mapI pairV (fun n : Nat => Value.int .i64 (n : Int)) m (pmap b.next.length (bfsN (prodD f a b) i)), rowI (some ⟨z2, 0, none⟩) L 3 1 (List.replicate L (.int .i64 0)), oI z1 103 [.int .i64 ((o / b.next.length : Nat) : Int), .int .i64 ((o % b.next.length : Nat) : Int)], oI bx 96 [(.pointer (some ⟨bp, 0, none⟩))]] ++ O1)) (by exact Sub.pull [rowI (some ⟨z2, 0, none⟩) L 3 1 (List.replicate L (.int .i64 0)), oI z1 103 [.int .i64 ((o / b.next.length : Nat) : Int), .int .i64 ((o % b.next.length : Nat) : Int)], oI bx 96 [(.pointer (some ⟨bp, 0, none⟩))]] _ (.pull [rowI (some ⟨z2, 0, none⟩) L 3 1 (List.replicate L (.int .i64 0)), oI z1 103 [.int .i64 ((o / b.next.length : Nat) : Int), .int .i64 ((o % b.next.length : Nat) : Int)], oI bx 96 [(.pointer (some ⟨bp, 0, none⟩))]] _ (.pull [rowI (some ⟨z2, 0, none⟩) L 3 1 (List.replicate L (.int .i64 0)), oI z1 103 [.int .i64 ((o / b.next.length : Nat) : Int), .int .i64 ((o % b.next.length : Nat) : Int)], oI bx 96 [(.pointer (some ⟨bp, 0, none⟩))]] _ (.k (.k (.k .rf)))))) ?_
    refine T.loop (fun (x : Nat) ρ O => ∃ (qbm : Option Addr) (qcm : Nat) (ys : List Nat), O = ([oI bp 107 [(.int .i64 a.vars), (.int .i64 a.start), (.slice j.nb a.next.length j.nc), (.slice j.fb a.final.length j.fc), (.int .i64 b.vars), (.int .i64 b.start), (.slice k.nb b.next.length k.nc), (.slice k.fb b.final.length k.fc), (.slice qbm ((bfsM (prodD f a b) i o x).length) qcm), (.map (some m))], rowI qbm qcm 103 2 (prs b.next.length (bfsM (prodD f a b) i o x)), mapI pairV (fun n : Nat => Value.int .i64 (n : Int)) m (pmap b.next.length (bfsM (prodD f a b) i o x)), rowI (some ⟨z2, 0, none⟩) L 3 1 (nats ys), oI z1 103 [.int .i64 ((o / b.next.length : Nat) : Int), .int .i64 ((o % b.next.length : Nat) : Int)], oI bx 96 [(.pointer (some ⟨bp, 0, none⟩))]] ++ O1) ∧ x ≤ L ∧ ys.length = L ∧ (∀ y, y < x → ys[y]? = some (ix (toN (prodD f a b) o y) (order (prodD f a b)))) ∧ Heads [(0, yv), (1, (.pointer (some ⟨bx, 0, none⟩))), (3, .int .i64 ((i : Nat) : Int)), (4, (.pointer (some ⟨z1, 0, none⟩))), (5, (.slice (some ⟨z2, 0, none⟩) L L)), (31, .int .i64 (L : Int)), (32, .int .i64 ((x : Nat) : Int))] ρ) (fun x => L - x) 0 ?_ ?_
    · refine ⟨qb, qc, List.replicate L 0, ?_, Nat.zero_le _, by simp, fun y hy9 => absurd hy9 (by omega), ⟨rfl, rfl, rfl, rfl, rfl, rfl, rfl, trivial⟩⟩
      rw [show List.replicate L (Value.int .i64 0) = nats (List.replicate L 0) by simp]; rfl
    rintro x ρ O ⟨qbm, qcm, ys, rfl, hx, hyl, hys, hH⟩
    obtain ⟨ρ0, rfl⟩ := hH.elim
    clear hH
    refine T.seq (T.region ?_)
    refine TO.quiet (q_lss rfl rfl) ?_
    refine TO.nil (T.seq ?_)
    refine T.condP rfl (fun hc => ?_) (fun hc => ?_)
    · have hlt33 : x < L := by omega
      have hxa : x < 2 ^ a.vars.toNat := by omega
      have hxb : x < 2 ^ b.vars.toNat := by rw [← hv]; exact hxa
      obtain ⟨t1, _, x1, d1⟩ := va.toN_lt hs hxa
      obtain ⟨t2, _, x2, d2⟩ := vb.toN_lt ht hxb
      have hst := (pr_toN_lt (f := f) va vb hv ho hxa).1
      have hdm := pr_div (n := b.next.length) (s := toN a (o / b.next.length) x) t2
      rw [← hst] at hdm
      have hx1 : (ints a.next[o / b.next.length])[x]? = some (.int .i64 ((toN (prodD f a b) o x / b.next.length : Nat) : Int)) := by rw [ints_get x1, d1, hdm.1]
      have hx2 : (ints b.next[o % b.next.length])[x]? = some (.int .i64 ((toN (prodD f a b) o x % b.next.length : Nat) : Int)) := by rw [ints_get x2, d2, hdm.2]
      refine T.skip (T.seq (T.block (T.seq (T.region ?_))))
      refine TO.quiet (q_move rfl) (TO.quiet (q_assign rfl) ?_)
      refine TO.nil ?_
      refine T.draws2 [] [oI bp 107 [(.int .i64 a.vars), (.int .i64 a.start), (.slice j.nb a.next.length j.nc), (.slice j.fb a.final.length j.fc), (.int .i64 b.vars), (.int .i64 b.start), (.slice k.nb b.next.length k.nc), (.slice k.fb b.final.length k.fc), (.slice qbm ((bfsM (prodD f a b) i o x).length) qcm), (.map (some m))], oI z1 103 [.int .i64 ((o / b.next.length : Nat) : Int), .int .i64 ((o % b.next.length : Nat) : Int)], oI bx 96 [(.pointer (some ⟨bp, 0, none⟩))]] [(0, 0), (1, 0), (2, 3), (3, 3), (4, 3), (5, 3), (6, 3), (7, 3), (8, 3), (9, 3), (10, 3), (11, 3), (12, 3), (13, 3), (14, 3), (15, 3), (16, 3), (17, 3), (18, 3), (19, 3), (20, 3), (21, 3), (22, 3), (23, 3), (24, 3), (25, 3), (26, 3), (27, 3), (28, 4), (29, 2), (30, 2)] mixed (drawF_ok (by kernel_rfl)) (Sub.of (List.nil_sublist _)) (by exact Sub.k (.d (.d (.d (.k (.k .z)))))) (fun _ _ _ h => h) ?_
      refine DO.quiet rfl (q_move rfl) (DO.quiet rfl (q_move rfl) ?_)
      refine DO.quiet2 rfl (q_load_box 2 Tryd.underlying96 rfl rfl rfl rfl) ?_
      refine DO.quiet2 rfl (q_load_box 2 Tryd.underlying96 rfl rfl rfl rfl) ?_
      refine DO.quiet2 rfl (q_nilCheck rfl) ?_
      refine DO.quiet2 rfl (q_fieldAddr Tryd.underlying107 rfl inf25 rfl rfl) ?_
      refine DO.quiet2 rfl (q_fieldAddr Tryd.underlying25 rfl inf22 rfl rfl) ?_
      refine DO.quiet2 rfl (q_load_box 0 Tryd.underlying22 rfl rfl rfl rfl) ?_
      refine DO.quiet2 rfl (q_fieldAddr Tryd.underlying103 rfl inf3 rfl rfl) ?_
      refine DO.quiet2 rfl (q_load_box 1 Tryd.underlying3 rfl rfl rfl rfl) ?_
      refine DO.quiet2 rfl (q_ix (i := (o / b.next.length)) Tryd.underlying22 inf41 rfl rfl (Sl.o ha.outer) hs (by rw [ha1]; exact hs)) ?_
      refine DO.quiet2 rfl (q_ld Tryd.underlying41 rfl rfl (Sl.o ha.outer) g1) ?_
      refine DO.quiet2 rfl (q_move rfl) ?_
      refine DO.quiet2 rfl (q_ix (i := x) Tryd.underlying41 inf3 rfl rfl (Sl.o s1) x1 (by rw [List.length_map]; exact x1)) ?_
      refine DO.quiet2 rfl (q_ld Tryd.underlying3 rfl rfl (Sl.o s1) hx1) ?_
      refine DO.quiet2 rfl (q_load_box 2 Tryd.underlying96 rfl rfl rfl rfl) ?_
      refine DO.quiet2 rfl (q_nilCheck rfl) ?_
      refine DO.quiet2 rfl (q_fieldAddr Tryd.underlying107 rfl inf25 rfl rfl) ?_
      refine DO.quiet2 rfl (q_fieldAddr Tryd.underlying25 rfl inf22 rfl rfl) ?_
      refine DO.quiet2 rfl (q_load_box 0 Tryd.underlying22 rfl rfl rfl rfl) ?_
      refine DO.quiet2 rfl (q_fieldAddr Tryd.underlying103 rfl inf3 rfl rfl) ?_
      refine DO.quiet2 rfl (q_load_box 1 Tryd.underlying3 rfl rfl rfl rfl) ?_
      refine DO.quiet2 rfl (q_ix (i := (o % b.next.length)) Tryd.underlying22 inf41 rfl rfl (Sl.o hb.outer) ht (by rw [hb1]; exact ht)) ?_
      refine DO.quiet2 rfl (q_ld Tryd.underlying41 rfl rfl (Sl.o hb.outer) g2) ?_
      refine DO.quiet2 rfl (q_move rfl) ?_
      refine DO.quiet2 rfl (q_ix (i := x) Tryd.underlying41 inf3 rfl rfl (Sl.o s2) x2 (by rw [List.length_map]; exact x2)) ?_
      refine DO.quiet2 rfl (q_ld Tryd.underlying3 rfl rfl (Sl.o s2) hx2) ?_
      refine DO.quiet2 rfl (q_build (cs := [.int .i64 (((toN (prodD f a b) o x) / b.next.length : Nat) : Int), .int .i64 (((toN (prodD f a b) o x) % b.next.length : Nat) : Int)]) plan103 inf103 (by kernel_rfl)) ?_
      have hk63 := CallT.under (B := ([rowI (some ⟨z2, 0, none⟩) L 3 1 (nats ys), oI z1 103 [.int .i64 ((o / b.next.length : Nat) : Int), .int .i64 ((o % b.next.length : Nat) : Int)], oI bx 96 [(.pointer (some ⟨bp, 0, none⟩))]] ++ O1)) (O := ([oI bp 107 [(.int .i64 a.vars), (.int .i64 a.start), (.slice j.nb a.next.length j.nc), (.slice j.fb a.final.length j.fc), (.int .i64 b.vars), (.int .i64 b.start), (.slice k.nb b.next.length k.nc), (.slice k.fb b.final.length k.fc), (.slice qbm ((bfsM (prodD f a b) i o x).length) qcm), (.map (some m))], rowI qbm qcm 103 2 (prs b.next.length (bfsM (prodD f a b) i o x)), mapI pairV (fun n : Nat => Value.int .i64 (n : Int)) m (pmap b.next.length (bfsM (prodD f a b) i o x)), rowI (some ⟨z2, 0, none⟩) L 3 1 (nats ys), oI z1 103 [.int .i64 ((o / b.next.length : Nat) : Int), .int .i64 ((o % b.next.length : Nat) : Int)], oI bx 96 [(.pointer (some ⟨bp, 0, none⟩))]] ++ O1)) (pvS base f a b j k bp m i o x qbm qcm va vb hv hq (by omega)) (by exact Sub.rf)
      refine DO.last2 rfl rfl (l_call ent83 hk63 rfl ?_)
      clear hk63
      rintro vr O' ⟨A1, rfl, rfl, qb2, qc2, rfl⟩
      refine ⟨by exact Sub.z, ?_⟩
      refine DO.last rfl rfl (LT.of_quiet rfl rfl (q_ix (i := x) Tryd.underlying41 inf3 rfl rfl (rowO (List.mem_of_getElem? (i := 3) rfl))) ?_)
      refine DO.last rfl rfl (l_st (j := x) (v := .int .i64 ((ix (toN (prodD f a b) o x) (order (prodD f a b)) : Nat) : Int)) (vs := [(.int .i64 ((ix (toN (prodD f a b) o x) (order (prodD f a b)) : Nat) : Int))]) (cs := nats ys) 3 inf3 rfl rfl rfl rfl rfl (by simp) rfl (by first | (simp; omega) | (simp_all; omega)) ?_)
      refine DO.sub (O' := ([oI bp 107 [(.int .i64 a.vars), (.int .i64 a.start), (.slice j.nb a.next.length j.nc), (.slice j.fb a.final.length j.fc), (.int .i64 b.vars), (.int .i64 b.start), (.slice k.nb b.next.length k.nc), (.slice k.fb b.final.length k.fc), (.slice qb2 ((bfsM (prodD f a b) i o (x + 1)).length) qc2), (.map (some m))], rowI qb2 qc2 103 2 (prs b.next.length (bfsM (prodD f a b) i o (x + 1))), mapI pairV (fun n : Nat => Value.int .i64 (n : Int)) m (pmap b.next.length (bfsM (prodD f a b) i o (x + 1))), rowI (some ⟨z2, 0, none⟩) L 3 1 (nats (ys.set x (ix (toN (prodD f a b) o x) (order (prodD f a b))))), oI z1 103 [.int .i64 ((o / b.next.length : Nat) : Int), .int .i64 ((o % b.next.length : Nat) : Int)], oI bx 96 [(.pointer (some ⟨bp, 0, none⟩))]] ++ O1)) (by rw [show putL (nats ys) x [(.int .i64 ((ix (toN (prodD f a b) o x) (order (prodD f a b)) : Nat) : Int))] = nats (ys.set x (ix (toN (prodD f a b) o x) (order (prodD f a b)))) from by simp [putL]]; exact Sub.of (List.Sublist.refl _)) ?_
      refine DO.done ?_
      refine T.region ?_
      refine TO.quiet (q_addN (a := x) (b := 1) rfl rfl (by omega)) (TO.quiet (q_move rfl) ?_)
      refine TO.nil ?_
      refine ⟨x + 1, by omega, qb2, qc2, ys.set x (ix (toN (prodD f a b) o x) (order (prodD f a b))), rfl, by omega, by simp [hyl], fun y hy9 => ?_, ⟨rfl, rfl, rfl, rfl, rfl, rfl, rfl, trivial⟩⟩
      by_cases e : y = x
      · subst e; rw [List.getElem?_set_self (by omega)]
      · rw [List.getElem?_set_ne (fun h => e h.symm)]; exact hys y (by omega)
    have hge33 : ¬ x < L := by omega
    refine T.exit ?_
    refine T.seq ?_
    have hxe : x = L := by omega
    have e1 : bfsN (prodD f a b) (i + 1) = bfsM (prodD f a b) i o x := by rw [hxe, ← hL]; exact (bfsM_full hq).symm
    have e3 : renRow (prodD f a b) o = ys := by
      apply List.ext_getElem?
      intro y
      by_cases hy9 : y < L
      · rw [hys y (by omega)]
        have hy8 : y < 2 ^ (prodD f a b).vars.toNat := by show y < 2 ^ a.vars.toNat; omega
        unfold renRow
        rw [List.getElem?_map, sucs_get hy8]; rfl
      · rw [List.getElem?_eq_none (by rw [renRow_length]; show 2 ^ a.vars.toNat ≤ y; omega), List.getElem?_eq_none (by omega)]
    have e2 : ints (rnR (prodD f a b) o) = nats ys := by unfold rnR; rw [e3]; simp [Function.comp_def]
    refine T.sub (O' := ([oI bp 107 [(.int .i64 a.vars), (.int .i64 a.start), (.slice j.nb a.next.length j.nc), (.slice j.fb a.final.length j.fc), (.int .i64 b.vars), (.int .i64 b.start), (.slice k.nb b.next.length k.nc), (.slice k.fb b.final.length k.fc), (.slice qbm ((bfsN (prodD f a b) (i + 1)).length) qcm), (.map (some m))], rowI qbm qcm 103 2 (prs b.next.length (bfsN (prodD f a b) (i + 1))), mapI pairV (fun n : Nat => Value.int .i64 (n : Int)) m (pmap b.next.length (bfsN (prodD f a b) (i + 1))), rowI (some ⟨z2, 0, none⟩) L 3 1 (ints (rnR (prodD f a b) o)), oI z1 103 [.int .i64 ((o / b.next.length : Nat) : Int), .int .i64 ((o % b.next.length : Nat) : Int)], oI bx 96 [(.pointer (some ⟨bp, 0, none⟩))]] ++ O1)) (by rw [e1, e2]; exact Sub.rf) ?_
    refine T.region ?_
    refine TO.quiet (q_move rfl) (TO.quiet (q_load_boxAgg 4 Tryd.underlying103 rfl inf103 rfl rfl rfl) (TO.quiet (q_move rfl) ?_))
    have hk69 := CallV.under (B := [oI z1 103 [.int .i64 ((o / b.next.length : Nat) : Int), .int .i64 ((o % b.next.length : Nat) : Int)], oI bx 96 [(.pointer (some ⟨bp, 0, none⟩))]]) (O := ([oI bp 107 [(.int .i64 a.vars), (.int .i64 a.start), (.slice j.nb a.next.length j.nc), (.slice j.fb a.final.length j.fc), (.int .i64 b.vars), (.int .i64 b.start), (.slice k.nb b.next.length k.nc), (.slice k.fb b.final.length k.fc), (.slice qbm ((bfsN (prodD f a b) (i + 1)).length) qcm), (.map (some m))], rowI qbm qcm 103 2 (prs b.next.length (bfsN (prodD f a b) (i + 1))), mapI pairV (fun n : Nat => Value.int .i64 (n : Int)) m (pmap b.next.length (bfsN (prodD f a b) (i + 1))), rowI (some ⟨z2, 0, none⟩) L 3 1 (ints (rnR (prodD f a b) o)), oI z1 103 [.int .i64 ((o / b.next.length : Nat) : Int), .int .i64 ((o % b.next.length : Nat) : Int)], oI bx 96 [(.pointer (some ⟨bp, 0, none⟩))]] ++ O1)) (hy i o qbm qcm z2 O1 hq hJ) (Sub.cnt [] (by intro a; simp only [itms, oI, List.set_cons_zero, List.set_cons_succ, putL, List.cons_append, List.nil_append, List.append_nil, List.append_assoc, List.map_append, List.map_cons, List.map_nil, cnt_append, cnt_cons, cnt_nil] <;> omega))
    refine TO.loud rfl (l_callG hk69 rfl rfl ?_)
    clear hk69
    rintro vr O' ⟨A1, rfl, ⟨rfl, O2, rfl, hJ2⟩ | ⟨rfl, hQ2⟩⟩
    · refine TO.quiet (q_not rfl) ?_
      refine TO.nil ?_
      refine T.cond0 rfl ?_
      refine T.skip ?_
      refine T.sub (O' := ([oI bx 96 [(.pointer (some ⟨bp, 0, none⟩))], oI bp 107 [(.int .i64 a.vars), (.int .i64 a.start), (.slice j.nb a.next.length j.nc), (.slice j.fb a.final.length j.fc), (.int .i64 b.vars), (.int .i64 b.start), (.slice k.nb b.next.length k.nc), (.slice k.fb b.final.length k.fc), (.slice qbm ((bfsN (prodD f a b) (i + 1)).length) qcm), (.map (some m))], rowI qbm qcm 103 2 (prs b.next.length (bfsN (prodD f a b) (i + 1))), mapI pairV (fun n : Nat => Value.int .i64 (n : Int)) m (pmap b.next.length (bfsN (prodD f a b) (i + 1)))] ++ O2)) (Sub.cnt [oI z1 103 [.int .i64 ((o / b.next.length : Nat) : Int), .int .i64 ((o % b.next.length : Nat) : Int)]] (by intro a; simp only [itms, oI, List.set_cons_zero, List.set_cons_succ, putL, List.cons_append, List.nil_append, List.append_nil, List.append_assoc, List.map_append, List.map_cons, List.map_nil, cnt_append, cnt_cons, cnt_nil] <;> omega)) ?_
      refine T.region ?_
      refine TO.quiet (q_move rfl) (TO.quiet (q_addN (a := i) (b := 1) rfl rfl (by omega)) (TO.quiet (q_assign rfl) ?_))
      refine TO.nil ?_
      have hpl := (bfsN_prefix (prodD f a b) i (i + 1) (by omega)).length_le
      exact ⟨i + 1, by omega, qbm, qcm, O2, rfl, by omega, hJ2, ⟨rfl, rfl, rfl, trivial⟩⟩
    refine TO.quiet (q_not rfl) ?_
    refine TO.nil ?_
    refine T.cond1 rfl ?_
    refine T.ret (Res.drop ?_)
    refine Res.zero Tryd.results82 ?_
    exact ⟨A1, Sub.of (List.sublist_append_left _ _), .inr hQ2⟩
  have hge13 : ¬ i < (bfsN (prodD f a b) i).length := by omega
  refine T.exit ?_
  refine Res.drop ?_
  refine Res.zero Tryd.results82 ?_
  have hN : (bfsN (prodD f a b) i).length = i := by omega
  exact ⟨O1 ++ [oI bp 107 [(.int .i64 a.vars), (.int .i64 a.start), (.slice j.nb a.next.length j.nc), (.slice j.fb a.final.length j.fc), (.int .i64 b.vars), (.int .i64 b.start), (.slice k.nb b.next.length k.nc), (.slice k.fb b.final.length k.fc), (.slice qb ((bfsN (prodD f a b) i).length) qc), (.map (some m))], rowI qb qc 103 2 (prs b.next.length (bfsN (prodD f a b) i)), mapI pairV (fun n : Nat => Value.int .i64 (n : Int)) m (pmap b.next.length (bfsN (prodD f a b) i))], Sub.cnt [oI bx 96 [(.pointer (some ⟨bp, 0, none⟩))]] (by intro a; simp only [itms, oI, List.set_cons_zero, List.set_cons_succ, putL, List.cons_append, List.nil_append, List.append_nil, List.append_assoc, List.map_append, List.map_cons, List.map_nil, cnt_append, cnt_cons, cnt_nil] <;> omega), .inl ⟨i, qb, qc, O1, rfl, hN, hJ⟩⟩
end Go.Proofs.YtnmfefmhfkhihaaDoor


namespace Go.Proofs.YtnmfefmhfkhihaaDoor
open Go.Lx Go.RowKit
set_option linter.unusedVariables false
set_option linter.unusedSimpArgs false
theorem minK (w : World) [Tab Tryd.prog w] (d : DFA) (k : DK) (h : At w d k) (hb : d.next.length < 9223372036854775807) (hbr : ∀ r ∈ d.next, r.length < 9223372036854775807) (hbf : d.final.length < 9223372036854775807) (hn : Valid d → d.next.length < 10000) :
    PureT Tryd.prog 75 [dV d k] w fun v N => ∃ k' : DK, v = .tuple #[dV (minV d) k', .int .i64 (checkD d : Int)] ∧ N = [dI 41 4 3 (minV d) k'] :=
  CallT.dk (g := fun x => .tuple #[x, .int .i64 (checkD d : Int)]) (minA w d k.nb k.fb k.nc k.fc (vals k.qs) h hb hbr hbf hn)
theorem minKE (w : World) [Tab Tryd.prog w] (d : DFA) (k : DK) (h : At w d k) (hv : Valid d) (hn : d.next.length < 10000) {M : DFA} (hM : minD d = M) :
    PureT Tryd.prog 75 [dV d k] w fun v N => ∃ k' : DK, v = .tuple #[dV M k', .int .i64 0] ∧ N = [dI 41 4 3 M k'] := by
  have h1 := minK w d k h (by have := hv.n4; omega) hv.bound (by have := hv.fin; have := hv.n4; omega) (fun _ => hn)
  rw [minV_valid hv, hM, checkD_zero.2 hv] at h1
  exact h1
set_option maxHeartbeats 1000000 in
set_option maxRecDepth 20000 in
theorem notF (base : World) (x y : Bool) : CallT Tryd.prog base 60 [.bool x, .bool y] [] (fun v O' => v = .bool (notB x y) ∧ O' = []) := by
  refine CallT.enter Tryd.func60 rfl Tryd.ntmps60 rfl ?_
  refine T.seq (T.region ?_)
  refine TO.quiet (q_assign rfl) ?_
  refine TO.nil (T.seq (T.region ?_))
  refine TO.quiet (q_move rfl) (TO.quiet (q_not rfl) (TO.quiet (q_assign rfl) ?_))
  refine TO.nil (T.ret ?_)
  refine Res.one (.bool (!x)) Tryd.results60 rfl ?_
  cases x <;> cases y <;> first | exact ⟨rfl, rfl⟩ | (exfalso; simp_all; done) | simp_all [andB, orB, xorB, minusB, notB]
set_option maxRecDepth 20000 in
theorem notFV (base : World) (x y : Bool) : CallV Tryd.prog base (.func (.func 60) #[] #[]) [.bool x, .bool y] [] (fun v O' => v = .bool (notB x y) ∧ O' = []) := CallV.of_fn (first := []) (caps := []) ent60 (notF base x y)
set_option maxHeartbeats 1000000 in
set_option maxRecDepth 20000 in
theorem andF (base : World) (x y : Bool) : CallT Tryd.prog base 61 [.bool x, .bool y] [] (fun v O' => v = .bool (andB x y) ∧ O' = []) := by
  refine CallT.enter Tryd.func61 rfl Tryd.ntmps61 rfl ?_
  refine T.seq (T.region ?_)
  refine TO.quiet (q_assign rfl) ?_
  refine TO.nil (T.seq (T.region ?_))
  refine TO.quiet (q_move rfl) ?_
  by_cases hs6 : x = true
  · refine TO.quiet (QT.toB (q_move rfl) (hs6)) ?_
    refine TO.guarded rfl rfl rfl (LT.of_quiet rfl rfl (q_move rfl) ?_)
    refine TO.quiet (q_pick1 rfl rfl) (TO.quiet (q_assign rfl) ?_)
    refine TO.nil (T.ret ?_)
    refine Res.one (.bool y) Tryd.results61 rfl ?_
    cases x <;> cases y <;> first | exact ⟨rfl, rfl⟩ | (exfalso; simp_all; done) | simp_all [andB, orB, xorB, minusB, notB]
  refine TO.quiet (QT.toB (q_move rfl) (Bool.eq_false_iff.2 hs6)) ?_
  refine TO.passed rfl rfl ?_
  refine TO.quiet (q_pick0 rfl rfl) (TO.quiet (q_assign rfl) ?_)
  refine TO.nil (T.ret ?_)
  refine Res.one (.bool false) Tryd.results61 rfl ?_
  cases x <;> cases y <;> first | exact ⟨rfl, rfl⟩ | (exfalso; simp_all; done) | simp_all [andB, orB, xorB, minusB, notB]
set_option maxRecDepth 20000 in
theorem andFV (base : World) (x y : Bool) : CallV Tryd.prog base (.func (.func 61) #[] #[]) [.bool x, .bool y] [] (fun v O' => v = .bool (andB x y) ∧ O' = []) := CallV.of_fn (first := []) (caps := []) ent61 (andF base x y)
set_option maxHeartbeats 1000000 in
set_option maxRecDepth 20000 in
theorem combineBad (w : World) [Tab Tryd.prog w] (a b : DFA) (j k : DK) (ha : At w a j) (hb : At w b k) (haa : a.next.length < 9223372036854775807) (haar : ∀ r ∈ a.next, r.length < 9223372036854775807) (haaf : a.final.length < 9223372036854775807) (hbb : b.next.length < 9223372036854775807) (hbbr : ∀ r ∈ b.next, r.length < 9223372036854775807) (hbbf : b.final.length < 9223372036854775807) (g : Nat) (he : wrongD a b ≠ 0) :
    PureT Tryd.prog 59 [dV a j, dV b k, .func (.func g) #[] #[]] w fun v N => v = .tuple #[dV noD ⟨none, 0, none, 0, []⟩, .int .i64 (wrongD a b : Int)] ∧ N = [] := by
  refine CallT.enter Tryd.func59 rfl Tryd.ntmps59 rfl ?_
  refine T.seq (T.region ?_)
  refine TO.loud rfl (l_box (v := (dV a j)) (cs := (dC a j)) rfl rfl (fun bx1 => ?_))
  refine TO.loud rfl (l_box (v := (dV b k)) (cs := (dC b k)) rfl rfl (fun bx2 => ?_))
  refine TO.loud rfl (l_box (v := (.func (.func g) #[] #[])) (cs := [(.func (.func g) #[] #[])]) rfl rfl (fun bx3 => ?_))
  refine TO.loud rfl (l_alloc inf25 rfl (fun bx4 => ?_))
  refine TO.loud rfl (l_alloc inf30 rfl (fun bx5 => ?_))
  refine TO.nil (T.seq (T.region ?_))
  refine TO.quiet (q_load_boxAgg 4 Tryd.underlying25 rfl inf25 rfl rfl rfl) (TO.quiet (q_load_boxAgg 3 Tryd.underlying25 rfl inf25 rfl rfl rfl) ?_)
  have hk16 := fun (w1 : World) (hI : Inv w [oI bx5 30 [(.int .i64 0)], oI bx4 25 [(.int .i64 0), (.int .i64 0), (.slice none 0 0), (.slice none 0 0)], oI bx3 83 [(.func (.func g) #[] #[])], oI bx2 25 (dC b k), oI bx1 25 (dC a j)] w1) => (haveI := Inv.tab (P := Tryd.prog) hI; beginBad w1 a b j k (hI.atB ha) (hI.atB hb) haa haar haaf hbb hbbr hbbf he)
  refine TO.loud rfl (l_call ent73 (CallT.of_pure hk16) rfl ?_)
  clear hk16
  rintro vr O' ⟨N, rfl, rfl, rfl⟩
  refine TO.quiet (q_move rfl) (TO.quiet (q_extract (vs := _) rfl rfl) (TO.quiet (q_extract (vs := _) rfl rfl) ?_))
  refine TO.loud rfl (l_alloc inf96 rfl (fun bx6 => ?_))
  refine TO.loud rfl (l_store_box (v := .pointer none) (vs := [(.pointer none)]) 0 inf96 rfl rfl rfl rfl rfl rfl (by simp [putL]) ?_)
  refine TO.quiet (q_assign rfl) ?_
  refine TO.nil (T.seq (T.seq (T.region ?_)))
  refine TO.quiet (q_move rfl) (TO.quiet (q_neq rfl rfl) ?_)
  refine TO.nil ?_
  refine T.cond1 (congrArg Value.bool (decide_eq_true (by omega))) ?_
  refine T.seq (T.region ?_)
  refine TO.quiet (q_build plan25 inf25 rfl) (TO.quiet (q_move rfl) ?_)
  refine TO.loud rfl (l_store_box (v := (.agg #[(.int .i64 0), (.int .i64 0), (.slice none 0 0), (.slice none 0 0)])) (vs := [(.int .i64 0), (.int .i64 0), (.slice none 0 0), (.slice none 0 0)]) 2 inf25 rfl rfl rfl rfl rfl rfl (by simp [putL]) ?_)
  refine TO.loud rfl (l_store_box (v := .int .i64 (wrongD a b : Int)) (vs := [(.int .i64 (wrongD a b : Int))]) 1 inf30 rfl rfl rfl rfl rfl rfl (by simp [putL]) ?_)
  refine TO.nil (T.ret (Res.drop ?_))
  refine Res.cell2a (i := 2) (j := 1) Tryd.results59 Tryd.underlying25 rfl inf25 Tryd.underlying30 rfl rfl rfl rfl rfl rfl ?_
  exact ⟨[], Sub.z, rfl, rfl⟩
set_option maxHeartbeats 1000000 in
set_option maxRecDepth 20000 in
theorem combineW (w : World) [Tab Tryd.prog w] (a b : DFA) (j k : DK) (ha : At w a j) (hb : At w b k) (va : Valid a) (vb : Valid b) (hv : a.vars = b.vars) (f : Bool → Bool → Bool) (g : Nat) (hf : ∀ (base : World) (x y : Bool), CallV Tryd.prog base (.func (.func g) #[] #[]) [.bool x, .bool y] [] (fun v O' => v = .bool (f x y) ∧ O' = [])) (hN8 : (order (prodD f a b)).length ≤ 4096) :
    PureT Tryd.prog 59 [dV a j, dV b k, .func (.func g) #[] #[]] w fun v N => ∃ k' : DK, v = .tuple #[dV (opD f a b) k', .int .i64 0] ∧ N = [dI 41 4 3 (opD f a b) k'] := by
  refine CallT.enter Tryd.func59 rfl Tryd.ntmps59 rfl ?_
  have h4 : a.next.length * b.next.length ≤ 4096 * 4096 := Nat.mul_le_mul va.n4 vb.n4
  obtain ⟨L, hL⟩ : ∃ L, 2 ^ a.vars.toNat = L := ⟨_, rfl⟩
  have hw : L ≤ 64 := by rw [← hL]; exact va.width
  refine T.seq (T.region ?_)
  refine TO.loud rfl (l_box (v := (dV a j)) (cs := (dC a j)) rfl rfl (fun z1 => ?_))
  refine TO.loud rfl (l_box (v := (dV b k)) (cs := (dC b k)) rfl rfl (fun z2 => ?_))
  refine TO.loud rfl (l_box (v := (.func (.func g) #[] #[])) (cs := [(.func (.func g) #[] #[])]) rfl rfl (fun z3 => ?_))
  refine TO.loud rfl (l_alloc inf25 rfl (fun z4 => ?_))
  refine TO.loud rfl (l_alloc inf30 rfl (fun z5 => ?_))
  refine TO.nil (T.seq (T.region ?_))
  refine TO.quiet (q_load_boxAgg 4 Tryd.underlying25 rfl inf25 rfl rfl rfl) (TO.quiet (q_load_boxAgg 3 Tryd.underlying25 rfl inf25 rfl rfl rfl) ?_)
  have hk16 := fun (w1 : World) (hI : Inv w [oI z5 30 [(.int .i64 0)], oI z4 25 [(.int .i64 0), (.int .i64 0), (.slice none 0 0), (.slice none 0 0)], oI z3 83 [(.func (.func g) #[] #[])], oI z2 25 (dC b k), oI z1 25 (dC a j)] w1) => (haveI := Inv.tab (P := Tryd.prog) hI; beginOk w1 a b j k (hI.atB ha) (hI.atB hb) va vb hv)
  refine TO.loud rfl (l_call ent73 (CallT.of_pure hk16) rfl ?_)
  clear hk16
  rintro vr O' ⟨N, rfl, bp, qb, m, rfl, rfl⟩
  refine TO.quiet (q_move rfl) (TO.quiet (q_extract (vs := _) rfl rfl) (TO.quiet (q_extract (vs := _) rfl rfl) ?_))
  refine TO.loud rfl (l_alloc inf96 rfl (fun z6 => ?_))
  refine TO.loud rfl (l_store_box (v := (.pointer (some ⟨bp, 0, none⟩))) (vs := [(.pointer (some ⟨bp, 0, none⟩))]) 0 inf96 rfl rfl rfl rfl rfl rfl (by simp [putL]) ?_)
  refine TO.quiet (q_assign rfl) ?_
  refine TO.nil (T.seq (T.seq (T.region ?_)))
  refine TO.quiet (q_move rfl) (TO.quiet (q_neq rfl rfl) ?_)
  refine TO.nil ?_
  refine T.cond0 rfl ?_
  refine T.skip (T.seq (T.region ?_))
  refine TO.quiet (q_fieldAddr Tryd.underlying25 rfl inf3 rfl rfl) (TO.quiet (q_load_box 8 Tryd.underlying3 rfl rfl rfl rfl) (TO.quiet (q_build (cs := [(.int .i64 a.vars), (.int .i64 0), (.slice none 0 0), (.slice none 0 0)]) plan25 inf25 (by kernel_rfl)) ?_))
  refine TO.loud rfl (l_alloc inf25 rfl (fun z7 => ?_))
  refine TO.loud rfl (l_store_box (v := (.agg #[(.int .i64 a.vars), (.int .i64 0), (.slice none 0 0), (.slice none 0 0)])) (vs := [(.int .i64 a.vars), (.int .i64 0), (.slice none 0 0), (.slice none 0 0)]) 0 inf25 rfl rfl rfl rfl rfl rfl (by simp [putL]) ?_)
  refine TO.nil (T.seq (T.seq ?_))
  refine T.nilRow 4 1 ?_
  refine T.nilRow 41 1 ?_
  refine T.region ?_
  refine TO.quiet (q_load_box 3 Tryd.underlying96 rfl rfl rfl rfl) ?_
  have hk27 := fun (w1 : World) (hI : Inv w [rowI none 0 41 1 (vals []), rowI none 0 4 1 (bools []), oI z7 25 [(.int .i64 a.vars), (.int .i64 0), (.slice none 0 0), (.slice none 0 0)], oI z6 96 [(.pointer (some ⟨bp, 0, none⟩))], oI bp 107 [(.int .i64 a.vars), (.int .i64 a.start), (.slice j.nb a.next.length j.nc), (.slice j.fb a.final.length j.fc), (.int .i64 b.vars), (.int .i64 b.start), (.slice k.nb b.next.length k.nc), (.slice k.fb b.final.length k.fc), (.slice (some ⟨qb, 0, none⟩) ([a.start.toNat * b.next.length + b.start.toNat].length) 1), (.map (some m))], rowI (some ⟨qb, 0, none⟩) 1 103 2 (prs b.next.length [a.start.toNat * b.next.length + b.start.toNat]), mapI pairV (fun n : Nat => Value.int .i64 (n : Int)) m (pmap b.next.length [a.start.toNat * b.next.length + b.start.toNat]), oI z5 30 [(.int .i64 0)], oI z4 25 [(.int .i64 0), (.int .i64 0), (.slice none 0 0), (.slice none 0 0)], oI z3 83 [(.func (.func g) #[] #[])], oI z2 25 (dC b k), oI z1 25 (dC a j)] w1) => (haveI := Inv.tab (P := Tryd.prog) hI; pairsF w1 bp)
  refine TO.loud rfl (l_call ent74 (CallT.of_pure hk27) rfl ?_)
  clear hk27
  rintro vr O' ⟨N, rfl, bP, rfl, rfl⟩
  refine TO.nil (T.block ?_)
  refine T.rangeFunc (first := []) (caps := [(.pointer (some ⟨bP, 0, none⟩))]) rfl ent82 (fun yl yq yhq => ?_)
  refine CallT.mono (CallT.sub (O' := oI bP 96 [(.pointer (some ⟨bp, 0, none⟩))] :: oI bp 107 [(.int .i64 a.vars), (.int .i64 a.start), (.slice j.nb a.next.length j.nc), (.slice j.fb a.final.length j.fc), (.int .i64 b.vars), (.int .i64 b.start), (.slice k.nb b.next.length k.nc), (.slice k.fb b.final.length k.fc), (.slice (some ⟨qb, 0, none⟩) ([a.start.toNat * b.next.length + b.start.toNat].length) 1), (.map (some m))] :: rowI (some ⟨qb, 0, none⟩) 1 103 2 (prs b.next.length [a.start.toNat * b.next.length + b.start.toNat]) :: mapI pairV (fun n : Nat => Value.int .i64 (n : Int)) m (pmap b.next.length [a.start.toNat * b.next.length + b.start.toNat]) :: (objI yl (lp yq none) :: [rowI none 0 41 1 (vals []), rowI none 0 4 1 (bools []), oI z7 25 [(.int .i64 a.vars), (.int .i64 0), (.slice none 0 0), (.slice none 0 0)], oI z6 96 [(.pointer (some ⟨bp, 0, none⟩))], oI z5 30 [(.int .i64 0)], oI z4 25 [(.int .i64 0), (.int .i64 0), (.slice none 0 0), (.slice none 0 0)], oI z3 83 [(.func (.func g) #[] #[])], oI z2 25 (dC b k), oI z1 25 (dC a j)])) (Sub.pick [1, 5, 5, 5, 0, 0, 0, 0, 0, 0, 0, 0, 0, 0] rfl) (pairs1 w f a b j k ha hb va vb hv L hL bP bp m (some ⟨qb, 0, none⟩) 1 (.func (.yield yl) #[] #[]) (fun i O => ∃ (nbm fbm : Option Addr) (ncm fcm n1 n2 : Nat) (qs : List Rec) (fs : List Bool), O = objI yl (lp yq none) :: ([rowI nbm ncm 41 1 (vals qs), rowI fbm fcm 4 1 (bools fs), oI z7 25 [(.int .i64 a.vars), (.int .i64 0), (.slice nbm n1 ncm), (.slice fbm n2 fcm)], oI z6 96 [(.pointer (some ⟨bp, 0, none⟩))], oI z5 30 [(.int .i64 0)], oI z4 25 [(.int .i64 0), (.int .i64 0), (.slice none 0 0), (.slice none 0 0)], oI z3 83 [(.func (.func g) #[] #[])], oI z2 25 (dC b k), oI z1 25 (dC a j)] ++ (itms 3 qs)) ∧ n1 = i ∧ n2 = i ∧ qs.length = i ∧ fs.length = i ∧ nums qs = ((order (prodD f a b)).take i).map (rnR (prodD f a b)) ∧ fs = ((order (prodD f a b)).take i).map (finN (prodD f a b))) (fun _ => False) ?_ _ ?_)) ?_
  · intro i o qb qc rb O hq hJ
    obtain ⟨nbm, fbm, ncm, fcm, n1, n2, qs, fs, rfl, hn1, hn2, hql, hfl, hqs, hfs⟩ := hJ
    refine CallV.yield yhq rfl rfl ?_
    refine T.sub (O' := ([rowI nbm ncm 41 1 (vals qs), rowI fbm fcm 4 1 (bools fs), oI z7 25 [(.int .i64 a.vars), (.int .i64 0), (.slice nbm n1 ncm), (.slice fbm n2 fcm)], oI z6 96 [(.pointer (some ⟨bp, 0, none⟩))], oI z5 30 [(.int .i64 0)], oI z4 25 [(.int .i64 0), (.int .i64 0), (.slice none 0 0), (.slice none 0 0)], oI z3 83 [(.func (.func g) #[] #[])], oI z2 25 (dC b k), oI z1 25 (dC a j), oI bp 107 [(.int .i64 a.vars), (.int .i64 a.start), (.slice j.nb a.next.length j.nc), (.slice j.fb a.final.length j.fc), (.int .i64 b.vars), (.int .i64 b.start), (.slice k.nb b.next.length k.nc), (.slice k.fb b.final.length k.fc), (.slice qb ((bfsN (prodD f a b) (i + 1)).length) qc), (.map (some m))], rowI qb qc 103 2 (prs b.next.length (bfsN (prodD f a b) (i + 1))), mapI pairV (fun n : Nat => Value.int .i64 (n : Int)) m (pmap b.next.length (bfsN (prodD f a b) (i + 1))), rowI (some ⟨rb, 0, none⟩) L 3 1 (ints (rnR (prodD f a b) o))] ++ itms 3 qs)) (by exact Sub.swap3 [rowI nbm ncm 41 1 (vals qs), rowI fbm fcm 4 1 (bools fs), oI z7 25 [(.int .i64 a.vars), (.int .i64 0), (.slice nbm n1 ncm), (.slice fbm n2 fcm)], oI z6 96 [(.pointer (some ⟨bp, 0, none⟩))], oI z5 30 [(.int .i64 0)], oI z4 25 [(.int .i64 0), (.int .i64 0), (.slice none 0 0), (.slice none 0 0)], oI z3 83 [(.func (.func g) #[] #[])], oI z2 25 (dC b k), oI z1 25 (dC a j)] [oI bp 107 [(.int .i64 a.vars), (.int .i64 a.start), (.slice j.nb a.next.length j.nc), (.slice j.fb a.final.length j.fc), (.int .i64 b.vars), (.int .i64 b.start), (.slice k.nb b.next.length k.nc), (.slice k.fb b.final.length k.fc), (.slice qb ((bfsN (prodD f a b) (i + 1)).length) qc), (.map (some m))], rowI qb qc 103 2 (prs b.next.length (bfsN (prodD f a b) (i + 1))), mapI pairV (fun n : Nat => Value.int .i64 (n : Int)) m (pmap b.next.length (bfsN (prodD f a b) (i + 1))), rowI (some ⟨rb, 0, none⟩) L 3 1 (ints (rnR (prodD f a b) o))] (itms 3 qs)) ?_
    have hbl := pr_bfs_len (f := f) va vb hv i
    have hil := (List.getElem?_eq_some_iff.1 hq).1
    have ho := (pr_bfs_ok (f := f) va vb hv i).2 o (List.mem_of_getElem? hq)
    obtain ⟨hs, ht⟩ := pr_split ho
    have hoa := bfs_at hq (by rw [prod_len]; omega)
    have hfa : (bools a.final)[o / b.next.length]? = some (.bool (finN a (o / b.next.length))) := by
      have hl : o / b.next.length < a.final.length := by rw [va.fin]; exact hs
      rw [bools_get hl]; unfold finN; rw [List.getD_eq_getElem?_getD, List.getElem?_eq_getElem hl]; rfl
    have hfb : (bools b.final)[o % b.next.length]? = some (.bool (finN b (o % b.next.length))) := by
      have hl : o % b.next.length < b.final.length := by rw [vb.fin]; exact ht
      rw [bools_get hl]; unfold finN; rw [List.getD_eq_getElem?_getD, List.getElem?_eq_getElem hl]; rfl
    have hrl : (rnR (prodD f a b) o).length = L := by unfold rnR; rw [List.length_map, renRow_length]; exact hL
    have hvq : vals (qs ++ [⟨some ⟨rb, 0, none⟩, L, rnR (prodD f a b) o⟩]) = vals qs ++ [.slice (some ⟨rb, 0, none⟩) L L] := by simp [Rec.val, hrl]
    have hbq : bools (fs ++ [f (finN a (o / b.next.length)) (finN b (o % b.next.length))]) = bools fs ++ [.bool (f (finN a (o / b.next.length)) (finN b (o % b.next.length)))] := by simp
    have hbl2 := pr_bfs_len (f := f) va vb hv (i + 1)
    have hlt9 : (bfsN (prodD f a b) (i + 1)).length ≤ 4096 := Nat.le_trans (bfsN_prefix (prodD f a b) (i + 1) (prodD f a b).next.length (by rw [prod_len]; omega)).length_le hN8
    refine T.seq (T.region ?_)
    refine TO.loud rfl (l_alloc inf103 rfl (fun z8 => ?_))
    refine TO.loud rfl (l_store_box (v := (.agg #[.int .i64 ((o / b.next.length : Nat) : Int), .int .i64 ((o % b.next.length : Nat) : Int)])) (vs := [.int .i64 ((o / b.next.length : Nat) : Int), .int .i64 ((o % b.next.length : Nat) : Int)]) 0 inf103 rfl rfl rfl rfl rfl rfl (by simp [putL]) ?_)
    refine TO.nil (T.region ?_)
    refine TO.quiet (q_assign rfl) ?_
    refine TO.nil (T.block (T.seq (T.seq (T.region ?_))))
    refine TO.quiet (q_load_box 4 Tryd.underlying96 rfl rfl rfl rfl) (TO.quiet (q_nilCheck rfl) (TO.quiet (q_fieldAddr Tryd.underlying107 rfl inf104 rfl rfl) (TO.quiet (q_load_box 10 Tryd.underlying104 rfl rfl rfl rfl) ?_)))
    refine TO.quiet (q_len Tryd.underlying104 rfl) (TO.quiet (QT.toB (q_gtr rfl rfl) (decide_eq_false (by omega))) ?_)
    refine TO.nil ?_
    refine T.cond0 rfl ?_
    refine T.skip ?_
    refine T.draws [oI z8 103 [.int .i64 ((o / b.next.length : Nat) : Int), .int .i64 ((o % b.next.length : Nat) : Int)], oI z7 25 [(.int .i64 a.vars), (.int .i64 0), (.slice nbm n1 ncm), (.slice fbm n2 fcm)], oI z6 96 [(.pointer (some ⟨bp, 0, none⟩))], oI z5 30 [(.int .i64 0)], oI z4 25 [(.int .i64 0), (.int .i64 0), (.slice none 0 0), (.slice none 0 0)], oI z3 83 [(.func (.func g) #[] #[])], oI z2 25 (dC b k), oI z1 25 (dC a j), oI bp 107 [(.int .i64 a.vars), (.int .i64 a.start), (.slice j.nb a.next.length j.nc), (.slice j.fb a.final.length j.fc), (.int .i64 b.vars), (.int .i64 b.start), (.slice k.nb b.next.length k.nc), (.slice k.fb b.final.length k.fc), (.slice qb ((bfsN (prodD f a b) (i + 1)).length) qc), (.map (some m))]] [(0, 0), (1, 0), (2, 0), (5, 0), (6, 0), (7, 0), (8, 0), (9, 0), (10, 0), (11, 0), (12, 0), (13, 0), (14, 0), (15, 0), (16, 0), (17, 0), (18, 0), (19, 0), (3, 1), (4, 1), (23, 0), (20, 1), (21, 1), (22, 1), (24, 2), (25, 2), (26, 2)] mixed (drawF_ok (by kernel_rfl)) (by exact Sub.k (.d (.d (.k (.k (.k (.k (.k (.k (.k (.k .z))))))))))) (fun _ _ _ h => h) ?_
    refine DO.quiet rfl (q_fieldAddr Tryd.underlying25 rfl inf22 rfl rfl) (DO.quiet rfl (q_load_box 1 Tryd.underlying22 rfl rfl rfl rfl) (DO.quiet rfl (q_move rfl) (DO.quiet rfl (q_fieldAddr Tryd.underlying25 rfl inf23 rfl rfl) ?_)))
    refine DO.quiet rfl (q_load_box 1 Tryd.underlying23 rfl rfl rfl rfl) (DO.quiet rfl (q_load_box 5 Tryd.underlying83 rfl rfl rfl rfl) (DO.quiet rfl (q_fieldAddr Tryd.underlying25 rfl inf23 rfl rfl) (DO.quiet rfl (q_load_box 7 Tryd.underlying23 rfl rfl rfl rfl) ?_)))
    refine DO.quiet rfl (q_fieldAddr Tryd.underlying103 rfl inf3 rfl rfl) (DO.quiet rfl (q_load_box 0 Tryd.underlying3 rfl rfl rfl rfl) (DO.quiet rfl (q_ix (i := (o / b.next.length)) Tryd.underlying23 inf4 rfl rfl (Sl.o ha.final) (by rw [va.fin]; exact hs) (by rw [List.length_map, va.fin]; exact hs)) (DO.quiet rfl (q_ld Tryd.underlying4 rfl rfl (Sl.o ha.final) hfa) ?_)))
    refine DO.quiet rfl (q_fieldAddr Tryd.underlying25 rfl inf23 rfl rfl) (DO.quiet rfl (q_load_box 6 Tryd.underlying23 rfl rfl rfl rfl) (DO.quiet rfl (q_fieldAddr Tryd.underlying103 rfl inf3 rfl rfl) (DO.quiet rfl (q_load_box 0 Tryd.underlying3 rfl rfl rfl rfl) ?_)))
    refine DO.quiet rfl (q_ix (i := (o % b.next.length)) Tryd.underlying23 inf4 rfl rfl (Sl.o hb.final) (by rw [vb.fin]; exact ht) (by rw [List.length_map, vb.fin]; exact ht)) (DO.quiet rfl (q_ld Tryd.underlying4 rfl rfl (Sl.o hb.final) hfb) ?_)
    refine DO.loud rfl rfl (l_build1 (v := (.slice (some ⟨rb, 0, none⟩) L L)) Tryd.underlying22 inf41 rfl rfl rfl (fun z9 => ⟨by exact Sub.d (.k (.d (.d (.k (.k (.k (.k (.k (.k (.k (.k .z))))))))))), ?_⟩))
    refine DO.loud rfl rfl (l_append 2 Tryd.underlying22 Tryd.underlying22 inf41 rfl rfl rfl rfl (by simp; omega) (by decide) (Src.row (j := 0) rfl (by simp)) (by simp [oneB]) (by omega) (by decide) (by decide) (fun z10 zc11 => ⟨by exact Sub.d (.k (.d (.d (.k (.k (.k (.k (.k (.k (.k (.k .z))))))))))), ?_⟩))
    refine DO.quiet rfl (q_fieldAddr Tryd.underlying25 rfl inf22 rfl rfl) ?_
    have hk57 := CallV.under (B := ([rowI (some ⟨z9, 0, none⟩) 1 41 1 [(.slice (some ⟨rb, 0, none⟩) L L)], oI z8 103 [.int .i64 ((o / b.next.length : Nat) : Int), .int .i64 ((o % b.next.length : Nat) : Int)], rowI z10 zc11 41 1 ((vals qs) ++ [(.slice (some ⟨rb, 0, none⟩) L L)]), rowI fbm fcm 4 1 (bools fs), oI z7 25 [(.int .i64 a.vars), (.int .i64 0), (.slice nbm n1 ncm), (.slice fbm n2 fcm)], oI z6 96 [(.pointer (some ⟨bp, 0, none⟩))], oI z5 30 [(.int .i64 0)], oI z4 25 [(.int .i64 0), (.int .i64 0), (.slice none 0 0), (.slice none 0 0)], oI z3 83 [(.func (.func g) #[] #[])], oI z2 25 (dC b k), oI z1 25 (dC a j), oI bp 107 [(.int .i64 a.vars), (.int .i64 a.start), (.slice j.nb a.next.length j.nc), (.slice j.fb a.final.length j.fc), (.int .i64 b.vars), (.int .i64 b.start), (.slice k.nb b.next.length k.nc), (.slice k.fb b.final.length k.fc), (.slice qb ((bfsN (prodD f a b) (i + 1)).length) qc), (.map (some m))], rowI qb qc 103 2 (prs b.next.length (bfsN (prodD f a b) (i + 1))), mapI pairV (fun n : Nat => Value.int .i64 (n : Int)) m (pmap b.next.length (bfsN (prodD f a b) (i + 1))), rowI (some ⟨rb, 0, none⟩) L 3 1 (ints (rnR (prodD f a b) o))] ++ itms 3 qs)) (O := ([rowI (some ⟨z9, 0, none⟩) 1 41 1 [(.slice (some ⟨rb, 0, none⟩) L L)], oI z8 103 [.int .i64 ((o / b.next.length : Nat) : Int), .int .i64 ((o % b.next.length : Nat) : Int)], rowI z10 zc11 41 1 ((vals qs) ++ [(.slice (some ⟨rb, 0, none⟩) L L)]), rowI fbm fcm 4 1 (bools fs), oI z7 25 [(.int .i64 a.vars), (.int .i64 0), (.slice nbm n1 ncm), (.slice fbm n2 fcm)], oI z6 96 [(.pointer (some ⟨bp, 0, none⟩))], oI z5 30 [(.int .i64 0)], oI z4 25 [(.int .i64 0), (.int .i64 0), (.slice none 0 0), (.slice none 0 0)], oI z3 83 [(.func (.func g) #[] #[])], oI z2 25 (dC b k), oI z1 25 (dC a j), oI bp 107 [(.int .i64 a.vars), (.int .i64 a.start), (.slice j.nb a.next.length j.nc), (.slice j.fb a.final.length j.fc), (.int .i64 b.vars), (.int .i64 b.start), (.slice k.nb b.next.length k.nc), (.slice k.fb b.final.length k.fc), (.slice qb ((bfsN (prodD f a b) (i + 1)).length) qc), (.map (some m))], rowI qb qc 103 2 (prs b.next.length (bfsN (prodD f a b) (i + 1))), mapI pairV (fun n : Nat => Value.int .i64 (n : Int)) m (pmap b.next.length (bfsN (prodD f a b) (i + 1))), rowI (some ⟨rb, 0, none⟩) L 3 1 (ints (rnR (prodD f a b) o))] ++ (itms 3 qs))) (hf w (finN a (o / b.next.length)) (finN b (o % b.next.length))) (by exact Sub.rf)
    refine DO.loud rfl rfl (l_callG hk57 rfl rfl ?_)
    clear hk57
    rintro vr O' ⟨A1, rfl, rfl, rfl⟩
    refine ⟨by exact Sub.d (.k (.d (.d (.k (.k (.k (.k (.k (.k (.k (.k .z))))))))))), ?_⟩
    refine DO.loud rfl rfl (l_build1 (v := .bool (f (finN a (o / b.next.length)) (finN b (o % b.next.length)))) Tryd.underlying23 inf4 rfl rfl rfl (fun z12 => ⟨by exact Sub.d (.d (.k (.d (.d (.k (.k (.k (.k (.k (.k (.k (.k .z)))))))))))), ?_⟩))
    refine DO.loud rfl rfl (l_append 4 Tryd.underlying23 Tryd.underlying23 inf4 rfl rfl rfl rfl (by simp; omega) (by decide) (Src.row (j := 0) rfl (by simp)) (by simp [oneB]) (by omega) (by decide) (by decide) (fun z13 zc14 => ⟨by exact Sub.d (.d (.k (.d (.d (.k (.k (.k (.k (.k (.k (.k (.k .z)))))))))))), ?_⟩))
    refine DO.last rfl rfl (l_store_box (v := (.slice z10 (n1 + 1) zc11)) (vs := [(.slice z10 (n1 + 1) zc11)]) 5 inf22 rfl rfl rfl rfl rfl rfl (by simp [putL]) ?_)
    refine DO.last rfl rfl (LT.of_quiet rfl rfl (q_fieldAddr Tryd.underlying25 rfl inf23 rfl rfl) ?_)
    refine DO.last rfl rfl (l_store_box (v := (.slice z13 (n2 + 1) zc14)) (vs := [(.slice z13 (n2 + 1) zc14)]) 5 inf23 rfl rfl rfl rfl rfl rfl (by simp [putL]) ?_)
    refine DO.sub (O' := ([rowI z10 zc11 41 1 ((vals qs) ++ [(.slice (some ⟨rb, 0, none⟩) L L)]), rowI z13 zc14 4 1 ((bools fs) ++ [.bool (f (finN a (o / b.next.length)) (finN b (o % b.next.length)))]), oI z7 25 [(.int .i64 a.vars), (.int .i64 0), (.slice z10 (n1 + 1) zc11), (.slice z13 (n2 + 1) zc14)], oI z6 96 [(.pointer (some ⟨bp, 0, none⟩))], oI z5 30 [(.int .i64 0)], oI z4 25 [(.int .i64 0), (.int .i64 0), (.slice none 0 0), (.slice none 0 0)], oI z3 83 [(.func (.func g) #[] #[])], oI z2 25 (dC b k), oI z1 25 (dC a j), rowI (some ⟨rb, 0, none⟩) L 3 1 (ints (rnR (prodD f a b) o)), oI bp 107 [(.int .i64 a.vars), (.int .i64 a.start), (.slice j.nb a.next.length j.nc), (.slice j.fb a.final.length j.fc), (.int .i64 b.vars), (.int .i64 b.start), (.slice k.nb b.next.length k.nc), (.slice k.fb b.final.length k.fc), (.slice qb ((bfsN (prodD f a b) (i + 1)).length) qc), (.map (some m))], rowI qb qc 103 2 (prs b.next.length (bfsN (prodD f a b) (i + 1))), mapI pairV (fun n : Nat => Value.int .i64 (n : Int)) m (pmap b.next.length (bfsN (prodD f a b) (i + 1)))] ++ itms 3 qs)) (by exact Sub.d (.d (.d (.k (.k (.k (.k (.k (.k (.k (.k (.k (.pull [oI bp 107 [(.int .i64 a.vars), (.int .i64 a.start), (.slice j.nb a.next.length j.nc), (.slice j.fb a.final.length j.fc), (.int .i64 b.vars), (.int .i64 b.start), (.slice k.nb b.next.length k.nc), (.slice k.fb b.final.length k.fc), (.slice qb ((bfsN (prodD f a b) (i + 1)).length) qc), (.map (some m))], rowI qb qc 103 2 (prs b.next.length (bfsN (prodD f a b) (i + 1))), mapI pairV (fun n : Nat => Value.int .i64 (n : Int)) m (pmap b.next.length (bfsN (prodD f a b) (i + 1)))] _ (.k (.k (.k .rf)))))))))))))))) ?_
    refine DO.sub (O' := (([rowI z10 zc11 41 1 (vals (qs ++ [⟨some ⟨rb, 0, none⟩, L, rnR (prodD f a b) o⟩])), rowI z13 zc14 4 1 (bools (fs ++ [f (finN a (o / b.next.length)) (finN b (o % b.next.length))])), oI z7 25 [(.int .i64 a.vars), (.int .i64 0), (.slice z10 (n1 + 1) zc11), (.slice z13 (n2 + 1) zc14)], oI z6 96 [(.pointer (some ⟨bp, 0, none⟩))], oI z5 30 [(.int .i64 0)], oI z4 25 [(.int .i64 0), (.int .i64 0), (.slice none 0 0), (.slice none 0 0)], oI z3 83 [(.func (.func g) #[] #[])], oI z2 25 (dC b k), oI z1 25 (dC a j)] ++ itms 3 (qs ++ [⟨some ⟨rb, 0, none⟩, L, rnR (prodD f a b) o⟩])) ++ [oI bp 107 [(.int .i64 a.vars), (.int .i64 a.start), (.slice j.nb a.next.length j.nc), (.slice j.fb a.final.length j.fc), (.int .i64 b.vars), (.int .i64 b.start), (.slice k.nb b.next.length k.nc), (.slice k.fb b.final.length k.fc), (.slice qb ((bfsN (prodD f a b) (i + 1)).length) qc), (.map (some m))], rowI qb qc 103 2 (prs b.next.length (bfsN (prodD f a b) (i + 1))), mapI pairV (fun n : Nat => Value.int .i64 (n : Int)) m (pmap b.next.length (bfsN (prodD f a b) (i + 1)))])) (by rw [hvq, hbq]; exact Sub.fold [rowI z10 zc11 41 1 ((vals qs) ++ [(.slice (some ⟨rb, 0, none⟩) L L)]), rowI z13 zc14 4 1 ((bools fs) ++ [.bool (f (finN a (o / b.next.length)) (finN b (o % b.next.length)))]), oI z7 25 [(.int .i64 a.vars), (.int .i64 0), (.slice z10 (n1 + 1) zc11), (.slice z13 (n2 + 1) zc14)], oI z6 96 [(.pointer (some ⟨bp, 0, none⟩))], oI z5 30 [(.int .i64 0)], oI z4 25 [(.int .i64 0), (.int .i64 0), (.slice none 0 0), (.slice none 0 0)], oI z3 83 [(.func (.func g) #[] #[])], oI z2 25 (dC b k), oI z1 25 (dC a j)] (rowI (some ⟨rb, 0, none⟩) L 3 1 (ints (rnR (prodD f a b) o))) [oI bp 107 [(.int .i64 a.vars), (.int .i64 a.start), (.slice j.nb a.next.length j.nc), (.slice j.fb a.final.length j.fc), (.int .i64 b.vars), (.int .i64 b.start), (.slice k.nb b.next.length k.nc), (.slice k.fb b.final.length k.fc), (.slice qb ((bfsN (prodD f a b) (i + 1)).length) qc), (.map (some m))], rowI qb qc 103 2 (prs b.next.length (bfsN (prodD f a b) (i + 1))), mapI pairV (fun n : Nat => Value.int .i64 (n : Int)) m (pmap b.next.length (bfsN (prodD f a b) (i + 1)))] (itms 3 qs) _ (itms_snoc 3 qs ⟨some ⟨rb, 0, none⟩, L, rnR (prodD f a b) o⟩)) ?_
    refine DO.done ?_
    refine .inl ⟨rfl, _, rfl, z10, z13, zc11, zc14, n1 + 1, n2 + 1, qs ++ [⟨some ⟨rb, 0, none⟩, L, rnR (prodD f a b) o⟩], fs ++ [f (finN a (o / b.next.length)) (finN b (o % b.next.length))], rfl, by omega, by omega, by simp [hql], by simp [hfl], ?_, ?_⟩
    · rw [take_at hoa, List.map_append]
      show List.map Rec.xs (qs ++ [_]) = _
      rw [List.map_append, show List.map Rec.xs qs = _ from hqs]; rfl
    · rw [take_at hoa, List.map_append, hfs, ← pr_fin_at (f := f) ho]; rfl
  · refine ⟨none, none, 0, 0, 0, 0, [], [], rfl, rfl, rfl, rfl, rfl, by simp, by simp⟩
  rintro v O' (⟨N, qbF, qcF, O2, rfl, hN, nbm, fbm, ncm, fcm, n1, n2, qs, fs, rfl, hn1, hn2, hql, hfl, hqs, hfs⟩ | hF)
  rotate_left
  · exact hF.elim
  refine ⟨none, _, rfl, ?_⟩
  refine T.seq ?_
  refine T.sub (O' := ([rowI nbm ncm 41 1 (vals qs), rowI fbm fcm 4 1 (bools fs), oI z7 25 [(.int .i64 a.vars), (.int .i64 0), (.slice nbm n1 ncm), (.slice fbm n2 fcm)], oI z6 96 [(.pointer (some ⟨bp, 0, none⟩))], oI z5 30 [(.int .i64 0)], oI z4 25 [(.int .i64 0), (.int .i64 0), (.slice none 0 0), (.slice none 0 0)], oI z3 83 [(.func (.func g) #[] #[])], oI z2 25 (dC b k), oI z1 25 (dC a j)] ++ itms 3 qs)) (Sub.of (List.sublist_append_left _ _)) ?_
  have hor := pr_stop va vb hv hN
  have hol : (order (prodD f a b)).length = N := by rw [hor]; exact hN
  have e1 : nums qs = (renum (prodD f a b)).next := by rw [hqs, ← hol, List.take_length]; exact (renum_rows _).symm
  have e2 : fs = (renum (prodD f a b)).final := by rw [hfs, ← hol, List.take_length]; rfl
  obtain rfl : n1 = (renum (prodD f a b)).next.length := by rw [renum_rows, List.length_map]; omega
  obtain rfl : n2 = (renum (prodD f a b)).final.length := by rw [renum_fins, List.length_map]; omega
  subst e2
  have vD := prod_val (f := f) va.toVal vb.toVal hv
  have vR := renum_fit vD hN8
  refine T.sub (O' := ([rowI nbm ncm 41 1 (vals qs), rowI fbm fcm 4 1 (bools (renum (prodD f a b)).final), oI z7 25 [(.int .i64 (renum (prodD f a b)).vars), (.int .i64 (renum (prodD f a b)).start), (.slice nbm ((renum (prodD f a b)).next.length) ncm), (.slice fbm ((renum (prodD f a b)).final.length) fcm)], oI z6 96 [(.pointer (some ⟨bp, 0, none⟩))], oI z5 30 [(.int .i64 0)], oI z4 25 [(.int .i64 0), (.int .i64 0), (.slice none 0 0), (.slice none 0 0)], oI z3 83 [(.func (.func g) #[] #[])], oI z2 25 (dC b k), oI z1 25 (dC a j)] ++ itms 3 qs)) (by exact Sub.rf) ?_
  refine T.region ?_
  refine TO.quiet (q_load_boxAgg 2 Tryd.underlying25 rfl inf25 rfl rfl rfl) ?_
  have hk63 := fun (w1 : World) (hI : Inv w ([rowI nbm ncm 41 1 (vals qs), rowI fbm fcm 4 1 (bools (renum (prodD f a b)).final), oI z7 25 [(.int .i64 (renum (prodD f a b)).vars), (.int .i64 (renum (prodD f a b)).start), (.slice nbm ((renum (prodD f a b)).next.length) ncm), (.slice fbm ((renum (prodD f a b)).final.length) fcm)], oI z6 96 [(.pointer (some ⟨bp, 0, none⟩))], oI z5 30 [(.int .i64 0)], oI z4 25 [(.int .i64 0), (.int .i64 0), (.slice none 0 0), (.slice none 0 0)], oI z3 83 [(.func (.func g) #[] #[])], oI z2 25 (dC b k), oI z1 25 (dC a j)] ++ (itms 3 qs)) w1) => (haveI := Inv.tab (P := Tryd.prog) hI; minKE w1 (renum (prodD f a b)) ⟨nbm, ncm, fbm, fcm, qs⟩ (show At w1 (renum (prodD f a b)) ⟨nbm, ncm, fbm, fcm, qs⟩ from ⟨hI.slOf (List.mem_of_getElem? (i := 0) rfl), e1 ▸ hI.recs (fun q hq => List.mem_append_right _ (List.mem_map_of_mem (f := Rec.itm 3) hq)), hI.slOf (List.mem_of_getElem? (i := 1) rfl)⟩) vR (by rw [renum_rows, List.length_map]; exact Nat.lt_of_le_of_lt hN8 (by decide)) (minD_renum vD))
  refine TO.loud rfl (l_call ent75 (CallT.of_pure hk63) rfl ?_)
  clear hk63
  rintro vr O' ⟨N9, rfl, k', rfl, rfl⟩
  refine TO.quiet (q_extract (vs := _) rfl rfl) (TO.quiet (q_extract (vs := _) rfl rfl) ?_)
  refine TO.loud rfl (l_store_box (v := (dV (minD (prodD f a b)) k')) (vs := (dC (minD (prodD f a b)) k')) 6 inf25 rfl rfl rfl rfl rfl rfl (by simp [putL]) ?_)
  refine TO.loud rfl (l_store_box (v := .int .i64 0) (vs := [(.int .i64 0)]) 5 inf30 rfl rfl rfl rfl rfl rfl (by simp [putL]) ?_)
  refine TO.nil (T.ret (Res.drop ?_))
  refine Res.cell2a (i := 6) (j := 5) Tryd.results59 Tryd.underlying25 rfl inf25 Tryd.underlying30 rfl rfl rfl rfl rfl rfl ?_
  exact ⟨[dI 41 4 3 (minD (prodD f a b)) k'], (by exact Sub.k .z), k', rfl, rfl⟩
end Go.Proofs.YtnmfefmhfkhihaaDoor


namespace Go.Proofs.YtnmfefmhfkhihaaDoor
open Go.Lx Go.RowKit
set_option linter.unusedVariables false
set_option linter.unusedSimpArgs false
set_option maxRecDepth 20000 in
theorem combineA (w : World) [Tab Tryd.prog w] (a b : DFA) (j k : DK) (ha : At w a j) (hb : At w b k) (haa : a.next.length < 9223372036854775807) (haar : ∀ r ∈ a.next, r.length < 9223372036854775807) (haaf : a.final.length < 9223372036854775807) (hbb : b.next.length < 9223372036854775807) (hbbr : ∀ r ∈ b.next, r.length < 9223372036854775807) (hbbf : b.final.length < 9223372036854775807) (f : Bool → Bool → Bool) (g : Nat) (hf : ∀ (base : World) (x y : Bool), CallV Tryd.prog base (.func (.func g) #[] #[]) [.bool x, .bool y] [] (fun v O' => v = .bool (f x y) ∧ O' = [])) (hN : wrongD a b = 0 → (order (prodD f a b)).length ≤ 4096) :
    PureT Tryd.prog 59 [dV a j, dV b k, .func (.func g) #[] #[]] w fun v N => ∃ k' : DK, v = .tuple #[dV (opV f a b) k', .int .i64 (wrongD a b : Int)] ∧ N = [dI 41 4 3 (opV f a b) k'] := by
  by_cases he : wrongD a b = 0
  · obtain ⟨va, vb, hv⟩ := wrongD_zero.1 he
    rw [opV_ok he, he]
    exact combineW w a b j k ha hb va vb hv f g hf (hN he)
  · rw [opV_bad he]
    refine CallT.dk (g := fun x => .tuple #[x, .int .i64 (wrongD a b : Int)]) ((CallT.addNil 41 1 (CallT.addNil 4 1 (combineBad w a b j k ha hb haa haar haaf hbb hbbr hbbf g he))).mono ?_)
    rintro v N ⟨O2, rfl, O3, rfl, rfl, rfl⟩
    exact ⟨none, 0, none, 0, [], rfl, rfl, rfl⟩
set_option maxHeartbeats 1000000 in
set_option maxRecDepth 20000 in
theorem notC0 (w : World) [Tab Tryd.prog w] (a : DFA) (j : DK) (ha : At w a j) (haa : a.next.length < 9223372036854775807) (haar : ∀ r ∈ a.next, r.length < 9223372036854775807) (haaf : a.final.length < 9223372036854775807) (hN : wrongD a a = 0 → (order (prodD notB a a)).length ≤ 4096) :
    PureT Tryd.prog 36 [dV a j] w fun v N => ∃ k' : DK, v = .tuple #[dV (opV notB a a) k', .int .i64 (wrongD a a : Int)] ∧ N = [dI 41 4 3 (opV notB a a) k'] := by
  refine CallT.enter Tryd.func36 rfl Tryd.ntmps36 rfl ?_
  refine T.seq (T.region ?_)
  refine TO.loud rfl (l_box (v := (dV a j)) (cs := (dC a j)) rfl rfl (fun bx1 => ?_))
  refine TO.loud rfl (l_alloc inf25 rfl (fun bx2 => ?_))
  refine TO.quiet (q_assign rfl) ?_
  refine TO.nil (T.seq (T.region ?_))
  refine TO.quiet (q_load_boxAgg 1 Tryd.underlying25 rfl inf25 rfl rfl rfl) (TO.quiet (q_load_boxAgg 1 Tryd.underlying25 rfl inf25 rfl rfl rfl) ?_)
  have hk6 := fun (w1 : World) (hI : Inv w [oI bx2 25 [(.int .i64 0), (.int .i64 0), (.slice none 0 0), (.slice none 0 0)], oI bx1 25 (dC a j)] w1) => (haveI := Inv.tab (P := Tryd.prog) hI; combineA w1 a a j j (hI.atB ha) (hI.atB ha) haa haar haaf haa haar haaf notB 60 notFV hN)
  refine TO.loud rfl (l_call ent59 (CallT.of_pure hk6) rfl ?_)
  clear hk6
  rintro vr O' ⟨N, rfl, k', rfl, rfl⟩
  refine TO.quiet (q_extract (vs := _) rfl rfl) (TO.quiet (q_extract (vs := _) rfl rfl) ?_)
  refine TO.loud rfl (l_store_box (v := (dV (opV notB a a) k')) (vs := (dC (opV notB a a) k')) 1 inf25 rfl rfl rfl rfl rfl rfl (by simp [putL]) ?_)
  refine TO.quiet (q_assign rfl) ?_
  refine TO.nil (T.ret (Res.drop ?_))
  refine Res.cell1b (.int .i64 (wrongD a a : Int)) (i := 1) Tryd.results36 Tryd.underlying25 rfl inf25 rfl rfl rfl rfl ?_
  exact ⟨[dI 41 4 3 (opV notB a a) k'], (by exact Sub.k .z), k', rfl, rfl⟩
theorem notC (w : World) [Tab Tryd.prog w] (a : DFA) (j : DK) (ha : At w a j) (haa : a.next.length < 9223372036854775807) (haar : ∀ r ∈ a.next, r.length < 9223372036854775807) (haaf : a.final.length < 9223372036854775807) :
    PureT Tryd.prog 36 [dV a j] w fun v N => ∃ k' : DK, v = .tuple #[dV (opV notB a a) k', .int .i64 (checkD a : Int)] ∧ N = [dI 41 4 3 (opV notB a a) k'] := by
  have h := notC0 w a j ha haa haar haaf (fun hw => by
    have hv := (wrongD_zero.1 hw).1
    exact Nat.le_trans (pr_order_factW hv.toVal hv.toVal rfl hv.toVal rfl (Det.refl a) (Det.refl a)) hv.n4)
  rwa [wrongD_self] at h
set_option maxHeartbeats 1000000 in
set_option maxRecDepth 20000 in
theorem andC (w : World) [Tab Tryd.prog w] (a b : DFA) (j k : DK) (ha : At w a j) (hb : At w b k) (haa : a.next.length < 9223372036854775807) (haar : ∀ r ∈ a.next, r.length < 9223372036854775807) (haaf : a.final.length < 9223372036854775807) (hbb : b.next.length < 9223372036854775807) (hbbr : ∀ r ∈ b.next, r.length < 9223372036854775807) (hbbf : b.final.length < 9223372036854775807) (hN : wrongD a b = 0 → (order (prodD andB a b)).length ≤ 4096) :
    PureT Tryd.prog 38 [dV a j, dV b k] w fun v N => ∃ k' : DK, v = .tuple #[dV (opV andB a b) k', .int .i64 (wrongD a b : Int)] ∧ N = [dI 41 4 3 (opV andB a b) k'] := by
  refine CallT.enter Tryd.func38 rfl Tryd.ntmps38 rfl ?_
  refine T.seq (T.region ?_)
  refine TO.loud rfl (l_box (v := (dV a j)) (cs := (dC a j)) rfl rfl (fun bx1 => ?_))
  refine TO.loud rfl (l_box (v := (dV b k)) (cs := (dC b k)) rfl rfl (fun bx2 => ?_))
  refine TO.loud rfl (l_alloc inf25 rfl (fun bx3 => ?_))
  refine TO.quiet (q_assign rfl) ?_
  refine TO.nil (T.seq (T.region ?_))
  refine TO.quiet (q_load_boxAgg 2 Tryd.underlying25 rfl inf25 rfl rfl rfl) (TO.quiet (q_load_boxAgg 1 Tryd.underlying25 rfl inf25 rfl rfl rfl) ?_)
  have hk8 := fun (w1 : World) (hI : Inv w [oI bx3 25 [(.int .i64 0), (.int .i64 0), (.slice none 0 0), (.slice none 0 0)], oI bx2 25 (dC b k), oI bx1 25 (dC a j)] w1) => (haveI := Inv.tab (P := Tryd.prog) hI; combineA w1 a b j k (hI.atB ha) (hI.atB hb) haa haar haaf hbb hbbr hbbf andB 61 andFV hN)
  refine TO.loud rfl (l_call ent59 (CallT.of_pure hk8) rfl ?_)
  clear hk8
  rintro vr O' ⟨N, rfl, k', rfl, rfl⟩
  refine TO.quiet (q_extract (vs := _) rfl rfl) (TO.quiet (q_extract (vs := _) rfl rfl) ?_)
  refine TO.loud rfl (l_store_box (v := (dV (opV andB a b) k')) (vs := (dC (opV andB a b) k')) 1 inf25 rfl rfl rfl rfl rfl rfl (by simp [putL]) ?_)
  refine TO.quiet (q_assign rfl) ?_
  refine TO.nil (T.ret (Res.drop ?_))
  refine Res.cell1b (.int .i64 (wrongD a b : Int)) (i := 1) Tryd.results38 Tryd.underlying25 rfl inf25 rfl rfl rfl rfl ?_
  exact ⟨[dI 41 4 3 (opV andB a b) k'], (by exact Sub.k .z), k', rfl, rfl⟩
end Go.Proofs.YtnmfefmhfkhihaaDoor


namespace Go.Proofs.YtnmfefmhfkhihaaDoor
open Go.Lx Go.RowKit
set_option linter.unusedVariables false
set_option linter.unusedSimpArgs false
end Go.Proofs.YtnmfefmhfkhihaaDoor


namespace Go.Proofs.YtnmfefmhfkhihaaDoor
open Go.Lx Go.RowKit
set_option linter.unusedVariables false
set_option linter.unusedSimpArgs false
set_option maxHeartbeats 1000000 in
set_option maxRecDepth 20000 in
theorem countBad (w : World) [Tab Tryd.prog w] (a : DFA) (k : DK) (ha : At w a k) (haa : a.next.length < 9223372036854775807) (haar : ∀ r ∈ a.next, r.length < 9223372036854775807) (haaf : a.final.length < 9223372036854775807) (he : checkD a ≠ 0) (n : Int) :
    PureT Tryd.prog 22 [dV a k, .int .i64 n] w fun v N => v = .tuple #[.int .u64 0, .int .i64 (checkD a : Int)] ∧ N = [] := by
  refine CallT.enter Tryd.func22 rfl Tryd.ntmps22 rfl ?_
  refine T.seq (T.region ?_)
  refine TO.loud rfl (l_box (v := (dV a k)) (cs := (dC a k)) rfl rfl (fun bx1 => ?_))
  refine TO.quiet (q_assign rfl) (TO.quiet (q_assign rfl) ?_)
  refine TO.nil (T.seq (T.seq (T.region ?_)))
  refine TO.quiet (q_load_boxAgg 0 Tryd.underlying25 rfl inf25 rfl rfl rfl) ?_
  have hk17 := fun (w1 : World) (hI : Inv w [oI bx1 25 (dC a k)] w1) => (haveI := Inv.tab (P := Tryd.prog) hI; subsetCheck w1 a k.nb k.fb k.nc k.fc (vals k.qs) (hI.dfa ha) haa haar haaf)
  refine TO.loud rfl (l_call ent33 (CallT.of_pure hk17) rfl ?_)
  clear hk17
  rintro vr O' ⟨N, rfl, rfl, rfl⟩
  refine TO.quiet (q_assign rfl) ?_
  refine TO.nil (T.seq (T.region ?_))
  refine TO.quiet (q_move rfl) (TO.quiet (QT.toB (q_neq rfl rfl) (decide_eq_true (by omega))) ?_)
  refine TO.nil ?_
  refine T.cond1 rfl ?_
  refine T.seq (T.region ?_)
  refine TO.quiet (q_move rfl) (TO.quiet (q_assign rfl) (TO.quiet (q_assign rfl) ?_))
  refine TO.nil (T.ret (Res.drop ?_))
  refine Res.two (.int .u64 0) (.int .i64 (checkD a : Int)) Tryd.results22 rfl rfl ?_
  exact ⟨[], Sub.z, rfl, rfl⟩
set_option maxHeartbeats 1000000 in
set_option maxRecDepth 20000 in
theorem countLo (w : World) [Tab Tryd.prog w] (a : DFA) (k : DK) (ha : At w a k) (hv : Valid a) (n : Int) (hn : n < 0) :
    PureT Tryd.prog 22 [dV a k, .int .i64 n] w fun v N => v = .tuple #[.int .u64 0, .int .i64 1] ∧ N = [] := by
  refine CallT.enter Tryd.func22 rfl Tryd.ntmps22 rfl ?_
  have he := checkD_zero.2 hv
  have h4 := hv.n4
  have hww : letN a ≤ 64 := hv.width
  have hfin := hv.fin
  have hvl := ha.rows.1
  have hsl := start_lt hv.toVal
  have hs0 := hv.s0
  have hs1 := hv.s1
  refine T.seq (T.region ?_)
  refine TO.loud rfl (l_box (v := (dV a k)) (cs := (dC a k)) rfl rfl (fun bx1 => ?_))
  refine TO.quiet (q_assign rfl) (TO.quiet (q_assign rfl) ?_)
  refine TO.nil (T.seq (T.seq (T.region ?_)))
  refine TO.quiet (q_load_boxAgg 0 Tryd.underlying25 rfl inf25 rfl rfl rfl) ?_
  have hk17 := fun (w1 : World) (hI : Inv w [oI bx1 25 (dC a k)] w1) => (haveI := Inv.tab (P := Tryd.prog) hI; (show PureT _ _ _ _ _ from by
      have h9 := subsetCheck w1 a k.nb k.fb k.nc k.fc (vals k.qs) (hI.dfa ha) (by omega) hv.bound (by omega)
      rw [he] at h9
      exact h9))
  refine TO.loud rfl (l_call ent33 (CallT.of_pure hk17) rfl ?_)
  clear hk17
  rintro vr O' ⟨N, rfl, rfl, rfl⟩
  refine TO.quiet (q_assign rfl) ?_
  refine TO.nil (T.seq (T.region ?_))
  refine TO.quiet (q_move rfl) (TO.quiet (q_neq rfl rfl) ?_)
  refine TO.nil ?_
  refine T.cond0 rfl ?_
  refine T.skip (T.seq (T.seq (T.region ?_)))
  refine TO.quiet (q_move rfl) (TO.quiet (QT.toB (q_lss rfl rfl) (decide_eq_true (by omega))) (TO.quiet (q_move rfl) ?_))
  refine TO.passed rfl rfl ?_
  refine TO.passed rfl rfl ?_
  refine TO.quiet (q_pick1 rfl rfl) ?_
  refine TO.nil ?_
  refine T.cond1 rfl ?_
  refine T.seq (T.region ?_)
  refine TO.quiet (q_assign rfl) (TO.quiet (q_assign rfl) ?_)
  refine TO.nil (T.ret (Res.drop ?_))
  refine Res.two (.int .u64 0) (.int .i64 1) Tryd.results22 rfl rfl ?_
  exact ⟨[], Sub.z, rfl, rfl⟩
set_option maxHeartbeats 1000000 in
set_option maxRecDepth 20000 in
theorem countHi (w : World) [Tab Tryd.prog w] (a : DFA) (k : DK) (ha : At w a k) (hv : Valid a) (n : Int) (hn : 64 < n) :
    PureT Tryd.prog 22 [dV a k, .int .i64 n] w fun v N => v = .tuple #[.int .u64 0, .int .i64 1] ∧ N = [] := by
  refine CallT.enter Tryd.func22 rfl Tryd.ntmps22 rfl ?_
  have he := checkD_zero.2 hv
  have h4 := hv.n4
  have hww : letN a ≤ 64 := hv.width
  have hfin := hv.fin
  have hvl := ha.rows.1
  have hsl := start_lt hv.toVal
  have hs0 := hv.s0
  have hs1 := hv.s1
  refine T.seq (T.region ?_)
  refine TO.loud rfl (l_box (v := (dV a k)) (cs := (dC a k)) rfl rfl (fun bx1 => ?_))
  refine TO.quiet (q_assign rfl) (TO.quiet (q_assign rfl) ?_)
  refine TO.nil (T.seq (T.seq (T.region ?_)))
  refine TO.quiet (q_load_boxAgg 0 Tryd.underlying25 rfl inf25 rfl rfl rfl) ?_
  have hk17 := fun (w1 : World) (hI : Inv w [oI bx1 25 (dC a k)] w1) => (haveI := Inv.tab (P := Tryd.prog) hI; (show PureT _ _ _ _ _ from by
      have h9 := subsetCheck w1 a k.nb k.fb k.nc k.fc (vals k.qs) (hI.dfa ha) (by omega) hv.bound (by omega)
      rw [he] at h9
      exact h9))
  refine TO.loud rfl (l_call ent33 (CallT.of_pure hk17) rfl ?_)
  clear hk17
  rintro vr O' ⟨N, rfl, rfl, rfl⟩
  refine TO.quiet (q_assign rfl) ?_
  refine TO.nil (T.seq (T.region ?_))
  refine TO.quiet (q_move rfl) (TO.quiet (q_neq rfl rfl) ?_)
  refine TO.nil ?_
  refine T.cond0 rfl ?_
  refine T.skip (T.seq (T.seq (T.region ?_)))
  refine TO.quiet (q_move rfl) (TO.quiet (QT.toB (q_lss rfl rfl) (decide_eq_false (by omega))) (TO.quiet (q_move rfl) ?_))
  refine TO.guarded rfl rfl rfl (LT.of_quiet rfl rfl (q_move rfl) ?_)
  refine TO.guarded rfl rfl rfl (LT.of_quiet rfl rfl (QT.toB (q_gtr rfl rfl) (decide_eq_true (by omega))) ?_)
  refine TO.quiet (q_pick0 rfl rfl) ?_
  refine TO.nil ?_
  refine T.cond1 rfl ?_
  refine T.seq (T.region ?_)
  refine TO.quiet (q_assign rfl) (TO.quiet (q_assign rfl) ?_)
  refine TO.nil (T.ret (Res.drop ?_))
  refine Res.two (.int .u64 0) (.int .i64 1) Tryd.results22 rfl rfl ?_
  exact ⟨[], Sub.z, rfl, rfl⟩
set_option maxHeartbeats 8000000 in
set_option maxRecDepth 20000 in
theorem countOk (w : World) [Tab Tryd.prog w] (a : DFA) (k : DK) (ha : At w a k) (hv : Valid a) (n : Nat) (hn : n ≤ 64) :
    PureT Tryd.prog 22 [dV a k, .int .i64 ((n : Nat) : Int)] w fun v N => v = .tuple #[.int .u64 ((cntN a n a.start.toNat % 18446744073709551616 : Nat) : Int), .int .i64 0] ∧ N = [] := by
  refine CallT.enter Tryd.func22 rfl Tryd.ntmps22 rfl ?_
  have he := checkD_zero.2 hv
  have h4 := hv.n4
  have hww : letN a ≤ 64 := hv.width
  have hfin := hv.fin
  have hvl := ha.rows.1
  have hsl := start_lt hv.toVal
  have hs0 := hv.s0
  have hs1 := hv.s1
  have hs1 : a.start = ((a.start.toNat : Nat) : Int) := (Int.toNat_of_nonneg hv.s0).symm
  refine T.seq (T.region ?_)
  refine TO.loud rfl (l_box (v := (dV a k)) (cs := (dC a k)) rfl rfl (fun z1 => ?_))
  refine TO.quiet (q_assign rfl) (TO.quiet (q_assign rfl) ?_)
  refine TO.nil (T.seq (T.seq (T.region ?_)))
  refine TO.quiet (q_load_boxAgg 0 Tryd.underlying25 rfl inf25 rfl rfl rfl) ?_
  have hk17 := fun (w1 : World) (hI : Inv w [oI z1 25 (dC a k)] w1) => (haveI := Inv.tab (P := Tryd.prog) hI; (show PureT _ _ _ _ _ from by
      have h9 := subsetCheck w1 a k.nb k.fb k.nc k.fc (vals k.qs) (hI.dfa ha) (by omega) hv.bound (by omega)
      rw [he] at h9
      exact h9))
  refine TO.loud rfl (l_call ent33 (CallT.of_pure hk17) rfl ?_)
  clear hk17
  rintro vr O' ⟨N, rfl, rfl, rfl⟩
  refine TO.quiet (q_assign rfl) ?_
  refine TO.nil (T.seq (T.region ?_))
  refine TO.quiet (q_move rfl) (TO.quiet (q_neq rfl rfl) ?_)
  refine TO.nil ?_
  refine T.cond0 rfl ?_
  refine T.skip (T.seq (T.seq (T.region ?_)))
  refine TO.quiet (q_move rfl) (TO.quiet (QT.toB (q_lss rfl rfl) (decide_eq_false (by omega))) (TO.quiet (q_move rfl) ?_))
  refine TO.guarded rfl rfl rfl (LT.of_quiet rfl rfl (q_move rfl) ?_)
  refine TO.guarded rfl rfl rfl (LT.of_quiet rfl rfl (QT.toB (q_gtr rfl rfl) (decide_eq_false (by omega))) ?_)
  refine TO.quiet (q_pick0 rfl rfl) ?_
  refine TO.nil ?_
  refine T.cond0 rfl ?_
  refine T.skip (T.seq (T.region ?_))
  refine TO.quiet (q_fieldAddr Tryd.underlying25 rfl inf22 rfl rfl) (TO.quiet (q_load_box 0 Tryd.underlying22 rfl rfl rfl rfl) (TO.quiet (q_len Tryd.underlying22 rfl) ?_))
  refine TO.loud rfl (l_makeSlice (m := a.next.length) Tryd.underlying62 inf26 rfl rfl (by omega) (by omega) (fun z2 => ?_))
  refine TO.quiet (q_assign rfl) ?_
  refine TO.nil (T.seq (T.region ?_))
  refine TO.quiet (q_move rfl) (TO.quiet (q_fieldAddr Tryd.underlying25 rfl inf3 rfl rfl) (TO.quiet (q_load_box 1 Tryd.underlying3 rfl rfl rfl rfl) (TO.quiet (q_ixz (i := a.start) Tryd.underlying62 inf26 rfl rfl (rowO (List.mem_of_getElem? (i := 0) rfl)) hs0 hsl (by rw [List.length_replicate]; omega)) ?_)))
  refine TO.loud rfl (l_st (j := a.start.toNat) (v := .int .u64 1) (vs := [(.int .u64 1)]) (cs := List.replicate a.next.length (.int .u64 0)) 0 inf26 rfl rfl rfl rfl rfl (by simp) rfl (by rw [List.length_replicate]; simp; omega) ?_)
  refine TO.sub (O' := [rowI (some ⟨z2, 0, none⟩) a.next.length 26 1 (uns ((List.replicate a.next.length 0).set a.start.toNat 1)), oI z1 25 (dC a k)]) (by rw [show putL (List.replicate a.next.length (.int .u64 0)) a.start.toNat [(.int .u64 1)] = uns ((List.replicate a.next.length 0).set a.start.toNat 1) from by simp [putL]]; exact Sub.of (List.Sublist.refl _)) ?_
  refine TO.nil (T.seq (T.seq (T.region ?_)))
  refine TO.quiet (q_move rfl) (TO.quiet (q_move rfl) ?_)
  refine TO.nil (T.block ?_)
  refine T.loopS (fun (i : Nat) ρ O => ∃ (pb : Nat) (p : List Nat), O = [rowI (some ⟨pb, 0, none⟩) a.next.length 26 1 (uns p), oI z1 25 (dC a k)] ∧ i ≤ n ∧ PathI a n i p ∧ Heads [(0, (dV a k)), (1, .int .i64 ((n : Nat) : Int)), (2, (.pointer (some ⟨z1, 0, none⟩))), (4, .int .u64 0), (5, .int .i64 0), (6, .int .i64 0), (7, (.slice (some ⟨pb, 0, none⟩) a.next.length a.next.length)), (35, .int .i64 ((n : Nat) : Int)), (36, .int .i64 ((i : Nat) : Int))] ρ) (fun i => n - i) 0 ?_ ?_
  · exact ⟨z2, _, rfl, Nat.zero_le _, PathI.zero hsl n, ⟨rfl, rfl, rfl, rfl, rfl, rfl, rfl, rfl, rfl, trivial⟩⟩
  rintro i ρ O ⟨pb, p, rfl, hin, hp, hH⟩
  obtain ⟨ρ0, rfl⟩ := hH.elim
  clear hH
  have hpl := hp.len
  refine T.seq (T.region ?_)
  refine TO.quiet (q_lss rfl rfl) ?_
  refine TO.nil (T.seq ?_)
  refine T.condP rfl (fun hc => ?_) (fun hc => ?_)
  · have hlt37 : i < n := by omega
    refine T.skip (T.seq (T.block (T.seq (T.region ?_))))
    refine TO.quiet (q_move rfl) (TO.quiet (q_len Tryd.underlying62 rfl) ?_)
    refine TO.loud rfl (l_makeSlice (m := a.next.length) Tryd.underlying62 inf26 rfl rfl (by omega) (by omega) (fun z3 => ?_))
    refine TO.quiet (q_assign rfl) ?_
    refine TO.nil (T.seq (T.seq (T.region ?_)))
    refine TO.quiet (q_fieldAddr Tryd.underlying25 rfl inf22 rfl rfl) (TO.quiet (q_load_box 2 Tryd.underlying22 rfl rfl rfl rfl) (TO.quiet (q_len Tryd.underlying22 rfl) (TO.quiet (q_move rfl) ?_)))
    refine TO.nil (T.block ?_)
    refine T.loop (fun (s : Nat) ρ O => ∃ (q9 : List Nat), O = [rowI (some ⟨z3, 0, none⟩) a.next.length 26 1 (uns q9), rowI (some ⟨pb, 0, none⟩) a.next.length 26 1 (uns p), oI z1 25 (dC a k)] ∧ s ≤ a.next.length ∧ NextI a (n - (i + 1)) p q9 s 0 ∧ Heads [(0, (dV a k)), (1, .int .i64 ((n : Nat) : Int)), (2, (.pointer (some ⟨z1, 0, none⟩))), (4, .int .u64 0), (5, .int .i64 0), (6, .int .i64 0), (7, (.slice (some ⟨pb, 0, none⟩) a.next.length a.next.length)), (8, (.slice (some ⟨z3, 0, none⟩) a.next.length a.next.length)), (35, .int .i64 ((n : Nat) : Int)), (36, .int .i64 ((i : Nat) : Int)), (42, (.slice k.nb a.next.length k.nc)), (43, .int .i64 (a.next.length : Int)), (44, .int .i64 ((s : Nat) : Int))] ρ) (fun s => a.next.length - s) 0 ?_ ?_
    · exact ⟨List.replicate a.next.length 0, by simp, Nat.zero_le _, NextI.zero _ p, ⟨rfl, rfl, rfl, rfl, rfl, rfl, rfl, rfl, rfl, rfl, rfl, rfl, rfl, trivial⟩⟩
    rintro s ρ O ⟨q9, rfl, hs, hq, hH⟩
    obtain ⟨ρ0, rfl⟩ := hH.elim
    clear hH
    refine T.seq (T.region ?_)
    refine TO.quiet (q_lss rfl rfl) ?_
    refine TO.nil (T.seq ?_)
    refine T.condP rfl (fun hc => ?_) (fun hc => ?_)
    · have hlt45 : s < a.next.length := by omega
      obtain ⟨v1, c1, g1, s1⟩ := ha.rows.get hlt45
      have hl1 : a.next[s].length = letN a := hv.len _ (List.getElem_mem hlt45)
      refine T.skip (T.seq (T.block (T.seq (T.region ?_))))
      refine TO.quiet (q_move rfl) (TO.quiet (q_ix (i := s) Tryd.underlying22 inf41 rfl rfl (Sl.o ha.outer) hlt45 (hvl ▸ hlt45)) (TO.quiet (q_ld Tryd.underlying41 rfl rfl (Sl.o ha.outer) g1) (TO.quiet (q_assign rfl) ?_)))
      refine TO.quiet (q_assign rfl) ?_
      refine TO.nil (T.seq (T.region ?_))
      refine TO.quiet (q_move rfl) (TO.quiet (q_len Tryd.underlying41 rfl) (TO.quiet (q_move rfl) ?_))
      refine TO.nil (T.block ?_)
      refine T.loop (fun (x : Nat) ρ O => ∃ (q9 : List Nat), O = [rowI (some ⟨z3, 0, none⟩) a.next.length 26 1 (uns q9), rowI (some ⟨pb, 0, none⟩) a.next.length 26 1 (uns p), oI z1 25 (dC a k)] ∧ x ≤ letN a ∧ NextI a (n - (i + 1)) p q9 s x ∧ Heads [(0, (dV a k)), (1, .int .i64 ((n : Nat) : Int)), (2, (.pointer (some ⟨z1, 0, none⟩))), (4, .int .u64 0), (5, .int .i64 0), (6, .int .i64 0), (7, (.slice (some ⟨pb, 0, none⟩) a.next.length a.next.length)), (8, (.slice (some ⟨z3, 0, none⟩) a.next.length a.next.length)), (9, .int .i64 ((s : Nat) : Int)), (10, (.slice v1 a.next[s].length c1)), (35, .int .i64 ((n : Nat) : Int)), (36, .int .i64 ((i : Nat) : Int)), (42, (.slice k.nb a.next.length k.nc)), (43, .int .i64 (a.next.length : Int)), (44, .int .i64 ((s : Nat) : Int)), (49, (.slice v1 a.next[s].length c1)), (50, .int .i64 (a.next[s].length : Int)), (51, .int .i64 ((x : Nat) : Int))] ρ) (fun x => letN a - x) 0 ?_ ?_
      · exact ⟨q9, rfl, Nat.zero_le _, hq, ⟨rfl, rfl, rfl, rfl, rfl, rfl, rfl, rfl, rfl, rfl, rfl, rfl, rfl, rfl, rfl, rfl, rfl, rfl, trivial⟩⟩
      rintro x ρ O ⟨q9, rfl, hx, hq, hH⟩
      obtain ⟨ρ0, rfl⟩ := hH.elim
      clear hH
      have hql := hq.len
      refine T.seq (T.region ?_)
      refine TO.quiet (q_lss rfl rfl) ?_
      refine TO.nil (T.seq ?_)
      refine T.condP rfl (fun hc => ?_) (fun hc => ?_)
      · have hlt52 : x < a.next[s].length := by omega
        have hxl : x < letN a := by omega
        obtain ⟨hto, _, hxk1, hx1⟩ := hv.toN_lt hlt45 hxl
        have hx1 : (ints a.next[s])[x]? = some (.int .i64 ((toN a s x : Nat) : Int)) := by rw [ints_get hxk1, hx1]
        refine T.skip (T.seq (T.block (T.seq (T.region ?_))))
        refine TO.quiet (q_ix (i := x) Tryd.underlying41 inf3 rfl rfl (Sl.o s1) hxk1 (by rw [List.length_map]; exact hxk1)) (TO.quiet (q_ld Tryd.underlying3 rfl rfl (Sl.o s1) hx1) (TO.quiet (q_assign rfl) ?_))
        refine TO.nil ?_
        refine T.draws _ [(0, 0), (1, 0), (2, 0), (3, 0), (4, 0), (5, 0), (6, 0), (7, 0), (8, 0), (9, 0), (10, 2)] mixed (by kernel_rfl) (Sub.of (List.Sublist.refl _)) (fun _ _ _ h => h) ?_
        refine DO.quiet rfl (q_move rfl) (DO.quiet rfl (q_move rfl) (DO.quiet rfl (q_ix (i := (toN a s x)) Tryd.underlying62 inf26 rfl rfl (rowO (List.mem_of_getElem? (i := 0) rfl)) hto (by rw [List.length_map]; omega)) (DO.quiet rfl (q_ld Tryd.underlying26 rfl rfl (rowO (List.mem_of_getElem? (i := 0) rfl)) (uns_at (by omega))) ?_)))
        refine DO.quiet rfl (q_move rfl) (DO.quiet rfl (q_move rfl) (DO.quiet rfl (q_ix (i := s) Tryd.underlying62 inf26 rfl rfl (rowO (List.mem_of_getElem? (i := 1) rfl)) hlt45 (by rw [List.length_map]; omega)) (DO.quiet rfl (q_ld Tryd.underlying26 rfl rfl (rowO (List.mem_of_getElem? (i := 1) rfl)) (uns_at (by omega))) ?_)))
        refine DO.quiet rfl (q_addM rfl rfl) (DO.quiet rfl (q_ix (i := (toN a s x)) Tryd.underlying62 inf26 rfl rfl (rowO (List.mem_of_getElem? (i := 0) rfl)) hto (by rw [List.length_map]; omega)) ?_)
        refine DO.last rfl rfl (l_st (j := (toN a s x)) (v := .int .u64 ((((q9.getD (toN a s x) 0 + p.getD s 0) % 18446744073709551616) : Nat) : Int)) (vs := [(.int .u64 ((((q9.getD (toN a s x) 0 + p.getD s 0) % 18446744073709551616) : Nat) : Int))]) (cs := uns q9) 0 inf26 rfl rfl rfl rfl rfl (by simp) rfl (by rw [List.length_map]; simp; omega) ?_)
        refine DO.sub (O' := [rowI (some ⟨z3, 0, none⟩) a.next.length 26 1 (uns (q9.set (toN a s x) ((q9.getD (toN a s x) 0 + p.getD s 0) % 18446744073709551616))), rowI (some ⟨pb, 0, none⟩) a.next.length 26 1 (uns p), oI z1 25 (dC a k)]) (by rw [show putL (uns q9) (toN a s x) [(.int .u64 ((((q9.getD (toN a s x) 0 + p.getD s 0) % 18446744073709551616) : Nat) : Int))] = uns (q9.set (toN a s x) ((q9.getD (toN a s x) 0 + p.getD s 0) % 18446744073709551616)) from by simp [putL]]; exact Sub.of (List.Sublist.refl _)) ?_
        refine DO.done ?_
        refine T.region ?_
        refine TO.quiet (q_addN (a := x) (b := 1) rfl rfl (by omega)) (TO.quiet (q_move rfl) ?_)
        refine TO.nil ?_
        exact ⟨x + 1, by omega, _, rfl, by omega, hq.step hto, ⟨rfl, rfl, rfl, rfl, rfl, rfl, rfl, rfl, rfl, rfl, rfl, rfl, rfl, rfl, rfl, rfl, rfl, rfl, trivial⟩⟩
      have hge52 : ¬ x < a.next[s].length := by omega
      refine T.exit ?_
      refine T.region ?_
      refine TO.quiet (q_addN (a := s) (b := 1) rfl rfl (by omega)) (TO.quiet (q_move rfl) ?_)
      refine TO.nil ?_
      exact ⟨s + 1, by omega, q9, rfl, by omega, ((show x = letN a by omega) ▸ hq).row, ⟨rfl, rfl, rfl, rfl, rfl, rfl, rfl, rfl, rfl, rfl, rfl, rfl, rfl, trivial⟩⟩
    have hge45 : ¬ s < a.next.length := by omega
    refine T.exit ?_
    refine T.region ?_
    refine TO.quiet (q_move rfl) (TO.quiet (q_assign rfl) ?_)
    refine TO.nil (T.region ?_)
    refine TO.quiet (q_addN (a := i) (b := 1) rfl rfl (by omega)) (TO.quiet (q_move rfl) ?_)
    refine TO.nil ?_
    have hse : s = a.next.length := by omega
    exact ⟨i + 1, by omega, [rowI (some ⟨z3, 0, none⟩) a.next.length 26 1 (uns q9), oI z1 25 (dC a k)], (by exact Sub.k (.d (.k .z))), z3, q9, rfl, by omega, NextI.done hlt37 hp (hse ▸ hq), ⟨rfl, rfl, rfl, rfl, rfl, rfl, rfl, rfl, rfl, trivial⟩⟩
  have hge37 : ¬ i < n := by omega
  refine T.exit ?_
  refine T.seq (T.region ?_)
  refine TO.quiet (q_assign rfl) ?_
  refine TO.nil (T.seq (T.seq (T.region ?_)))
  refine TO.quiet (q_move rfl) (TO.quiet (q_len Tryd.underlying62 rfl) (TO.quiet (q_move rfl) ?_))
  refine TO.nil (T.block ?_)
  have hie : i = n := by omega
  rw [hie] at hp
  refine T.loop (fun (s : Nat) ρ O => O = [rowI (some ⟨pb, 0, none⟩) a.next.length 26 1 (uns p), oI z1 25 (dC a k)] ∧ s ≤ a.next.length ∧ Heads [(0, (dV a k)), (1, .int .i64 ((n : Nat) : Int)), (2, (.pointer (some ⟨z1, 0, none⟩))), (4, .int .u64 0), (5, .int .i64 0), (6, .int .i64 0), (7, (.slice (some ⟨pb, 0, none⟩) a.next.length a.next.length)), (13, .int .u64 ((finS a p s : Nat) : Int)), (69, (.slice (some ⟨pb, 0, none⟩) a.next.length a.next.length)), (70, .int .i64 (a.next.length : Int)), (71, .int .i64 ((s : Nat) : Int))] ρ) (fun s => a.next.length - s) 0 ?_ ?_
  · exact ⟨rfl, Nat.zero_le _, ⟨rfl, rfl, rfl, rfl, rfl, rfl, rfl, rfl, rfl, rfl, rfl, trivial⟩⟩
  rintro s ρ O ⟨rfl, hs, hH⟩
  obtain ⟨ρ0, rfl⟩ := hH.elim
  clear hH
  refine T.seq (T.region ?_)
  refine TO.quiet (q_lss rfl rfl) ?_
  refine TO.nil (T.seq ?_)
  refine T.condP rfl (fun hc => ?_) (fun hc => ?_)
  · have hlt72 : s < a.next.length := by omega
    refine T.skip (T.seq (T.block (T.seq (T.region ?_))))
    refine TO.quiet (q_move rfl) (TO.quiet (q_ix (i := s) Tryd.underlying62 inf26 rfl rfl (rowO (List.mem_of_getElem? (i := 0) rfl)) hlt72 (by rw [List.length_map]; omega)) (TO.quiet (q_ld Tryd.underlying26 rfl rfl (rowO (List.mem_of_getElem? (i := 0) rfl)) (uns_at (by omega))) (TO.quiet (q_assign rfl) ?_)))
    refine TO.quiet (q_assign rfl) ?_
    refine TO.nil (T.seq (T.region ?_))
    refine TO.quiet (q_fieldAddr Tryd.underlying25 rfl inf23 rfl rfl) (TO.quiet (q_load_box 1 Tryd.underlying23 rfl rfl rfl rfl) (TO.quiet (q_move rfl) (TO.quiet (q_ix (i := s) Tryd.underlying23 inf4 rfl rfl (Sl.o ha.final) (by omega) (by rw [List.length_map]; omega)) ?_)))
    refine TO.quiet (q_ld Tryd.underlying4 rfl rfl (Sl.o ha.final) (bools_get (by omega))) ?_
    refine TO.nil ?_
    refine T.cond rfl (fun hc => ?_) (fun hc => ?_)
    · have hfn : finN a s = true := by rw [← hc]; simp [finN, show s < a.final.length by omega]
      refine T.region ?_
      refine TO.quiet (q_move rfl) (TO.quiet (q_move rfl) (TO.quiet (q_addM rfl rfl) (TO.quiet (q_assign rfl) ?_)))
      refine TO.nil (T.region ?_)
      refine TO.quiet (q_addN (a := s) (b := 1) rfl rfl (by omega)) (TO.quiet (q_move rfl) ?_)
      refine TO.nil ?_
      exact ⟨s + 1, by omega, rfl, by omega, ⟨rfl, rfl, rfl, rfl, rfl, rfl, rfl, (congrArg (fun n : Nat => Value.int .u64 (n : Int)) (finS_yes hfn)), rfl, rfl, rfl, trivial⟩⟩
    have hfn : finN a s = false := by rw [← hc]; simp [finN, show s < a.final.length by omega]
    refine T.skip (T.region ?_)
    refine TO.quiet (q_addN (a := s) (b := 1) rfl rfl (by omega)) (TO.quiet (q_move rfl) ?_)
    refine TO.nil ?_
    exact ⟨s + 1, by omega, rfl, by omega, ⟨rfl, rfl, rfl, rfl, rfl, rfl, rfl, (congrArg (fun n : Nat => Value.int .u64 (n : Int)) (finS_no hfn)), rfl, rfl, rfl, trivial⟩⟩
  have hge72 : ¬ s < a.next.length := by omega
  refine T.exit ?_
  refine T.seq (T.region ?_)
  refine TO.quiet (q_move rfl) (TO.quiet (q_assign rfl) (TO.quiet (q_assign rfl) ?_))
  refine TO.nil (T.ret (Res.drop ?_))
  refine Res.two (.int .u64 ((finS a p s : Nat) : Int)) (.int .i64 0) Tryd.results22 rfl rfl ?_
  have hse : s = a.next.length := by omega
  subst hse
  exact ⟨[], Sub.z, by rw [hp.end], rfl⟩
theorem countC (w : World) [Tab Tryd.prog w] (a : DFA) (k : DK) (ha : At w a k) (haa : a.next.length < 9223372036854775807) (haar : ∀ r ∈ a.next, r.length < 9223372036854775807) (haaf : a.final.length < 9223372036854775807) (n : Int) :
    PureT Tryd.prog 22 [dV a k, .int .i64 n] w fun v N => v = .tuple #[.int .u64 ((cntV a n : Nat) : Int), .int .i64 ((cntE a n : Nat) : Int)] ∧ N = [] := by
  unfold cntV cntE
  by_cases he : checkD a ≠ 0
  · rw [if_pos he, if_neg he]
    exact countBad w a k ha haa haar haaf he n
  · have hv : Valid a := checkD_zero.1 (by omega)
    rw [if_neg he]
    by_cases hn : n < 0 ∨ 64 < n
    · rw [if_pos hn, if_neg (by decide)]
      rcases hn with h | h
      · exact countLo w a k ha hv n h
      · exact countHi w a k ha hv n h
    · rw [if_neg hn, if_pos rfl]
      obtain ⟨m, rfl⟩ : ∃ m : Nat, n = (m : Int) := ⟨n.toNat, by omega⟩
      exact countOk w a k ha hv m (by omega)
end Go.Proofs.YtnmfefmhfkhihaaDoor


namespace Go.Proofs.YtnmfefmhfkhihaaDoor
open Go.Lx Go.RowKit
set_option linter.unusedVariables false
set_option linter.unusedSimpArgs false
set_option maxHeartbeats 8000000 in
set_option maxRecDepth 20000 in
theorem tableN (w : World) [Tab Tryd.prog w] (a : DFA) (k : DK) (ha : At w a k) (hv : Valid a) :
    PureT Tryd.prog 42 [dV a k] w fun v N => ∃ tb us, TabOk a us ∧ v = .slice tb 65 65 ∧ N = [rowI tb 65 62 1 (uvals us)] ++ uitms 26 us := by
  refine CallT.enter Tryd.func42 rfl Tryd.ntmps42 rfl ?_
  have he := checkD_zero.2 hv
  have h4 := hv.n4
  have hww : letN a ≤ 64 := hv.width
  have hfin := hv.fin
  have hvl := ha.rows.1
  have hsl := start_lt hv.toVal
  have hs0 := hv.s0
  have hs1 := hv.s1
  refine T.seq (T.region ?_)
  refine TO.loud rfl (l_box (v := (dV a k)) (cs := (dC a k)) rfl rfl (fun z1 => ?_))
  refine TO.quiet (q_assign rfl) ?_
  refine TO.nil (T.seq (T.region ?_))
  refine TO.loud rfl (l_makeSlice (m := 65) Tryd.underlying64 inf62 rfl rfl (by omega) (by omega) (fun z2 => ?_))
  refine TO.quiet (q_assign rfl) ?_
  refine TO.nil (T.seq (T.seq (T.region ?_)))
  refine TO.quiet (q_move rfl) (TO.quiet (q_len Tryd.underlying64 rfl) (TO.quiet (q_move rfl) ?_))
  refine TO.nil (T.block ?_)
  refine T.loop (fun (n : Nat) ρ O => ∃ (us : List URec), O = ([rowI (some ⟨z2, 0, none⟩) 65 62 1 (uvals us ++ List.replicate (65 - n) (.slice none 0 0)), oI z1 25 (dC a k)] ++ (uitms 26 us)) ∧ n ≤ 65 ∧ us.map URec.xs = (List.range n).map (tabR a) ∧ Heads [(0, (dV a k)), (1, (.pointer (some ⟨z1, 0, none⟩))), (2, (.slice none 0 0)), (3, (.slice (some ⟨z2, 0, none⟩) 65 65)), (11, (.slice (some ⟨z2, 0, none⟩) 65 65)), (12, .int .i64 (65 : Int)), (13, .int .i64 ((n : Nat) : Int))] ρ) (fun n => 65 - n) 0 ?_ ?_
  · exact ⟨[], rfl, Nat.zero_le _, rfl, ⟨rfl, rfl, rfl, rfl, rfl, rfl, rfl, trivial⟩⟩
  rintro n ρ O ⟨us, rfl, hn, hus, hH⟩
  obtain ⟨ρ0, rfl⟩ := hH.elim
  clear hH
  have hul : us.length = n := by have := congrArg List.length hus; simpa using this
  refine T.seq (T.region ?_)
  refine TO.quiet (q_lss rfl rfl) ?_
  refine TO.nil (T.seq ?_)
  refine T.condP rfl (fun hc => ?_) (fun hc => ?_)
  · have hlt14 : n < 65 := by omega
    refine T.skip (T.seq (T.block (T.seq (T.region ?_))))
    refine TO.quiet (q_move rfl) (TO.quiet (q_assign rfl) ?_)
    refine TO.nil (T.seq (T.region ?_))
    refine TO.quiet (q_move rfl) (TO.quiet (q_move rfl) (TO.quiet (q_fieldAddr Tryd.underlying25 rfl inf22 rfl rfl) (TO.quiet (q_load_box 1 Tryd.underlying22 rfl rfl rfl rfl) ?_)))
    refine TO.quiet (q_len Tryd.underlying22 rfl) ?_
    refine TO.loud rfl (l_makeSlice (m := a.next.length) Tryd.underlying62 inf26 rfl rfl (by omega) (by omega) (fun z3 => ?_))
    refine TO.quiet (q_ix (i := n) Tryd.underlying64 inf62 rfl rfl (rowO (List.mem_of_getElem? (i := 1) rfl)) hlt14 (by rw [List.length_append, List.length_map, List.length_replicate]; omega)) ?_
    refine TO.loud rfl (l_st (j := n) (v := (.slice (some ⟨z3, 0, none⟩) a.next.length a.next.length)) (vs := [(.slice (some ⟨z3, 0, none⟩) a.next.length a.next.length)]) (cs := uvals us ++ List.replicate (65 - n) (.slice none 0 0)) 1 inf62 rfl rfl rfl rfl rfl (by simp) rfl (by rw [List.length_append, List.length_map, List.length_replicate]; simp; omega) ?_)
    refine TO.sub (O' := ([rowI (some ⟨z3, 0, none⟩) a.next.length 26 1 (List.replicate a.next.length (.int .u64 0)), rowI (some ⟨z2, 0, none⟩) 65 62 1 (uvals us ++ ((.slice (some ⟨z3, 0, none⟩) a.next.length a.next.length) :: List.replicate (65 - 1 - n) (.slice none 0 0))), oI z1 25 (dC a k)] ++ (uitms 26 us))) (by rw [show putL (uvals us ++ List.replicate (65 - n) (.slice none 0 0)) n [(.slice (some ⟨z3, 0, none⟩) a.next.length a.next.length)] = uvals us ++ ((.slice (some ⟨z3, 0, none⟩) a.next.length a.next.length) :: List.replicate (65 - 1 - n) (.slice none 0 0)) from tput hul hlt14]; exact Sub.of (List.Sublist.refl _)) ?_
    refine TO.nil (T.seq (T.region ?_))
    refine TO.quiet (q_fieldAddr Tryd.underlying25 rfl inf22 rfl rfl) (TO.quiet (q_load_box 2 Tryd.underlying22 rfl rfl rfl rfl) (TO.quiet (q_len Tryd.underlying22 rfl) (TO.quiet (q_move rfl) ?_)))
    refine TO.nil (T.block ?_)
    refine T.loop (fun (s : Nat) ρ O => O = ([rowI (some ⟨z3, 0, none⟩) a.next.length 26 1 (uns (tabX a n s 0)), rowI (some ⟨z2, 0, none⟩) 65 62 1 (uvals us ++ ((.slice (some ⟨z3, 0, none⟩) a.next.length a.next.length) :: List.replicate (65 - 1 - n) (.slice none 0 0))), oI z1 25 (dC a k)] ++ (uitms 26 us)) ∧ s ≤ a.next.length ∧ Heads [(0, (dV a k)), (1, (.pointer (some ⟨z1, 0, none⟩))), (2, (.slice none 0 0)), (3, (.slice (some ⟨z2, 0, none⟩) 65 65)), (4, .int .i64 ((n : Nat) : Int)), (11, (.slice (some ⟨z2, 0, none⟩) 65 65)), (12, .int .i64 (65 : Int)), (13, .int .i64 ((n : Nat) : Int)), (24, (.slice k.nb a.next.length k.nc)), (25, .int .i64 (a.next.length : Int)), (26, .int .i64 ((s : Nat) : Int))] ρ) (fun s => a.next.length - s) 0 ?_ ?_
    · exact ⟨by rw [tabX_zero], Nat.zero_le _, ⟨rfl, rfl, rfl, rfl, rfl, rfl, rfl, rfl, rfl, rfl, rfl, trivial⟩⟩
    rintro s ρ O ⟨rfl, hs, hH⟩
    obtain ⟨ρ0, rfl⟩ := hH.elim
    clear hH
    refine T.seq (T.region ?_)
    refine TO.quiet (q_lss rfl rfl) ?_
    refine TO.nil (T.seq ?_)
    refine T.condP rfl (fun hc => ?_) (fun hc => ?_)
    · have hlt27 : s < a.next.length := by omega
      obtain ⟨v1, c1, g1, s1⟩ := ha.rows.get hlt27
      have hl1 : a.next[s].length = letN a := hv.len _ (List.getElem_mem hlt27)
      refine T.skip (T.seq (T.block (T.seq (T.region ?_))))
      refine TO.quiet (q_move rfl) (TO.quiet (q_ix (i := s) Tryd.underlying22 inf41 rfl rfl (Sl.o ha.outer) hlt27 (hvl ▸ hlt27)) (TO.quiet (q_ld Tryd.underlying41 rfl rfl (Sl.o ha.outer) g1) (TO.quiet (q_assign rfl) ?_)))
      refine TO.quiet (q_assign rfl) ?_
      refine TO.nil (T.block (T.seq (T.region ?_)))
      refine TO.quiet (q_move rfl) (TO.quiet (q_gtr rfl rfl) (TO.quiet (q_assign rfl) ?_))
      refine TO.nil ?_
      refine T.condP rfl (fun hc => ?_) (fun hc => ?_)
      · have hlt31 : n > 0 := by omega
        obtain ⟨m, hm⟩ : ∃ m, n = m + 1 := ⟨n - 1, by omega⟩
        obtain ⟨q0, hq0⟩ : ∃ q, us[m]? = some q := ⟨us[m]'(by omega), List.getElem?_eq_getElem (by omega)⟩
        have hxq : q0.xs = tabR a m := by
          have h9 := congrArg (·[m]?) hus
          simp only [List.getElem?_map, hq0, List.getElem?_range (show m < n by omega), Option.map_some] at h9
          exact Option.some.inj h9
        refine T.seq (T.region ?_)
        refine TO.quiet (q_move rfl) (TO.quiet (q_len Tryd.underlying41 rfl) (TO.quiet (q_move rfl) ?_))
        refine TO.nil (T.block ?_)
        refine T.loop (fun (x : Nat) ρ O => O = ([rowI (some ⟨z3, 0, none⟩) a.next.length 26 1 (uns (tabX a n s x)), rowI (some ⟨z2, 0, none⟩) 65 62 1 (uvals us ++ ((.slice (some ⟨z3, 0, none⟩) a.next.length a.next.length) :: List.replicate (65 - 1 - n) (.slice none 0 0))), oI z1 25 (dC a k)] ++ (uitms 26 us)) ∧ x ≤ letN a ∧ Heads [(0, (dV a k)), (1, (.pointer (some ⟨z1, 0, none⟩))), (2, (.slice none 0 0)), (3, (.slice (some ⟨z2, 0, none⟩) 65 65)), (4, .int .i64 ((n : Nat) : Int)), (5, .int .i64 ((s : Nat) : Int)), (6, (.slice v1 a.next[s].length c1)), (11, (.slice (some ⟨z2, 0, none⟩) 65 65)), (12, .int .i64 (65 : Int)), (13, .int .i64 ((n : Nat) : Int)), (24, (.slice k.nb a.next.length k.nc)), (25, .int .i64 (a.next.length : Int)), (26, .int .i64 ((s : Nat) : Int)), (31, .bool (decide (((n : Nat) : Int) > 0))), (34, (.slice v1 a.next[s].length c1)), (35, .int .i64 (a.next[s].length : Int)), (36, .int .i64 ((x : Nat) : Int))] ρ) (fun x => letN a - x) 0 ?_ ?_
        · exact ⟨rfl, Nat.zero_le _, ⟨rfl, rfl, rfl, rfl, rfl, rfl, rfl, rfl, rfl, rfl, rfl, rfl, rfl, rfl, rfl, rfl, rfl, trivial⟩⟩
        rintro x ρ O ⟨rfl, hx, hH⟩
        obtain ⟨ρ0, rfl⟩ := hH.elim
        clear hH
        refine T.seq (T.region ?_)
        refine TO.quiet (q_lss rfl rfl) ?_
        refine TO.nil (T.seq ?_)
        refine T.condP rfl (fun hc => ?_) (fun hc => ?_)
        · have hlt37 : x < a.next[s].length := by omega
          have hxl : x < letN a := by omega
          obtain ⟨hto, _, hxk1, hx1⟩ := hv.toN_lt hlt27 hxl
          have hx1 : (ints a.next[s])[x]? = some (.int .i64 ((toN a s x : Nat) : Int)) := by rw [ints_get hxk1, hx1]
          refine T.skip (T.seq (T.block (T.seq (T.region ?_))))
          refine TO.quiet (q_ix (i := x) Tryd.underlying41 inf3 rfl rfl (Sl.o s1) hxk1 (by rw [List.length_map]; exact hxk1)) (TO.quiet (q_ld Tryd.underlying3 rfl rfl (Sl.o s1) hx1) (TO.quiet (q_assign rfl) ?_))
          refine TO.nil (T.seq ?_)
          refine T.draws _ [(0, 0), (1, 0), (2, 0), (3, 0), (4, 0), (5, 0), (6, 0), (7, 0), (8, 0), (9, 0), (10, 0), (11, 0), (12, 0), (13, 0), (14, 0), (15, 0), (16, 0)] mixed (drawF_ok (by kernel_rfl)) (Sub.of (List.Sublist.refl _)) (fun _ _ _ h => h) ?_
          refine DO.quiet rfl (q_move rfl) (DO.quiet rfl (q_move rfl) (DO.quiet rfl (q_ix (i := n) Tryd.underlying64 inf62 rfl rfl (rowO (List.mem_of_getElem? (i := 1) rfl)) hlt14 (by rw [List.length_append, List.length_cons, List.length_map, List.length_replicate]; omega)) (DO.quiet rfl (q_ld Tryd.underlying62 rfl rfl (rowO (List.mem_of_getElem? (i := 1) rfl)) (tget_at hul)) ?_)))
          refine DO.quiet rfl (q_move rfl) (DO.quiet rfl (q_ix (i := s) Tryd.underlying62 inf26 rfl rfl (rowO (List.mem_of_getElem? (i := 0) rfl)) hlt27 (by rw [List.length_map, tabX_len]; omega)) (DO.quiet rfl (q_ld Tryd.underlying26 rfl rfl (rowO (List.mem_of_getElem? (i := 0) rfl)) (tabX_at hm hlt27)) (DO.quiet rfl (q_move rfl) ?_)))
          refine DO.quiet rfl (q_move rfl) (DO.quiet rfl (QT.cast (q_sub64 rfl rfl (by omega)) (v' := .int .i64 ((m : Nat) : Int)) (congrArg (Value.int .i64) (by omega))) (DO.quiet rfl (q_ix (i := m) Tryd.underlying64 inf62 rfl rfl (rowO (List.mem_of_getElem? (i := 1) rfl)) (by omega) (by rw [List.length_append, List.length_cons, List.length_map, List.length_replicate]; omega)) (DO.quiet rfl (q_ld Tryd.underlying62 rfl rfl (rowO (List.mem_of_getElem? (i := 1) rfl)) (tget_lt hq0)) ?_)))
          refine DO.quiet rfl (q_move rfl) (DO.quiet rfl (q_ix (i := (toN a s x)) Tryd.underlying62 inf26 rfl rfl (hxq ▸ uitmO (List.mem_append_right _ (List.mem_map_of_mem (List.mem_of_getElem? hq0)))) (by rw [hxq, tabR_len]; exact hto) (by rw [List.length_map, tabR_len]; exact hto)) (DO.quiet rfl (q_ld Tryd.underlying26 rfl rfl (hxq ▸ uitmO (List.mem_append_right _ (List.mem_map_of_mem (List.mem_of_getElem? hq0)))) (tabR_get hto)) (DO.quiet rfl (q_addM rfl rfl) ?_)))
          refine DO.quiet rfl (q_assign rfl) ?_
          refine DO.done ?_
          refine T.seq (T.seq (T.region ?_))
          refine TO.quiet (q_move rfl) (TO.quiet (q_move rfl) (TO.quiet (q_move rfl) (TO.quiet (q_ix (i := n) Tryd.underlying64 inf62 rfl rfl (rowO (List.mem_of_getElem? (i := 1) rfl)) hlt14 (by rw [List.length_append, List.length_cons, List.length_map, List.length_replicate]; omega)) ?_)))
          refine TO.quiet (q_ld Tryd.underlying62 rfl rfl (rowO (List.mem_of_getElem? (i := 1) rfl)) (tget_at hul)) (TO.quiet (q_move rfl) (TO.quiet (q_ix (i := s) Tryd.underlying62 inf26 rfl rfl (rowO (List.mem_of_getElem? (i := 0) rfl)) hlt27 (by rw [List.length_map, tabX_len]; omega)) (TO.quiet (q_ld Tryd.underlying26 rfl rfl (rowO (List.mem_of_getElem? (i := 0) rfl)) (tabX_at hm hlt27)) ?_)))
          refine TO.quiet (q_lss rfl rfl) ?_
          refine TO.nil ?_
          refine T.condP rfl (fun hc => ?_) (fun hc => ?_)
          · have hlt64 : ((psat 18446744073709551615 a m s x + satN 18446744073709551615 a m (toN a s x)) % 18446744073709551616) < psat 18446744073709551615 a m s x := by omega
            have hov : ((psat 18446744073709551615 a m s x + satN 18446744073709551615 a m (toN a s x)) % 18446744073709551616) < psat 18446744073709551615 a m s x := by omega
            refine T.region ?_
            refine TO.quiet (q_assign rfl) ?_
            refine TO.nil (T.region ?_)
            refine TO.quiet (q_move rfl) (TO.quiet (q_move rfl) (TO.quiet (q_ix (i := n) Tryd.underlying64 inf62 rfl rfl (rowO (List.mem_of_getElem? (i := 1) rfl)) hlt14 (by rw [List.length_append, List.length_cons, List.length_map, List.length_replicate]; omega)) (TO.quiet (q_ld Tryd.underlying62 rfl rfl (rowO (List.mem_of_getElem? (i := 1) rfl)) (tget_at hul)) ?_)))
            refine TO.quiet (q_move rfl) (TO.quiet (q_move rfl) (TO.quiet (q_ix (i := s) Tryd.underlying62 inf26 rfl rfl (rowO (List.mem_of_getElem? (i := 0) rfl)) hlt27 (by rw [List.length_map, tabX_len]; omega)) ?_))
            refine TO.loud rfl (l_st (j := s) (v := .int .u64 18446744073709551615) (vs := [(.int .u64 18446744073709551615)]) (cs := uns (tabX a n s x)) 0 inf26 rfl rfl rfl rfl rfl (by simp) rfl (by rw [List.length_map, tabX_len]; simp; omega) ?_)
            refine TO.sub (O' := ([rowI (some ⟨z3, 0, none⟩) a.next.length 26 1 (uns ((tabX a n s x).set s 18446744073709551615)), rowI (some ⟨z2, 0, none⟩) 65 62 1 (uvals us ++ ((.slice (some ⟨z3, 0, none⟩) a.next.length a.next.length) :: List.replicate (65 - 1 - n) (.slice none 0 0))), oI z1 25 (dC a k)] ++ (uitms 26 us))) (by rw [show putL (uns (tabX a n s x)) s [(.int .u64 18446744073709551615)] = uns ((tabX a n s x).set s 18446744073709551615) from by simp [putL]]; exact Sub.of (List.Sublist.refl _)) ?_
            refine TO.nil (T.region ?_)
            refine TO.quiet (q_addN (a := x) (b := 1) rfl rfl (by omega)) (TO.quiet (q_move rfl) ?_)
            refine TO.nil ?_
            exact ⟨x + 1, by omega, by rw [tabX_set hm hlt27 (psat_hit hov).symm], by omega, ⟨rfl, rfl, rfl, rfl, rfl, rfl, rfl, rfl, rfl, rfl, rfl, rfl, rfl, rfl, rfl, rfl, rfl, trivial⟩⟩
          have hge64 : ¬ ((psat 18446744073709551615 a m s x + satN 18446744073709551615 a m (toN a s x)) % 18446744073709551616) < psat 18446744073709551615 a m s x := by omega
          have hov : ¬ ((psat 18446744073709551615 a m s x + satN 18446744073709551615 a m (toN a s x)) % 18446744073709551616) < psat 18446744073709551615 a m s x := by omega
          refine T.skip (T.region ?_)
          refine TO.quiet (q_move rfl) (TO.quiet (q_move rfl) (TO.quiet (q_ix (i := n) Tryd.underlying64 inf62 rfl rfl (rowO (List.mem_of_getElem? (i := 1) rfl)) hlt14 (by rw [List.length_append, List.length_cons, List.length_map, List.length_replicate]; omega)) (TO.quiet (q_ld Tryd.underlying62 rfl rfl (rowO (List.mem_of_getElem? (i := 1) rfl)) (tget_at hul)) ?_)))
          refine TO.quiet (q_move rfl) (TO.quiet (q_move rfl) (TO.quiet (q_ix (i := s) Tryd.underlying62 inf26 rfl rfl (rowO (List.mem_of_getElem? (i := 0) rfl)) hlt27 (by rw [List.length_map, tabX_len]; omega)) ?_))
          refine TO.loud rfl (l_st (j := s) (v := .int .u64 ((((psat 18446744073709551615 a m s x + satN 18446744073709551615 a m (toN a s x)) % 18446744073709551616) : Nat) : Int)) (vs := [(.int .u64 ((((psat 18446744073709551615 a m s x + satN 18446744073709551615 a m (toN a s x)) % 18446744073709551616) : Nat) : Int))]) (cs := uns (tabX a n s x)) 0 inf26 rfl rfl rfl rfl rfl (by simp) rfl (by rw [List.length_map, tabX_len]; simp; omega) ?_)
          refine TO.sub (O' := ([rowI (some ⟨z3, 0, none⟩) a.next.length 26 1 (uns ((tabX a n s x).set s ((psat 18446744073709551615 a m s x + satN 18446744073709551615 a m (toN a s x)) % 18446744073709551616))), rowI (some ⟨z2, 0, none⟩) 65 62 1 (uvals us ++ ((.slice (some ⟨z3, 0, none⟩) a.next.length a.next.length) :: List.replicate (65 - 1 - n) (.slice none 0 0))), oI z1 25 (dC a k)] ++ (uitms 26 us))) (by rw [show putL (uns (tabX a n s x)) s [(.int .u64 ((((psat 18446744073709551615 a m s x + satN 18446744073709551615 a m (toN a s x)) % 18446744073709551616) : Nat) : Int))] = uns ((tabX a n s x).set s ((psat 18446744073709551615 a m s x + satN 18446744073709551615 a m (toN a s x)) % 18446744073709551616)) from by simp [putL]]; exact Sub.of (List.Sublist.refl _)) ?_
          refine TO.nil (T.region ?_)
          refine TO.quiet (q_addN (a := x) (b := 1) rfl rfl (by omega)) (TO.quiet (q_move rfl) ?_)
          refine TO.nil ?_
          exact ⟨x + 1, by omega, by rw [tabX_set hm hlt27 (psat_miss hov).symm], by omega, ⟨rfl, rfl, rfl, rfl, rfl, rfl, rfl, rfl, rfl, rfl, rfl, rfl, rfl, rfl, rfl, rfl, rfl, trivial⟩⟩
        have hge37 : ¬ x < a.next[s].length := by omega
        refine T.exit ?_
        refine T.region ?_
        refine TO.quiet (q_addN (a := s) (b := 1) rfl rfl (by omega)) (TO.quiet (q_move rfl) ?_)
        refine TO.nil ?_
        exact ⟨s + 1, by omega, by rw [tabX_row hm (show x = letN a by omega)], by omega, ⟨rfl, rfl, rfl, rfl, rfl, rfl, rfl, rfl, rfl, rfl, rfl, trivial⟩⟩
      have hge31 : ¬ n > 0 := by omega
      have hn0 : n = 0 := by omega
      refine T.seq (T.region ?_)
      refine TO.quiet (q_fieldAddr Tryd.underlying25 rfl inf23 rfl rfl) (TO.quiet (q_load_box 2 Tryd.underlying23 rfl rfl rfl rfl) (TO.quiet (q_move rfl) (TO.quiet (q_ix (i := s) Tryd.underlying23 inf4 rfl rfl (Sl.o ha.final) (by omega) (by rw [List.length_map]; omega)) ?_)))
      refine TO.quiet (q_ld Tryd.underlying4 rfl rfl (Sl.o ha.final) (bools_get (by omega))) (TO.quiet (q_assign rfl) ?_)
      refine TO.nil ?_
      refine T.cond rfl (fun hc => ?_) (fun hc => ?_)
      · have hfn : finN a s = true := by rw [← hc]; simp [finN, show s < a.final.length by omega]
        refine T.region ?_
        refine TO.quiet (q_move rfl) (TO.quiet (q_move rfl) (TO.quiet (q_ix (i := n) Tryd.underlying64 inf62 rfl rfl (rowO (List.mem_of_getElem? (i := 1) rfl)) hlt14 (by rw [List.length_append, List.length_cons, List.length_map, List.length_replicate]; omega)) (TO.quiet (q_ld Tryd.underlying62 rfl rfl (rowO (List.mem_of_getElem? (i := 1) rfl)) (tget_at hul)) ?_)))
        refine TO.quiet (q_move rfl) (TO.quiet (q_ix (i := s) Tryd.underlying62 inf26 rfl rfl (rowO (List.mem_of_getElem? (i := 0) rfl)) hlt27 (by rw [List.length_map, tabX_len]; omega)) ?_)
        refine TO.loud rfl (l_st (j := s) (v := .int .u64 1) (vs := [(.int .u64 1)]) (cs := uns (tabX a n s 0)) 0 inf26 rfl rfl rfl rfl rfl (by simp) rfl (by rw [List.length_map, tabX_len]; simp; omega) ?_)
        refine TO.sub (O' := ([rowI (some ⟨z3, 0, none⟩) a.next.length 26 1 (uns ((tabX a n s 0).set s 1)), rowI (some ⟨z2, 0, none⟩) 65 62 1 (uvals us ++ ((.slice (some ⟨z3, 0, none⟩) a.next.length a.next.length) :: List.replicate (65 - 1 - n) (.slice none 0 0))), oI z1 25 (dC a k)] ++ (uitms 26 us))) (by rw [show putL (uns (tabX a n s 0)) s [(.int .u64 1)] = uns ((tabX a n s 0).set s 1) from by simp [putL]]; exact Sub.of (List.Sublist.refl _)) ?_
        refine TO.nil (T.region ?_)
        refine TO.quiet (q_addN (a := s) (b := 1) rfl rfl (by omega)) (TO.quiet (q_move rfl) ?_)
        refine TO.nil ?_
        exact ⟨s + 1, by omega, by rw [← tabX_yes hn0 hlt27 hfn], by omega, ⟨rfl, rfl, rfl, rfl, rfl, rfl, rfl, rfl, rfl, rfl, rfl, trivial⟩⟩
      have hfn : finN a s = false := by rw [← hc]; simp [finN, show s < a.final.length by omega]
      refine T.skip (T.region ?_)
      refine TO.quiet (q_addN (a := s) (b := 1) rfl rfl (by omega)) (TO.quiet (q_move rfl) ?_)
      refine TO.nil ?_
      exact ⟨s + 1, by omega, by rw [← tabX_no hn0 hfn], by omega, ⟨rfl, rfl, rfl, rfl, rfl, rfl, rfl, rfl, rfl, rfl, rfl, trivial⟩⟩
    have hge27 : ¬ s < a.next.length := by omega
    refine T.exit ?_
    have hse : s = a.next.length := by omega
    refine T.sub (O' := (([rowI (some ⟨z2, 0, none⟩) 65 62 1 (uvals us ++ ((.slice (some ⟨z3, 0, none⟩) a.next.length a.next.length) :: List.replicate (65 - 1 - n) (.slice none 0 0))), oI z1 25 (dC a k)] ++ [rowI (some ⟨z3, 0, none⟩) a.next.length 26 1 (uns (tabR a n))]) ++ uitms 26 us)) (by rw [← tabX_end hse]; exact Sub.pull [rowI (some ⟨z3, 0, none⟩) a.next.length 26 1 (uns (tabX a n s 0))] _ (.pull [rowI (some ⟨z3, 0, none⟩) a.next.length 26 1 (uns (tabX a n s 0))] _ (.k .rf))) ?_
    refine T.sub (O' := ([rowI (some ⟨z2, 0, none⟩) 65 62 1 (uvals (us ++ [⟨(some ⟨z3, 0, none⟩), a.next.length, tabR a n⟩]) ++ List.replicate (65 - 1 - n) (.slice none 0 0)), oI z1 25 (dC a k)] ++ uitms 26 (us ++ [⟨(some ⟨z3, 0, none⟩), a.next.length, tabR a n⟩]))) (by rw [show uvals (us ++ [⟨(some ⟨z3, 0, none⟩), a.next.length, tabR a n⟩]) = uvals us ++ [(.slice (some ⟨z3, 0, none⟩) a.next.length a.next.length)] by simp [URec.val, tabR_len], List.append_assoc]; exact Sub.foldN [rowI (some ⟨z2, 0, none⟩) 65 62 1 (uvals us ++ ((.slice (some ⟨z3, 0, none⟩) a.next.length a.next.length) :: List.replicate (65 - 1 - n) (.slice none 0 0))), oI z1 25 (dC a k)] (rowI (some ⟨z3, 0, none⟩) a.next.length 26 1 (uns (tabR a n))) (uitms 26 us) _ (uitms_snoc 26 us ⟨(some ⟨z3, 0, none⟩), a.next.length, tabR a n⟩)) ?_
    refine T.region ?_
    refine TO.quiet (q_addN (a := n) (b := 1) rfl rfl (by omega)) (TO.quiet (q_move rfl) ?_)
    refine TO.nil ?_
    exact ⟨n + 1, by omega, us ++ [⟨(some ⟨z3, 0, none⟩), a.next.length, tabR a n⟩], by rw [show 65 - (n + 1) = 65 - 1 - n by omega], by omega, by rw [List.map_append, hus, List.range_succ, List.map_append]; rfl, ⟨rfl, rfl, rfl, rfl, rfl, rfl, rfl, trivial⟩⟩
  have hge14 : ¬ n < 65 := by omega
  refine T.exit ?_
  refine T.seq (T.region ?_)
  refine TO.quiet (q_move rfl) (TO.quiet (q_assign rfl) ?_)
  refine TO.nil (T.ret (Res.drop ?_))
  refine Res.one (.slice (some ⟨z2, 0, none⟩) 65 65) Tryd.results42 rfl ?_
  obtain rfl : n = 65 := by omega
  exact ⟨([rowI (some ⟨z2, 0, none⟩) 65 62 1 (uvals us)] ++ uitms 26 us), (by rw [show uvals us ++ List.replicate (65 - 65) (.slice none 0 0) = uvals us by simp]; exact Sub.k (Sub.d Sub.rf)), (some ⟨z2, 0, none⟩), us, hus, rfl, rfl⟩
theorem tableC (w : World) [Tab Tryd.prog w] (a : DFA) (k : DK) (ha : At w a k) (hv : Valid a) :
    PureT Tryd.prog 42 [dV a k] w fun v N => ∃ tb us, TabOk a us ∧ v = .slice tb 65 65 ∧ N = [tabI 62 26 a tb us] :=
  CallT.packR (tableN w a k ha hv) fun v O' hR => by
    obtain ⟨tb, us, h1, h2, h3⟩ := hR
    exact ⟨TabOk a us, _, [], h1, by rw [h3]; simp, tb, us, h1, h2, rfl⟩
end Go.Proofs.YtnmfefmhfkhihaaDoor


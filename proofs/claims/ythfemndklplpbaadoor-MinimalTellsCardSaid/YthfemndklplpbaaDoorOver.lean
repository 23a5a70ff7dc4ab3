/- Contracts of functions of the program (Over): what each call answers and that it leaves memory as it was. Conditions: those each theorem names. -/
import Derived.Test.YthfemndklplpbaaDoorKit
import Derived.Test.YthfemndklplpbaaDoorCoreI
set_option linter.unusedSectionVars false
set_option linter.unusedSimpArgs false
set_option linter.unusedVariables false
set_option linter.unnecessarySimpa false
namespace Go.Proofs.YthfemndklplpbaaDoor
open Go.Lx Go.RowKit
set_option linter.unusedVariables false
set_option linter.unusedSimpArgs false

set_option maxHeartbeats 1000000 in
set_option maxRecDepth 20000 in
theorem overInts (base : World) (b : Option Addr) (c c' : Nat) (xs : List Int) (hb : xs.length < 9223372036854775807) :
    CallT Tryd.prog base 23 [.slice b xs.length c'] [rowI b c 3 1 (ints xs)] (fun _ O' => O' = []) := by
  refine CallT.enter Tryd.func23 rfl Tryd.ntmps23 rfl ?_
  refine T.seq ?_
  refine T.region ?_
  refine TO.quiet (q_assign rfl) ?_
  refine TO.nil ?_
  refine T.block ?_
  refine T.loop (fun (k : Nat) ρ O => ∃ (ys : List Int), O = [rowI b c 3 1 (ints ys)] ∧ k ≤ xs.length ∧ ys.length = xs.length ∧ Heads [(0, (.slice b xs.length c')), (2, .int .i64 (k : Int))] ρ) (fun k => xs.length - k) 0 ?_ ?_
  · exact ⟨xs, rfl, Nat.zero_le _, rfl, ⟨rfl, rfl, trivial⟩⟩
  · rintro k ρ O ⟨ys, rfl, hk, hyl, hH⟩
    obtain ⟨ρ0, rfl⟩ := hH.elim
    clear hH
    refine T.seq ?_
    refine T.seq ?_
    refine T.region ?_
    refine TO.quiet (q_move rfl) ?_
    refine TO.quiet (q_move rfl) ?_
    refine TO.quiet (q_len Tryd.underlying33 rfl) ?_
    refine TO.quiet (q_lss rfl rfl) ?_
    refine TO.nil ?_
    refine T.condP rfl (fun hc => ?_) (fun hc => ?_)
    · have hlt : k < ys.length := by omega
      refine T.skip ?_
      refine T.seq ?_
      refine T.block ?_
      refine T.region ?_
      refine TO.quiet (q_move rfl) ?_
      refine TO.quiet (q_move rfl) ?_
      refine TO.quiet (q_ix (i := k) Tryd.underlying33 inf3 rfl rfl (rowO (List.mem_of_getElem? (i := 0) rfl)) (by first | assumption | omega | (simp; omega) | simp_all) (by first | (simp; done) | (simp; omega) | (simp_all; done) | (simp_all; omega))) ?_
      refine TO.loud rfl (l_st (j := k) (v := .int .i64 (-77)) (vs := [(.int .i64 (-77))]) (cs := ints ys) 0 inf3 rfl rfl rfl rfl rfl (by simp) rfl (by first | (simp; omega) | (simp_all; omega)) ?_)
      refine TO.sub (O' := [rowI b c 3 1 (ints (ys.set k (-77)))]) (by rw [show putL (ints ys) k [(.int .i64 (-77))] = ints (ys.set k (-77)) from by simp [putL]]; exact Sub.of (List.Sublist.refl _)) ?_
      refine TO.nil ?_
      refine T.region ?_
      refine TO.quiet (q_move rfl) ?_
      refine TO.quiet (q_inc rfl rfl (by omega)) ?_
      refine TO.quiet (q_assign rfl) ?_
      refine TO.nil ?_
      exact ⟨k + 1, by omega, ys.set k (-77), rfl, by omega, by simp [hyl], ⟨rfl, rfl, trivial⟩⟩
    · refine T.exit ?_
      refine Res.drop ?_
      refine Res.zero Tryd.results23 ?_
      exact ⟨[], Sub.of (List.nil_sublist _), rfl⟩

set_option maxHeartbeats 1000000 in
set_option maxRecDepth 20000 in
theorem overBytes (base : World) (b : Option Addr) (c c' : Nat) (xs : List Nat) (hb : xs.length < 9223372036854775807) :
    CallT Tryd.prog base 29 [.slice b xs.length c'] [rowI b c 5 1 (byts xs)] (fun _ O' => O' = []) := by
  refine CallT.enter Tryd.func29 rfl Tryd.ntmps29 rfl ?_
  refine T.seq ?_
  refine T.region ?_
  refine TO.quiet (q_assign rfl) ?_
  refine TO.nil ?_
  refine T.block ?_
  refine T.loop (fun (k : Nat) ρ O => ∃ (ys : List Nat), O = [rowI b c 5 1 (byts ys)] ∧ k ≤ xs.length ∧ ys.length = xs.length ∧ Heads [(0, (.slice b xs.length c')), (2, .int .i64 (k : Int))] ρ) (fun k => xs.length - k) 0 ?_ ?_
  · exact ⟨xs, rfl, Nat.zero_le _, rfl, ⟨rfl, rfl, trivial⟩⟩
  · rintro k ρ O ⟨ys, rfl, hk, hyl, hH⟩
    obtain ⟨ρ0, rfl⟩ := hH.elim
    clear hH
    refine T.seq ?_
    refine T.seq ?_
    refine T.region ?_
    refine TO.quiet (q_move rfl) ?_
    refine TO.quiet (q_move rfl) ?_
    refine TO.quiet (q_len Tryd.underlying42 rfl) ?_
    refine TO.quiet (q_lss rfl rfl) ?_
    refine TO.nil ?_
    refine T.condP rfl (fun hc => ?_) (fun hc => ?_)
    · have hlt : k < ys.length := by omega
      refine T.skip ?_
      refine T.seq ?_
      refine T.block ?_
      refine T.region ?_
      refine TO.quiet (q_move rfl) ?_
      refine TO.quiet (q_move rfl) ?_
      refine TO.quiet (q_ix (i := k) Tryd.underlying42 inf5 rfl rfl (rowO (List.mem_of_getElem? (i := 0) rfl)) (by first | assumption | omega | (simp; omega) | simp_all) (by first | (simp; done) | (simp; omega) | (simp_all; done) | (simp_all; omega))) ?_
      refine TO.loud rfl (l_st (j := k) (v := .int .u8 201) (vs := [(.int .u8 201)]) (cs := byts ys) 0 inf5 rfl rfl rfl rfl rfl (by simp) rfl (by first | (simp; omega) | (simp_all; omega)) ?_)
      refine TO.sub (O' := [rowI b c 5 1 (byts (ys.set k 201))]) (by rw [show putL (byts ys) k [(.int .u8 201)] = byts (ys.set k 201) from by simp [putL]]; exact Sub.of (List.Sublist.refl _)) ?_
      refine TO.nil ?_
      refine T.region ?_
      refine TO.quiet (q_move rfl) ?_
      refine TO.quiet (q_inc rfl rfl (by omega)) ?_
      refine TO.quiet (q_assign rfl) ?_
      refine TO.nil ?_
      exact ⟨k + 1, by omega, ys.set k 201, rfl, by omega, by simp [hyl], ⟨rfl, rfl, trivial⟩⟩
    · refine T.exit ?_
      refine Res.drop ?_
      refine Res.zero Tryd.results29 ?_
      exact ⟨[], Sub.of (List.nil_sublist _), rfl⟩

set_option maxHeartbeats 1000000 in
set_option maxRecDepth 20000 in
theorem overBools (base : World) (b : Option Addr) (c c' : Nat) (xs : List Bool) (hb : xs.length < 9223372036854775807) :
    CallT Tryd.prog base 49 [.slice b xs.length c'] [rowI b c 4 1 (bools xs)] (fun _ O' => O' = []) := by
  refine CallT.enter Tryd.func49 rfl Tryd.ntmps49 rfl ?_
  refine T.seq ?_
  refine T.region ?_
  refine TO.quiet (q_assign rfl) ?_
  refine TO.nil ?_
  refine T.block ?_
  refine T.loop (fun (k : Nat) ρ O => ∃ (ys : List Bool), O = [rowI b c 4 1 (bools ys)] ∧ k ≤ xs.length ∧ ys.length = xs.length ∧ Heads [(0, (.slice b xs.length c')), (2, .int .i64 (k : Int))] ρ) (fun k => xs.length - k) 0 ?_ ?_
  · exact ⟨xs, rfl, Nat.zero_le _, rfl, ⟨rfl, rfl, trivial⟩⟩
  · rintro k ρ O ⟨ys, rfl, hk, hyl, hH⟩
    obtain ⟨ρ0, rfl⟩ := hH.elim
    clear hH
    refine T.seq ?_
    refine T.seq ?_
    refine T.region ?_
    refine TO.quiet (q_move rfl) ?_
    refine TO.quiet (q_move rfl) ?_
    refine TO.quiet (q_len Tryd.underlying23 rfl) ?_
    refine TO.quiet (q_lss rfl rfl) ?_
    refine TO.nil ?_
    refine T.condP rfl (fun hc => ?_) (fun hc => ?_)
    · have hlt : k < ys.length := by omega
      refine T.skip ?_
      refine T.seq ?_
      refine T.block ?_
      refine T.region ?_
      refine TO.quiet (q_move rfl) ?_
      refine TO.quiet (q_move rfl) ?_
      refine TO.quiet (q_move rfl) ?_
      refine TO.quiet (q_move rfl) ?_
      refine TO.quiet (q_ix (i := k) Tryd.underlying23 inf4 rfl rfl (rowO (List.mem_of_getElem? (i := 0) rfl)) (by first | assumption | omega | (simp; omega) | simp_all) (by first | (simp; done) | (simp; omega) | (simp_all; done) | (simp_all; omega))) ?_
      refine TO.quiet (q_ld Tryd.underlying4 rfl rfl (rowO (List.mem_of_getElem? (i := 0) rfl)) (bools_get (by first | assumption | omega | (simp; omega) | simp_all))) ?_
      refine TO.quiet (q_not rfl) ?_
      refine TO.quiet (q_ix (i := k) Tryd.underlying23 inf4 rfl rfl (rowO (List.mem_of_getElem? (i := 0) rfl)) (by first | assumption | omega | (simp; omega) | simp_all) (by first | (simp; done) | (simp; omega) | (simp_all; done) | (simp_all; omega))) ?_
      refine TO.loud rfl (l_st (j := k) (v := .bool (!ys[k])) (vs := [(.bool (!ys[k]))]) (cs := bools ys) 0 inf4 rfl rfl rfl rfl rfl (by simp) rfl (by first | (simp; omega) | (simp_all; omega)) ?_)
      refine TO.sub (O' := [rowI b c 4 1 (bools (ys.set k (!ys[k])))]) (by rw [show putL (bools ys) k [(.bool (!ys[k]))] = bools (ys.set k (!ys[k])) from by simp [putL]]; exact Sub.of (List.Sublist.refl _)) ?_
      refine TO.nil ?_
      refine T.region ?_
      refine TO.quiet (q_move rfl) ?_
      refine TO.quiet (q_inc rfl rfl (by omega)) ?_
      refine TO.quiet (q_assign rfl) ?_
      refine TO.nil ?_
      exact ⟨k + 1, by omega, ys.set k (!ys[k]), rfl, by omega, by simp [hyl], ⟨rfl, rfl, trivial⟩⟩
    · refine T.exit ?_
      refine Res.drop ?_
      refine Res.zero Tryd.results49 ?_
      exact ⟨[], Sub.of (List.nil_sublist _), rfl⟩

set_option maxHeartbeats 1000000 in
set_option maxRecDepth 20000 in
theorem overRows (base : World) (b : Option Addr) (c c' : Nat) (qs : List Rec) (hb : qs.length < 9223372036854775807) (hbr : ∀ q ∈ qs, q.xs.length < 9223372036854775807) :
    CallT Tryd.prog base 48 [.slice b qs.length c'] (rowI b c 33 1 (vals qs) :: itms 3 qs) (fun _ O' => O' = []) := by
  refine CallT.enter Tryd.func48 rfl Tryd.ntmps48 rfl ?_
  refine T.seq ?_
  refine T.region ?_
  refine TO.quiet (q_assign rfl) ?_
  refine TO.nil ?_
  refine T.block ?_
  refine T.loop (fun (k : Nat) ρ O => O = ([rowI b c 33 1 (vals qs)] ++ itms 3 (qs.drop k)) ∧ k ≤ qs.length ∧ Heads [(0, (.slice b qs.length c')), (2, .int .i64 (k : Int))] ρ) (fun k => qs.length - k) 0 ?_ ?_
  · exact ⟨rfl, Nat.zero_le _, ⟨rfl, rfl, trivial⟩⟩
  · rintro k ρ O ⟨rfl, hk, hH⟩
    obtain ⟨ρ0, rfl⟩ := hH.elim
    clear hH
    refine T.seq ?_
    refine T.seq ?_
    refine T.region ?_
    refine TO.quiet (q_move rfl) ?_
    refine TO.quiet (q_move rfl) ?_
    refine TO.quiet (q_len Tryd.underlying22 rfl) ?_
    refine TO.quiet (q_lss rfl rfl) ?_
    refine TO.nil ?_
    refine T.condP rfl (fun hc => ?_) (fun hc => ?_)
    · have hlt : k < qs.length := by omega
      have hit : itms 3 (qs.drop k) = rowI qs[k].b qs[k].c 3 1 (ints qs[k].xs) :: itms 3 (qs.drop (k + 1)) := by rw [List.drop_eq_getElem_cons hlt]; rfl
      refine T.skip ?_
      refine T.seq ?_
      refine T.block ?_
      refine T.region ?_
      refine TO.quiet (q_move rfl) ?_
      refine TO.quiet (q_move rfl) ?_
      refine TO.quiet (q_ix (i := k) Tryd.underlying22 inf33 rfl rfl (rowO (List.mem_of_getElem? (i := 0) rfl)) (by first | assumption | omega | (simp; omega) | simp_all) (by first | (simp; done) | (simp; omega) | (simp_all; done) | (simp_all; omega))) ?_
      refine TO.quiet (q_ld Tryd.underlying33 rfl rfl (rowO (List.mem_of_getElem? (i := 0) rfl)) (show (vals qs)[k]? = some (.slice qs[k].b qs[k].xs.length qs[k].c) by simp [hlt, Rec.val])) ?_
      have hk13 := CallT.under (B := rowI b c 33 1 (vals qs) :: itms 3 (qs.drop (k + 1))) (O := ([rowI b c 33 1 (vals qs)] ++ itms 3 (qs.drop k))) (overInts base qs[k].b qs[k].c qs[k].c qs[k].xs (hbr _ (List.getElem_mem hlt))) (by rw [hit]; exact Sub.cnt [] (by intro a; simp only [List.set_cons_zero, List.set_cons_succ, putL, List.cons_append, List.nil_append, List.append_nil, List.append_assoc, List.map_append, List.map_cons, List.map_nil, cnt_append, cnt_cons, cnt_nil]; omega))
      refine TO.loud rfl (l_call ent23 hk13 rfl ?_)
      clear hk13
      rintro v O' ⟨A1, rfl, rfl⟩
      refine TO.nil ?_
      refine T.region ?_
      refine TO.quiet (q_move rfl) ?_
      refine TO.quiet (q_inc rfl rfl (by omega)) ?_
      refine TO.quiet (q_assign rfl) ?_
      refine TO.nil ?_
      exact ⟨k + 1, by omega, rfl, by omega, ⟨rfl, rfl, trivial⟩⟩
    · refine T.exit ?_
      refine Res.drop ?_
      refine Res.zero Tryd.results48 ?_
      exact ⟨[], Sub.of (List.nil_sublist _), rfl⟩

set_option maxHeartbeats 1000000 in
set_option maxRecDepth 20000 in
theorem overDFA (base : World) (d : DFA) (nb fb : Option Addr) (nc fc n1 f1 : Nat) (qs : List Rec) (hq : nums qs = d.next) (hb : d.next.length < 9223372036854775807) (hbr : ∀ r ∈ d.next, r.length < 9223372036854775807) (hbf : d.final.length < 9223372036854775807) :
    CallT Tryd.prog base 22 [.agg (dfaCells d nb nc fb fc).toArray] ([rowI nb n1 33 1 (vals qs), rowI fb f1 4 1 (bools d.final)] ++ itms 3 qs) (fun _ O' => O' = []) := by
  refine CallT.enter Tryd.func22 rfl Tryd.ntmps22 rfl ?_
  have hql : qs.length = d.next.length := by rw [← hq]; simp
  have hqr : ∀ q ∈ qs, q.xs.length < 9223372036854775807 := fun q h => hbr _ (by rw [← hq]; exact List.mem_map_of_mem h)
  refine T.seq ?_
  refine T.region ?_
  refine TO.loud rfl (l_box (v := (.agg #[(.int .i64 d.vars), (.int .i64 d.start), (.slice nb d.next.length nc), (.slice fb d.final.length fc)])) (cs := [(.int .i64 d.vars), (.int .i64 d.start), (.slice nb d.next.length nc), (.slice fb d.final.length fc)]) rfl rfl (fun b1 => ?_))
  refine TO.nil ?_
  refine T.seq ?_
  refine T.region ?_
  refine TO.quiet (q_fieldAddr Tryd.underlying25 rfl inf22 rfl rfl) ?_
  refine TO.quiet (q_load_box 0 Tryd.underlying22 rfl rfl rfl rfl) ?_
  have hk4 := CallT.under (B := [objI b1 (.cells [(.int .i64 d.vars), (.int .i64 d.start), (.slice nb d.next.length nc), (.slice fb d.final.length fc)].toArray 25 (0, 0)), rowI fb f1 4 1 (bools d.final)]) (O := ([objI b1 (.cells [(.int .i64 d.vars), (.int .i64 d.start), (.slice nb d.next.length nc), (.slice fb d.final.length fc)].toArray 25 (0, 0)), rowI nb n1 33 1 (vals qs), rowI fb f1 4 1 (bools d.final)] ++ itms 3 qs)) (hql ▸ overRows base nb n1 nc qs (by omega) hqr) (Sub.cnt [] (by intro a; simp only [List.set_cons_zero, List.set_cons_succ, putL, List.cons_append, List.nil_append, List.append_nil, List.append_assoc, List.map_append, List.map_cons, List.map_nil, cnt_append, cnt_cons, cnt_nil]; omega))
  refine TO.loud rfl (l_call ent48 hk4 rfl ?_)
  clear hk4
  rintro v O' ⟨A1, rfl, rfl⟩
  refine TO.nil ?_
  refine T.region ?_
  refine TO.quiet (q_fieldAddr Tryd.underlying25 rfl inf23 rfl rfl) ?_
  refine TO.quiet (q_load_box 0 Tryd.underlying23 rfl rfl rfl rfl) ?_
  have hk7 := CallT.under (B := [objI b1 (.cells [(.int .i64 d.vars), (.int .i64 d.start), (.slice nb d.next.length nc), (.slice fb d.final.length fc)].toArray 25 (0, 0))]) (O := [objI b1 (.cells [(.int .i64 d.vars), (.int .i64 d.start), (.slice nb d.next.length nc), (.slice fb d.final.length fc)].toArray 25 (0, 0)), rowI fb f1 4 1 (bools d.final)]) (overBools base fb f1 fc d.final hbf) (Sub.cnt [] (by intro a; simp only [List.set_cons_zero, List.set_cons_succ, putL, List.cons_append, List.nil_append, List.append_nil, List.append_assoc, List.map_append, List.map_cons, List.map_nil, cnt_append, cnt_cons, cnt_nil]; omega))
  refine TO.loud rfl (l_call ent49 hk7 rfl ?_)
  clear hk7
  rintro v O' ⟨A1, rfl, rfl⟩
  refine TO.nil ?_
  refine Res.drop ?_
  refine Res.zero Tryd.results22 ?_
  exact ⟨[], Sub.of (List.nil_sublist _), rfl⟩
end Go.Proofs.YthfemndklplpbaaDoor

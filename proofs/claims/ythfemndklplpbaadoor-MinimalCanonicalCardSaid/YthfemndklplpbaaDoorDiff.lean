/- Contracts of functions of the program (Diff): what each call answers and that it leaves memory as it was. Conditions: those each theorem names. -/
import Derived.Test.YthfemndklplpbaaDoorCheck
import Derived.Test.YthfemndklplpbaaDoorMat
set_option linter.unusedSectionVars false
set_option linter.unusedSimpArgs false
set_option linter.unusedVariables false
set_option linter.unnecessarySimpa false
namespace Go.Proofs.YthfemndklplpbaaDoor
open Go.Lx Go.RowKit
set_option linter.unusedVariables false
set_option linter.unusedSimpArgs false

set_option maxHeartbeats 4000000 in
set_option maxRecDepth 20000 in
theorem differC (w : World) (d : DFA) (nb fb : Option Addr) (nc fc : Nat) (vs : List Value) (h : DfaAt w d nb vs fb) (hv : Valid d) (hn : d.next.length < 100) (k : Int) :
    PureT Tryd.prog 41 [.agg (dfaCells d nb nc fb fc).toArray, .int .i64 k] w fun v N => ∃ b c qs, v = .slice b d.next.length c ∧ N = rowI b c 23 1 (bvals qs) :: bitms 4 qs ∧ MatOk d (min k.toNat d.next.length) d.next.length qs := by
  refine CallT.enter Tryd.func41 rfl Tryd.ntmps41 rfl ?_
  have hb : d.next.length < 9223372036854775807 := by omega
  have hvl := h.rows.1
  have hfl := hv.fin
  have hww := hv.width
  refine T.seq ?_
  refine T.region ?_
  refine TO.loud rfl (l_box (v := (.agg #[(.int .i64 d.vars), (.int .i64 d.start), (.slice nb d.next.length nc), (.slice fb d.final.length fc)])) (cs := [(.int .i64 d.vars), (.int .i64 d.start), (.slice nb d.next.length nc), (.slice fb d.final.length fc)]) rfl rfl (fun z1 => ?_))
  refine TO.quiet (q_assign rfl) ?_
  refine TO.nil ?_
  refine T.seq ?_
  refine T.region ?_
  refine TO.quiet (q_fieldAddr Tryd.underlying25 rfl inf22 rfl rfl) ?_
  refine TO.quiet (q_load_box 0 Tryd.underlying22 rfl rfl rfl rfl) ?_
  refine TO.quiet (q_len Tryd.underlying22 rfl) ?_
  refine TO.quiet (q_assign rfl) ?_
  refine TO.nil ?_
  refine T.seq ?_
  refine T.region ?_
  refine TO.quiet (q_move rfl) ?_
  refine TO.loud rfl (l_makeSlice (m := d.next.length) Tryd.underlying63 inf23 rfl rfl (by omega) (by omega) (fun z2 => ?_))
  refine TO.quiet (q_assign rfl) ?_
  refine TO.nil ?_
  refine T.seq ?_
  refine T.seq ?_
  refine T.region ?_
  refine TO.quiet (q_assign rfl) ?_
  refine TO.nil ?_
  refine T.block ?_
  refine T.loop (fun (s : Nat) ρ O => ∃ (qs : List BRec), O = ([rowI (some ⟨z2, 0, none⟩) d.next.length 23 1 ((bvals qs) ++ (List.replicate (d.next.length - s) (.slice none 0 0))), objI z1 (.cells (List.toArray [(.int .i64 d.vars), (.int .i64 d.start), (.slice nb d.next.length nc), (.slice fb d.final.length fc)]) 25 (0, 0))] ++ (bitms 4 qs)) ∧ s ≤ d.next.length ∧ MatOk d 0 s qs ∧ Heads [(0, (.agg #[(.int .i64 d.vars), (.int .i64 d.start), (.slice nb d.next.length nc), (.slice fb d.final.length fc)])), (1, .int .i64 k), (2, (.pointer (some ⟨z1, 0, none⟩))), (4, (.slice none 0 0)), (5, .int .i64 (d.next.length : Int)), (6, (.slice (some ⟨z2, 0, none⟩) d.next.length d.next.length)), (7, .int .i64 (s : Int))] ρ) (fun s => d.next.length - s) 0 ?_ ?_
  · exact ⟨[], rfl, Nat.zero_le _, rfl, ⟨rfl, rfl, rfl, rfl, rfl, rfl, rfl, trivial⟩⟩
  · rintro s ρ O ⟨qs, rfl, hs, hM, hH⟩
    obtain ⟨ρ0, rfl⟩ := hH.elim
    clear hH
    refine T.seq ?_
    refine T.seq ?_
    refine T.region ?_
    refine TO.quiet (q_move rfl) ?_
    refine TO.quiet (q_move rfl) ?_
    refine TO.quiet (q_lss rfl rfl) ?_
    refine TO.nil ?_
    refine T.condP rfl (fun hc => ?_) (fun hc => ?_)
    · have hlt21 : s < d.next.length := by omega
      have hql := hM.len
      have hsf : s < d.final.length := by omega
      refine T.skip ?_
      refine T.seq ?_
      refine T.block ?_
      refine T.seq ?_
      refine T.region ?_
      refine TO.quiet (q_move rfl) ?_
      refine TO.quiet (q_move rfl) ?_
      refine TO.quiet (q_move rfl) ?_
      refine TO.loud rfl (l_makeSlice (m := d.next.length) Tryd.underlying23 inf4 rfl rfl (by omega) (by omega) (fun zX => ?_))
      refine TO.quiet (q_ix (i := s) Tryd.underlying63 inf23 rfl rfl (rowO (List.mem_of_getElem? (i := 1) rfl)) hlt21 (by simp; omega)) ?_
      refine TO.loud rfl (l_st (j := s) (v := (.slice (some ⟨zX, 0, none⟩) d.next.length d.next.length)) (vs := [(.slice (some ⟨zX, 0, none⟩) d.next.length d.next.length)]) (cs := (bvals qs) ++ (List.replicate (d.next.length - s) (.slice none 0 0))) 1 inf23 rfl rfl rfl rfl rfl (by simp) rfl (by first | (simp; omega) | (simp_all; omega)) ?_)
      refine TO.sub (O' := ([rowI (some ⟨zX, 0, none⟩) d.next.length 4 1 (List.replicate d.next.length (.bool false)), rowI (some ⟨z2, 0, none⟩) d.next.length 23 1 ((bvals qs) ++ ((.slice (some ⟨zX, 0, none⟩) d.next.length d.next.length) :: (List.replicate (d.next.length - (s + 1)) (.slice none 0 0)))), objI z1 (.cells (List.toArray [(.int .i64 d.vars), (.int .i64 d.start), (.slice nb d.next.length nc), (.slice fb d.final.length fc)]) 25 (0, 0))] ++ (bitms 4 qs))) (by rw [show putL ((bvals qs) ++ (List.replicate (d.next.length - s) (.slice none 0 0))) s [(.slice (some ⟨zX, 0, none⟩) d.next.length d.next.length)] = (bvals qs) ++ ((.slice (some ⟨zX, 0, none⟩) d.next.length d.next.length) :: (List.replicate (d.next.length - (s + 1)) (.slice none 0 0))) from by rw [← hole_set (by simpa using hql) hlt21]; simp [putL]]; exact Sub.of (List.Sublist.refl _)) ?_
      refine TO.nil ?_
      refine T.seq ?_
      refine T.region ?_
      refine TO.quiet (q_assign rfl) ?_
      refine TO.nil ?_
      refine T.block ?_
      refine T.loop (fun (t : Nat) ρ O => O = ([rowI (some ⟨zX, 0, none⟩) d.next.length 4 1 (bools (fillB (dif d 0 s) d.next.length t)), rowI (some ⟨z2, 0, none⟩) d.next.length 23 1 ((bvals qs) ++ ((.slice (some ⟨zX, 0, none⟩) d.next.length d.next.length) :: (List.replicate (d.next.length - (s + 1)) (.slice none 0 0)))), objI z1 (.cells (List.toArray [(.int .i64 d.vars), (.int .i64 d.start), (.slice nb d.next.length nc), (.slice fb d.final.length fc)]) 25 (0, 0))] ++ (bitms 4 qs)) ∧ t ≤ d.next.length ∧ Heads [(0, (.agg #[(.int .i64 d.vars), (.int .i64 d.start), (.slice nb d.next.length nc), (.slice fb d.final.length fc)])), (1, .int .i64 k), (2, (.pointer (some ⟨z1, 0, none⟩))), (4, (.slice none 0 0)), (5, .int .i64 (d.next.length : Int)), (6, (.slice (some ⟨z2, 0, none⟩) d.next.length d.next.length)), (7, .int .i64 (s : Int)), (8, .int .i64 (t : Int))] ρ) (fun t => d.next.length - t) 0 ?_ ?_
      · exact ⟨by rw [fillB_zero]; simp, Nat.zero_le _, ⟨rfl, rfl, rfl, rfl, rfl, rfl, rfl, rfl, trivial⟩⟩
      · rintro t ρ O ⟨rfl, ht, hH⟩
        obtain ⟨ρ0, rfl⟩ := hH.elim
        clear hH
        refine T.seq ?_
        refine T.seq ?_
        refine T.region ?_
        refine TO.quiet (q_move rfl) ?_
        refine TO.quiet (q_move rfl) ?_
        refine TO.quiet (q_lss rfl rfl) ?_
        refine TO.nil ?_
        refine T.condP rfl (fun hc => ?_) (fun hc => ?_)
        · have hlt31 : t < d.next.length := by omega
          have htf : t < d.final.length := by omega
          have hd0 : (d.final[s] != d.final[t]) = dif d 0 s t := by simp [dif, finN, hsf, htf]
          refine T.skip ?_
          refine T.seq ?_
          refine T.block ?_
          refine T.draws _ [(0, 0), (1, 0), (2, 0), (3, 0), (4, 0), (5, 0), (6, 0), (7, 0), (8, 0), (9, 0), (10, 0), (11, 0), (12, 0), (13, 0), (14, 0), (15, 0), (16, 0), (17, 2)] mixed (by kernel_rfl) (Sub.of (List.Sublist.refl _)) (fun _ _ _ h => h) ?_
          refine DO.quiet rfl (q_move rfl) ?_
          refine DO.quiet rfl (q_move rfl) ?_
          refine DO.quiet rfl (q_ix (i := s) Tryd.underlying63 inf23 rfl rfl (rowO (List.mem_of_getElem? (i := 1) rfl)) hlt21 (by simp; omega)) ?_
          refine DO.quiet rfl (q_ld Tryd.underlying23 rfl rfl (rowO (List.mem_of_getElem? (i := 1) rfl)) (hole_get (by simpa using hql))) ?_
          refine DO.quiet rfl (q_move rfl) ?_
          refine DO.quiet rfl (q_fieldAddr Tryd.underlying25 rfl inf23 rfl rfl) ?_
          refine DO.quiet rfl (q_load_box 2 Tryd.underlying23 rfl rfl rfl rfl) ?_
          refine DO.quiet rfl (q_move rfl) ?_
          refine DO.quiet rfl (q_ix (i := s) Tryd.underlying23 inf4 rfl rfl (Sl.o h.final) hsf (by rw [List.length_map]; exact hsf)) ?_
          refine DO.quiet rfl (q_ld Tryd.underlying4 rfl rfl (Sl.o h.final) (bools_get hsf)) ?_
          refine DO.quiet rfl (q_fieldAddr Tryd.underlying25 rfl inf23 rfl rfl) ?_
          refine DO.quiet rfl (q_load_box 2 Tryd.underlying23 rfl rfl rfl rfl) ?_
          refine DO.quiet rfl (q_move rfl) ?_
          refine DO.quiet rfl (q_ix (i := t) Tryd.underlying23 inf4 rfl rfl (Sl.o h.final) htf (by rw [List.length_map]; exact htf)) ?_
          refine DO.quiet rfl (q_ld Tryd.underlying4 rfl rfl (Sl.o h.final) (bools_get htf)) ?_
          refine DO.quiet rfl (q_bneq Tryd.underlying4 rfl rfl) ?_
          refine DO.quiet rfl (q_ix (i := t) Tryd.underlying23 inf4 rfl rfl (rowO (List.mem_of_getElem? (i := 0) rfl)) hlt31 (by rw [List.length_map, fillB_length]; exact hlt31)) ?_
          refine DO.last rfl rfl (l_st (j := t) (v := .bool (d.final[s] != d.final[t])) (vs := [(.bool (d.final[s] != d.final[t]))]) (cs := bools (fillB (dif d 0 s) d.next.length t)) 0 inf4 rfl rfl rfl rfl rfl (by simp) rfl (by rw [List.length_map, fillB_length]; exact hlt31) ?_)
          refine DO.sub (O' := ([rowI (some ⟨zX, 0, none⟩) d.next.length 4 1 (bools (fillB (dif d 0 s) d.next.length (t + 1))), rowI (some ⟨z2, 0, none⟩) d.next.length 23 1 ((bvals qs) ++ ((.slice (some ⟨zX, 0, none⟩) d.next.length d.next.length) :: (List.replicate (d.next.length - (s + 1)) (.slice none 0 0)))), objI z1 (.cells (List.toArray [(.int .i64 d.vars), (.int .i64 d.start), (.slice nb d.next.length nc), (.slice fb d.final.length fc)]) 25 (0, 0))] ++ (bitms 4 qs))) (by rw [show putL (bools (fillB (dif d 0 s) d.next.length t)) t [(.bool (d.final[s] != d.final[t]))] = bools (fillB (dif d 0 s) d.next.length (t + 1)) from by rw [← fillB_set hlt31 hd0]; simp [putL]]; exact Sub.of (List.Sublist.refl _)) ?_
          refine DO.done ?_
          refine T.region ?_
          refine TO.quiet (q_move rfl) ?_
          refine TO.quiet (q_inc rfl rfl (by omega)) ?_
          refine TO.quiet (q_assign rfl) ?_
          refine TO.nil ?_
          exact ⟨t + 1, by omega, rfl, by omega, ⟨rfl, rfl, rfl, rfl, rfl, rfl, rfl, rfl, trivial⟩⟩
        · have hge31 : ¬ t < d.next.length := by omega
          refine T.exit ?_
          refine T.region ?_
          refine TO.quiet (q_move rfl) ?_
          refine TO.quiet (q_inc rfl rfl (by omega)) ?_
          refine TO.quiet (q_assign rfl) ?_
          have hR : rowI (some ⟨zX, 0, none⟩) d.next.length 4 1 (bools (fillB (dif d 0 s) d.next.length t)) = BRec.itm 4 ⟨(some ⟨zX, 0, none⟩), d.next.length, difRow d 0 s⟩ := by
            rw [show t = d.next.length by omega, fillB_full]; rfl
          refine TO.sub (O' := [rowI (some ⟨z2, 0, none⟩) d.next.length 23 1 ((bvals qs) ++ ((.slice (some ⟨zX, 0, none⟩) d.next.length d.next.length) :: (List.replicate (d.next.length - (s + 1)) (.slice none 0 0)))), objI z1 (.cells (List.toArray [(.int .i64 d.vars), (.int .i64 d.start), (.slice nb d.next.length nc), (.slice fb d.final.length fc)]) 25 (0, 0))] ++ (bitms 4 (qs ++ [⟨(some ⟨zX, 0, none⟩), d.next.length, difRow d 0 s⟩]))) (by rw [hR]; exact Sub.cnt [] (by intro a; simp only [itms, bitms, List.set_cons_zero, List.set_cons_succ, putL, List.cons_append, List.nil_append, List.append_nil, List.append_assoc, List.map_append, List.map_cons, List.map_nil, cnt_append, cnt_cons, cnt_nil] <;> omega)) ?_
          refine TO.nil ?_
          exact ⟨s + 1, by omega, qs ++ [⟨(some ⟨zX, 0, none⟩), d.next.length, difRow d 0 s⟩], by simp [BRec.val, difRow_length], by omega, hM.snoc, ⟨rfl, rfl, rfl, rfl, rfl, rfl, rfl, trivial⟩⟩
    · have hge21 : ¬ s < d.next.length := by omega
      refine T.exit ?_
      refine T.seq ?_
      refine T.seq ?_
      refine T.region ?_
      refine TO.quiet (q_assign rfl) ?_
      refine TO.nil ?_
      refine T.block ?_
      have hse : s = d.next.length := by omega
      have hR0 : (bvals qs) ++ (List.replicate (d.next.length - s) (.slice none 0 0)) = bvals qs := by rw [show d.next.length - s = 0 by omega]; simp
      rw [hR0]
      rw [hse] at hM
      refine T.loop (fun (r : Nat) ρ O => ∃ (ob : Option Addr) (oc : Nat) (qs : List BRec), O = ([rowI ob oc 23 1 (bvals qs), objI z1 (.cells (List.toArray [(.int .i64 d.vars), (.int .i64 d.start), (.slice nb d.next.length nc), (.slice fb d.final.length fc)]) 25 (0, 0))] ++ (bitms 4 qs)) ∧ r ≤ k.toNat ∧ r ≤ d.next.length ∧ MatOk d r d.next.length qs ∧ Heads [(0, (.agg #[(.int .i64 d.vars), (.int .i64 d.start), (.slice nb d.next.length nc), (.slice fb d.final.length fc)])), (1, .int .i64 k), (2, (.pointer (some ⟨z1, 0, none⟩))), (4, (.slice none 0 0)), (5, .int .i64 (d.next.length : Int)), (6, (.slice ob d.next.length oc)), (9, .int .i64 (r : Int))] ρ) (fun r => d.next.length - r) 0 ?_ ?_
      · exact ⟨_, _, qs, rfl, Nat.zero_le _, Nat.zero_le _, hM, ⟨rfl, rfl, rfl, rfl, rfl, rfl, rfl, trivial⟩⟩
      · rintro r ρ O ⟨ob, oc, qs, rfl, hr1, hr2, hM, hH⟩
        obtain ⟨ρ0, rfl⟩ := hH.elim
        clear hH
        refine T.seq ?_
        refine T.seq ?_
        refine T.region ?_
        refine TO.quiet (q_move rfl) ?_
        refine TO.quiet (q_move rfl) ?_
        by_cases hk1 : (r : Int) < k
        · refine TO.quiet (QT.toB (q_lss rfl rfl) (decide_eq_true hk1)) ?_
          refine TO.quiet (q_move rfl) ?_
          refine TO.guarded rfl rfl rfl (LT.of_quiet rfl rfl (q_move rfl) ?_)
          refine TO.guarded rfl rfl rfl (LT.of_quiet rfl rfl (q_move rfl) ?_)
          refine TO.guarded rfl rfl rfl (LT.of_quiet rfl rfl (q_lss rfl rfl) ?_)
          refine TO.quiet (q_pick1 rfl rfl) ?_
          refine TO.nil ?_
          refine T.condP rfl (fun hc => ?_) (fun hc => ?_)
          · have hlt58 : r < d.next.length := by omega
            refine T.skip ?_
            refine T.seq ?_
            refine T.block ?_
            refine T.seq ?_
            refine T.region ?_
            refine TO.quiet (q_move rfl) ?_
            refine TO.loud rfl (l_makeSlice (m := d.next.length) Tryd.underlying63 inf23 rfl rfl (by omega) (by omega) (fun z3 => ?_))
            refine TO.quiet (q_assign rfl) ?_
            refine TO.nil ?_
            refine T.seq ?_
            refine T.seq ?_
            refine T.region ?_
            refine TO.quiet (q_assign rfl) ?_
            refine TO.nil ?_
            refine T.block ?_
            refine T.loop (fun (s : Nat) ρ O => ∃ (ps : List BRec), O = ([rowI (some ⟨z3, 0, none⟩) d.next.length 23 1 ((bvals ps) ++ (List.replicate (d.next.length - s) (.slice none 0 0))), rowI ob oc 23 1 (bvals qs), objI z1 (.cells (List.toArray [(.int .i64 d.vars), (.int .i64 d.start), (.slice nb d.next.length nc), (.slice fb d.final.length fc)]) 25 (0, 0))] ++ (bitms 4 ps ++ bitms 4 qs)) ∧ s ≤ d.next.length ∧ MatOk d (r + 1) s ps ∧ Heads [(0, (.agg #[(.int .i64 d.vars), (.int .i64 d.start), (.slice nb d.next.length nc), (.slice fb d.final.length fc)])), (1, .int .i64 k), (2, (.pointer (some ⟨z1, 0, none⟩))), (4, (.slice none 0 0)), (5, .int .i64 (d.next.length : Int)), (6, (.slice ob d.next.length oc)), (9, .int .i64 (r : Int)), (10, (.slice (some ⟨z3, 0, none⟩) d.next.length d.next.length)), (11, .int .i64 (s : Int))] ρ) (fun s => d.next.length - s) 0 ?_ ?_
            · exact ⟨[], rfl, Nat.zero_le _, rfl, ⟨rfl, rfl, rfl, rfl, rfl, rfl, rfl, rfl, rfl, trivial⟩⟩
            · rintro s ρ O ⟨ps, rfl, hs, hM2, hH⟩
              obtain ⟨ρ0, rfl⟩ := hH.elim
              clear hH
              refine T.seq ?_
              refine T.seq ?_
              refine T.region ?_
              refine TO.quiet (q_move rfl) ?_
              refine TO.quiet (q_move rfl) ?_
              refine TO.quiet (q_lss rfl rfl) ?_
              refine TO.nil ?_
              refine T.condP rfl (fun hc => ?_) (fun hc => ?_)
              · have hlt65 : s < d.next.length := by omega
                have hql := hM2.len
                obtain ⟨qa, ma, ga, la, ea⟩ := hM.get hlt65
                obtain ⟨vb1, vc1, g1, s1⟩ := h.rows.get hlt65
                have hl1 : d.next[s].length = 2 ^ d.vars.toNat := hv.len _ (List.getElem_mem hlt65)
                refine T.skip ?_
                refine T.seq ?_
                refine T.block ?_
                refine T.seq ?_
                refine T.region ?_
                refine TO.quiet (q_move rfl) ?_
                refine TO.quiet (q_move rfl) ?_
                refine TO.quiet (q_move rfl) ?_
                refine TO.loud rfl (l_makeSlice (m := d.next.length) Tryd.underlying23 inf4 rfl rfl (by omega) (by omega) (fun zX => ?_))
                refine TO.quiet (q_ix (i := s) Tryd.underlying63 inf23 rfl rfl (rowO (List.mem_of_getElem? (i := 1) rfl)) hlt65 (by simp; omega)) ?_
                refine TO.loud rfl (l_st (j := s) (v := (.slice (some ⟨zX, 0, none⟩) d.next.length d.next.length)) (vs := [(.slice (some ⟨zX, 0, none⟩) d.next.length d.next.length)]) (cs := (bvals ps) ++ (List.replicate (d.next.length - s) (.slice none 0 0))) 1 inf23 rfl rfl rfl rfl rfl (by simp) rfl (by first | (simp; omega) | (simp_all; omega)) ?_)
                refine TO.sub (O' := ([rowI (some ⟨zX, 0, none⟩) d.next.length 4 1 (List.replicate d.next.length (.bool false)), rowI (some ⟨z3, 0, none⟩) d.next.length 23 1 ((bvals ps) ++ ((.slice (some ⟨zX, 0, none⟩) d.next.length d.next.length) :: (List.replicate (d.next.length - (s + 1)) (.slice none 0 0)))), rowI ob oc 23 1 (bvals qs), objI z1 (.cells (List.toArray [(.int .i64 d.vars), (.int .i64 d.start), (.slice nb d.next.length nc), (.slice fb d.final.length fc)]) 25 (0, 0))] ++ (bitms 4 ps ++ bitms 4 qs))) (by rw [show putL ((bvals ps) ++ (List.replicate (d.next.length - s) (.slice none 0 0))) s [(.slice (some ⟨zX, 0, none⟩) d.next.length d.next.length)] = (bvals ps) ++ ((.slice (some ⟨zX, 0, none⟩) d.next.length d.next.length) :: (List.replicate (d.next.length - (s + 1)) (.slice none 0 0))) from by rw [← hole_set (by simpa using hql) hlt65]; simp [putL]]; exact Sub.of (List.Sublist.refl _)) ?_
                refine TO.nil ?_
                refine T.seq ?_
                refine T.region ?_
                refine TO.quiet (q_assign rfl) ?_
                refine TO.nil ?_
                refine T.block ?_
                refine T.loop (fun (t : Nat) ρ O => O = ([rowI (some ⟨zX, 0, none⟩) d.next.length 4 1 (bools (fillB (dif d (r + 1) s) d.next.length t)), rowI (some ⟨z3, 0, none⟩) d.next.length 23 1 ((bvals ps) ++ ((.slice (some ⟨zX, 0, none⟩) d.next.length d.next.length) :: (List.replicate (d.next.length - (s + 1)) (.slice none 0 0)))), rowI ob oc 23 1 (bvals qs), objI z1 (.cells (List.toArray [(.int .i64 d.vars), (.int .i64 d.start), (.slice nb d.next.length nc), (.slice fb d.final.length fc)]) 25 (0, 0))] ++ (bitms 4 ps ++ bitms 4 qs)) ∧ t ≤ d.next.length ∧ Heads [(0, (.agg #[(.int .i64 d.vars), (.int .i64 d.start), (.slice nb d.next.length nc), (.slice fb d.final.length fc)])), (1, .int .i64 k), (2, (.pointer (some ⟨z1, 0, none⟩))), (4, (.slice none 0 0)), (5, .int .i64 (d.next.length : Int)), (6, (.slice ob d.next.length oc)), (9, .int .i64 (r : Int)), (10, (.slice (some ⟨z3, 0, none⟩) d.next.length d.next.length)), (11, .int .i64 (s : Int)), (12, .int .i64 (t : Int))] ρ) (fun t => d.next.length - t) 0 ?_ ?_
                · exact ⟨by rw [fillB_zero]; simp, Nat.zero_le _, ⟨rfl, rfl, rfl, rfl, rfl, rfl, rfl, rfl, rfl, rfl, trivial⟩⟩
                · rintro t ρ O ⟨rfl, ht, hH⟩
                  obtain ⟨ρ0, rfl⟩ := hH.elim
                  clear hH
                  refine T.seq ?_
                  refine T.seq ?_
                  refine T.region ?_
                  refine TO.quiet (q_move rfl) ?_
                  refine TO.quiet (q_move rfl) ?_
                  refine TO.quiet (q_lss rfl rfl) ?_
                  refine TO.nil ?_
                  refine T.condP rfl (fun hc => ?_) (fun hc => ?_)
                  · have hlt75 : t < d.next.length := by omega
                    obtain ⟨vb2, vc2, g2, s2⟩ := h.rows.get hlt75
                    have hl2 : d.next[t].length = 2 ^ d.vars.toNat := hv.len _ (List.getElem_mem hlt75)
                    refine T.skip ?_
                    refine T.seq ?_
                    refine T.block ?_
                    refine T.seq ?_
                    refine T.draws _ [(0, 0), (1, 0), (2, 0), (3, 0), (4, 0), (5, 0), (6, 0), (7, 0), (8, 0), (9, 0), (10, 0), (11, 0), (12, 0), (13, 2)] mixed (by kernel_rfl) (Sub.of (List.Sublist.refl _)) (fun _ _ _ h => h) ?_
                    refine DO.quiet rfl (q_move rfl) ?_
                    refine DO.quiet rfl (q_move rfl) ?_
                    refine DO.quiet rfl (q_ix (i := s) Tryd.underlying63 inf23 rfl rfl (rowO (List.mem_of_getElem? (i := 1) rfl)) hlt65 (by simp; omega)) ?_
                    refine DO.quiet rfl (q_ld Tryd.underlying23 rfl rfl (rowO (List.mem_of_getElem? (i := 1) rfl)) (hole_get (by simpa using hql))) ?_
                    refine DO.quiet rfl (q_move rfl) ?_
                    refine DO.quiet rfl (q_move rfl) ?_
                    refine DO.quiet rfl (q_move rfl) ?_
                    refine DO.quiet rfl (q_ix (i := s) Tryd.underlying63 inf23 rfl rfl (rowO (List.mem_of_getElem? (i := 2) rfl)) hlt65 (by rw [List.length_map, hM.len]; exact hlt65)) ?_
                    refine DO.quiet rfl (q_ld Tryd.underlying23 rfl rfl (rowO (List.mem_of_getElem? (i := 2) rfl)) ga) ?_
                    refine DO.quiet rfl (q_move rfl) ?_
                    refine DO.quiet rfl (q_ix (i := t) Tryd.underlying23 inf4 rfl rfl (fun w hI => hI.slOf (T := 4) (k := 1) (List.mem_append_right _ (List.mem_append_right _ (List.mem_map_of_mem (f := BRec.itm 4) ma)))) hlt75 (la ▸ hlt75)) ?_
                    refine DO.quiet rfl (q_ld Tryd.underlying4 rfl rfl (fun w hI => hI.slOf (T := 4) (k := 1) (List.mem_append_right _ (List.mem_append_right _ (List.mem_map_of_mem (f := BRec.itm 4) ma)))) (ea t hlt75)) ?_
                    refine DO.quiet rfl (q_ix (i := t) Tryd.underlying23 inf4 rfl rfl (rowO (List.mem_of_getElem? (i := 0) rfl)) hlt75 (by rw [List.length_map, fillB_length]; exact hlt75)) ?_
                    refine DO.last rfl rfl (l_st (j := t) (v := .bool (dif d r s t)) (vs := [(.bool (dif d r s t))]) (cs := bools (fillB (dif d (r + 1) s) d.next.length t)) 0 inf4 rfl rfl rfl rfl rfl (by simp) rfl (by rw [List.length_map, fillB_length]; exact hlt75) ?_)
                    refine DO.sub (O' := ([rowI (some ⟨zX, 0, none⟩) d.next.length 4 1 (bools ((fillB (dif d (r + 1) s) d.next.length t).set t (dif d r s t))), rowI (some ⟨z3, 0, none⟩) d.next.length 23 1 ((bvals ps) ++ ((.slice (some ⟨zX, 0, none⟩) d.next.length d.next.length) :: (List.replicate (d.next.length - (s + 1)) (.slice none 0 0)))), rowI ob oc 23 1 (bvals qs), objI z1 (.cells (List.toArray [(.int .i64 d.vars), (.int .i64 d.start), (.slice nb d.next.length nc), (.slice fb d.final.length fc)]) 25 (0, 0))] ++ (bitms 4 ps ++ bitms 4 qs))) (by rw [show putL (bools (fillB (dif d (r + 1) s) d.next.length t)) t [(.bool (dif d r s t))] = bools ((fillB (dif d (r + 1) s) d.next.length t).set t (dif d r s t)) from by simp [putL]]; exact Sub.of (List.Sublist.refl _)) ?_
                    refine DO.done ?_
                    refine T.seq ?_
                    refine T.region ?_
                    refine TO.quiet (q_assign rfl) ?_
                    refine TO.nil ?_
                    refine T.block ?_
                    refine T.loop (fun (x : Nat) ρ O => O = ([rowI (some ⟨zX, 0, none⟩) d.next.length 4 1 (bools ((fillB (dif d (r + 1) s) d.next.length t).set t (dif d r s t || (List.range x).any fun x => dif d r (toN d s x) (toN d t x)))), rowI (some ⟨z3, 0, none⟩) d.next.length 23 1 ((bvals ps) ++ ((.slice (some ⟨zX, 0, none⟩) d.next.length d.next.length) :: (List.replicate (d.next.length - (s + 1)) (.slice none 0 0)))), rowI ob oc 23 1 (bvals qs), objI z1 (.cells (List.toArray [(.int .i64 d.vars), (.int .i64 d.start), (.slice nb d.next.length nc), (.slice fb d.final.length fc)]) 25 (0, 0))] ++ (bitms 4 ps ++ bitms 4 qs)) ∧ x ≤ 2 ^ d.vars.toNat ∧ Heads [(0, (.agg #[(.int .i64 d.vars), (.int .i64 d.start), (.slice nb d.next.length nc), (.slice fb d.final.length fc)])), (1, .int .i64 k), (2, (.pointer (some ⟨z1, 0, none⟩))), (4, (.slice none 0 0)), (5, .int .i64 (d.next.length : Int)), (6, (.slice ob d.next.length oc)), (9, .int .i64 (r : Int)), (10, (.slice (some ⟨z3, 0, none⟩) d.next.length d.next.length)), (11, .int .i64 (s : Int)), (12, .int .i64 (t : Int)), (13, .int .i64 (x : Int))] ρ) (fun x => 2 ^ d.vars.toNat - x) 0 ?_ ?_
                    · exact ⟨by simp, Nat.zero_le _, ⟨rfl, rfl, rfl, rfl, rfl, rfl, rfl, rfl, rfl, rfl, rfl, trivial⟩⟩
                    · rintro x ρ O ⟨rfl, hx, hH⟩
                      obtain ⟨ρ0, rfl⟩ := hH.elim
                      clear hH
                      refine T.seq ?_
                      refine T.seq ?_
                      refine T.region ?_
                      refine TO.quiet (q_move rfl) ?_
                      refine TO.quiet (q_fieldAddr Tryd.underlying25 rfl inf22 rfl rfl) ?_
                      refine TO.quiet (q_load_box 3 Tryd.underlying22 rfl rfl rfl rfl) ?_
                      refine TO.quiet (q_move rfl) ?_
                      refine TO.quiet (q_ix (i := s) Tryd.underlying22 inf33 rfl rfl (Sl.o h.outer) hlt65 (hvl ▸ hlt65)) ?_
                      refine TO.quiet (q_ld Tryd.underlying33 rfl rfl (Sl.o h.outer) g1) ?_
                      refine TO.quiet (q_len Tryd.underlying33 rfl) ?_
                      refine TO.quiet (q_lss rfl rfl) ?_
                      refine TO.nil ?_
                      refine T.condP rfl (fun hc => ?_) (fun hc => ?_)
                      · have hlt98 : x < d.next[s].length := by omega
                        have hlx : x < 2 ^ d.vars.toNat := by omega
                        obtain ⟨hta, _, hxk1, hx1⟩ := hv.toN_lt hlt65 hlx
                        obtain ⟨htb, _, hxk2, hx2⟩ := hv.toN_lt hlt75 hlx
                        have hx1 : (ints d.next[s])[x]? = some (.int .i64 ((toN d s x : Nat) : Int)) := by rw [ints_get hxk1, hx1]
                        have hx2 : (ints d.next[t])[x]? = some (.int .i64 ((toN d t x : Nat) : Int)) := by rw [ints_get hxk2, hx2]
                        obtain ⟨qc, mc, gc, lc, ec⟩ := hM.get hta
                        refine T.skip ?_
                        refine T.seq ?_
                        refine T.block ?_
                        refine T.seq ?_
                        refine T.draws _ [(0, 0), (1, 0), (2, 0), (3, 0), (4, 0), (5, 0), (6, 0), (7, 0), (8, 0), (9, 0), (10, 0), (11, 0), (12, 0), (13, 0), (14, 0), (15, 0), (16, 0), (17, 0), (18, 0), (19, 0), (20, 0)] mixed (by kernel_rfl) (Sub.of (List.Sublist.refl _)) (fun _ _ _ h => h) ?_
                        refine DO.quiet rfl (q_move rfl) ?_
                        refine DO.quiet rfl (q_fieldAddr Tryd.underlying25 rfl inf22 rfl rfl) ?_
                        refine DO.quiet rfl (q_load_box 3 Tryd.underlying22 rfl rfl rfl rfl) ?_
                        refine DO.quiet rfl (q_move rfl) ?_
                        refine DO.quiet rfl (q_ix (i := s) Tryd.underlying22 inf33 rfl rfl (Sl.o h.outer) hlt65 (hvl ▸ hlt65)) ?_
                        refine DO.quiet rfl (q_ld Tryd.underlying33 rfl rfl (Sl.o h.outer) g1) ?_
                        refine DO.quiet rfl (q_move rfl) ?_
                        refine DO.quiet rfl (q_ix (i := x) Tryd.underlying33 inf3 rfl rfl (Sl.o s1) (by rw [hl1]; exact hlx) (by rw [List.length_map, hl1]; exact hlx)) ?_
                        refine DO.quiet rfl (q_ld Tryd.underlying3 rfl rfl (Sl.o s1) hx1) ?_
                        refine DO.quiet rfl (q_ix (i := (toN d s x)) Tryd.underlying63 inf23 rfl rfl (rowO (List.mem_of_getElem? (i := 2) rfl)) hta (by rw [List.length_map, hM.len]; exact hta)) ?_
                        refine DO.quiet rfl (q_ld Tryd.underlying23 rfl rfl (rowO (List.mem_of_getElem? (i := 2) rfl)) gc) ?_
                        refine DO.quiet rfl (q_fieldAddr Tryd.underlying25 rfl inf22 rfl rfl) ?_
                        refine DO.quiet rfl (q_load_box 3 Tryd.underlying22 rfl rfl rfl rfl) ?_
                        refine DO.quiet rfl (q_move rfl) ?_
                        refine DO.quiet rfl (q_ix (i := t) Tryd.underlying22 inf33 rfl rfl (Sl.o h.outer) hlt75 (hvl ▸ hlt75)) ?_
                        refine DO.quiet rfl (q_ld Tryd.underlying33 rfl rfl (Sl.o h.outer) g2) ?_
                        refine DO.quiet rfl (q_move rfl) ?_
                        refine DO.quiet rfl (q_ix (i := x) Tryd.underlying33 inf3 rfl rfl (Sl.o s2) (by rw [hl2]; exact hlx) (by rw [List.length_map, hl2]; exact hlx)) ?_
                        refine DO.quiet rfl (q_ld Tryd.underlying3 rfl rfl (Sl.o s2) hx2) ?_
                        refine DO.quiet rfl (q_ix (i := (toN d t x)) Tryd.underlying23 inf4 rfl rfl (fun w hI => hI.slOf (T := 4) (k := 1) (List.mem_append_right _ (List.mem_append_right _ (List.mem_map_of_mem (f := BRec.itm 4) mc)))) htb (lc ▸ htb)) ?_
                        refine DO.quiet rfl (q_ld Tryd.underlying4 rfl rfl (fun w hI => hI.slOf (T := 4) (k := 1) (List.mem_append_right _ (List.mem_append_right _ (List.mem_map_of_mem (f := BRec.itm 4) mc)))) (ec _ htb)) ?_
                        refine DO.done ?_
                        refine T.cond rfl (fun hc => ?_) (fun hc => ?_)
                        · refine T.region ?_
                          refine TO.quiet (q_move rfl) ?_
                          refine TO.quiet (q_move rfl) ?_
                          refine TO.quiet (q_ix (i := s) Tryd.underlying63 inf23 rfl rfl (rowO (List.mem_of_getElem? (i := 1) rfl)) hlt65 (by simp; omega)) ?_
                          refine TO.quiet (q_ld Tryd.underlying23 rfl rfl (rowO (List.mem_of_getElem? (i := 1) rfl)) (hole_get (by simpa using hql))) ?_
                          refine TO.quiet (q_move rfl) ?_
                          refine TO.quiet (q_ix (i := t) Tryd.underlying23 inf4 rfl rfl (rowO (List.mem_of_getElem? (i := 0) rfl)) hlt75 (by rw [List.length_map, List.length_set, fillB_length]; exact hlt75)) ?_
                          refine TO.loud rfl (l_st (j := t) (v := .bool true) (vs := [(.bool true)]) (cs := bools ((fillB (dif d (r + 1) s) d.next.length t).set t (dif d r s t || (List.range x).any fun x => dif d r (toN d s x) (toN d t x)))) 0 inf4 rfl rfl rfl rfl rfl (by simp) rfl (by rw [List.length_map, List.length_set, fillB_length]; exact hlt75) ?_)
                          refine TO.sub (O' := ([rowI (some ⟨zX, 0, none⟩) d.next.length 4 1 (bools ((fillB (dif d (r + 1) s) d.next.length t).set t true)), rowI (some ⟨z3, 0, none⟩) d.next.length 23 1 ((bvals ps) ++ ((.slice (some ⟨zX, 0, none⟩) d.next.length d.next.length) :: (List.replicate (d.next.length - (s + 1)) (.slice none 0 0)))), rowI ob oc 23 1 (bvals qs), objI z1 (.cells (List.toArray [(.int .i64 d.vars), (.int .i64 d.start), (.slice nb d.next.length nc), (.slice fb d.final.length fc)]) 25 (0, 0))] ++ (bitms 4 ps ++ bitms 4 qs))) (by rw [show putL (bools ((fillB (dif d (r + 1) s) d.next.length t).set t (dif d r s t || (List.range x).any fun x => dif d r (toN d s x) (toN d t x)))) t [(.bool true)] = bools ((fillB (dif d (r + 1) s) d.next.length t).set t true) from by simp [putL]]; exact Sub.of (List.Sublist.refl _)) ?_
                          refine TO.nil ?_
                          refine T.region ?_
                          refine TO.quiet (q_move rfl) ?_
                          refine TO.quiet (q_inc rfl rfl (by omega)) ?_
                          refine TO.quiet (q_assign rfl) ?_
                          refine TO.nil ?_
                          have hxx : (dif d r s t || (List.range (x + 1)).any fun x => dif d r (toN d s x) (toN d t x)) = true := by rw [any_snoc, hc]; simp
                          exact ⟨x + 1, by omega, by rw [hxx], by omega, ⟨rfl, rfl, rfl, rfl, rfl, rfl, rfl, rfl, rfl, rfl, rfl, trivial⟩⟩
                        · refine T.skip ?_
                          refine T.region ?_
                          refine TO.quiet (q_move rfl) ?_
                          refine TO.quiet (q_inc rfl rfl (by omega)) ?_
                          refine TO.quiet (q_assign rfl) ?_
                          refine TO.nil ?_
                          have hxx : (dif d r s t || (List.range (x + 1)).any fun x => dif d r (toN d s x) (toN d t x)) = (dif d r s t || (List.range x).any fun x => dif d r (toN d s x) (toN d t x)) := by rw [any_snoc, hc]; simp
                          exact ⟨x + 1, by omega, by rw [hxx], by omega, ⟨rfl, rfl, rfl, rfl, rfl, rfl, rfl, rfl, rfl, rfl, rfl, trivial⟩⟩
                      · have hge98 : ¬ x < d.next[s].length := by omega
                        refine T.exit ?_
                        refine T.region ?_
                        refine TO.quiet (q_move rfl) ?_
                        refine TO.quiet (q_inc rfl rfl (by omega)) ?_
                        refine TO.quiet (q_assign rfl) ?_
                        refine TO.nil ?_
                        have hxe : x = letN d := by unfold letN; omega
                        have hfu : (dif d r s t || (List.range x).any fun x => dif d r (toN d s x) (toN d t x)) = dif d (r + 1) s t := by rw [hxe]; rfl
                        exact ⟨t + 1, by omega, by rw [hfu, fillB_set hlt75 rfl], by omega, ⟨rfl, rfl, rfl, rfl, rfl, rfl, rfl, rfl, rfl, rfl, trivial⟩⟩
                  · have hge75 : ¬ t < d.next.length := by omega
                    refine T.exit ?_
                    refine T.region ?_
                    refine TO.quiet (q_move rfl) ?_
                    refine TO.quiet (q_inc rfl rfl (by omega)) ?_
                    refine TO.quiet (q_assign rfl) ?_
                    have hR : rowI (some ⟨zX, 0, none⟩) d.next.length 4 1 (bools (fillB (dif d (r + 1) s) d.next.length t)) = BRec.itm 4 ⟨(some ⟨zX, 0, none⟩), d.next.length, difRow d (r + 1) s⟩ := by
                      rw [show t = d.next.length by omega, fillB_full]; rfl
                    refine TO.sub (O' := [rowI (some ⟨z3, 0, none⟩) d.next.length 23 1 ((bvals ps) ++ ((.slice (some ⟨zX, 0, none⟩) d.next.length d.next.length) :: (List.replicate (d.next.length - (s + 1)) (.slice none 0 0)))), rowI ob oc 23 1 (bvals qs), objI z1 (.cells (List.toArray [(.int .i64 d.vars), (.int .i64 d.start), (.slice nb d.next.length nc), (.slice fb d.final.length fc)]) 25 (0, 0))] ++ (bitms 4 (ps ++ [⟨(some ⟨zX, 0, none⟩), d.next.length, difRow d (r + 1) s⟩]) ++ bitms 4 qs)) (by rw [hR]; exact Sub.cnt [] (by intro a; simp only [itms, bitms, List.set_cons_zero, List.set_cons_succ, putL, List.cons_append, List.nil_append, List.append_nil, List.append_assoc, List.map_append, List.map_cons, List.map_nil, cnt_append, cnt_cons, cnt_nil] <;> omega)) ?_
                    refine TO.nil ?_
                    exact ⟨s + 1, by omega, ps ++ [⟨(some ⟨zX, 0, none⟩), d.next.length, difRow d (r + 1) s⟩], by simp [BRec.val, difRow_length], by omega, hM2.snoc, ⟨rfl, rfl, rfl, rfl, rfl, rfl, rfl, rfl, rfl, trivial⟩⟩
              · have hge65 : ¬ s < d.next.length := by omega
                refine T.exit ?_
                refine T.region ?_
                refine TO.quiet (q_move rfl) ?_
                refine TO.quiet (q_assign rfl) ?_
                refine TO.nil ?_
                refine T.region ?_
                refine TO.quiet (q_move rfl) ?_
                refine TO.quiet (q_inc rfl rfl (by omega)) ?_
                refine TO.quiet (q_assign rfl) ?_
                have hMse : s = d.next.length := by omega
                have hR0 : (bvals ps) ++ (List.replicate (d.next.length - s) (.slice none 0 0)) = bvals ps := by rw [show d.next.length - s = 0 by omega]; simp
                rw [hR0]
                refine TO.sub (O' := [rowI (some ⟨z3, 0, none⟩) d.next.length 23 1 (bvals ps), objI z1 (.cells (List.toArray [(.int .i64 d.vars), (.int .i64 d.start), (.slice nb d.next.length nc), (.slice fb d.final.length fc)]) 25 (0, 0))] ++ (bitms 4 ps)) (Sub.cnt ([rowI ob oc 23 1 (bvals qs)] ++ bitms 4 qs) (by intro a; simp only [itms, bitms, List.set_cons_zero, List.set_cons_succ, putL, List.cons_append, List.nil_append, List.append_nil, List.append_assoc, List.map_append, List.map_cons, List.map_nil, cnt_append, cnt_cons, cnt_nil] <;> omega)) ?_
                refine TO.nil ?_
                exact ⟨r + 1, by omega, (some ⟨z3, 0, none⟩), d.next.length, ps, rfl, by omega, by omega, hMse ▸ hM2, ⟨rfl, rfl, rfl, rfl, rfl, rfl, rfl, trivial⟩⟩
          · have hge58 : ¬ r < d.next.length := by omega
            refine T.exit ?_
            refine T.seq ?_
            refine T.region ?_
            refine TO.quiet (q_move rfl) ?_
            refine TO.quiet (q_assign rfl) ?_
            refine TO.nil ?_
            refine T.ret ?_
            refine Res.drop ?_
            refine Res.one (.slice ob d.next.length oc) Tryd.results41 rfl ?_
            have hre : r = min k.toNat d.next.length := by omega
            exact ⟨rowI ob oc 23 1 (bvals qs) :: bitms 4 qs, Sub.cnt [objI z1 (.cells (List.toArray [(.int .i64 d.vars), (.int .i64 d.start), (.slice nb d.next.length nc), (.slice fb d.final.length fc)]) 25 (0, 0))] (by intro a; simp only [itms, bitms, List.set_cons_zero, List.set_cons_succ, putL, List.cons_append, List.nil_append, List.append_nil, List.append_assoc, List.map_append, List.map_cons, List.map_nil, cnt_append, cnt_cons, cnt_nil] <;> omega), ob, oc, qs, rfl, rfl, hre ▸ hM⟩
        · refine TO.quiet (QT.toB (q_lss rfl rfl) (decide_eq_false hk1)) ?_
          refine TO.quiet (q_move rfl) ?_
          refine TO.passed rfl rfl ?_
          refine TO.passed rfl rfl ?_
          refine TO.passed rfl rfl ?_
          refine TO.quiet (q_pick0 rfl rfl) ?_
          refine TO.nil ?_
          refine T.cond0 rfl ?_
          refine T.exit ?_
          refine T.seq ?_
          refine T.region ?_
          refine TO.quiet (q_move rfl) ?_
          refine TO.quiet (q_assign rfl) ?_
          refine TO.nil ?_
          refine T.ret ?_
          refine Res.drop ?_
          refine Res.one (.slice ob d.next.length oc) Tryd.results41 rfl ?_
          have hre : r = min k.toNat d.next.length := by omega
          exact ⟨rowI ob oc 23 1 (bvals qs) :: bitms 4 qs, Sub.cnt [objI z1 (.cells (List.toArray [(.int .i64 d.vars), (.int .i64 d.start), (.slice nb d.next.length nc), (.slice fb d.final.length fc)]) 25 (0, 0))] (by intro a; simp only [itms, bitms, List.set_cons_zero, List.set_cons_succ, putL, List.cons_append, List.nil_append, List.append_nil, List.append_assoc, List.map_append, List.map_cons, List.map_nil, cnt_append, cnt_cons, cnt_nil] <;> omega), ob, oc, qs, rfl, rfl, hre ▸ hM⟩
end Go.Proofs.YthfemndklplpbaaDoor

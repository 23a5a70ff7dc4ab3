/- Contracts of functions of the program (Rn, Quo, Dist, Uni, P1): what each call answers and that it leaves memory as it was. Conditions: those each theorem names. -/
import Derived.Test.YtnpehjpookcfkaaDoorDR
import Derived.Test.YtnpehjpookcfkaaDoorRen
import Derived.Test.YtnpehjpookcfkaaDoorFacts
set_option linter.unusedSectionVars false
set_option linter.unusedSimpArgs false
set_option linter.unusedVariables false
set_option linter.unnecessarySimpa false
namespace Go.Proofs.YtnpehjpookcfkaaDoor
open Go.Lx Go.RowKit
set_option linter.unusedVariables false
set_option linter.unusedSimpArgs false
set_option maxHeartbeats 1000000 in
set_option maxRecDepth 20000 in
theorem renumBad (w : World) [Tab Tryd.prog w] (d : DFA) (nb fb : Option Addr) (nc fc : Nat) (vs : List Value) (h : DfaAt w d nb vs fb) (hb : d.next.length < 9223372036854775807) (hbr : ∀ r ∈ d.next, r.length < 9223372036854775807) (hbf : d.final.length < 9223372036854775807) (he : checkD d ≠ 0) :
    PureT Tryd.prog 43 [.agg (dfaCells d nb nc fb fc).toArray] w fun v N => v = .tuple #[.agg #[.int .i64 0, .int .i64 0, .slice none 0 0, .slice none 0 0], .int .i64 (checkD d : Int)] ∧ N = [] := by
  refine CallT.enter Tryd.func43 rfl Tryd.ntmps43 rfl ?_
  refine T.seq (T.region ?_)
  refine TO.loud rfl (l_box (v := (.agg #[(.int .i64 d.vars), (.int .i64 d.start), (.slice nb d.next.length nc), (.slice fb d.final.length fc)])) (cs := [(.int .i64 d.vars), (.int .i64 d.start), (.slice nb d.next.length nc), (.slice fb d.final.length fc)]) rfl rfl (fun b1 => ?_))
  refine TO.loud rfl (l_alloc inf25 rfl (fun b2 => ?_))
  refine TO.quiet (q_assign rfl) ?_
  refine TO.nil (T.seq (T.seq (T.region ?_)))
  refine TO.quiet (q_load_boxAgg 1 Tryd.underlying25 rfl inf25 rfl rfl rfl) ?_
  have hk11 := fun (w1 : World) (hI : Inv w [oI b2 25 [(.int .i64 0), (.int .i64 0), (.slice none 0 0), (.slice none 0 0)], oI b1 25 [(.int .i64 d.vars), (.int .i64 d.start), (.slice nb d.next.length nc), (.slice fb d.final.length fc)]] w1) => (haveI := Inv.tab (P := Tryd.prog) hI; subsetCheck w1 d nb fb nc fc vs (hI.dfa h) hb hbr hbf)
  refine TO.loud rfl (l_call ent26 (CallT.of_pure hk11) rfl ?_)
  clear hk11
  rintro v O' ⟨N, rfl, rfl, rfl⟩
  refine TO.quiet (q_assign rfl) ?_
  refine TO.nil (T.seq (T.region ?_))
  refine TO.quiet (q_move rfl) (TO.quiet (QT.toB (q_neq rfl rfl) (decide_eq_true (by omega))) ?_)
  refine TO.nil ?_
  refine T.cond1 rfl ?_
  refine T.seq (T.region ?_)
  refine TO.quiet (q_build plan25 inf25 rfl) (TO.quiet (q_move rfl) ?_)
  refine TO.loud rfl (l_store_box (v := (.agg #[(.int .i64 0), (.int .i64 0), (.slice none 0 0), (.slice none 0 0)])) (vs := [(.int .i64 0), (.int .i64 0), (.slice none 0 0), (.slice none 0 0)]) 0 inf25 rfl rfl rfl rfl rfl rfl (by simp [putL]) ?_)
  refine TO.quiet (q_assign rfl) ?_
  refine TO.nil (T.ret (Res.drop ?_))
  refine Res.cell1b (.int .i64 (checkD d : Int)) (i := 0) Tryd.results43 Tryd.underlying25 rfl inf25 rfl rfl rfl rfl ?_
  exact ⟨[], Sub.of (List.nil_sublist _), rfl, rfl⟩
set_option maxHeartbeats 1000000 in
set_option maxRecDepth 20000 in
theorem renumOk (w : World) [Tab Tryd.prog w] (d : DFA) (nb fb : Option Addr) (nc fc : Nat) (vs : List Value) (h : DfaAt w d nb vs fb) (hv : Valid d) (hn : d.next.length < 10000) :
    PureT Tryd.prog 43 [.agg (dfaCells d nb nc fb fc).toArray] w fun v N => ∃ nb' nc' fb' fc' qs, v = .tuple #[.agg (dfaCells (renum d) nb' nc' fb' fc').toArray, .int .i64 0] ∧ N = [rowI nb' nc' 54 1 (vals qs), rowI fb' fc' 4 1 (bools (renum d).final)] ++ itms 3 qs ∧ nums qs = (renum d).next := by
  refine CallT.enter Tryd.func43 rfl Tryd.ntmps43 rfl ?_
  have he := checkD_zero.2 hv
  have hb : d.next.length < 9223372036854775807 := by omega
  have hbr : ∀ r ∈ d.next, r.length < 9223372036854775807 := hv.bound
  have hbf : d.final.length < 9223372036854775807 := by have := hv.fin; omega
  have hn0 := hv.n0
  have hs0 := hv.s0
  have hs1 := hv.s1
  have hsn : d.start.toNat < d.next.length := by omega
  refine T.seq (T.region ?_)
  refine TO.loud rfl (l_box (v := (.agg #[(.int .i64 d.vars), (.int .i64 d.start), (.slice nb d.next.length nc), (.slice fb d.final.length fc)])) (cs := [(.int .i64 d.vars), (.int .i64 d.start), (.slice nb d.next.length nc), (.slice fb d.final.length fc)]) rfl rfl (fun z1 => ?_))
  refine TO.loud rfl (l_alloc inf25 rfl (fun z2 => ?_))
  refine TO.quiet (q_assign rfl) ?_
  refine TO.nil (T.seq (T.seq (T.region ?_)))
  refine TO.quiet (q_load_boxAgg 1 Tryd.underlying25 rfl inf25 rfl rfl rfl) ?_
  have hk11 := fun (w1 : World) (hI : Inv w [oI z2 25 [(.int .i64 0), (.int .i64 0), (.slice none 0 0), (.slice none 0 0)], oI z1 25 [(.int .i64 d.vars), (.int .i64 d.start), (.slice nb d.next.length nc), (.slice fb d.final.length fc)]] w1) => (haveI := Inv.tab (P := Tryd.prog) hI; subsetCheck w1 d nb fb nc fc vs (hI.dfa h) hb hbr hbf)
  refine TO.loud rfl (l_call ent26 (CallT.of_pure hk11) rfl ?_)
  clear hk11
  rintro v O' ⟨N, rfl, rfl, rfl⟩
  rw [he]
  refine TO.quiet (q_assign rfl) ?_
  refine TO.nil (T.seq (T.region ?_))
  refine TO.quiet (q_move rfl) (TO.quiet (q_neq rfl rfl) ?_)
  refine TO.nil ?_
  refine T.cond0 rfl ?_
  refine T.skip ?_
  refine T.cut (fun ρ O => ∃ (bA bB bC bD : Nat), O = [oI bC 54 [(.slice (some ⟨bA, 0, none⟩) 1 1)], oI bD 23 [(.slice (some ⟨bB, 0, none⟩) d.next.length d.next.length)], rowI (some ⟨bA, 0, none⟩) 1 3 1 [(.int .i64 d.start)], rowI (some ⟨bB, 0, none⟩) d.next.length 4 1 (List.replicate d.next.length (.bool false)), oI z2 25 [(.int .i64 0), (.int .i64 0), (.slice none 0 0), (.slice none 0 0)], oI z1 25 [(.int .i64 d.vars), (.int .i64 d.start), (.slice nb d.next.length nc), (.slice fb d.final.length fc)]] ∧ Heads [(0, (.agg #[(.int .i64 d.vars), (.int .i64 d.start), (.slice nb d.next.length nc), (.slice fb d.final.length fc)])), (1, (.pointer (some ⟨z1, 0, none⟩))), (2, (.pointer (some ⟨z2, 0, none⟩))), (3, .int .i64 0), (4, .int .i64 ((0 : Nat) : Int)), (5, (.pointer (some ⟨bC, 0, none⟩))), (6, (.pointer (some ⟨bD, 0, none⟩)))] ρ) ?_ ?_
  · refine T.tree [oI z1 25 [(.int .i64 d.vars), (.int .i64 d.start), (.slice nb d.next.length nc), (.slice fb d.final.length fc)]] 11 mixed rfl (Sub.pick [1] rfl) (fun _ _ _ h => h) ?_
    refine RO.quietT 0 rfl (by kernel_rfl) (q_fieldAddr Tryd.underlying25 rfl inf3 rfl rfl) ?_
    refine RO.quietT 1 rfl (by kernel_rfl) (q_load_box 0 Tryd.underlying3 rfl rfl rfl rfl) ?_
    refine RO.quietT 3 rfl (by kernel_rfl) (q_fieldAddr Tryd.underlying25 rfl inf22 rfl rfl) ?_
    refine RO.quietT 4 rfl (by kernel_rfl) (q_load_box 0 Tryd.underlying22 rfl rfl rfl rfl) ?_
    refine RO.quietT 5 rfl (by kernel_rfl) (q_len Tryd.underlying22 rfl) ?_
    refine RO.fork [2, 6, 7, 8] (by kernel_rfl) rfl ⟨⟨_, rfl, rfl, l_build1 (v := (.int .i64 d.start)) Tryd.underlying54 inf3 rfl rfl rfl (fun bA => ⟨Sub.pick [2] rfl, ?_⟩)⟩, ⟨_, rfl, rfl, l_makeSlice (m := d.next.length) Tryd.underlying23 inf4 rfl rfl (by omega) (by omega) (fun bB => ⟨Sub.pick [2] rfl, ?_⟩)⟩, ⟨_, rfl, rfl, l_alloc inf54 rfl (fun bC => ⟨Sub.pick [2] rfl, ?_⟩)⟩, ⟨_, rfl, rfl, l_alloc inf23 rfl (fun bD => ⟨Sub.pick [2] rfl, ?_⟩)⟩, trivial⟩
    · refine RO.fork [6, 7, 8] (by kernel_rfl) rfl ⟨⟨_, rfl, rfl, l_makeSlice (m := d.next.length) Tryd.underlying23 inf4 rfl rfl (by omega) (by omega) (fun bB => ⟨Sub.pick [3] rfl, ?_⟩)⟩, ⟨_, rfl, rfl, l_alloc inf54 rfl (fun bC => ⟨Sub.pick [3] rfl, ?_⟩)⟩, ⟨_, rfl, rfl, l_alloc inf23 rfl (fun bD => ⟨Sub.pick [3] rfl, ?_⟩)⟩, trivial⟩
      · refine RO.fork [7, 8] (by kernel_rfl) rfl ⟨⟨_, rfl, rfl, l_alloc inf54 rfl (fun bC => ⟨Sub.pick [4] rfl, ?_⟩)⟩, ⟨_, rfl, rfl, l_alloc inf23 rfl (fun bD => ⟨Sub.pick [4] rfl, ?_⟩)⟩, trivial⟩
        · refine RO.fork [8] (by kernel_rfl) rfl ⟨⟨_, rfl, rfl, l_alloc inf23 rfl (fun bD => ⟨Sub.pick [5] rfl, ?_⟩)⟩, trivial⟩
          refine RO.fork [9] (by kernel_rfl) rfl ⟨⟨_, rfl, rfl, l_store_box (v := (.slice (some ⟨bA, 0, none⟩) 1 1)) (vs := [(.slice (some ⟨bA, 0, none⟩) 1 1)]) 1 inf54 rfl rfl rfl rfl rfl rfl (by simp [putL]) ⟨Sub.pick [5] rfl, ?_⟩⟩, trivial⟩
          refine RO.fork [10] (by kernel_rfl) rfl ⟨⟨_, rfl, rfl, l_store_box (v := (.slice (some ⟨bB, 0, none⟩) d.next.length d.next.length)) (vs := [(.slice (some ⟨bB, 0, none⟩) d.next.length d.next.length)]) 0 inf23 rfl rfl rfl rfl rfl rfl (by simp [putL]) ⟨Sub.pick [5] rfl, ?_⟩⟩, trivial⟩
          exact RO.fin (by kernel_rfl) ⟨bA, bB, bC, bD, rfl, ⟨rfl, rfl, rfl, rfl, rfl, rfl, rfl, trivial⟩⟩ (Sub.pick [1, 0, 1, 0, 0, 0] rfl)
        refine RO.fork [7] (by kernel_rfl) rfl ⟨⟨_, rfl, rfl, l_alloc inf54 rfl (fun bC => ⟨Sub.pick [5] rfl, ?_⟩)⟩, trivial⟩
        refine RO.fork [9] (by kernel_rfl) rfl ⟨⟨_, rfl, rfl, l_store_box (v := (.slice (some ⟨bA, 0, none⟩) 1 1)) (vs := [(.slice (some ⟨bA, 0, none⟩) 1 1)]) 0 inf54 rfl rfl rfl rfl rfl rfl (by simp [putL]) ⟨Sub.pick [5] rfl, ?_⟩⟩, trivial⟩
        refine RO.fork [10] (by kernel_rfl) rfl ⟨⟨_, rfl, rfl, l_store_box (v := (.slice (some ⟨bB, 0, none⟩) d.next.length d.next.length)) (vs := [(.slice (some ⟨bB, 0, none⟩) d.next.length d.next.length)]) 1 inf23 rfl rfl rfl rfl rfl rfl (by simp [putL]) ⟨Sub.pick [5] rfl, ?_⟩⟩, trivial⟩
        exact RO.fin (by kernel_rfl) ⟨bA, bB, bC, bD, rfl, ⟨rfl, rfl, rfl, rfl, rfl, rfl, rfl, trivial⟩⟩ (Sub.pick [0, 0, 1, 0, 0, 0] rfl)
      · refine RO.fork [6, 8] (by kernel_rfl) rfl ⟨⟨_, rfl, rfl, l_makeSlice (m := d.next.length) Tryd.underlying23 inf4 rfl rfl (by omega) (by omega) (fun bB => ⟨Sub.pick [4] rfl, ?_⟩)⟩, ⟨_, rfl, rfl, l_alloc inf23 rfl (fun bD => ⟨Sub.pick [4] rfl, ?_⟩)⟩, trivial⟩
        · refine RO.fork [8] (by kernel_rfl) rfl ⟨⟨_, rfl, rfl, l_alloc inf23 rfl (fun bD => ⟨Sub.pick [5] rfl, ?_⟩)⟩, trivial⟩
          refine RO.fork [9] (by kernel_rfl) rfl ⟨⟨_, rfl, rfl, l_store_box (v := (.slice (some ⟨bA, 0, none⟩) 1 1)) (vs := [(.slice (some ⟨bA, 0, none⟩) 1 1)]) 2 inf54 rfl rfl rfl rfl rfl rfl (by simp [putL]) ⟨Sub.pick [5] rfl, ?_⟩⟩, trivial⟩
          refine RO.fork [10] (by kernel_rfl) rfl ⟨⟨_, rfl, rfl, l_store_box (v := (.slice (some ⟨bB, 0, none⟩) d.next.length d.next.length)) (vs := [(.slice (some ⟨bB, 0, none⟩) d.next.length d.next.length)]) 0 inf23 rfl rfl rfl rfl rfl rfl (by simp [putL]) ⟨Sub.pick [5] rfl, ?_⟩⟩, trivial⟩
          exact RO.fin (by kernel_rfl) ⟨bA, bB, bC, bD, rfl, ⟨rfl, rfl, rfl, rfl, rfl, rfl, rfl, trivial⟩⟩ (Sub.pick [2, 0, 1, 0, 0, 0] rfl)
        refine RO.fork [6, 9] (by kernel_rfl) rfl ⟨⟨_, rfl, rfl, l_makeSlice (m := d.next.length) Tryd.underlying23 inf4 rfl rfl (by omega) (by omega) (fun bB => ⟨Sub.pick [5] rfl, ?_⟩)⟩, ⟨_, rfl, rfl, l_store_box (v := (.slice (some ⟨bA, 0, none⟩) 1 1)) (vs := [(.slice (some ⟨bA, 0, none⟩) 1 1)]) 1 inf54 rfl rfl rfl rfl rfl rfl (by simp [putL]) ⟨Sub.pick [4] rfl, ?_⟩⟩, trivial⟩
        · refine RO.fork [9] (by kernel_rfl) rfl ⟨⟨_, rfl, rfl, l_store_box (v := (.slice (some ⟨bA, 0, none⟩) 1 1)) (vs := [(.slice (some ⟨bA, 0, none⟩) 1 1)]) 2 inf54 rfl rfl rfl rfl rfl rfl (by simp [putL]) ⟨Sub.pick [5] rfl, ?_⟩⟩, trivial⟩
          refine RO.fork [10] (by kernel_rfl) rfl ⟨⟨_, rfl, rfl, l_store_box (v := (.slice (some ⟨bB, 0, none⟩) d.next.length d.next.length)) (vs := [(.slice (some ⟨bB, 0, none⟩) d.next.length d.next.length)]) 1 inf23 rfl rfl rfl rfl rfl rfl (by simp [putL]) ⟨Sub.pick [5] rfl, ?_⟩⟩, trivial⟩
          exact RO.fin (by kernel_rfl) ⟨bA, bB, bC, bD, rfl, ⟨rfl, rfl, rfl, rfl, rfl, rfl, rfl, trivial⟩⟩ (Sub.pick [2, 1, 1, 0, 0, 0] rfl)
        refine RO.fork [6] (by kernel_rfl) rfl ⟨⟨_, rfl, rfl, l_makeSlice (m := d.next.length) Tryd.underlying23 inf4 rfl rfl (by omega) (by omega) (fun bB => ⟨Sub.pick [5] rfl, ?_⟩)⟩, trivial⟩
        refine RO.fork [10] (by kernel_rfl) rfl ⟨⟨_, rfl, rfl, l_store_box (v := (.slice (some ⟨bB, 0, none⟩) d.next.length d.next.length)) (vs := [(.slice (some ⟨bB, 0, none⟩) d.next.length d.next.length)]) 1 inf23 rfl rfl rfl rfl rfl rfl (by simp [putL]) ⟨Sub.pick [5] rfl, ?_⟩⟩, trivial⟩
        exact RO.fin (by kernel_rfl) ⟨bA, bB, bC, bD, rfl, ⟨rfl, rfl, rfl, rfl, rfl, rfl, rfl, trivial⟩⟩ (Sub.pick [2, 1, 1, 0, 0, 0] rfl)
      refine RO.fork [6, 7] (by kernel_rfl) rfl ⟨⟨_, rfl, rfl, l_makeSlice (m := d.next.length) Tryd.underlying23 inf4 rfl rfl (by omega) (by omega) (fun bB => ⟨Sub.pick [4] rfl, ?_⟩)⟩, ⟨_, rfl, rfl, l_alloc inf54 rfl (fun bC => ⟨Sub.pick [4] rfl, ?_⟩)⟩, trivial⟩
      · refine RO.fork [7] (by kernel_rfl) rfl ⟨⟨_, rfl, rfl, l_alloc inf54 rfl (fun bC => ⟨Sub.pick [5] rfl, ?_⟩)⟩, trivial⟩
        refine RO.fork [9] (by kernel_rfl) rfl ⟨⟨_, rfl, rfl, l_store_box (v := (.slice (some ⟨bA, 0, none⟩) 1 1)) (vs := [(.slice (some ⟨bA, 0, none⟩) 1 1)]) 0 inf54 rfl rfl rfl rfl rfl rfl (by simp [putL]) ⟨Sub.pick [5] rfl, ?_⟩⟩, trivial⟩
        refine RO.fork [10] (by kernel_rfl) rfl ⟨⟨_, rfl, rfl, l_store_box (v := (.slice (some ⟨bB, 0, none⟩) d.next.length d.next.length)) (vs := [(.slice (some ⟨bB, 0, none⟩) d.next.length d.next.length)]) 2 inf23 rfl rfl rfl rfl rfl rfl (by simp [putL]) ⟨Sub.pick [5] rfl, ?_⟩⟩, trivial⟩
        exact RO.fin (by kernel_rfl) ⟨bA, bB, bC, bD, rfl, ⟨rfl, rfl, rfl, rfl, rfl, rfl, rfl, trivial⟩⟩ (Sub.pick [0, 1, 1, 0, 0, 0] rfl)
      refine RO.fork [6, 9] (by kernel_rfl) rfl ⟨⟨_, rfl, rfl, l_makeSlice (m := d.next.length) Tryd.underlying23 inf4 rfl rfl (by omega) (by omega) (fun bB => ⟨Sub.pick [5] rfl, ?_⟩)⟩, ⟨_, rfl, rfl, l_store_box (v := (.slice (some ⟨bA, 0, none⟩) 1 1)) (vs := [(.slice (some ⟨bA, 0, none⟩) 1 1)]) 0 inf54 rfl rfl rfl rfl rfl rfl (by simp [putL]) ⟨Sub.pick [4] rfl, ?_⟩⟩, trivial⟩
      · refine RO.fork [9] (by kernel_rfl) rfl ⟨⟨_, rfl, rfl, l_store_box (v := (.slice (some ⟨bA, 0, none⟩) 1 1)) (vs := [(.slice (some ⟨bA, 0, none⟩) 1 1)]) 1 inf54 rfl rfl rfl rfl rfl rfl (by simp [putL]) ⟨Sub.pick [5] rfl, ?_⟩⟩, trivial⟩
        refine RO.fork [10] (by kernel_rfl) rfl ⟨⟨_, rfl, rfl, l_store_box (v := (.slice (some ⟨bB, 0, none⟩) d.next.length d.next.length)) (vs := [(.slice (some ⟨bB, 0, none⟩) d.next.length d.next.length)]) 2 inf23 rfl rfl rfl rfl rfl rfl (by simp [putL]) ⟨Sub.pick [5] rfl, ?_⟩⟩, trivial⟩
        exact RO.fin (by kernel_rfl) ⟨bA, bB, bC, bD, rfl, ⟨rfl, rfl, rfl, rfl, rfl, rfl, rfl, trivial⟩⟩ (Sub.pick [1, 1, 1, 0, 0, 0] rfl)
      refine RO.fork [6] (by kernel_rfl) rfl ⟨⟨_, rfl, rfl, l_makeSlice (m := d.next.length) Tryd.underlying23 inf4 rfl rfl (by omega) (by omega) (fun bB => ⟨Sub.pick [5] rfl, ?_⟩)⟩, trivial⟩
      refine RO.fork [10] (by kernel_rfl) rfl ⟨⟨_, rfl, rfl, l_store_box (v := (.slice (some ⟨bB, 0, none⟩) d.next.length d.next.length)) (vs := [(.slice (some ⟨bB, 0, none⟩) d.next.length d.next.length)]) 2 inf23 rfl rfl rfl rfl rfl rfl (by simp [putL]) ⟨Sub.pick [5] rfl, ?_⟩⟩, trivial⟩
      exact RO.fin (by kernel_rfl) ⟨bA, bB, bC, bD, rfl, ⟨rfl, rfl, rfl, rfl, rfl, rfl, rfl, trivial⟩⟩ (Sub.pick [1, 1, 1, 0, 0, 0] rfl)
    · refine RO.fork [2, 7, 8] (by kernel_rfl) rfl ⟨⟨_, rfl, rfl, l_build1 (v := (.int .i64 d.start)) Tryd.underlying54 inf3 rfl rfl rfl (fun bA => ⟨Sub.pick [3] rfl, ?_⟩)⟩, ⟨_, rfl, rfl, l_alloc inf54 rfl (fun bC => ⟨Sub.pick [3] rfl, ?_⟩)⟩, ⟨_, rfl, rfl, l_alloc inf23 rfl (fun bD => ⟨Sub.pick [3] rfl, ?_⟩)⟩, trivial⟩
      · refine RO.fork [7, 8] (by kernel_rfl) rfl ⟨⟨_, rfl, rfl, l_alloc inf54 rfl (fun bC => ⟨Sub.pick [4] rfl, ?_⟩)⟩, ⟨_, rfl, rfl, l_alloc inf23 rfl (fun bD => ⟨Sub.pick [4] rfl, ?_⟩)⟩, trivial⟩
        · refine RO.fork [8] (by kernel_rfl) rfl ⟨⟨_, rfl, rfl, l_alloc inf23 rfl (fun bD => ⟨Sub.pick [5] rfl, ?_⟩)⟩, trivial⟩
          refine RO.fork [9] (by kernel_rfl) rfl ⟨⟨_, rfl, rfl, l_store_box (v := (.slice (some ⟨bA, 0, none⟩) 1 1)) (vs := [(.slice (some ⟨bA, 0, none⟩) 1 1)]) 1 inf54 rfl rfl rfl rfl rfl rfl (by simp [putL]) ⟨Sub.pick [5] rfl, ?_⟩⟩, trivial⟩
          refine RO.fork [10] (by kernel_rfl) rfl ⟨⟨_, rfl, rfl, l_store_box (v := (.slice (some ⟨bB, 0, none⟩) d.next.length d.next.length)) (vs := [(.slice (some ⟨bB, 0, none⟩) d.next.length d.next.length)]) 0 inf23 rfl rfl rfl rfl rfl rfl (by simp [putL]) ⟨Sub.pick [5] rfl, ?_⟩⟩, trivial⟩
          exact RO.fin (by kernel_rfl) ⟨bA, bB, bC, bD, rfl, ⟨rfl, rfl, rfl, rfl, rfl, rfl, rfl, trivial⟩⟩ (Sub.pick [1, 0, 0, 0, 0, 0] rfl)
        refine RO.fork [7] (by kernel_rfl) rfl ⟨⟨_, rfl, rfl, l_alloc inf54 rfl (fun bC => ⟨Sub.pick [5] rfl, ?_⟩)⟩, trivial⟩
        refine RO.fork [9] (by kernel_rfl) rfl ⟨⟨_, rfl, rfl, l_store_box (v := (.slice (some ⟨bA, 0, none⟩) 1 1)) (vs := [(.slice (some ⟨bA, 0, none⟩) 1 1)]) 0 inf54 rfl rfl rfl rfl rfl rfl (by simp [putL]) ⟨Sub.pick [5] rfl, ?_⟩⟩, trivial⟩
        refine RO.fork [10] (by kernel_rfl) rfl ⟨⟨_, rfl, rfl, l_store_box (v := (.slice (some ⟨bB, 0, none⟩) d.next.length d.next.length)) (vs := [(.slice (some ⟨bB, 0, none⟩) d.next.length d.next.length)]) 1 inf23 rfl rfl rfl rfl rfl rfl (by simp [putL]) ⟨Sub.pick [5] rfl, ?_⟩⟩, trivial⟩
        exact RO.fin (by kernel_rfl) ⟨bA, bB, bC, bD, rfl, ⟨rfl, rfl, rfl, rfl, rfl, rfl, rfl, trivial⟩⟩ (Sub.pick [0, 0, 0, 0, 0, 0] rfl)
      · refine RO.fork [2, 8] (by kernel_rfl) rfl ⟨⟨_, rfl, rfl, l_build1 (v := (.int .i64 d.start)) Tryd.underlying54 inf3 rfl rfl rfl (fun bA => ⟨Sub.pick [4] rfl, ?_⟩)⟩, ⟨_, rfl, rfl, l_alloc inf23 rfl (fun bD => ⟨Sub.pick [4] rfl, ?_⟩)⟩, trivial⟩
        · refine RO.fork [8] (by kernel_rfl) rfl ⟨⟨_, rfl, rfl, l_alloc inf23 rfl (fun bD => ⟨Sub.pick [5] rfl, ?_⟩)⟩, trivial⟩
          refine RO.fork [9] (by kernel_rfl) rfl ⟨⟨_, rfl, rfl, l_store_box (v := (.slice (some ⟨bA, 0, none⟩) 1 1)) (vs := [(.slice (some ⟨bA, 0, none⟩) 1 1)]) 2 inf54 rfl rfl rfl rfl rfl rfl (by simp [putL]) ⟨Sub.pick [5] rfl, ?_⟩⟩, trivial⟩
          refine RO.fork [10] (by kernel_rfl) rfl ⟨⟨_, rfl, rfl, l_store_box (v := (.slice (some ⟨bB, 0, none⟩) d.next.length d.next.length)) (vs := [(.slice (some ⟨bB, 0, none⟩) d.next.length d.next.length)]) 0 inf23 rfl rfl rfl rfl rfl rfl (by simp [putL]) ⟨Sub.pick [5] rfl, ?_⟩⟩, trivial⟩
          exact RO.fin (by kernel_rfl) ⟨bA, bB, bC, bD, rfl, ⟨rfl, rfl, rfl, rfl, rfl, rfl, rfl, trivial⟩⟩ (Sub.pick [2, 0, 0, 0, 0, 0] rfl)
        refine RO.fork [2] (by kernel_rfl) rfl ⟨⟨_, rfl, rfl, l_build1 (v := (.int .i64 d.start)) Tryd.underlying54 inf3 rfl rfl rfl (fun bA => ⟨Sub.pick [5] rfl, ?_⟩)⟩, trivial⟩
        refine RO.fork [9] (by kernel_rfl) rfl ⟨⟨_, rfl, rfl, l_store_box (v := (.slice (some ⟨bA, 0, none⟩) 1 1)) (vs := [(.slice (some ⟨bA, 0, none⟩) 1 1)]) 2 inf54 rfl rfl rfl rfl rfl rfl (by simp [putL]) ⟨Sub.pick [5] rfl, ?_⟩⟩, trivial⟩
        refine RO.fork [10] (by kernel_rfl) rfl ⟨⟨_, rfl, rfl, l_store_box (v := (.slice (some ⟨bB, 0, none⟩) d.next.length d.next.length)) (vs := [(.slice (some ⟨bB, 0, none⟩) d.next.length d.next.length)]) 1 inf23 rfl rfl rfl rfl rfl rfl (by simp [putL]) ⟨Sub.pick [5] rfl, ?_⟩⟩, trivial⟩
        exact RO.fin (by kernel_rfl) ⟨bA, bB, bC, bD, rfl, ⟨rfl, rfl, rfl, rfl, rfl, rfl, rfl, trivial⟩⟩ (Sub.pick [2, 1, 0, 0, 0, 0] rfl)
      refine RO.fork [2, 7] (by kernel_rfl) rfl ⟨⟨_, rfl, rfl, l_build1 (v := (.int .i64 d.start)) Tryd.underlying54 inf3 rfl rfl rfl (fun bA => ⟨Sub.pick [4] rfl, ?_⟩)⟩, ⟨_, rfl, rfl, l_alloc inf54 rfl (fun bC => ⟨Sub.pick [4] rfl, ?_⟩)⟩, trivial⟩
      · refine RO.fork [7] (by kernel_rfl) rfl ⟨⟨_, rfl, rfl, l_alloc inf54 rfl (fun bC => ⟨Sub.pick [5] rfl, ?_⟩)⟩, trivial⟩
        refine RO.fork [9] (by kernel_rfl) rfl ⟨⟨_, rfl, rfl, l_store_box (v := (.slice (some ⟨bA, 0, none⟩) 1 1)) (vs := [(.slice (some ⟨bA, 0, none⟩) 1 1)]) 0 inf54 rfl rfl rfl rfl rfl rfl (by simp [putL]) ⟨Sub.pick [5] rfl, ?_⟩⟩, trivial⟩
        refine RO.fork [10] (by kernel_rfl) rfl ⟨⟨_, rfl, rfl, l_store_box (v := (.slice (some ⟨bB, 0, none⟩) d.next.length d.next.length)) (vs := [(.slice (some ⟨bB, 0, none⟩) d.next.length d.next.length)]) 2 inf23 rfl rfl rfl rfl rfl rfl (by simp [putL]) ⟨Sub.pick [5] rfl, ?_⟩⟩, trivial⟩
        exact RO.fin (by kernel_rfl) ⟨bA, bB, bC, bD, rfl, ⟨rfl, rfl, rfl, rfl, rfl, rfl, rfl, trivial⟩⟩ (Sub.pick [0, 1, 0, 0, 0, 0] rfl)
      refine RO.fork [2] (by kernel_rfl) rfl ⟨⟨_, rfl, rfl, l_build1 (v := (.int .i64 d.start)) Tryd.underlying54 inf3 rfl rfl rfl (fun bA => ⟨Sub.pick [5] rfl, ?_⟩)⟩, trivial⟩
      refine RO.fork [9] (by kernel_rfl) rfl ⟨⟨_, rfl, rfl, l_store_box (v := (.slice (some ⟨bA, 0, none⟩) 1 1)) (vs := [(.slice (some ⟨bA, 0, none⟩) 1 1)]) 1 inf54 rfl rfl rfl rfl rfl rfl (by simp [putL]) ⟨Sub.pick [5] rfl, ?_⟩⟩, trivial⟩
      refine RO.fork [10] (by kernel_rfl) rfl ⟨⟨_, rfl, rfl, l_store_box (v := (.slice (some ⟨bB, 0, none⟩) d.next.length d.next.length)) (vs := [(.slice (some ⟨bB, 0, none⟩) d.next.length d.next.length)]) 2 inf23 rfl rfl rfl rfl rfl rfl (by simp [putL]) ⟨Sub.pick [5] rfl, ?_⟩⟩, trivial⟩
      exact RO.fin (by kernel_rfl) ⟨bA, bB, bC, bD, rfl, ⟨rfl, rfl, rfl, rfl, rfl, rfl, rfl, trivial⟩⟩ (Sub.pick [1, 1, 0, 0, 0, 0] rfl)
    · refine RO.fork [2, 6, 8] (by kernel_rfl) rfl ⟨⟨_, rfl, rfl, l_build1 (v := (.int .i64 d.start)) Tryd.underlying54 inf3 rfl rfl rfl (fun bA => ⟨Sub.pick [3] rfl, ?_⟩)⟩, ⟨_, rfl, rfl, l_makeSlice (m := d.next.length) Tryd.underlying23 inf4 rfl rfl (by omega) (by omega) (fun bB => ⟨Sub.pick [3] rfl, ?_⟩)⟩, ⟨_, rfl, rfl, l_alloc inf23 rfl (fun bD => ⟨Sub.pick [3] rfl, ?_⟩)⟩, trivial⟩
      · refine RO.fork [6, 8] (by kernel_rfl) rfl ⟨⟨_, rfl, rfl, l_makeSlice (m := d.next.length) Tryd.underlying23 inf4 rfl rfl (by omega) (by omega) (fun bB => ⟨Sub.pick [4] rfl, ?_⟩)⟩, ⟨_, rfl, rfl, l_alloc inf23 rfl (fun bD => ⟨Sub.pick [4] rfl, ?_⟩)⟩, trivial⟩
        · refine RO.fork [8] (by kernel_rfl) rfl ⟨⟨_, rfl, rfl, l_alloc inf23 rfl (fun bD => ⟨Sub.pick [5] rfl, ?_⟩)⟩, trivial⟩
          refine RO.fork [9] (by kernel_rfl) rfl ⟨⟨_, rfl, rfl, l_store_box (v := (.slice (some ⟨bA, 0, none⟩) 1 1)) (vs := [(.slice (some ⟨bA, 0, none⟩) 1 1)]) 3 inf54 rfl rfl rfl rfl rfl rfl (by simp [putL]) ⟨Sub.pick [5] rfl, ?_⟩⟩, trivial⟩
          refine RO.fork [10] (by kernel_rfl) rfl ⟨⟨_, rfl, rfl, l_store_box (v := (.slice (some ⟨bB, 0, none⟩) d.next.length d.next.length)) (vs := [(.slice (some ⟨bB, 0, none⟩) d.next.length d.next.length)]) 0 inf23 rfl rfl rfl rfl rfl rfl (by simp [putL]) ⟨Sub.pick [5] rfl, ?_⟩⟩, trivial⟩
          exact RO.fin (by kernel_rfl) ⟨bA, bB, bC, bD, rfl, ⟨rfl, rfl, rfl, rfl, rfl, rfl, rfl, trivial⟩⟩ (Sub.pick [3, 0, 1, 0, 0, 0] rfl)
        refine RO.fork [6, 9] (by kernel_rfl) rfl ⟨⟨_, rfl, rfl, l_makeSlice (m := d.next.length) Tryd.underlying23 inf4 rfl rfl (by omega) (by omega) (fun bB => ⟨Sub.pick [5] rfl, ?_⟩)⟩, ⟨_, rfl, rfl, l_store_box (v := (.slice (some ⟨bA, 0, none⟩) 1 1)) (vs := [(.slice (some ⟨bA, 0, none⟩) 1 1)]) 2 inf54 rfl rfl rfl rfl rfl rfl (by simp [putL]) ⟨Sub.pick [4] rfl, ?_⟩⟩, trivial⟩
        · refine RO.fork [9] (by kernel_rfl) rfl ⟨⟨_, rfl, rfl, l_store_box (v := (.slice (some ⟨bA, 0, none⟩) 1 1)) (vs := [(.slice (some ⟨bA, 0, none⟩) 1 1)]) 3 inf54 rfl rfl rfl rfl rfl rfl (by simp [putL]) ⟨Sub.pick [5] rfl, ?_⟩⟩, trivial⟩
          refine RO.fork [10] (by kernel_rfl) rfl ⟨⟨_, rfl, rfl, l_store_box (v := (.slice (some ⟨bB, 0, none⟩) d.next.length d.next.length)) (vs := [(.slice (some ⟨bB, 0, none⟩) d.next.length d.next.length)]) 1 inf23 rfl rfl rfl rfl rfl rfl (by simp [putL]) ⟨Sub.pick [5] rfl, ?_⟩⟩, trivial⟩
          exact RO.fin (by kernel_rfl) ⟨bA, bB, bC, bD, rfl, ⟨rfl, rfl, rfl, rfl, rfl, rfl, rfl, trivial⟩⟩ (Sub.pick [3, 1, 1, 0, 0, 0] rfl)
        refine RO.fork [6] (by kernel_rfl) rfl ⟨⟨_, rfl, rfl, l_makeSlice (m := d.next.length) Tryd.underlying23 inf4 rfl rfl (by omega) (by omega) (fun bB => ⟨Sub.pick [5] rfl, ?_⟩)⟩, trivial⟩
        refine RO.fork [10] (by kernel_rfl) rfl ⟨⟨_, rfl, rfl, l_store_box (v := (.slice (some ⟨bB, 0, none⟩) d.next.length d.next.length)) (vs := [(.slice (some ⟨bB, 0, none⟩) d.next.length d.next.length)]) 1 inf23 rfl rfl rfl rfl rfl rfl (by simp [putL]) ⟨Sub.pick [5] rfl, ?_⟩⟩, trivial⟩
        exact RO.fin (by kernel_rfl) ⟨bA, bB, bC, bD, rfl, ⟨rfl, rfl, rfl, rfl, rfl, rfl, rfl, trivial⟩⟩ (Sub.pick [3, 1, 1, 0, 0, 0] rfl)
      · refine RO.fork [2, 8] (by kernel_rfl) rfl ⟨⟨_, rfl, rfl, l_build1 (v := (.int .i64 d.start)) Tryd.underlying54 inf3 rfl rfl rfl (fun bA => ⟨Sub.pick [4] rfl, ?_⟩)⟩, ⟨_, rfl, rfl, l_alloc inf23 rfl (fun bD => ⟨Sub.pick [4] rfl, ?_⟩)⟩, trivial⟩
        · refine RO.fork [8] (by kernel_rfl) rfl ⟨⟨_, rfl, rfl, l_alloc inf23 rfl (fun bD => ⟨Sub.pick [5] rfl, ?_⟩)⟩, trivial⟩
          refine RO.fork [9] (by kernel_rfl) rfl ⟨⟨_, rfl, rfl, l_store_box (v := (.slice (some ⟨bA, 0, none⟩) 1 1)) (vs := [(.slice (some ⟨bA, 0, none⟩) 1 1)]) 3 inf54 rfl rfl rfl rfl rfl rfl (by simp [putL]) ⟨Sub.pick [5] rfl, ?_⟩⟩, trivial⟩
          refine RO.fork [10] (by kernel_rfl) rfl ⟨⟨_, rfl, rfl, l_store_box (v := (.slice (some ⟨bB, 0, none⟩) d.next.length d.next.length)) (vs := [(.slice (some ⟨bB, 0, none⟩) d.next.length d.next.length)]) 0 inf23 rfl rfl rfl rfl rfl rfl (by simp [putL]) ⟨Sub.pick [5] rfl, ?_⟩⟩, trivial⟩
          exact RO.fin (by kernel_rfl) ⟨bA, bB, bC, bD, rfl, ⟨rfl, rfl, rfl, rfl, rfl, rfl, rfl, trivial⟩⟩ (Sub.pick [3, 0, 0, 0, 0, 0] rfl)
        refine RO.fork [2] (by kernel_rfl) rfl ⟨⟨_, rfl, rfl, l_build1 (v := (.int .i64 d.start)) Tryd.underlying54 inf3 rfl rfl rfl (fun bA => ⟨Sub.pick [5] rfl, ?_⟩)⟩, trivial⟩
        refine RO.fork [9] (by kernel_rfl) rfl ⟨⟨_, rfl, rfl, l_store_box (v := (.slice (some ⟨bA, 0, none⟩) 1 1)) (vs := [(.slice (some ⟨bA, 0, none⟩) 1 1)]) 3 inf54 rfl rfl rfl rfl rfl rfl (by simp [putL]) ⟨Sub.pick [5] rfl, ?_⟩⟩, trivial⟩
        refine RO.fork [10] (by kernel_rfl) rfl ⟨⟨_, rfl, rfl, l_store_box (v := (.slice (some ⟨bB, 0, none⟩) d.next.length d.next.length)) (vs := [(.slice (some ⟨bB, 0, none⟩) d.next.length d.next.length)]) 1 inf23 rfl rfl rfl rfl rfl rfl (by simp [putL]) ⟨Sub.pick [5] rfl, ?_⟩⟩, trivial⟩
        exact RO.fin (by kernel_rfl) ⟨bA, bB, bC, bD, rfl, ⟨rfl, rfl, rfl, rfl, rfl, rfl, rfl, trivial⟩⟩ (Sub.pick [3, 1, 0, 0, 0, 0] rfl)
      refine RO.fork [2, 6] (by kernel_rfl) rfl ⟨⟨_, rfl, rfl, l_build1 (v := (.int .i64 d.start)) Tryd.underlying54 inf3 rfl rfl rfl (fun bA => ⟨Sub.pick [4] rfl, ?_⟩)⟩, ⟨_, rfl, rfl, l_makeSlice (m := d.next.length) Tryd.underlying23 inf4 rfl rfl (by omega) (by omega) (fun bB => ⟨Sub.pick [4] rfl, ?_⟩)⟩, trivial⟩
      · refine RO.fork [6, 9] (by kernel_rfl) rfl ⟨⟨_, rfl, rfl, l_makeSlice (m := d.next.length) Tryd.underlying23 inf4 rfl rfl (by omega) (by omega) (fun bB => ⟨Sub.pick [5] rfl, ?_⟩)⟩, ⟨_, rfl, rfl, l_store_box (v := (.slice (some ⟨bA, 0, none⟩) 1 1)) (vs := [(.slice (some ⟨bA, 0, none⟩) 1 1)]) 2 inf54 rfl rfl rfl rfl rfl rfl (by simp [putL]) ⟨Sub.pick [4] rfl, ?_⟩⟩, trivial⟩
        · refine RO.fork [9] (by kernel_rfl) rfl ⟨⟨_, rfl, rfl, l_store_box (v := (.slice (some ⟨bA, 0, none⟩) 1 1)) (vs := [(.slice (some ⟨bA, 0, none⟩) 1 1)]) 3 inf54 rfl rfl rfl rfl rfl rfl (by simp [putL]) ⟨Sub.pick [5] rfl, ?_⟩⟩, trivial⟩
          refine RO.fork [10] (by kernel_rfl) rfl ⟨⟨_, rfl, rfl, l_store_box (v := (.slice (some ⟨bB, 0, none⟩) d.next.length d.next.length)) (vs := [(.slice (some ⟨bB, 0, none⟩) d.next.length d.next.length)]) 2 inf23 rfl rfl rfl rfl rfl rfl (by simp [putL]) ⟨Sub.pick [5] rfl, ?_⟩⟩, trivial⟩
          exact RO.fin (by kernel_rfl) ⟨bA, bB, bC, bD, rfl, ⟨rfl, rfl, rfl, rfl, rfl, rfl, rfl, trivial⟩⟩ (Sub.pick [3, 2, 1, 0, 0, 0] rfl)
        refine RO.fork [6] (by kernel_rfl) rfl ⟨⟨_, rfl, rfl, l_makeSlice (m := d.next.length) Tryd.underlying23 inf4 rfl rfl (by omega) (by omega) (fun bB => ⟨Sub.pick [5] rfl, ?_⟩)⟩, trivial⟩
        refine RO.fork [10] (by kernel_rfl) rfl ⟨⟨_, rfl, rfl, l_store_box (v := (.slice (some ⟨bB, 0, none⟩) d.next.length d.next.length)) (vs := [(.slice (some ⟨bB, 0, none⟩) d.next.length d.next.length)]) 2 inf23 rfl rfl rfl rfl rfl rfl (by simp [putL]) ⟨Sub.pick [5] rfl, ?_⟩⟩, trivial⟩
        exact RO.fin (by kernel_rfl) ⟨bA, bB, bC, bD, rfl, ⟨rfl, rfl, rfl, rfl, rfl, rfl, rfl, trivial⟩⟩ (Sub.pick [3, 2, 1, 0, 0, 0] rfl)
      refine RO.fork [2] (by kernel_rfl) rfl ⟨⟨_, rfl, rfl, l_build1 (v := (.int .i64 d.start)) Tryd.underlying54 inf3 rfl rfl rfl (fun bA => ⟨Sub.pick [5] rfl, ?_⟩)⟩, trivial⟩
      refine RO.fork [9] (by kernel_rfl) rfl ⟨⟨_, rfl, rfl, l_store_box (v := (.slice (some ⟨bA, 0, none⟩) 1 1)) (vs := [(.slice (some ⟨bA, 0, none⟩) 1 1)]) 3 inf54 rfl rfl rfl rfl rfl rfl (by simp [putL]) ⟨Sub.pick [5] rfl, ?_⟩⟩, trivial⟩
      refine RO.fork [10] (by kernel_rfl) rfl ⟨⟨_, rfl, rfl, l_store_box (v := (.slice (some ⟨bB, 0, none⟩) d.next.length d.next.length)) (vs := [(.slice (some ⟨bB, 0, none⟩) d.next.length d.next.length)]) 2 inf23 rfl rfl rfl rfl rfl rfl (by simp [putL]) ⟨Sub.pick [5] rfl, ?_⟩⟩, trivial⟩
      exact RO.fin (by kernel_rfl) ⟨bA, bB, bC, bD, rfl, ⟨rfl, rfl, rfl, rfl, rfl, rfl, rfl, trivial⟩⟩ (Sub.pick [3, 2, 0, 0, 0, 0] rfl)
    refine RO.fork [2, 6, 7] (by kernel_rfl) rfl ⟨⟨_, rfl, rfl, l_build1 (v := (.int .i64 d.start)) Tryd.underlying54 inf3 rfl rfl rfl (fun bA => ⟨Sub.pick [3] rfl, ?_⟩)⟩, ⟨_, rfl, rfl, l_makeSlice (m := d.next.length) Tryd.underlying23 inf4 rfl rfl (by omega) (by omega) (fun bB => ⟨Sub.pick [3] rfl, ?_⟩)⟩, ⟨_, rfl, rfl, l_alloc inf54 rfl (fun bC => ⟨Sub.pick [3] rfl, ?_⟩)⟩, trivial⟩
    · refine RO.fork [6, 7] (by kernel_rfl) rfl ⟨⟨_, rfl, rfl, l_makeSlice (m := d.next.length) Tryd.underlying23 inf4 rfl rfl (by omega) (by omega) (fun bB => ⟨Sub.pick [4] rfl, ?_⟩)⟩, ⟨_, rfl, rfl, l_alloc inf54 rfl (fun bC => ⟨Sub.pick [4] rfl, ?_⟩)⟩, trivial⟩
      · refine RO.fork [7] (by kernel_rfl) rfl ⟨⟨_, rfl, rfl, l_alloc inf54 rfl (fun bC => ⟨Sub.pick [5] rfl, ?_⟩)⟩, trivial⟩
        refine RO.fork [9] (by kernel_rfl) rfl ⟨⟨_, rfl, rfl, l_store_box (v := (.slice (some ⟨bA, 0, none⟩) 1 1)) (vs := [(.slice (some ⟨bA, 0, none⟩) 1 1)]) 0 inf54 rfl rfl rfl rfl rfl rfl (by simp [putL]) ⟨Sub.pick [5] rfl, ?_⟩⟩, trivial⟩
        refine RO.fork [10] (by kernel_rfl) rfl ⟨⟨_, rfl, rfl, l_store_box (v := (.slice (some ⟨bB, 0, none⟩) d.next.length d.next.length)) (vs := [(.slice (some ⟨bB, 0, none⟩) d.next.length d.next.length)]) 3 inf23 rfl rfl rfl rfl rfl rfl (by simp [putL]) ⟨Sub.pick [5] rfl, ?_⟩⟩, trivial⟩
        exact RO.fin (by kernel_rfl) ⟨bA, bB, bC, bD, rfl, ⟨rfl, rfl, rfl, rfl, rfl, rfl, rfl, trivial⟩⟩ (Sub.pick [0, 2, 1, 0, 0, 0] rfl)
      refine RO.fork [6, 9] (by kernel_rfl) rfl ⟨⟨_, rfl, rfl, l_makeSlice (m := d.next.length) Tryd.underlying23 inf4 rfl rfl (by omega) (by omega) (fun bB => ⟨Sub.pick [5] rfl, ?_⟩)⟩, ⟨_, rfl, rfl, l_store_box (v := (.slice (some ⟨bA, 0, none⟩) 1 1)) (vs := [(.slice (some ⟨bA, 0, none⟩) 1 1)]) 0 inf54 rfl rfl rfl rfl rfl rfl (by simp [putL]) ⟨Sub.pick [4] rfl, ?_⟩⟩, trivial⟩
      · refine RO.fork [9] (by kernel_rfl) rfl ⟨⟨_, rfl, rfl, l_store_box (v := (.slice (some ⟨bA, 0, none⟩) 1 1)) (vs := [(.slice (some ⟨bA, 0, none⟩) 1 1)]) 1 inf54 rfl rfl rfl rfl rfl rfl (by simp [putL]) ⟨Sub.pick [5] rfl, ?_⟩⟩, trivial⟩
        refine RO.fork [10] (by kernel_rfl) rfl ⟨⟨_, rfl, rfl, l_store_box (v := (.slice (some ⟨bB, 0, none⟩) d.next.length d.next.length)) (vs := [(.slice (some ⟨bB, 0, none⟩) d.next.length d.next.length)]) 3 inf23 rfl rfl rfl rfl rfl rfl (by simp [putL]) ⟨Sub.pick [5] rfl, ?_⟩⟩, trivial⟩
        exact RO.fin (by kernel_rfl) ⟨bA, bB, bC, bD, rfl, ⟨rfl, rfl, rfl, rfl, rfl, rfl, rfl, trivial⟩⟩ (Sub.pick [1, 2, 1, 0, 0, 0] rfl)
      refine RO.fork [6] (by kernel_rfl) rfl ⟨⟨_, rfl, rfl, l_makeSlice (m := d.next.length) Tryd.underlying23 inf4 rfl rfl (by omega) (by omega) (fun bB => ⟨Sub.pick [5] rfl, ?_⟩)⟩, trivial⟩
      refine RO.fork [10] (by kernel_rfl) rfl ⟨⟨_, rfl, rfl, l_store_box (v := (.slice (some ⟨bB, 0, none⟩) d.next.length d.next.length)) (vs := [(.slice (some ⟨bB, 0, none⟩) d.next.length d.next.length)]) 3 inf23 rfl rfl rfl rfl rfl rfl (by simp [putL]) ⟨Sub.pick [5] rfl, ?_⟩⟩, trivial⟩
      exact RO.fin (by kernel_rfl) ⟨bA, bB, bC, bD, rfl, ⟨rfl, rfl, rfl, rfl, rfl, rfl, rfl, trivial⟩⟩ (Sub.pick [1, 2, 1, 0, 0, 0] rfl)
    · refine RO.fork [2, 7] (by kernel_rfl) rfl ⟨⟨_, rfl, rfl, l_build1 (v := (.int .i64 d.start)) Tryd.underlying54 inf3 rfl rfl rfl (fun bA => ⟨Sub.pick [4] rfl, ?_⟩)⟩, ⟨_, rfl, rfl, l_alloc inf54 rfl (fun bC => ⟨Sub.pick [4] rfl, ?_⟩)⟩, trivial⟩
      · refine RO.fork [7] (by kernel_rfl) rfl ⟨⟨_, rfl, rfl, l_alloc inf54 rfl (fun bC => ⟨Sub.pick [5] rfl, ?_⟩)⟩, trivial⟩
        refine RO.fork [9] (by kernel_rfl) rfl ⟨⟨_, rfl, rfl, l_store_box (v := (.slice (some ⟨bA, 0, none⟩) 1 1)) (vs := [(.slice (some ⟨bA, 0, none⟩) 1 1)]) 0 inf54 rfl rfl rfl rfl rfl rfl (by simp [putL]) ⟨Sub.pick [5] rfl, ?_⟩⟩, trivial⟩
        refine RO.fork [10] (by kernel_rfl) rfl ⟨⟨_, rfl, rfl, l_store_box (v := (.slice (some ⟨bB, 0, none⟩) d.next.length d.next.length)) (vs := [(.slice (some ⟨bB, 0, none⟩) d.next.length d.next.length)]) 3 inf23 rfl rfl rfl rfl rfl rfl (by simp [putL]) ⟨Sub.pick [5] rfl, ?_⟩⟩, trivial⟩
        exact RO.fin (by kernel_rfl) ⟨bA, bB, bC, bD, rfl, ⟨rfl, rfl, rfl, rfl, rfl, rfl, rfl, trivial⟩⟩ (Sub.pick [0, 2, 0, 0, 0, 0] rfl)
      refine RO.fork [2] (by kernel_rfl) rfl ⟨⟨_, rfl, rfl, l_build1 (v := (.int .i64 d.start)) Tryd.underlying54 inf3 rfl rfl rfl (fun bA => ⟨Sub.pick [5] rfl, ?_⟩)⟩, trivial⟩
      refine RO.fork [9] (by kernel_rfl) rfl ⟨⟨_, rfl, rfl, l_store_box (v := (.slice (some ⟨bA, 0, none⟩) 1 1)) (vs := [(.slice (some ⟨bA, 0, none⟩) 1 1)]) 1 inf54 rfl rfl rfl rfl rfl rfl (by simp [putL]) ⟨Sub.pick [5] rfl, ?_⟩⟩, trivial⟩
      refine RO.fork [10] (by kernel_rfl) rfl ⟨⟨_, rfl, rfl, l_store_box (v := (.slice (some ⟨bB, 0, none⟩) d.next.length d.next.length)) (vs := [(.slice (some ⟨bB, 0, none⟩) d.next.length d.next.length)]) 3 inf23 rfl rfl rfl rfl rfl rfl (by simp [putL]) ⟨Sub.pick [5] rfl, ?_⟩⟩, trivial⟩
      exact RO.fin (by kernel_rfl) ⟨bA, bB, bC, bD, rfl, ⟨rfl, rfl, rfl, rfl, rfl, rfl, rfl, trivial⟩⟩ (Sub.pick [1, 2, 0, 0, 0, 0] rfl)
    refine RO.fork [2, 6] (by kernel_rfl) rfl ⟨⟨_, rfl, rfl, l_build1 (v := (.int .i64 d.start)) Tryd.underlying54 inf3 rfl rfl rfl (fun bA => ⟨Sub.pick [4] rfl, ?_⟩)⟩, ⟨_, rfl, rfl, l_makeSlice (m := d.next.length) Tryd.underlying23 inf4 rfl rfl (by omega) (by omega) (fun bB => ⟨Sub.pick [4] rfl, ?_⟩)⟩, trivial⟩
    · refine RO.fork [6, 9] (by kernel_rfl) rfl ⟨⟨_, rfl, rfl, l_makeSlice (m := d.next.length) Tryd.underlying23 inf4 rfl rfl (by omega) (by omega) (fun bB => ⟨Sub.pick [5] rfl, ?_⟩)⟩, ⟨_, rfl, rfl, l_store_box (v := (.slice (some ⟨bA, 0, none⟩) 1 1)) (vs := [(.slice (some ⟨bA, 0, none⟩) 1 1)]) 1 inf54 rfl rfl rfl rfl rfl rfl (by simp [putL]) ⟨Sub.pick [4] rfl, ?_⟩⟩, trivial⟩
      · refine RO.fork [9] (by kernel_rfl) rfl ⟨⟨_, rfl, rfl, l_store_box (v := (.slice (some ⟨bA, 0, none⟩) 1 1)) (vs := [(.slice (some ⟨bA, 0, none⟩) 1 1)]) 2 inf54 rfl rfl rfl rfl rfl rfl (by simp [putL]) ⟨Sub.pick [5] rfl, ?_⟩⟩, trivial⟩
        refine RO.fork [10] (by kernel_rfl) rfl ⟨⟨_, rfl, rfl, l_store_box (v := (.slice (some ⟨bB, 0, none⟩) d.next.length d.next.length)) (vs := [(.slice (some ⟨bB, 0, none⟩) d.next.length d.next.length)]) 3 inf23 rfl rfl rfl rfl rfl rfl (by simp [putL]) ⟨Sub.pick [5] rfl, ?_⟩⟩, trivial⟩
        exact RO.fin (by kernel_rfl) ⟨bA, bB, bC, bD, rfl, ⟨rfl, rfl, rfl, rfl, rfl, rfl, rfl, trivial⟩⟩ (Sub.pick [2, 2, 1, 0, 0, 0] rfl)
      refine RO.fork [6] (by kernel_rfl) rfl ⟨⟨_, rfl, rfl, l_makeSlice (m := d.next.length) Tryd.underlying23 inf4 rfl rfl (by omega) (by omega) (fun bB => ⟨Sub.pick [5] rfl, ?_⟩)⟩, trivial⟩
      refine RO.fork [10] (by kernel_rfl) rfl ⟨⟨_, rfl, rfl, l_store_box (v := (.slice (some ⟨bB, 0, none⟩) d.next.length d.next.length)) (vs := [(.slice (some ⟨bB, 0, none⟩) d.next.length d.next.length)]) 3 inf23 rfl rfl rfl rfl rfl rfl (by simp [putL]) ⟨Sub.pick [5] rfl, ?_⟩⟩, trivial⟩
      exact RO.fin (by kernel_rfl) ⟨bA, bB, bC, bD, rfl, ⟨rfl, rfl, rfl, rfl, rfl, rfl, rfl, trivial⟩⟩ (Sub.pick [2, 2, 1, 0, 0, 0] rfl)
    refine RO.fork [2] (by kernel_rfl) rfl ⟨⟨_, rfl, rfl, l_build1 (v := (.int .i64 d.start)) Tryd.underlying54 inf3 rfl rfl rfl (fun bA => ⟨Sub.pick [5] rfl, ?_⟩)⟩, trivial⟩
    refine RO.fork [9] (by kernel_rfl) rfl ⟨⟨_, rfl, rfl, l_store_box (v := (.slice (some ⟨bA, 0, none⟩) 1 1)) (vs := [(.slice (some ⟨bA, 0, none⟩) 1 1)]) 2 inf54 rfl rfl rfl rfl rfl rfl (by simp [putL]) ⟨Sub.pick [5] rfl, ?_⟩⟩, trivial⟩
    refine RO.fork [10] (by kernel_rfl) rfl ⟨⟨_, rfl, rfl, l_store_box (v := (.slice (some ⟨bB, 0, none⟩) d.next.length d.next.length)) (vs := [(.slice (some ⟨bB, 0, none⟩) d.next.length d.next.length)]) 3 inf23 rfl rfl rfl rfl rfl rfl (by simp [putL]) ⟨Sub.pick [5] rfl, ?_⟩⟩, trivial⟩
    exact RO.fin (by kernel_rfl) ⟨bA, bB, bC, bD, rfl, ⟨rfl, rfl, rfl, rfl, rfl, rfl, rfl, trivial⟩⟩ (Sub.pick [2, 2, 0, 0, 0, 0] rfl)
  rintro ρ O ⟨bA, bB, bC, bD, rfl, hH⟩
  obtain ⟨ρ0, rfl⟩ := hH.elim
  clear hH
  refine T.seq (T.region ?_)
  refine TO.quiet (q_load_box 1 Tryd.underlying23 rfl rfl rfl rfl) (TO.quiet (q_fieldAddr Tryd.underlying25 rfl inf3 rfl rfl) (TO.quiet (q_load_box 5 Tryd.underlying3 rfl rfl rfl rfl) (TO.quiet (q_ixz (i := d.start) Tryd.underlying23 inf4 rfl rfl (rowO (List.mem_of_getElem? (i := 3) rfl)) hs0 hsn (by rw [List.length_replicate]; exact hsn)) ?_)))
  refine TO.loud rfl (l_st (j := d.start.toNat) (v := .bool true) (vs := [(.bool true)]) (cs := List.replicate d.next.length (.bool false)) 3 inf4 rfl rfl rfl rfl rfl (by simp) rfl (by first | (simp; omega) | (simp_all; omega)) ?_)
  refine TO.sub (O' := [oI bC 54 [(.slice (some ⟨bA, 0, none⟩) 1 1)], oI bD 23 [(.slice (some ⟨bB, 0, none⟩) d.next.length d.next.length)], rowI (some ⟨bA, 0, none⟩) 1 3 1 [(.int .i64 d.start)], rowI (some ⟨bB, 0, none⟩) d.next.length 4 1 (bools ((List.replicate d.next.length false).set d.start.toNat true)), oI z2 25 [(.int .i64 0), (.int .i64 0), (.slice none 0 0), (.slice none 0 0)], oI z1 25 [(.int .i64 d.vars), (.int .i64 d.start), (.slice nb d.next.length nc), (.slice fb d.final.length fc)]]) (by rw [show putL (List.replicate d.next.length (.bool false)) d.start.toNat [(.bool true)] = bools ((List.replicate d.next.length false).set d.start.toNat true) from by simp [putL]]; exact Sub.of (List.Sublist.refl _)) ?_
  refine TO.nil (T.seq (T.region ?_))
  refine TO.quiet (q_makeFunc) (TO.quiet (q_assign rfl) ?_)
  refine TO.nil (T.seq (T.region ?_))
  refine TO.quiet (q_fieldAddr Tryd.underlying25 rfl inf3 rfl rfl) (TO.quiet (q_load_box 5 Tryd.underlying3 rfl rfl rfl rfl) (TO.quiet (q_fieldAddr Tryd.underlying25 rfl inf3 rfl rfl) ?_))
  refine TO.loud rfl (l_store_box (v := (.int .i64 d.vars)) (vs := [(.int .i64 d.vars)]) 4 inf3 rfl rfl rfl rfl rfl rfl (by simp [putL]) ?_)
  refine TO.nil (T.seq ?_)
  have hJ0 : [oI z1 25 [(.int .i64 d.vars), (.int .i64 d.start), (.slice nb d.next.length nc), (.slice fb d.final.length fc)], oI bC 54 [(.slice (some ⟨bA, 0, none⟩) 1 1)], rowI (some ⟨bA, 0, none⟩) 1 3 1 [(.int .i64 d.start)], oI bD 23 [(.slice (some ⟨bB, 0, none⟩) d.next.length d.next.length)], rowI (some ⟨bB, 0, none⟩) d.next.length 4 1 (bools ((List.replicate d.next.length false).set d.start.toNat true))] = [oI z1 25 [(.int .i64 d.vars), (.int .i64 d.start), (.slice nb d.next.length nc), (.slice fb d.final.length fc)], oI bC 54 [(.slice (some ⟨bA, 0, none⟩) 1 1)], rowI (some ⟨bA, 0, none⟩) 1 3 1 (nats [d.start.toNat]), oI bD 23 [(.slice (some ⟨bB, 0, none⟩) d.next.length d.next.length)], rowI (some ⟨bB, 0, none⟩) d.next.length 4 1 (bools ((List.replicate d.next.length false).set d.start.toNat true))] := by
    rw [show nats [d.start.toNat] = [.int .i64 d.start] by simp [Int.toNat_of_nonneg hs0]]
  have hseen : ∀ t, t < d.next.length → ((List.replicate d.next.length false).set d.start.toNat true)[t]? = some (decide (t ∈ [d.start.toNat])) := fun t ht => by
    by_cases e : t = d.start.toNat
    · subst e; rw [List.getElem?_set_self (by simpa using ht)]; simp
    · rw [List.getElem?_set_ne (fun h => e h.symm)]; simp [ht, e]
  refine T.draws [oI z1 25 [(.int .i64 d.vars), (.int .i64 d.start), (.slice nb d.next.length nc), (.slice fb d.final.length fc)]] [(0, 0), (1, 0), (2, 0), (3, 0), (4, 0), (5, 0), (6, 0), (7, 0), (9, 0), (8, 1), (10, 1), (11, 0), (12, 0), (13, 0), (14, 0), (15, 1)] mixed (by kernel_rfl) (Sub.pick [5] rfl) (fun _ _ _ h => h) ?_
  refine DO.quiet rfl (q_fieldAddr Tryd.underlying25 rfl inf3 rfl rfl) (DO.quiet rfl (q_load_box 0 Tryd.underlying3 rfl rfl rfl rfl) (DO.quiet rfl (q_shl1 (v := d.vars.toNat) rfl (by show Value.int _ d.vars = _; rw [Int.toNat_of_nonneg hv.v0]) (by have := hv.v6; omega)) (DO.quiet rfl (q_fieldAddr Tryd.underlying25 rfl inf22 rfl rfl) ?_)))
  refine DO.quiet rfl (q_load_box 0 Tryd.underlying22 rfl rfl rfl rfl) (DO.quiet rfl (q_len Tryd.underlying22 rfl) (DO.quiet rfl (q_fieldAddr Tryd.underlying25 rfl inf3 rfl rfl) (DO.quiet rfl (QT.cast (q_load_box 0 Tryd.underlying3 rfl rfl rfl rfl) (v' := .int .i64 ((d.start.toNat : Nat) : Int)) (by rw [Int.toNat_of_nonneg hs0])) ?_)))
  refine DO.quiet rfl (q_move rfl) ?_
  have hk40 := fun (w1 : World) (hI : Inv w [oI bC 54 [(.slice (some ⟨bA, 0, none⟩) 1 1)], oI bD 23 [(.slice (some ⟨bB, 0, none⟩) d.next.length d.next.length)], rowI (some ⟨bA, 0, none⟩) 1 3 1 [(.int .i64 d.start)], rowI (some ⟨bB, 0, none⟩) d.next.length 4 1 (bools ((List.replicate d.next.length false).set d.start.toNat true)), oI z2 25 [(.int .i64 d.vars), (.int .i64 0), (.slice none 0 0), (.slice none 0 0)], oI z1 25 [(.int .i64 d.vars), (.int .i64 d.start), (.slice nb d.next.length nc), (.slice fb d.final.length fc)]] w1) => (haveI := Inv.tab (P := Tryd.prog) hI; itoaF w1 d.start.toNat (by omega))
  refine DO.loud rfl rfl (l_call ent64 (CallT.of_pure hk40) rfl ?_)
  clear hk40
  rintro v O' ⟨N, rfl, rfl, rfl⟩
  refine ⟨Sub.pick [5] rfl, ?_⟩
  have hk42 := CallT.under (B := [oI z2 25 [(.int .i64 d.vars), (.int .i64 0), (.slice none 0 0), (.slice none 0 0)]]) (O := [oI bC 54 [(.slice (some ⟨bA, 0, none⟩) 1 1)], oI bD 23 [(.slice (some ⟨bB, 0, none⟩) d.next.length d.next.length)], rowI (some ⟨bA, 0, none⟩) 1 3 1 [(.int .i64 d.start)], rowI (some ⟨bB, 0, none⟩) d.next.length 4 1 (bools ((List.replicate d.next.length false).set d.start.toNat true)), oI z2 25 [(.int .i64 d.vars), (.int .i64 0), (.slice none 0 0), (.slice none 0 0)], oI z1 25 [(.int .i64 d.vars), (.int .i64 d.start), (.slice nb d.next.length nc), (.slice fb d.final.length fc)]]) (exploreC w (trD d) (2 ^ d.vars.toNat) d.next.length (Lib.decDigits d.start.toNat) (.func (.func 63) #[] #[.pointer (some ⟨z1, 0, none⟩), .pointer (some ⟨bC, 0, none⟩), .pointer (some ⟨bD, 0, none⟩)]) (RenJ d nb fb nc fc z1 bB bC bD) (fun ks => ks.length ≤ d.next.length) hv.width hv.n4 (fun ks s x O hs hx _ hJ => nextV w d nb fb nc fc vs h hv hn z1 bB bC bD ks s x O hs hx hJ) (fun _ h => h) [oI z1 25 [(.int .i64 d.vars), (.int .i64 d.start), (.slice nb d.next.length nc), (.slice fb d.final.length fc)], oI bC 54 [(.slice (some ⟨bA, 0, none⟩) 1 1)], rowI (some ⟨bA, 0, none⟩) 1 3 1 [(.int .i64 d.start)], oI bD 23 [(.slice (some ⟨bB, 0, none⟩) d.next.length d.next.length)], rowI (some ⟨bB, 0, none⟩) d.next.length 4 1 (bools ((List.replicate d.next.length false).set d.start.toNat true))] (by simp; omega) ⟨[d.start.toNat], (List.replicate d.next.length false).set d.start.toNat true, some ⟨bA, 0, none⟩, 1, rfl, hJ0, by simp, by simp; omega, by simp, hseen⟩) (Sub.pick [5, 0, 1, 0, 0, 0] rfl)
  refine DO.loud rfl rfl (l_call ent65 hk42 rfl ?_)
  clear hk42
  rintro v O' ⟨A1, rfl, rb, rc, qs, N, O1, rfl, rfl, ⟨os, sn, ob, oc, hks, rfl, hnd, hos, hsl, hsn9⟩, hgl, hlenN, hE, hen⟩
  refine ⟨Sub.cnt ([rowI rb rc 54 1 (vals qs)] ++ itms 3 qs ++ [oI bC 54 [(.slice ob os.length oc)], rowI ob oc 3 1 (nats os), oI bD 23 [(.slice (some ⟨bB, 0, none⟩) d.next.length d.next.length)], rowI (some ⟨bB, 0, none⟩) d.next.length 4 1 (bools sn), oI z2 25 [(.int .i64 d.vars), (.int .i64 0), (.slice none 0 0), (.slice none 0 0)]]) (by intro a; simp only [itms, oI, List.set_cons_zero, List.set_cons_succ, putL, List.cons_append, List.nil_append, List.append_nil, List.append_assoc, List.map_append, List.map_cons, List.map_nil, cnt_append, cnt_cons, cnt_nil] <;> omega), ?_⟩
  refine DO.sub (O' := [rowI rb rc 54 1 (vals qs), oI z1 25 [(.int .i64 d.vars), (.int .i64 d.start), (.slice nb d.next.length nc), (.slice fb d.final.length fc)], oI bC 54 [(.slice ob os.length oc)], rowI ob oc 3 1 (nats os), oI bD 23 [(.slice (some ⟨bB, 0, none⟩) d.next.length d.next.length)], rowI (some ⟨bB, 0, none⟩) d.next.length 4 1 (bools sn), oI z2 25 [(.int .i64 d.vars), (.int .i64 0), (.slice none 0 0), (.slice none 0 0)]] ++ itms 3 qs) (Sub.cnt [] (by intro a; simp only [itms, oI, List.set_cons_zero, List.set_cons_succ, putL, List.cons_append, List.nil_append, List.append_nil, List.append_assoc, List.map_append, List.map_cons, List.map_nil, cnt_append, cnt_cons, cnt_nil] <;> omega)) ?_
  refine DO.quiet rfl (q_move rfl) (DO.quiet rfl (q_extract (vs := _) rfl rfl) (DO.quiet rfl (q_extract (vs := _) rfl rfl) (DO.quiet rfl (q_fieldAddr Tryd.underlying25 rfl inf22 rfl rfl) ?_)))
  refine DO.loud rfl rfl (l_store_box (v := (.slice rb N rc)) (vs := [(.slice rb N rc)]) 6 inf22 rfl rfl rfl rfl rfl rfl (by simp [putL]) ⟨Sub.pick0 [1] [rowI rb rc 54 1 (vals qs), oI z1 25 [(.int .i64 d.vars), (.int .i64 d.start), (.slice nb d.next.length nc), (.slice fb d.final.length fc)], oI bC 54 [(.slice ob os.length oc)], rowI ob oc 3 1 (nats os), oI bD 23 [(.slice (some ⟨bB, 0, none⟩) d.next.length d.next.length)], rowI (some ⟨bB, 0, none⟩) d.next.length 4 1 (bools sn), oI z2 25 [(.int .i64 d.vars), (.int .i64 0), (.slice rb N rc), (.slice none 0 0)]] (itms 3 qs) rfl rfl, ?_⟩)
  refine DO.done ?_
  refine T.seq (T.seq (T.region ?_))
  refine TO.quiet (q_load_box 2 Tryd.underlying54 rfl rfl rfl rfl) (TO.quiet (q_len Tryd.underlying54 rfl) (TO.quiet (q_move rfl) ?_))
  refine TO.nil (T.block ?_)
  have hol := nodup_bound hnd hos
  refine T.nilRow 4 1 ?_
  refine T.loop (fun (k : Nat) ρ O => ∃ (fb9 : Option Addr) (fc9 : Nat), O = ([rowI fb9 fc9 4 1 (bools ((os.take k).map fun o => d.final.getD o false)), rowI rb rc 54 1 (vals qs), oI z1 25 [(.int .i64 d.vars), (.int .i64 d.start), (.slice nb d.next.length nc), (.slice fb d.final.length fc)], oI bC 54 [(.slice ob os.length oc)], rowI ob oc 3 1 (nats os), oI bD 23 [(.slice (some ⟨bB, 0, none⟩) d.next.length d.next.length)], rowI (some ⟨bB, 0, none⟩) d.next.length 4 1 (bools sn), oI z2 25 [(.int .i64 d.vars), (.int .i64 0), (.slice rb N rc), (.slice fb9 k fc9)]] ++ (itms 3 qs)) ∧ k ≤ os.length ∧ Heads [(0, (.agg #[(.int .i64 d.vars), (.int .i64 d.start), (.slice nb d.next.length nc), (.slice fb d.final.length fc)])), (1, (.pointer (some ⟨z1, 0, none⟩))), (2, (.pointer (some ⟨z2, 0, none⟩))), (3, .int .i64 0), (4, .int .i64 ((0 : Nat) : Int)), (5, (.pointer (some ⟨bC, 0, none⟩))), (6, (.pointer (some ⟨bD, 0, none⟩))), (7, (.func (.func 63) #[] #[(.pointer (some ⟨z1, 0, none⟩)), (.pointer (some ⟨bC, 0, none⟩)), (.pointer (some ⟨bD, 0, none⟩))])), (46, (.slice ob os.length oc)), (47, .int .i64 (os.length : Int)), (48, .int .i64 (k : Int))] ρ) (fun k => os.length - k) 0 ?_ ?_
  · exact ⟨none, 0, rfl, Nat.zero_le _, ⟨rfl, rfl, rfl, rfl, rfl, rfl, rfl, rfl, rfl, rfl, rfl, trivial⟩⟩
  rintro k ρ O ⟨fb9, fc9, rfl, hk, hH⟩
  obtain ⟨ρ0, rfl⟩ := hH.elim
  clear hH
  refine T.seq (T.region ?_)
  refine TO.quiet (q_lss rfl rfl) ?_
  refine TO.nil (T.seq ?_)
  refine T.condP rfl (fun hc => ?_) (fun hc => ?_)
  · have hlt49 : k < os.length := by omega
    have hok : os[k] < d.next.length := hos _ (List.getElem_mem hlt49)
    have hokf : os[k] < d.final.length := by have := hv.fin; omega
    refine T.skip (T.seq (T.block (T.seq (T.region ?_))))
    refine TO.quiet (q_ix (i := k) Tryd.underlying54 inf3 rfl rfl (rowO (List.mem_of_getElem? (i := 4) rfl))) (TO.quiet (q_ld Tryd.underlying3 rfl rfl (rowO (List.mem_of_getElem? (i := 4) rfl)) nats_get) (TO.quiet (q_assign rfl) ?_))
    refine TO.nil ?_
    refine T.draws [oI z1 25 [(.int .i64 d.vars), (.int .i64 d.start), (.slice nb d.next.length nc), (.slice fb d.final.length fc)], oI z2 25 [(.int .i64 d.vars), (.int .i64 0), (.slice rb N rc), (.slice fb9 k fc9)]] [(0, 0), (1, 0), (2, 0), (3, 0), (4, 0), (5, 0), (6, 0), (7, 1), (8, 2), (9, 2), (10, 2)] mixed (by kernel_rfl) (Sub.pick0 [2, 6] [rowI fb9 fc9 4 1 (bools ((os.take k).map fun o => d.final.getD o false)), rowI rb rc 54 1 (vals qs), oI z1 25 [(.int .i64 d.vars), (.int .i64 d.start), (.slice nb d.next.length nc), (.slice fb d.final.length fc)], oI bC 54 [(.slice ob os.length oc)], rowI ob oc 3 1 (nats os), oI bD 23 [(.slice (some ⟨bB, 0, none⟩) d.next.length d.next.length)], rowI (some ⟨bB, 0, none⟩) d.next.length 4 1 (bools sn), oI z2 25 [(.int .i64 d.vars), (.int .i64 0), (.slice rb N rc), (.slice fb9 k fc9)]] (itms 3 qs) rfl rfl) (fun _ _ _ h => h) ?_
    refine DO.quiet rfl (q_fieldAddr Tryd.underlying25 rfl inf23 rfl rfl) (DO.quiet rfl (q_load_box 1 Tryd.underlying23 rfl rfl rfl rfl) (DO.quiet rfl (q_fieldAddr Tryd.underlying25 rfl inf23 rfl rfl) (DO.quiet rfl (q_load_box 0 Tryd.underlying23 rfl rfl rfl rfl) ?_)))
    refine DO.quiet rfl (q_move rfl) (DO.quiet rfl (q_ix (i := os[k]) Tryd.underlying23 inf4 rfl rfl (Sl.o h.final)) (DO.quiet rfl (q_ld Tryd.underlying4 rfl rfl (Sl.o h.final) bools_get) ?_))
    refine DO.loud rfl rfl (l_build1 (v := .bool d.final[os[k]]) Tryd.underlying23 inf4 rfl rfl rfl (fun z3 => ⟨Sub.pick0 [3, 7] [rowI (some ⟨z3, 0, none⟩) 1 4 1 [.bool d.final[os[k]]], rowI fb9 fc9 4 1 (bools ((os.take k).map fun o => d.final.getD o false)), rowI rb rc 54 1 (vals qs), oI z1 25 [(.int .i64 d.vars), (.int .i64 d.start), (.slice nb d.next.length nc), (.slice fb d.final.length fc)], oI bC 54 [(.slice ob os.length oc)], rowI ob oc 3 1 (nats os), oI bD 23 [(.slice (some ⟨bB, 0, none⟩) d.next.length d.next.length)], rowI (some ⟨bB, 0, none⟩) d.next.length 4 1 (bools sn), oI z2 25 [(.int .i64 d.vars), (.int .i64 0), (.slice rb N rc), (.slice fb9 k fc9)]] (itms 3 qs) rfl rfl, ?_⟩))
    refine DO.last rfl rfl (l_append 1 Tryd.underlying23 Tryd.underlying23 inf4 rfl rfl rfl rfl (by simp; omega) (by decide) (Src.row (j := 0) rfl (by simp)) (by simp [oneB]) (by omega) (by decide) (by decide) (fun z4 zc5 => ?_))
    refine DO.last rfl rfl (LT.of_quiet rfl rfl (q_fieldAddr Tryd.underlying25 rfl inf23 rfl rfl) ?_)
    refine DO.last rfl rfl (l_store_box (v := (.slice z4 (k + 1) zc5)) (vs := [(.slice z4 (k + 1) zc5)]) 8 inf23 rfl rfl rfl rfl rfl rfl (by simp [putL]) ?_)
    refine DO.sub (O' := ([rowI z4 zc5 4 1 ((bools ((os.take k).map fun o => d.final.getD o false)) ++ [.bool d.final[os[k]]]), rowI rb rc 54 1 (vals qs), oI z1 25 [(.int .i64 d.vars), (.int .i64 d.start), (.slice nb d.next.length nc), (.slice fb d.final.length fc)], oI bC 54 [(.slice ob os.length oc)], rowI ob oc 3 1 (nats os), oI bD 23 [(.slice (some ⟨bB, 0, none⟩) d.next.length d.next.length)], rowI (some ⟨bB, 0, none⟩) d.next.length 4 1 (bools sn), oI z2 25 [(.int .i64 d.vars), (.int .i64 0), (.slice rb N rc), (.slice z4 (k + 1) zc5)]] ++ (itms 3 qs))) (Sub.pickR [1, 1, 1, 1, 1, 1, 1, 1] [rowI (some ⟨z3, 0, none⟩) 1 4 1 [.bool d.final[os[k]]], rowI z4 zc5 4 1 ((bools ((os.take k).map fun o => d.final.getD o false)) ++ [.bool d.final[os[k]]]), rowI rb rc 54 1 (vals qs), oI z1 25 [(.int .i64 d.vars), (.int .i64 d.start), (.slice nb d.next.length nc), (.slice fb d.final.length fc)], oI bC 54 [(.slice ob os.length oc)], rowI ob oc 3 1 (nats os), oI bD 23 [(.slice (some ⟨bB, 0, none⟩) d.next.length d.next.length)], rowI (some ⟨bB, 0, none⟩) d.next.length 4 1 (bools sn), oI z2 25 [(.int .i64 d.vars), (.int .i64 0), (.slice rb N rc), (.slice z4 (k + 1) zc5)]] (itms 3 qs) rfl rfl) ?_
    refine DO.done ?_
    refine T.region ?_
    refine TO.quiet (q_inc rfl rfl (by omega)) (TO.quiet (q_move rfl) ?_)
    refine TO.nil ?_
    have hst : (List.take (k + 1) os).map (fun o => d.final.getD o false) = (List.take k os).map (fun o => d.final.getD o false) ++ [d.final[os[k]]] := by
      rw [List.take_succ_eq_append_getElem hlt49, List.map_append]; simp [hokf]
    exact ⟨k + 1, by omega, z4, zc5, by rw [hst, show bools ((List.take k os).map (fun o => d.final.getD o false) ++ [d.final[os[k]]]) = bools ((List.take k os).map fun o => d.final.getD o false) ++ [.bool d.final[os[k]]] from List.map_append], by omega, ⟨rfl, rfl, rfl, rfl, rfl, rfl, rfl, rfl, rfl, rfl, rfl, trivial⟩⟩
  have hge49 : ¬ k < os.length := by omega
  refine T.exit ?_
  refine T.seq (T.region ?_)
  refine TO.quiet (q_load_boxAgg 7 Tryd.underlying25 rfl inf25 rfl rfl rfl) ?_
  refine TO.loud rfl (l_store_box (v := (.agg #[(.int .i64 d.vars), (.int .i64 0), (.slice rb N rc), (.slice fb9 k fc9)])) (vs := [(.int .i64 d.vars), (.int .i64 0), (.slice rb N rc), (.slice fb9 k fc9)]) 7 inf25 rfl rfl rfl rfl rfl rfl (by simp [putL]) ?_)
  refine TO.quiet (q_assign rfl) ?_
  refine TO.nil (T.ret (Res.drop ?_))
  refine Res.cell1b (.int .i64 0) (i := 7) Tryd.results43 Tryd.underlying25 rfl inf25 rfl rfl rfl rfl ?_
  have hke : k = os.length := by omega
  obtain ⟨ho, hN9⟩ := ren_order hen hks hlenN (nodup_bound hnd hos)
  have hnx := ren_next hks hE ho hN9
  have hfx : (List.take k os).map (fun o => d.final.getD o false) = (renum d).final := by rw [List.take_of_length_le (by omega), ho]; rfl
  have hl1 : (renum d).next.length = N := by rw [← hnx, hE.len]
  have hl2 : (renum d).final.length = k := by rw [← hfx, List.length_map, List.length_take]; omega
  refine ⟨[rowI rb rc 54 1 (vals qs), rowI fb9 fc9 4 1 (bools ((os.take k).map fun o => d.final.getD o false))] ++ itms 3 qs, (Sub.pickR [1, 0] [rowI fb9 fc9 4 1 (bools ((os.take k).map fun o => d.final.getD o false)), rowI rb rc 54 1 (vals qs), oI z1 25 [(.int .i64 d.vars), (.int .i64 d.start), (.slice nb d.next.length nc), (.slice fb d.final.length fc)], oI bC 54 [(.slice ob os.length oc)], rowI ob oc 3 1 (nats os), oI bD 23 [(.slice (some ⟨bB, 0, none⟩) d.next.length d.next.length)], rowI (some ⟨bB, 0, none⟩) d.next.length 4 1 (bools sn), oI z2 25 [(.int .i64 d.vars), (.int .i64 0), (.slice rb N rc), (.slice fb9 k fc9)]] (itms 3 qs) rfl rfl), rb, rc, fb9, fc9, qs, ?_, by rw [hfx], hnx⟩
  show Value.tuple #[Value.agg (List.toArray [.int .i64 d.vars, .int .i64 0, .slice rb N rc, .slice fb9 k fc9]), _] = Value.tuple #[Value.agg (List.toArray [.int .i64 d.vars, .int .i64 0, .slice rb (renum d).next.length rc, .slice fb9 (renum d).final.length fc9]), _]
  rw [hl1, hl2]
end Go.Proofs.YtnpehjpookcfkaaDoor

namespace Go.Proofs.YtnpehjpookcfkaaDoor
open Go.Lx Go.RowKit
set_option linter.unusedVariables false
set_option linter.unusedSimpArgs false
set_option maxHeartbeats 1000000 in
set_option maxRecDepth 20000 in
theorem minBad (w : World) [Tab Tryd.prog w] (d : DFA) (nb fb : Option Addr) (nc fc : Nat) (vs : List Value) (h : DfaAt w d nb vs fb) (hb : d.next.length < 9223372036854775807) (hbr : ∀ r ∈ d.next, r.length < 9223372036854775807) (hbf : d.final.length < 9223372036854775807) (he : checkD d ≠ 0) :
    PureT Tryd.prog 17 [.agg (dfaCells d nb nc fb fc).toArray] w fun v N => v = .tuple #[.agg #[.int .i64 0, .int .i64 0, .slice none 0 0, .slice none 0 0], .int .i64 (checkD d : Int)] ∧ N = [] := by
  refine CallT.enter Tryd.func17 rfl Tryd.ntmps17 rfl ?_
  refine T.seq (T.region ?_)
  refine TO.loud rfl (l_box (v := (.agg #[(.int .i64 d.vars), (.int .i64 d.start), (.slice nb d.next.length nc), (.slice fb d.final.length fc)])) (cs := [(.int .i64 d.vars), (.int .i64 d.start), (.slice nb d.next.length nc), (.slice fb d.final.length fc)]) rfl rfl (fun b1 => ?_))
  refine TO.loud rfl (l_alloc inf25 rfl (fun b2 => ?_))
  refine TO.quiet (q_assign rfl) ?_
  refine TO.nil (T.seq (T.region ?_))
  refine TO.quiet (q_load_boxAgg 1 Tryd.underlying25 rfl inf25 rfl rfl rfl) ?_
  have hk14 := fun (w1 : World) (hI : Inv w [oI b2 25 [(.int .i64 0), (.int .i64 0), (.slice none 0 0), (.slice none 0 0)], oI b1 25 [(.int .i64 d.vars), (.int .i64 d.start), (.slice nb d.next.length nc), (.slice fb d.final.length fc)]] w1) => (haveI := Inv.tab (P := Tryd.prog) hI; classesBad w1 d nb fb nc fc vs (hI.dfa h) hb hbr hbf he)
  refine TO.loud rfl (l_call ent41 (CallT.of_pure hk14) rfl ?_)
  clear hk14
  rintro v O' ⟨N, rfl, rfl, rfl⟩
  refine TO.quiet (q_move rfl) (TO.quiet (q_extract (vs := _) rfl rfl) (TO.quiet (q_extract (vs := _) rfl rfl) ?_))
  refine TO.loud rfl (l_alloc inf54 rfl (fun b3 => ?_))
  refine TO.loud rfl (l_store_box (v := (.slice none 0 0)) (vs := [(.slice none 0 0)]) 0 inf54 rfl rfl rfl rfl rfl rfl (by simp [putL]) ?_)
  refine TO.quiet (q_assign rfl) ?_
  refine TO.nil (T.seq (T.seq (T.region ?_)))
  refine TO.quiet (q_move rfl) (TO.quiet (QT.toB (q_neq rfl rfl) (decide_eq_true (by omega))) ?_)
  refine TO.nil ?_
  refine T.cond1 rfl ?_
  refine T.seq (T.region ?_)
  refine TO.quiet (q_build plan25 inf25 rfl) (TO.quiet (q_move rfl) ?_)
  refine TO.loud rfl (l_store_box (v := (.agg #[(.int .i64 0), (.int .i64 0), (.slice none 0 0), (.slice none 0 0)])) (vs := [(.int .i64 0), (.int .i64 0), (.slice none 0 0), (.slice none 0 0)]) 1 inf25 rfl rfl rfl rfl rfl rfl (by simp [putL]) ?_)
  refine TO.quiet (q_assign rfl) ?_
  refine TO.nil (T.ret (Res.drop ?_))
  refine Res.cell1b (.int .i64 (checkD d : Int)) (i := 1) Tryd.results17 Tryd.underlying25 rfl inf25 rfl rfl rfl rfl ?_
  exact ⟨[], Sub.of (List.nil_sublist _), rfl, rfl⟩
set_option maxHeartbeats 1000000 in
set_option maxRecDepth 20000 in
theorem minOk (w : World) [Tab Tryd.prog w] (d : DFA) (nb fb : Option Addr) (nc fc : Nat) (vs : List Value) (h : DfaAt w d nb vs fb) (hv : Valid d) (hn : d.next.length < 10000) (hqv : Valid (quo d (itF d d.next.length))) (hqn : (quo d (itF d d.next.length)).next.length < 10000) :
    PureT Tryd.prog 17 [.agg (dfaCells d nb nc fb fc).toArray] w fun v N => ∃ nb' nc' fb' fc' qs, v = .tuple #[.agg (dfaCells (renum (quo d (itF d d.next.length))) nb' nc' fb' fc').toArray, .int .i64 0] ∧ N = [rowI nb' nc' 54 1 (vals qs), rowI fb' fc' 4 1 (bools (renum (quo d (itF d d.next.length))).final)] ++ itms 3 qs ∧ nums qs = (renum (quo d (itF d d.next.length))).next := by
  refine CallT.enter Tryd.func17 rfl Tryd.ntmps17 rfl ?_
  obtain ⟨cs, hcs⟩ : ∃ cs, itF d d.next.length = cs := ⟨_, rfl⟩
  rw [hcs] at hqv hqn ⊢
  have hcl : cs.length = d.next.length := hcs ▸ itF_length d _
  have hc9 : ∀ x ∈ cs, x < 10000 := hcs ▸ itF_lt hn _
  have hs0 := hv.s0
  have hs1 := hv.s1
  have hn0 := hv.n0
  have hn4 := hv.n4
  have hsn : d.start.toNat < cs.length := by omega
  have hb : d.next.length < 9223372036854775807 := by omega
  refine T.seq (T.region ?_)
  refine TO.loud rfl (l_box (v := (.agg #[(.int .i64 d.vars), (.int .i64 d.start), (.slice nb d.next.length nc), (.slice fb d.final.length fc)])) (cs := [(.int .i64 d.vars), (.int .i64 d.start), (.slice nb d.next.length nc), (.slice fb d.final.length fc)]) rfl rfl (fun z1 => ?_))
  refine TO.loud rfl (l_alloc inf25 rfl (fun z2 => ?_))
  refine TO.quiet (q_assign rfl) ?_
  refine TO.nil (T.seq (T.region ?_))
  refine TO.quiet (q_load_boxAgg 1 Tryd.underlying25 rfl inf25 rfl rfl rfl) ?_
  have hk14 := fun (w1 : World) (hI : Inv w [oI z2 25 [(.int .i64 0), (.int .i64 0), (.slice none 0 0), (.slice none 0 0)], oI z1 25 [(.int .i64 d.vars), (.int .i64 d.start), (.slice nb d.next.length nc), (.slice fb d.final.length fc)]] w1) => (haveI := Inv.tab (P := Tryd.prog) hI; classesOk w1 d nb fb nc fc vs (hI.dfa h) hv hn)
  refine TO.loud rfl (l_call ent41 (CallT.of_pure hk14) rfl ?_)
  clear hk14
  rintro v O' ⟨N, rfl, cb, cc, rfl, rfl⟩
  rw [hcs]
  refine TO.quiet (q_move rfl) (TO.quiet (q_extract (vs := _) rfl rfl) (TO.quiet (q_extract (vs := _) rfl rfl) ?_))
  refine TO.loud rfl (l_alloc inf54 rfl (fun z3 => ?_))
  refine TO.loud rfl (l_store_box (v := (.slice cb d.next.length cc)) (vs := [(.slice cb d.next.length cc)]) 0 inf54 rfl rfl rfl rfl rfl rfl (by simp [putL]) ?_)
  refine TO.quiet (q_assign rfl) ?_
  refine TO.nil (T.seq (T.seq (T.region ?_)))
  refine TO.quiet (q_move rfl) (TO.quiet (q_neq rfl rfl) ?_)
  refine TO.nil ?_
  refine T.cond0 rfl ?_
  refine T.skip (T.seq ?_)
  refine T.draws [oI z3 54 [(.slice cb d.next.length cc)], rowI cb cc 3 1 (nats cs), oI z1 25 [(.int .i64 d.vars), (.int .i64 d.start), (.slice nb d.next.length nc), (.slice fb d.final.length fc)]] [(0, 0), (1, 0), (2, 0), (3, 0), (4, 0), (5, 0), (6, 0), (7, 0), (8, 1), (9, 2)] mixed (by kernel_rfl) (Sub.pick [0, 0, 1] rfl) (fun _ _ _ h => h) ?_
  refine DO.quiet rfl (q_fieldAddr Tryd.underlying25 rfl inf3 rfl rfl) (DO.quiet rfl (q_load_box 2 Tryd.underlying3 rfl rfl rfl rfl) (DO.quiet rfl (q_load_box 0 Tryd.underlying54 rfl rfl rfl rfl) (DO.quiet rfl (q_fieldAddr Tryd.underlying25 rfl inf3 rfl rfl) ?_)))
  refine DO.quiet rfl (q_load_box 2 Tryd.underlying3 rfl rfl rfl rfl) (DO.quiet rfl (q_ixz (i := d.start) Tryd.underlying54 inf3 rfl rfl (rowO (List.mem_of_getElem? (i := 1) rfl)) hs0 (hcl ▸ hsn) (by rw [List.length_map]; exact hsn)) (DO.quiet rfl (q_ld Tryd.underlying3 rfl rfl (rowO (List.mem_of_getElem? (i := 1) rfl)) (show (nats cs)[d.start.toNat]? = some (.int .i64 ((cs.getD d.start.toNat 0 : Nat) : Int)) by rw [nats_get hsn]; simp [hsn])) (DO.quiet rfl (q_build (cs := [(.int .i64 d.vars), .int .i64 ((cs.getD d.start.toNat 0 : Nat) : Int), (.slice none 0 0), (.slice none 0 0)]) plan25 inf25 (by kernel_rfl)) ?_)))
  refine DO.loud rfl rfl (l_alloc inf25 rfl (fun z4 => ⟨Sub.pick [1, 1, 2] rfl, ?_⟩))
  refine DO.last rfl rfl (l_store_box (v := (.agg #[(.int .i64 d.vars), .int .i64 ((cs.getD d.start.toNat 0 : Nat) : Int), (.slice none 0 0), (.slice none 0 0)])) (vs := [(.int .i64 d.vars), .int .i64 ((cs.getD d.start.toNat 0 : Nat) : Int), (.slice none 0 0), (.slice none 0 0)]) 0 inf25 rfl rfl rfl rfl rfl rfl (by simp [putL]) ?_)
  refine DO.done ?_
  refine T.seq (T.seq (T.region ?_))
  refine TO.quiet (q_load_boxAgg 4 Tryd.underlying25 rfl inf25 rfl rfl rfl) ?_
  have hk30 := fun (w1 : World) (hI : Inv w [oI z4 25 [(.int .i64 d.vars), .int .i64 ((cs.getD d.start.toNat 0 : Nat) : Int), (.slice none 0 0), (.slice none 0 0)], oI z3 54 [(.slice cb d.next.length cc)], rowI cb cc 3 1 (nats cs), oI z2 25 [(.int .i64 0), (.int .i64 0), (.slice none 0 0), (.slice none 0 0)], oI z1 25 [(.int .i64 d.vars), (.int .i64 d.start), (.slice nb d.next.length nc), (.slice fb d.final.length fc)]] w1) => (haveI := Inv.tab (P := Tryd.prog) hI; rowsF w1 d nb fb nc fc)
  refine TO.loud rfl (l_call ent42 (CallT.of_pure hk30) rfl ?_)
  clear hk30
  rintro v O' ⟨N, rfl, bR, rfl, rfl⟩
  refine TO.nil ?_
  refine T.nilRow 4 1 ?_
  refine T.nilRow 54 1 ?_
  refine T.sub (O' := [oI bR 25 [(.int .i64 d.vars), (.int .i64 d.start), (.slice nb d.next.length nc), (.slice fb d.final.length fc)], oI z4 25 [(.int .i64 d.vars), .int .i64 ((cs.getD d.start.toNat 0 : Nat) : Int), (.slice none 0 0), (.slice none 0 0)], rowI none 0 54 1 (vals []), rowI none 0 4 1 (bools []), oI z3 54 [(.slice cb d.next.length cc)], rowI cb cc 3 1 (nats cs), oI z2 25 [(.int .i64 0), (.int .i64 0), (.slice none 0 0), (.slice none 0 0)], oI z1 25 [(.int .i64 d.vars), (.int .i64 d.start), (.slice nb d.next.length nc), (.slice fb d.final.length fc)]]) (Sub.pick [2, 2, 0, 0, 0, 0, 0, 0] rfl) ?_
  refine T.block ?_
  refine T.rangeFunc (first := []) (caps := [(.pointer (some ⟨bR, 0, none⟩))]) rfl ent62 (fun yl yq yhq => ?_)
  refine CallT.mono (CallT.sub (O' := oI bR 25 [(.int .i64 d.vars), (.int .i64 d.start), (.slice nb d.next.length nc), (.slice fb d.final.length fc)] :: (objI yl (lp yq none) :: [oI z4 25 [(.int .i64 d.vars), .int .i64 ((cs.getD d.start.toNat 0 : Nat) : Int), (.slice none 0 0), (.slice none 0 0)], rowI none 0 54 1 (vals []), rowI none 0 4 1 (bools []), oI z3 54 [(.slice cb d.next.length cc)], rowI cb cc 3 1 (nats cs), oI z2 25 [(.int .i64 0), (.int .i64 0), (.slice none 0 0), (.slice none 0 0)], oI z1 25 [(.int .i64 d.vars), (.int .i64 d.start), (.slice nb d.next.length nc), (.slice fb d.final.length fc)]])) (Sub.pick [1, 0, 0, 0, 0, 0, 0, 0, 0] rfl) (rows1 w d nb fb nc fc vs h hb bR (.func (.yield yl) #[] #[]) (fun k O => ∃ (ob fb9 : Option Addr) (oc fc9 : Nat) (qs : List Rec) (fs : List Bool), O = objI yl (lp yq none) :: ([oI z4 25 [(.int .i64 d.vars), (.int .i64 ((cs.getD d.start.toNat 0 : Nat) : Int)), (.slice ob qs.length oc), (.slice fb9 fs.length fc9)], rowI ob oc 54 1 (vals qs), rowI fb9 fc9 4 1 (bools fs), oI z3 54 [(.slice cb d.next.length cc)], rowI cb cc 3 1 (nats cs), oI z2 25 [(.int .i64 0), (.int .i64 0), (.slice none 0 0), (.slice none 0 0)], oI z1 25 [(.int .i64 d.vars), (.int .i64 d.start), (.slice nb d.next.length nc), (.slice fb d.final.length fc)]] ++ (itms 3 qs)) ∧ k ≤ d.next.length ∧ nums qs = (quoN d cs k).1 ∧ fs = (quoN d cs k).2) (fun _ => False) ?_ _ ?_)) ?_
  · intro k hlt vb vc O g1 s1 hJ
    obtain ⟨ob, fb9, oc, fc9, qs, fs, rfl, hk, hqs, hfs⟩ := hJ
    refine CallV.yield yhq rfl rfl ?_
    have hkc : k < cs.length := by omega
    have hql : qs.length = (quoN d cs k).1.length := by rw [← hqs]; simp
    have hfl : fs.length = (quoN d cs k).1.length := by rw [hfs]; exact (quoN_len d cs k).1.symm
    have hqk := (quoN_len d cs k).2
    have hkf : k < d.final.length := by have := hv.fin; omega
    have hrl : d.next[k].length ≤ 64 := by
      have := hv.len _ (List.getElem_mem hlt); have := hv.width; omega
    have hto : ∀ j (hj : j < d.next[k].length), 0 ≤ d.next[k][j] ∧ d.next[k][j].toNat < cs.length := fun j hj => by have := hv.ok _ (List.getElem_mem hlt) _ (List.getElem_mem hj); omega
    refine T.seq (T.region ?_)
    refine TO.quiet (q_assign rfl) ?_
    refine TO.nil (T.region ?_)
    refine TO.quiet (q_assign rfl) ?_
    refine TO.nil (T.block (T.seq (T.seq ?_)))
    refine T.draws [oI z4 25 [(.int .i64 d.vars), (.int .i64 ((cs.getD d.start.toNat 0 : Nat) : Int)), (.slice ob qs.length oc), (.slice fb9 fs.length fc9)], oI z3 54 [(.slice cb d.next.length cc)], rowI cb cc 3 1 (nats cs)] [(0, 0), (1, 0), (2, 0), (3, 0), (4, 0), (5, 0), (6, 0), (7, 0)] mixed (by kernel_rfl) (Sub.pick0 [0, 2, 2] [oI z4 25 [(.int .i64 d.vars), (.int .i64 ((cs.getD d.start.toNat 0 : Nat) : Int)), (.slice ob qs.length oc), (.slice fb9 fs.length fc9)], rowI ob oc 54 1 (vals qs), rowI fb9 fc9 4 1 (bools fs), oI z3 54 [(.slice cb d.next.length cc)], rowI cb cc 3 1 (nats cs), oI z2 25 [(.int .i64 0), (.int .i64 0), (.slice none 0 0), (.slice none 0 0)], oI z1 25 [(.int .i64 d.vars), (.int .i64 d.start), (.slice nb d.next.length nc), (.slice fb d.final.length fc)]] (itms 3 qs) rfl rfl) (fun _ _ _ h => h) ?_
    refine DO.quiet rfl (q_load_box 1 Tryd.underlying54 rfl rfl rfl rfl) (DO.quiet rfl (q_move rfl) (DO.quiet rfl (q_ix (i := k) Tryd.underlying54 inf3 rfl rfl (rowO (List.mem_of_getElem? (i := 2) rfl))) (DO.quiet rfl (q_ld Tryd.underlying3 rfl rfl (rowO (List.mem_of_getElem? (i := 2) rfl)) nats_get) ?_)))
    refine DO.quiet rfl (q_fieldAddr Tryd.underlying25 rfl inf22 rfl rfl) (DO.quiet rfl (q_load_box 0 Tryd.underlying22 rfl rfl rfl rfl) (DO.quiet rfl (q_len Tryd.underlying22 rfl) (DO.quiet rfl (q_lss rfl rfl) ?_)))
    refine DO.done ?_
    refine T.condP rfl (fun hc => ?_) (fun hc => ?_)
    · have hlt40 : cs[k] < qs.length := by omega
      have hqn1 : quoN d cs (k + 1) = quoN d cs k := by rw [quoN, if_pos (by simp [hkc]; omega)]
      refine T.exit ?_
      refine .inl ⟨rfl, ob, fb9, oc, fc9, qs, fs, rfl, by omega, ?_, ?_⟩
      · rw [hqn1]; exact hqs
      · rw [hqn1]; exact hfs
    have hge40 : ¬ cs[k] < qs.length := by omega
    have hqn2 : quoN d cs (k + 1) = ((quoN d cs k).1 ++ [(rowK cs d.next[k]).map fun c : Nat => (c : Int)], (quoN d cs k).2 ++ [d.final[k]]) := by rw [quoN, if_neg (by simp [hkc]; omega)]; simp [hlt, hkf]
    refine T.skip (T.seq (T.region ?_))
    refine TO.quiet (q_assign rfl) ?_
    refine TO.nil (T.seq (T.seq (T.region ?_)))
    refine TO.quiet (q_move rfl) (TO.quiet (q_len Tryd.underlying54 rfl) (TO.quiet (q_move rfl) ?_))
    refine TO.nil (T.block ?_)
    refine T.nilRow 3 1 ?_
    refine T.loop (fun (j : Nat) ρ O => ∃ (kb : Option Addr) (kc : Nat), O = ([rowI kb kc 3 1 (nats ((rowK cs d.next[k]).take j)), oI z4 25 [(.int .i64 d.vars), (.int .i64 ((cs.getD d.start.toNat 0 : Nat) : Int)), (.slice ob qs.length oc), (.slice fb9 fs.length fc9)], rowI ob oc 54 1 (vals qs), rowI fb9 fc9 4 1 (bools fs), oI z3 54 [(.slice cb d.next.length cc)], rowI cb cc 3 1 (nats cs), oI z2 25 [(.int .i64 0), (.int .i64 0), (.slice none 0 0), (.slice none 0 0)], oI z1 25 [(.int .i64 d.vars), (.int .i64 d.start), (.slice nb d.next.length nc), (.slice fb d.final.length fc)]] ++ (itms 3 qs)) ∧ j ≤ d.next[k].length ∧ Heads [(0, (.agg #[(.int .i64 d.vars), (.int .i64 d.start), (.slice nb d.next.length nc), (.slice fb d.final.length fc)])), (1, (.pointer (some ⟨z1, 0, none⟩))), (2, (.pointer (some ⟨z2, 0, none⟩))), (3, .int .i64 0), (4, (.pointer (some ⟨z3, 0, none⟩))), (5, .int .i64 0), (6, (.pointer (some ⟨z4, 0, none⟩))), (7, .int .i64 (k : Int)), (8, (.slice vb d.next[k].length vc)), (9, (.slice kb j kc)), (41, (.slice vb d.next[k].length vc)), (42, .int .i64 (d.next[k].length : Int)), (43, .int .i64 (j : Int))] ρ) (fun j => d.next[k].length - j) 0 ?_ ?_
    · exact ⟨none, 0, rfl, Nat.zero_le _, ⟨rfl, rfl, rfl, rfl, rfl, rfl, rfl, rfl, rfl, rfl, rfl, rfl, rfl, trivial⟩⟩
    rintro j ρ O ⟨kb, kc, rfl, hj, hH⟩
    obtain ⟨ρ0, rfl⟩ := hH.elim
    clear hH
    refine T.seq (T.region ?_)
    refine TO.quiet (q_lss rfl rfl) ?_
    refine TO.nil (T.seq ?_)
    refine T.condP rfl (fun hc => ?_) (fun hc => ?_)
    · have hlt44 : j < d.next[k].length := by omega
      have htj := (hto j hlt44).2
      refine T.skip (T.seq (T.block (T.seq (T.region ?_))))
      refine TO.quiet (q_ix (i := j) Tryd.underlying54 inf3 rfl rfl (Sl.o s1)) (TO.quiet (q_ld Tryd.underlying3 rfl rfl (Sl.o s1) ints_get) (TO.quiet (q_assign rfl) ?_))
      refine TO.nil (T.region ?_)
      refine TO.quiet (q_move rfl) (TO.quiet (q_load_box 4 Tryd.underlying54 rfl rfl rfl rfl) (TO.quiet (q_move rfl) (TO.quiet (q_ixz (i := d.next[k][j]) Tryd.underlying54 inf3 rfl rfl (rowO (List.mem_of_getElem? (i := 5) rfl)) (hto j hlt44).1 (hcl ▸ (hto j hlt44).2) (by rw [List.length_map]; exact (hto j hlt44).2)) ?_)))
      refine TO.quiet (q_ld Tryd.underlying3 rfl rfl (rowO (List.mem_of_getElem? (i := 5) rfl)) (nats_get (hto j hlt44).2)) ?_
      refine TO.loud rfl (l_build1 (v := .int .i64 ((cs[d.next[k][j].toNat] : Nat) : Int)) Tryd.underlying54 inf3 rfl rfl rfl (fun z5 => ?_))
      refine TO.loud rfl (l_append 1 Tryd.underlying54 Tryd.underlying54 inf3 rfl rfl rfl rfl (by rw [List.length_map, List.length_take, rowK_length]; omega) (by decide) (Src.row (j := 0) rfl (by simp)) (by simp [oneB]) (by omega) (by decide) (by decide) (fun z6 zc7 => ?_))
      refine TO.quiet (q_assign rfl) ?_
      refine TO.sub (O' := ([rowI z6 zc7 3 1 ((nats ((rowK cs d.next[k]).take j)) ++ [.int .i64 ((cs[d.next[k][j].toNat] : Nat) : Int)]), oI z4 25 [(.int .i64 d.vars), (.int .i64 ((cs.getD d.start.toNat 0 : Nat) : Int)), (.slice ob qs.length oc), (.slice fb9 fs.length fc9)], rowI ob oc 54 1 (vals qs), rowI fb9 fc9 4 1 (bools fs), oI z3 54 [(.slice cb d.next.length cc)], rowI cb cc 3 1 (nats cs), oI z2 25 [(.int .i64 0), (.int .i64 0), (.slice none 0 0), (.slice none 0 0)], oI z1 25 [(.int .i64 d.vars), (.int .i64 d.start), (.slice nb d.next.length nc), (.slice fb d.final.length fc)]] ++ (itms 3 qs))) (Sub.pickR [1, 1, 1, 1, 1, 1, 1, 1] [rowI (some ⟨z5, 0, none⟩) 1 3 1 [.int .i64 ((cs[d.next[k][j].toNat] : Nat) : Int)], rowI z6 zc7 3 1 ((nats ((rowK cs d.next[k]).take j)) ++ [.int .i64 ((cs[d.next[k][j].toNat] : Nat) : Int)]), oI z4 25 [(.int .i64 d.vars), (.int .i64 ((cs.getD d.start.toNat 0 : Nat) : Int)), (.slice ob qs.length oc), (.slice fb9 fs.length fc9)], rowI ob oc 54 1 (vals qs), rowI fb9 fc9 4 1 (bools fs), oI z3 54 [(.slice cb d.next.length cc)], rowI cb cc 3 1 (nats cs), oI z2 25 [(.int .i64 0), (.int .i64 0), (.slice none 0 0), (.slice none 0 0)], oI z1 25 [(.int .i64 d.vars), (.int .i64 d.start), (.slice nb d.next.length nc), (.slice fb d.final.length fc)]] (itms 3 qs) rfl rfl) ?_
      refine TO.nil (T.region ?_)
      refine TO.quiet (q_inc rfl rfl (by omega)) (TO.quiet (q_move rfl) ?_)
      refine TO.nil ?_
      have hst : (rowK cs d.next[k]).take (j + 1) = (rowK cs d.next[k]).take j ++ [cs[d.next[k][j].toNat]] := by rw [List.take_succ_eq_append_getElem (by rw [rowK_length]; exact hlt44), rowK_get hlt44 (hto j hlt44).2]
      exact ⟨j + 1, by omega, z6, zc7, by rw [hst, show nats ((rowK cs d.next[k]).take j ++ [cs[d.next[k][j].toNat]]) = nats ((rowK cs d.next[k]).take j) ++ [.int .i64 ((cs[d.next[k][j].toNat] : Nat) : Int)] from List.map_append], by omega, ⟨rfl, rfl, rfl, rfl, rfl, rfl, rfl, rfl, rfl, rfl, rfl, rfl, rfl, trivial⟩⟩
    have hge44 : ¬ j < d.next[k].length := by omega
    refine T.exit ?_
    have hjf : j = d.next[k].length := by omega
    have hR : rowI kb kc 3 1 (nats ((rowK cs d.next[k]).take j)) = Rec.itm 3 ⟨kb, kc, (rowK cs d.next[k]).map fun c : Nat => (c : Int)⟩ := by
      rw [List.take_of_length_le (by rw [rowK_length]; omega)]; simp [Rec.itm, Function.comp_def]
    refine T.cut1 (fun ρ O => ∃ (ob2 : Option Addr) (oc2 : Nat) (fb2 : Option Addr) (fc2 : Nat), O = ([oI z4 25 [(.int .i64 d.vars), (.int .i64 ((cs.getD d.start.toNat 0 : Nat) : Int)), (.slice ob2 (qs.length + 1) oc2), (.slice fb2 (fs.length + 1) fc2)], rowI ob2 oc2 54 1 ((vals qs) ++ [(.slice kb j kc)]), rowI fb2 fc2 4 1 ((bools fs) ++ [(.bool d.final[k])]), oI z3 54 [(.slice cb d.next.length cc)], rowI cb cc 3 1 (nats cs), oI z2 25 [(.int .i64 0), (.int .i64 0), (.slice none 0 0), (.slice none 0 0)], oI z1 25 [(.int .i64 d.vars), (.int .i64 d.start), (.slice nb d.next.length nc), (.slice fb d.final.length fc)]] ++ (itms 3 (qs ++ [⟨kb, kc, (rowK cs d.next[k]).map fun c : Nat => (c : Int)⟩]))) ∧ Heads [(0, (.agg #[(.int .i64 d.vars), (.int .i64 d.start), (.slice nb d.next.length nc), (.slice fb d.final.length fc)])), (1, (.pointer (some ⟨z1, 0, none⟩))), (2, (.pointer (some ⟨z2, 0, none⟩))), (3, .int .i64 0), (4, (.pointer (some ⟨z3, 0, none⟩))), (5, .int .i64 0), (6, (.pointer (some ⟨z4, 0, none⟩))), (7, .int .i64 (k : Int)), (8, (.slice vb d.next[k].length vc)), (9, (.slice kb j kc)), (41, (.slice vb d.next[k].length vc)), (42, .int .i64 (d.next[k].length : Int)), (43, .int .i64 (j : Int))] ρ) ?_ ?_
    · refine T.treeT [oI z4 25 [(.int .i64 d.vars), (.int .i64 ((cs.getD d.start.toNat 0 : Nat) : Int)), (.slice ob qs.length oc), (.slice fb9 fs.length fc9)], oI z1 25 [(.int .i64 d.vars), (.int .i64 d.start), (.slice nb d.next.length nc), (.slice fb d.final.length fc)]] [15, 17] 18 mixed rfl (Sub.pick0 [1, 6] [rowI kb kc 3 1 (nats ((rowK cs d.next[k]).take j)), oI z4 25 [(.int .i64 d.vars), (.int .i64 ((cs.getD d.start.toNat 0 : Nat) : Int)), (.slice ob qs.length oc), (.slice fb9 fs.length fc9)], rowI ob oc 54 1 (vals qs), rowI fb9 fc9 4 1 (bools fs), oI z3 54 [(.slice cb d.next.length cc)], rowI cb cc 3 1 (nats cs), oI z2 25 [(.int .i64 0), (.int .i64 0), (.slice none 0 0), (.slice none 0 0)], oI z1 25 [(.int .i64 d.vars), (.int .i64 d.start), (.slice nb d.next.length nc), (.slice fb d.final.length fc)]] (itms 3 qs) rfl rfl) (fun _ _ _ h => h) ?_
      refine RO.quietTT 0 rfl (by kernel_rfl) (q_fieldAddr Tryd.underlying25 rfl inf22 rfl rfl) ?_
      refine RO.quietTT 1 rfl (by kernel_rfl) (q_load_box 0 Tryd.underlying22 rfl rfl rfl rfl) ?_
      refine RO.quietTT 2 rfl (by kernel_rfl) (q_move rfl) ?_
      refine RO.quietTT 5 rfl (by kernel_rfl) (q_fieldAddr Tryd.underlying25 rfl inf23 rfl rfl) ?_
      refine RO.quietTT 6 rfl (by kernel_rfl) (q_load_box 0 Tryd.underlying23 rfl rfl rfl rfl) ?_
      refine RO.quietTT 7 rfl (by kernel_rfl) (q_fieldAddr Tryd.underlying25 rfl inf23 rfl rfl) ?_
      refine RO.quietTT 8 rfl (by kernel_rfl) (q_load_box 1 Tryd.underlying23 rfl rfl rfl rfl) ?_
      refine RO.quietTT 9 rfl (by kernel_rfl) (q_move rfl) ?_
      refine RO.quietTT 10 rfl (by kernel_rfl) (q_ix (i := k) Tryd.underlying23 inf4 rfl rfl (Sl.o h.final) hkf (by rw [List.length_map]; exact hkf)) ?_
      refine RO.quietTT 11 rfl (by kernel_rfl) (q_ld Tryd.underlying4 rfl rfl (Sl.o h.final) (bools_get hkf)) ?_
      refine RO.forkT [3, 12] (by kernel_rfl) rfl ⟨⟨_, rfl, rfl, l_build1 (v := (.slice kb j kc)) Tryd.underlying22 inf54 rfl rfl rfl (fun zA => ⟨.inr (Sub.pick0 [2, 7] [rowI (some ⟨zA, 0, none⟩) 1 54 1 [(.slice kb j kc)], rowI kb kc 3 1 (nats ((rowK cs d.next[k]).take j)), oI z4 25 [(.int .i64 d.vars), (.int .i64 ((cs.getD d.start.toNat 0 : Nat) : Int)), (.slice ob qs.length oc), (.slice fb9 fs.length fc9)], rowI ob oc 54 1 (vals qs), rowI fb9 fc9 4 1 (bools fs), oI z3 54 [(.slice cb d.next.length cc)], rowI cb cc 3 1 (nats cs), oI z2 25 [(.int .i64 0), (.int .i64 0), (.slice none 0 0), (.slice none 0 0)], oI z1 25 [(.int .i64 d.vars), (.int .i64 d.start), (.slice nb d.next.length nc), (.slice fb d.final.length fc)]] (itms 3 qs) rfl rfl), ?_⟩)⟩, ⟨_, rfl, rfl, l_build1 (v := (.bool d.final[k])) Tryd.underlying23 inf4 rfl rfl rfl (fun zB => ⟨.inr (Sub.pick0 [2, 7] [rowI (some ⟨zB, 0, none⟩) 1 4 1 [(.bool d.final[k])], rowI kb kc 3 1 (nats ((rowK cs d.next[k]).take j)), oI z4 25 [(.int .i64 d.vars), (.int .i64 ((cs.getD d.start.toNat 0 : Nat) : Int)), (.slice ob qs.length oc), (.slice fb9 fs.length fc9)], rowI ob oc 54 1 (vals qs), rowI fb9 fc9 4 1 (bools fs), oI z3 54 [(.slice cb d.next.length cc)], rowI cb cc 3 1 (nats cs), oI z2 25 [(.int .i64 0), (.int .i64 0), (.slice none 0 0), (.slice none 0 0)], oI z1 25 [(.int .i64 d.vars), (.int .i64 d.start), (.slice nb d.next.length nc), (.slice fb d.final.length fc)]] (itms 3 qs) rfl rfl), ?_⟩)⟩, trivial⟩ (by kernel_rfl)
      · refine RO.forkT [4, 12] (by kernel_rfl) rfl ⟨⟨_, rfl, rfl, l_append 3 Tryd.underlying22 Tryd.underlying22 inf54 rfl rfl rfl rfl (by rw [List.length_map]; omega) (by decide) (Src.row (j := 0) rfl (by simp)) (by simp [oneB]) (by omega) (by decide) (by decide) (fun ob2 oc2 => ⟨.inr (Sub.pick0 [2, 7] [rowI (some ⟨zA, 0, none⟩) 1 54 1 [(.slice kb j kc)], rowI kb kc 3 1 (nats ((rowK cs d.next[k]).take j)), oI z4 25 [(.int .i64 d.vars), (.int .i64 ((cs.getD d.start.toNat 0 : Nat) : Int)), (.slice ob qs.length oc), (.slice fb9 fs.length fc9)], rowI ob2 oc2 54 1 ((vals qs) ++ [(.slice kb j kc)]), rowI fb9 fc9 4 1 (bools fs), oI z3 54 [(.slice cb d.next.length cc)], rowI cb cc 3 1 (nats cs), oI z2 25 [(.int .i64 0), (.int .i64 0), (.slice none 0 0), (.slice none 0 0)], oI z1 25 [(.int .i64 d.vars), (.int .i64 d.start), (.slice nb d.next.length nc), (.slice fb d.final.length fc)]] (itms 3 qs) rfl rfl), ?_⟩)⟩, ⟨_, rfl, rfl, l_build1 (v := (.bool d.final[k])) Tryd.underlying23 inf4 rfl rfl rfl (fun zB => ⟨.inr (Sub.pick0 [3, 8] [rowI (some ⟨zB, 0, none⟩) 1 4 1 [(.bool d.final[k])], rowI (some ⟨zA, 0, none⟩) 1 54 1 [(.slice kb j kc)], rowI kb kc 3 1 (nats ((rowK cs d.next[k]).take j)), oI z4 25 [(.int .i64 d.vars), (.int .i64 ((cs.getD d.start.toNat 0 : Nat) : Int)), (.slice ob qs.length oc), (.slice fb9 fs.length fc9)], rowI ob oc 54 1 (vals qs), rowI fb9 fc9 4 1 (bools fs), oI z3 54 [(.slice cb d.next.length cc)], rowI cb cc 3 1 (nats cs), oI z2 25 [(.int .i64 0), (.int .i64 0), (.slice none 0 0), (.slice none 0 0)], oI z1 25 [(.int .i64 d.vars), (.int .i64 d.start), (.slice nb d.next.length nc), (.slice fb d.final.length fc)]] (itms 3 qs) rfl rfl), ?_⟩)⟩, trivial⟩ (by kernel_rfl)
        · refine RO.quietE 14 rfl (by kernel_rfl) (q_fieldAddr Tryd.underlying25 rfl inf22 rfl rfl) ?_
          refine RO.forkT [12] (by kernel_rfl) rfl ⟨⟨_, rfl, rfl, l_build1 (v := (.bool d.final[k])) Tryd.underlying23 inf4 rfl rfl rfl (fun zB => ⟨.inr (Sub.pick0 [3, 8] [rowI (some ⟨zB, 0, none⟩) 1 4 1 [(.bool d.final[k])], rowI (some ⟨zA, 0, none⟩) 1 54 1 [(.slice kb j kc)], rowI kb kc 3 1 (nats ((rowK cs d.next[k]).take j)), oI z4 25 [(.int .i64 d.vars), (.int .i64 ((cs.getD d.start.toNat 0 : Nat) : Int)), (.slice ob qs.length oc), (.slice fb9 fs.length fc9)], rowI ob2 oc2 54 1 ((vals qs) ++ [(.slice kb j kc)]), rowI fb9 fc9 4 1 (bools fs), oI z3 54 [(.slice cb d.next.length cc)], rowI cb cc 3 1 (nats cs), oI z2 25 [(.int .i64 0), (.int .i64 0), (.slice none 0 0), (.slice none 0 0)], oI z1 25 [(.int .i64 d.vars), (.int .i64 d.start), (.slice nb d.next.length nc), (.slice fb d.final.length fc)]] (itms 3 qs) rfl rfl), ?_⟩)⟩, trivial⟩ (by kernel_rfl)
          refine RO.forkT [13] (by kernel_rfl) rfl ⟨⟨_, rfl, rfl, l_append 5 Tryd.underlying23 Tryd.underlying23 inf4 rfl rfl rfl rfl (by rw [List.length_map]; omega) (by decide) (Src.row (j := 0) rfl (by simp)) (by simp [oneB]) (by omega) (by decide) (by decide) (fun fb2 fc2 => ⟨.inr (Sub.pick0 [3, 8] [rowI (some ⟨zB, 0, none⟩) 1 4 1 [(.bool d.final[k])], rowI (some ⟨zA, 0, none⟩) 1 54 1 [(.slice kb j kc)], rowI kb kc 3 1 (nats ((rowK cs d.next[k]).take j)), oI z4 25 [(.int .i64 d.vars), (.int .i64 ((cs.getD d.start.toNat 0 : Nat) : Int)), (.slice ob qs.length oc), (.slice fb9 fs.length fc9)], rowI ob2 oc2 54 1 ((vals qs) ++ [(.slice kb j kc)]), rowI fb2 fc2 4 1 ((bools fs) ++ [(.bool d.final[k])]), oI z3 54 [(.slice cb d.next.length cc)], rowI cb cc 3 1 (nats cs), oI z2 25 [(.int .i64 0), (.int .i64 0), (.slice none 0 0), (.slice none 0 0)], oI z1 25 [(.int .i64 d.vars), (.int .i64 d.start), (.slice nb d.next.length nc), (.slice fb d.final.length fc)]] (itms 3 qs) rfl rfl), ?_⟩)⟩, trivial⟩ (by kernel_rfl)
          refine RO.forkT [15] (by kernel_rfl) rfl ⟨⟨_, rfl, rfl, l_store_box (v := (.slice ob2 (qs.length + 1) oc2)) (vs := [(.slice ob2 (qs.length + 1) oc2)]) 3 inf22 rfl rfl rfl rfl rfl rfl (by simp [putL]) ⟨.inl (by decide), ?_⟩⟩, trivial⟩ (by kernel_rfl)
          refine RO.quietE 16 rfl (by kernel_rfl) (q_fieldAddr Tryd.underlying25 rfl inf23 rfl rfl) ?_
          refine RO.forkT [17] (by kernel_rfl) rfl ⟨⟨_, rfl, rfl, l_store_box (v := (.slice fb2 (fs.length + 1) fc2)) (vs := [(.slice fb2 (fs.length + 1) fc2)]) 3 inf23 rfl rfl rfl rfl rfl rfl (by simp [putL]) ⟨.inl (by decide), ?_⟩⟩, trivial⟩ (by kernel_rfl)
          exact RO.fin (by kernel_rfl) ⟨ob2, oc2, fb2, fc2, rfl, ⟨rfl, rfl, rfl, rfl, rfl, rfl, rfl, rfl, rfl, rfl, rfl, rfl, rfl, trivial⟩⟩ (by show Sub _ ([rowI (some ⟨zB, 0, none⟩) 1 4 1 [(.bool d.final[k])], rowI (some ⟨zA, 0, none⟩) 1 54 1 [(.slice kb j kc)], rowI kb kc 3 1 (nats ((rowK cs d.next[k]).take j)), oI z4 25 [(.int .i64 d.vars), (.int .i64 ((cs.getD d.start.toNat 0 : Nat) : Int)), (.slice ob2 (qs.length + 1) oc2), (.slice fb2 (fs.length + 1) fc2)], rowI ob2 oc2 54 1 ((vals qs) ++ [(.slice kb j kc)]), rowI fb2 fc2 4 1 ((bools fs) ++ [(.bool d.final[k])]), oI z3 54 [(.slice cb d.next.length cc)], rowI cb cc 3 1 (nats cs), oI z2 25 [(.int .i64 0), (.int .i64 0), (.slice none 0 0), (.slice none 0 0)], oI z1 25 [(.int .i64 d.vars), (.int .i64 d.start), (.slice nb d.next.length nc), (.slice fb d.final.length fc)]] ++ itms 3 qs); rw [hR]; exact Sub.cnt [rowI (some ⟨zB, 0, none⟩) 1 4 1 [(.bool d.final[k])], rowI (some ⟨zA, 0, none⟩) 1 54 1 [(.slice kb j kc)]] (by intro a; simp only [itms, oI, List.set_cons_zero, List.set_cons_succ, putL, List.cons_append, List.nil_append, List.append_nil, List.append_assoc, List.map_append, List.map_cons, List.map_nil, cnt_append, cnt_cons, cnt_nil] <;> omega))
        refine RO.forkT [4] (by kernel_rfl) rfl ⟨⟨_, rfl, rfl, l_append 4 Tryd.underlying22 Tryd.underlying22 inf54 rfl rfl rfl rfl (by rw [List.length_map]; omega) (by decide) (Src.row (j := 1) rfl (by simp)) (by simp [oneB]) (by omega) (by decide) (by decide) (fun ob2 oc2 => ⟨.inr (Sub.pick0 [3, 8] [rowI (some ⟨zB, 0, none⟩) 1 4 1 [(.bool d.final[k])], rowI (some ⟨zA, 0, none⟩) 1 54 1 [(.slice kb j kc)], rowI kb kc 3 1 (nats ((rowK cs d.next[k]).take j)), oI z4 25 [(.int .i64 d.vars), (.int .i64 ((cs.getD d.start.toNat 0 : Nat) : Int)), (.slice ob qs.length oc), (.slice fb9 fs.length fc9)], rowI ob2 oc2 54 1 ((vals qs) ++ [(.slice kb j kc)]), rowI fb9 fc9 4 1 (bools fs), oI z3 54 [(.slice cb d.next.length cc)], rowI cb cc 3 1 (nats cs), oI z2 25 [(.int .i64 0), (.int .i64 0), (.slice none 0 0), (.slice none 0 0)], oI z1 25 [(.int .i64 d.vars), (.int .i64 d.start), (.slice nb d.next.length nc), (.slice fb d.final.length fc)]] (itms 3 qs) rfl rfl), ?_⟩)⟩, trivial⟩ (by kernel_rfl)
        refine RO.quietE 14 rfl (by kernel_rfl) (q_fieldAddr Tryd.underlying25 rfl inf22 rfl rfl) ?_
        refine RO.forkT [13] (by kernel_rfl) rfl ⟨⟨_, rfl, rfl, l_append 5 Tryd.underlying23 Tryd.underlying23 inf4 rfl rfl rfl rfl (by rw [List.length_map]; omega) (by decide) (Src.row (j := 0) rfl (by simp)) (by simp [oneB]) (by omega) (by decide) (by decide) (fun fb2 fc2 => ⟨.inr (Sub.pick0 [3, 8] [rowI (some ⟨zB, 0, none⟩) 1 4 1 [(.bool d.final[k])], rowI (some ⟨zA, 0, none⟩) 1 54 1 [(.slice kb j kc)], rowI kb kc 3 1 (nats ((rowK cs d.next[k]).take j)), oI z4 25 [(.int .i64 d.vars), (.int .i64 ((cs.getD d.start.toNat 0 : Nat) : Int)), (.slice ob qs.length oc), (.slice fb9 fs.length fc9)], rowI ob2 oc2 54 1 ((vals qs) ++ [(.slice kb j kc)]), rowI fb2 fc2 4 1 ((bools fs) ++ [(.bool d.final[k])]), oI z3 54 [(.slice cb d.next.length cc)], rowI cb cc 3 1 (nats cs), oI z2 25 [(.int .i64 0), (.int .i64 0), (.slice none 0 0), (.slice none 0 0)], oI z1 25 [(.int .i64 d.vars), (.int .i64 d.start), (.slice nb d.next.length nc), (.slice fb d.final.length fc)]] (itms 3 qs) rfl rfl), ?_⟩)⟩, trivial⟩ (by kernel_rfl)
        refine RO.forkT [15] (by kernel_rfl) rfl ⟨⟨_, rfl, rfl, l_store_box (v := (.slice ob2 (qs.length + 1) oc2)) (vs := [(.slice ob2 (qs.length + 1) oc2)]) 3 inf22 rfl rfl rfl rfl rfl rfl (by simp [putL]) ⟨.inl (by decide), ?_⟩⟩, trivial⟩ (by kernel_rfl)
        refine RO.quietE 16 rfl (by kernel_rfl) (q_fieldAddr Tryd.underlying25 rfl inf23 rfl rfl) ?_
        refine RO.forkT [17] (by kernel_rfl) rfl ⟨⟨_, rfl, rfl, l_store_box (v := (.slice fb2 (fs.length + 1) fc2)) (vs := [(.slice fb2 (fs.length + 1) fc2)]) 3 inf23 rfl rfl rfl rfl rfl rfl (by simp [putL]) ⟨.inl (by decide), ?_⟩⟩, trivial⟩ (by kernel_rfl)
        exact RO.fin (by kernel_rfl) ⟨ob2, oc2, fb2, fc2, rfl, ⟨rfl, rfl, rfl, rfl, rfl, rfl, rfl, rfl, rfl, rfl, rfl, rfl, rfl, trivial⟩⟩ (by show Sub _ ([rowI (some ⟨zB, 0, none⟩) 1 4 1 [(.bool d.final[k])], rowI (some ⟨zA, 0, none⟩) 1 54 1 [(.slice kb j kc)], rowI kb kc 3 1 (nats ((rowK cs d.next[k]).take j)), oI z4 25 [(.int .i64 d.vars), (.int .i64 ((cs.getD d.start.toNat 0 : Nat) : Int)), (.slice ob2 (qs.length + 1) oc2), (.slice fb2 (fs.length + 1) fc2)], rowI ob2 oc2 54 1 ((vals qs) ++ [(.slice kb j kc)]), rowI fb2 fc2 4 1 ((bools fs) ++ [(.bool d.final[k])]), oI z3 54 [(.slice cb d.next.length cc)], rowI cb cc 3 1 (nats cs), oI z2 25 [(.int .i64 0), (.int .i64 0), (.slice none 0 0), (.slice none 0 0)], oI z1 25 [(.int .i64 d.vars), (.int .i64 d.start), (.slice nb d.next.length nc), (.slice fb d.final.length fc)]] ++ itms 3 qs); rw [hR]; exact Sub.cnt [rowI (some ⟨zB, 0, none⟩) 1 4 1 [(.bool d.final[k])], rowI (some ⟨zA, 0, none⟩) 1 54 1 [(.slice kb j kc)]] (by intro a; simp only [itms, oI, List.set_cons_zero, List.set_cons_succ, putL, List.cons_append, List.nil_append, List.append_nil, List.append_assoc, List.map_append, List.map_cons, List.map_nil, cnt_append, cnt_cons, cnt_nil] <;> omega))
      refine RO.forkT [3] (by kernel_rfl) rfl ⟨⟨_, rfl, rfl, l_build1 (v := (.slice kb j kc)) Tryd.underlying22 inf54 rfl rfl rfl (fun zA => ⟨.inr (Sub.pick0 [3, 8] [rowI (some ⟨zA, 0, none⟩) 1 54 1 [(.slice kb j kc)], rowI (some ⟨zB, 0, none⟩) 1 4 1 [(.bool d.final[k])], rowI kb kc 3 1 (nats ((rowK cs d.next[k]).take j)), oI z4 25 [(.int .i64 d.vars), (.int .i64 ((cs.getD d.start.toNat 0 : Nat) : Int)), (.slice ob qs.length oc), (.slice fb9 fs.length fc9)], rowI ob oc 54 1 (vals qs), rowI fb9 fc9 4 1 (bools fs), oI z3 54 [(.slice cb d.next.length cc)], rowI cb cc 3 1 (nats cs), oI z2 25 [(.int .i64 0), (.int .i64 0), (.slice none 0 0), (.slice none 0 0)], oI z1 25 [(.int .i64 d.vars), (.int .i64 d.start), (.slice nb d.next.length nc), (.slice fb d.final.length fc)]] (itms 3 qs) rfl rfl), ?_⟩)⟩, trivial⟩ (by kernel_rfl)
      refine RO.forkT [4] (by kernel_rfl) rfl ⟨⟨_, rfl, rfl, l_append 4 Tryd.underlying22 Tryd.underlying22 inf54 rfl rfl rfl rfl (by rw [List.length_map]; omega) (by decide) (Src.row (j := 0) rfl (by simp)) (by simp [oneB]) (by omega) (by decide) (by decide) (fun ob2 oc2 => ⟨.inr (Sub.pick0 [3, 8] [rowI (some ⟨zA, 0, none⟩) 1 54 1 [(.slice kb j kc)], rowI (some ⟨zB, 0, none⟩) 1 4 1 [(.bool d.final[k])], rowI kb kc 3 1 (nats ((rowK cs d.next[k]).take j)), oI z4 25 [(.int .i64 d.vars), (.int .i64 ((cs.getD d.start.toNat 0 : Nat) : Int)), (.slice ob qs.length oc), (.slice fb9 fs.length fc9)], rowI ob2 oc2 54 1 ((vals qs) ++ [(.slice kb j kc)]), rowI fb9 fc9 4 1 (bools fs), oI z3 54 [(.slice cb d.next.length cc)], rowI cb cc 3 1 (nats cs), oI z2 25 [(.int .i64 0), (.int .i64 0), (.slice none 0 0), (.slice none 0 0)], oI z1 25 [(.int .i64 d.vars), (.int .i64 d.start), (.slice nb d.next.length nc), (.slice fb d.final.length fc)]] (itms 3 qs) rfl rfl), ?_⟩)⟩, trivial⟩ (by kernel_rfl)
      refine RO.quietE 14 rfl (by kernel_rfl) (q_fieldAddr Tryd.underlying25 rfl inf22 rfl rfl) ?_
      refine RO.forkT [13] (by kernel_rfl) rfl ⟨⟨_, rfl, rfl, l_append 5 Tryd.underlying23 Tryd.underlying23 inf4 rfl rfl rfl rfl (by rw [List.length_map]; omega) (by decide) (Src.row (j := 1) rfl (by simp)) (by simp [oneB]) (by omega) (by decide) (by decide) (fun fb2 fc2 => ⟨.inr (Sub.pick0 [3, 8] [rowI (some ⟨zA, 0, none⟩) 1 54 1 [(.slice kb j kc)], rowI (some ⟨zB, 0, none⟩) 1 4 1 [(.bool d.final[k])], rowI kb kc 3 1 (nats ((rowK cs d.next[k]).take j)), oI z4 25 [(.int .i64 d.vars), (.int .i64 ((cs.getD d.start.toNat 0 : Nat) : Int)), (.slice ob qs.length oc), (.slice fb9 fs.length fc9)], rowI ob2 oc2 54 1 ((vals qs) ++ [(.slice kb j kc)]), rowI fb2 fc2 4 1 ((bools fs) ++ [(.bool d.final[k])]), oI z3 54 [(.slice cb d.next.length cc)], rowI cb cc 3 1 (nats cs), oI z2 25 [(.int .i64 0), (.int .i64 0), (.slice none 0 0), (.slice none 0 0)], oI z1 25 [(.int .i64 d.vars), (.int .i64 d.start), (.slice nb d.next.length nc), (.slice fb d.final.length fc)]] (itms 3 qs) rfl rfl), ?_⟩)⟩, trivial⟩ (by kernel_rfl)
      refine RO.forkT [15] (by kernel_rfl) rfl ⟨⟨_, rfl, rfl, l_store_box (v := (.slice ob2 (qs.length + 1) oc2)) (vs := [(.slice ob2 (qs.length + 1) oc2)]) 3 inf22 rfl rfl rfl rfl rfl rfl (by simp [putL]) ⟨.inl (by decide), ?_⟩⟩, trivial⟩ (by kernel_rfl)
      refine RO.quietE 16 rfl (by kernel_rfl) (q_fieldAddr Tryd.underlying25 rfl inf23 rfl rfl) ?_
      refine RO.forkT [17] (by kernel_rfl) rfl ⟨⟨_, rfl, rfl, l_store_box (v := (.slice fb2 (fs.length + 1) fc2)) (vs := [(.slice fb2 (fs.length + 1) fc2)]) 3 inf23 rfl rfl rfl rfl rfl rfl (by simp [putL]) ⟨.inl (by decide), ?_⟩⟩, trivial⟩ (by kernel_rfl)
      exact RO.fin (by kernel_rfl) ⟨ob2, oc2, fb2, fc2, rfl, ⟨rfl, rfl, rfl, rfl, rfl, rfl, rfl, rfl, rfl, rfl, rfl, rfl, rfl, trivial⟩⟩ (by show Sub _ ([rowI (some ⟨zA, 0, none⟩) 1 54 1 [(.slice kb j kc)], rowI (some ⟨zB, 0, none⟩) 1 4 1 [(.bool d.final[k])], rowI kb kc 3 1 (nats ((rowK cs d.next[k]).take j)), oI z4 25 [(.int .i64 d.vars), (.int .i64 ((cs.getD d.start.toNat 0 : Nat) : Int)), (.slice ob2 (qs.length + 1) oc2), (.slice fb2 (fs.length + 1) fc2)], rowI ob2 oc2 54 1 ((vals qs) ++ [(.slice kb j kc)]), rowI fb2 fc2 4 1 ((bools fs) ++ [(.bool d.final[k])]), oI z3 54 [(.slice cb d.next.length cc)], rowI cb cc 3 1 (nats cs), oI z2 25 [(.int .i64 0), (.int .i64 0), (.slice none 0 0), (.slice none 0 0)], oI z1 25 [(.int .i64 d.vars), (.int .i64 d.start), (.slice nb d.next.length nc), (.slice fb d.final.length fc)]] ++ itms 3 qs); rw [hR]; exact Sub.cnt [rowI (some ⟨zA, 0, none⟩) 1 54 1 [(.slice kb j kc)], rowI (some ⟨zB, 0, none⟩) 1 4 1 [(.bool d.final[k])]] (by intro a; simp only [itms, oI, List.set_cons_zero, List.set_cons_succ, putL, List.cons_append, List.nil_append, List.append_nil, List.append_assoc, List.map_append, List.map_cons, List.map_nil, cnt_append, cnt_cons, cnt_nil] <;> omega))
    rintro ρ O ⟨ob2, oc2, fb2, fc2, rfl, hH⟩
    obtain ⟨ρ0, rfl⟩ := hH.elim
    clear hH
    refine .inl ⟨rfl, ob2, fb2, oc2, fc2, qs ++ [⟨kb, kc, (rowK cs d.next[k]).map fun c : Nat => (c : Int)⟩], fs ++ [d.final[k]], ?_, by omega, ?_, ?_⟩
    · simp [Rec.val, rowK_length, hjf]
    · rw [hqn2, ← hqs]; simp
    · rw [hqn2, hfs]
  · refine ⟨none, none, 0, 0, [], [], ?_, Nat.zero_le _, rfl, rfl⟩
    rfl
  rintro v O' (⟨ob, fb9, oc, fc9, qs, fs, rfl, hk, hqs, hfs⟩ | hF)
  rotate_left
  · exact hF.elim
  refine ⟨none, _, rfl, ?_⟩
  refine T.seq ?_
  have hql : qs.length = (quo d cs).next.length := by rw [show qs.length = (nums qs).length by simp, hqs]; rfl
  obtain rfl : fs = (quo d cs).final := hfs
  rw [hql]
  refine T.region ?_
  refine TO.quiet (q_load_boxAgg 0 Tryd.underlying25 rfl inf25 rfl rfl rfl) ?_
  have hk72 := fun (w1 : World) (hI : Inv w ([oI z4 25 [(.int .i64 d.vars), (.int .i64 ((cs.getD d.start.toNat 0 : Nat) : Int)), (.slice ob ((quo d cs).next.length) oc), (.slice fb9 ((quo d cs).final.length) fc9)], rowI ob oc 54 1 (vals qs), rowI fb9 fc9 4 1 (bools (quo d cs).final), oI z3 54 [(.slice cb d.next.length cc)], rowI cb cc 3 1 (nats cs), oI z2 25 [(.int .i64 0), (.int .i64 0), (.slice none 0 0), (.slice none 0 0)], oI z1 25 [(.int .i64 d.vars), (.int .i64 d.start), (.slice nb d.next.length nc), (.slice fb d.final.length fc)]] ++ (itms 3 qs)) w1) => (haveI := Inv.tab (P := Tryd.prog) hI; renumOk w1 (quo d cs) ob fb9 oc fc9 (vals qs) ⟨hI.slOf (List.mem_of_getElem? (i := 1) rfl), (show nums qs = (quo d cs).next from hqs) ▸ hI.recs (fun q hq => List.mem_append_right _ (List.mem_map_of_mem (f := Rec.itm 3) hq)), hI.slOf (List.mem_of_getElem? (i := 2) rfl)⟩ hqv hqn)
  refine TO.loud rfl (l_call ent43 (CallT.of_pure hk72) rfl ?_)
  clear hk72
  rintro v O' ⟨N, rfl, nb', nc', fb', fc', qs', rfl, rfl, hnx⟩
  refine TO.sub (O' := ([rowI nb' nc' 54 1 (vals qs'), rowI fb' fc' 4 1 (bools (renum (quo d cs)).final), oI z4 25 [(.int .i64 d.vars), (.int .i64 ((cs.getD d.start.toNat 0 : Nat) : Int)), (.slice ob ((quo d cs).next.length) oc), (.slice fb9 ((quo d cs).final.length) fc9)], rowI ob oc 54 1 (vals qs), rowI fb9 fc9 4 1 (bools (quo d cs).final), oI z3 54 [(.slice cb d.next.length cc)], rowI cb cc 3 1 (nats cs), oI z2 25 [(.int .i64 0), (.int .i64 0), (.slice none 0 0), (.slice none 0 0)], oI z1 25 [(.int .i64 d.vars), (.int .i64 d.start), (.slice nb d.next.length nc), (.slice fb d.final.length fc)]] ++ ((itms 3 qs') ++ (itms 3 qs)))) (Sub.cnt [] (by intro a; simp only [itms, oI, List.set_cons_zero, List.set_cons_succ, putL, List.cons_append, List.nil_append, List.append_nil, List.append_assoc, List.map_append, List.map_cons, List.map_nil, cnt_append, cnt_cons, cnt_nil] <;> omega)) ?_
  refine TO.quiet (q_extract (vs := _) rfl rfl) (TO.quiet (q_extract (vs := _) rfl rfl) ?_)
  refine TO.loud rfl (l_store_box (v := (.agg #[(.int .i64 (renum (quo d cs)).vars), (.int .i64 (renum (quo d cs)).start), (.slice nb' ((renum (quo d cs)).next.length) nc'), (.slice fb' ((renum (quo d cs)).final.length) fc')])) (vs := [(.int .i64 (renum (quo d cs)).vars), (.int .i64 (renum (quo d cs)).start), (.slice nb' ((renum (quo d cs)).next.length) nc'), (.slice fb' ((renum (quo d cs)).final.length) fc')]) 7 inf25 rfl rfl rfl rfl rfl rfl (by simp [putL]) ?_)
  refine TO.quiet (q_assign rfl) ?_
  refine TO.nil (T.ret (Res.drop ?_))
  refine Res.cell1b (.int .i64 0) (i := 7) Tryd.results17 Tryd.underlying25 rfl inf25 rfl rfl rfl rfl ?_
  exact ⟨[rowI nb' nc' 54 1 (vals qs'), rowI fb' fc' 4 1 (bools (renum (quo d cs)).final)] ++ itms 3 qs', Sub.cnt ([oI z4 25 [(.int .i64 d.vars), (.int .i64 ((cs.getD d.start.toNat 0 : Nat) : Int)), (.slice ob ((quo d cs).next.length) oc), (.slice fb9 ((quo d cs).final.length) fc9)], rowI ob oc 54 1 (vals qs), rowI fb9 fc9 4 1 (bools (quo d cs).final), oI z3 54 [(.slice cb d.next.length cc)], rowI cb cc 3 1 (nats cs), oI z2 25 [(.int .i64 (renum (quo d cs)).vars), (.int .i64 (renum (quo d cs)).start), (.slice nb' ((renum (quo d cs)).next.length) nc'), (.slice fb' ((renum (quo d cs)).final.length) fc')], oI z1 25 [(.int .i64 d.vars), (.int .i64 d.start), (.slice nb d.next.length nc), (.slice fb d.final.length fc)]] ++ itms 3 qs) (by intro a; simp only [itms, oI, List.set_cons_zero, List.set_cons_succ, putL, List.cons_append, List.nil_append, List.append_nil, List.append_assoc, List.map_append, List.map_cons, List.map_nil, cnt_append, cnt_cons, cnt_nil] <;> omega), nb', nc', fb', fc', qs', rfl, rfl, hnx⟩
end Go.Proofs.YtnpehjpookcfkaaDoor

namespace Go.Proofs.YtnpehjpookcfkaaDoor
open Go.Lx Go.RowKit
set_option linter.unusedVariables false
set_option linter.unusedSimpArgs false
theorem pair100 : Pair2 Tryd.prog 100 { name := "s", type := 3, offset := 0, embedded := false, tag := "", pkgPath := "sentinel/minimal", byteOffset := 0 } { name := "t", type := 3, offset := 1, embedded := false, tag := "", pkgPath := "sentinel/minimal", byteOffset := 8 } := ⟨Tryd.underlying100, Tryd.underlying3, Tryd.underlying3, rfl, rfl, by decide, by decide, by kernel_rfl⟩
set_option maxHeartbeats 1000000 in
set_option maxRecDepth 20000 in
theorem cloneNil (w : World) [Tab Tryd.prog w] (c : Nat) :
    PureT Tryd.prog 66 [.slice none 0 c] w fun v N => ∃ b' c', v = .slice b' 0 c' ∧ N = [rowI b' c' 5 1 []] := by
  refine CallT.enter Tryd.func66 rfl Tryd.ntmps66 rfl ?_
  refine T.seq (T.region ?_)
  refine TO.quiet (q_assign rfl) ?_
  refine TO.nil (T.seq (T.seq (T.region ?_)))
  refine TO.quiet (q_move rfl) (TO.quiet (q_eqlNil Tryd.underlying29 rfl rfl) ?_)
  refine TO.nil ?_
  refine T.cond1 rfl ?_
  refine T.seq ?_
  refine T.nilRow 5 1 ?_
  refine T.region ?_
  refine TO.quiet (q_assign rfl) ?_
  refine TO.nil (T.ret ?_)
  refine Res.one (.slice none 0 0) Tryd.results66 rfl ?_
  exact ⟨_, _, rfl, rfl⟩
set_option maxHeartbeats 1000000 in
set_option maxRecDepth 20000 in
theorem cloneSome (w : World) [Tab Tryd.prog w] (a : Addr) (c : Nat) (xs : List Nat) (h1 : Sl w (some a) (byts xs)) (hb : xs.length * 1 ≤ 70368744177664) :
    PureT Tryd.prog 66 [.slice (some a) xs.length c] w fun v N => ∃ b' c', v = .slice b' xs.length c' ∧ N = [rowI b' c' 5 1 (byts xs)] := by
  refine CallT.enter Tryd.func66 rfl Tryd.ntmps66 rfl ?_
  refine T.seq (T.region ?_)
  refine TO.quiet (q_assign rfl) ?_
  refine TO.nil (T.seq (T.seq (T.region ?_)))
  refine TO.quiet (q_move rfl) (TO.quiet (q_eqlNil Tryd.underlying29 rfl rfl) ?_)
  refine TO.nil ?_
  refine T.cond0 rfl ?_
  refine T.skip (T.seq (T.region ?_))
  refine TO.loud rfl (l_buildSlice (m := 0) (parts := []) (cs := []) Tryd.underlying29 inf5 (by decide) (by simp [Instr.fill]) rfl (fun b1 => ?_))
  refine TO.quiet (q_move rfl) ?_
  refine TO.loud rfl (l_append 0 Tryd.underlying29 Tryd.underlying29 inf5 rfl rfl rfl rfl (by simp) (by decide) (Src.sl h1 (by simp)) (byts_one xs) (by omega) (by decide) (by decide) (fun b1 c2 => ?_))
  refine TO.quiet (q_assign rfl) ?_
  refine TO.nil (T.ret ?_)
  refine Res.one (.slice b1 (0 + xs.length) c2) Tryd.results66 rfl ?_
  exact ⟨_, _, by rw [Nat.zero_add], rfl⟩
theorem cloneC (w : World) [Tab Tryd.prog w] (b : Option Addr) (c : Nat) (xs : List Nat) (h1 : Sl w b (byts xs)) (hb : xs.length * 1 ≤ 70368744177664) :
    PureT Tryd.prog 66 [.slice b xs.length c] w fun v N => ∃ b' c', v = .slice b' xs.length c' ∧ N = [rowI b' c' 5 1 (byts xs)] := by
  cases b with
  | none =>
    have hx : xs = [] := by
      cases xs with
      | nil => rfl
      | cons x xs => obtain ⟨_, _, e⟩ := h1.addr (i := 0) (by simp); cases e
    subst hx
    exact cloneNil w c
  | some a => exact cloneSome w a c xs h1 hb
set_option maxHeartbeats 1000000 in
set_option maxRecDepth 20000 in
theorem distBad (w : World) [Tab Tryd.prog w] (d : DFA) (nb fb : Option Addr) (nc fc : Nat) (vs : List Value) (h : DfaAt w d nb vs fb) (hb : d.next.length < 9223372036854775807) (hbr : ∀ r ∈ d.next, r.length < 9223372036854775807) (hbf : d.final.length < 9223372036854775807) (he : checkD d ≠ 0) (s t : Int) :
    PureT Tryd.prog 46 [.agg (dfaCells d nb nc fb fc).toArray, .int .i64 s, .int .i64 t] w fun v N => v = .tuple #[.slice none 0 0, .bool false, .int .i64 (checkD d : Int)] ∧ N = [] := by
  refine CallT.enter Tryd.func46 rfl Tryd.ntmps46 rfl ?_
  refine T.seq (T.region ?_)
  refine TO.loud rfl (l_box (v := (.agg #[(.int .i64 d.vars), (.int .i64 d.start), (.slice nb d.next.length nc), (.slice fb d.final.length fc)])) (cs := [(.int .i64 d.vars), (.int .i64 d.start), (.slice nb d.next.length nc), (.slice fb d.final.length fc)]) rfl rfl (fun b1 => ?_))
  refine TO.quiet (q_assign rfl) (TO.quiet (q_assign rfl) (TO.quiet (q_assign rfl) ?_))
  refine TO.nil (T.seq (T.seq (T.region ?_)))
  refine TO.quiet (q_load_boxAgg 0 Tryd.underlying25 rfl inf25 rfl rfl rfl) ?_
  have hk16 := fun (w1 : World) (hI : Inv w [oI b1 25 [(.int .i64 d.vars), (.int .i64 d.start), (.slice nb d.next.length nc), (.slice fb d.final.length fc)]] w1) => (haveI := Inv.tab (P := Tryd.prog) hI; subsetCheck w1 d nb fb nc fc vs (hI.dfa h) hb hbr hbf)
  refine TO.loud rfl (l_call ent26 (CallT.of_pure hk16) rfl ?_)
  clear hk16
  rintro v O' ⟨N, rfl, rfl, rfl⟩
  refine TO.quiet (q_assign rfl) ?_
  refine TO.nil (T.seq (T.region ?_))
  refine TO.quiet (q_move rfl) (TO.quiet (QT.toB (q_neq rfl rfl) (decide_eq_true (by omega))) ?_)
  refine TO.nil ?_
  refine T.cond1 rfl ?_
  refine T.seq (T.region ?_)
  refine TO.quiet (q_move rfl) (TO.quiet (q_assign rfl) (TO.quiet (q_assign rfl) (TO.quiet (q_assign rfl) ?_)))
  refine TO.nil (T.ret (Res.drop ?_))
  refine Res.three (.slice none 0 0) (.bool false) (.int .i64 (checkD d : Int)) Tryd.results46 rfl rfl rfl ?_
  exact ⟨[], Sub.of (List.nil_sublist _), rfl, rfl⟩
set_option maxHeartbeats 1000000 in
set_option maxRecDepth 20000 in
theorem distOut (w : World) [Tab Tryd.prog w] (d : DFA) (nb fb : Option Addr) (nc fc : Nat) (vs : List Value) (h : DfaAt w d nb vs fb) (hv : Valid d) (s t : Int) (hst : s < 0 ∨ t < 0 ∨ (d.next.length : Int) ≤ s ∨ (d.next.length : Int) ≤ t) :
    PureT Tryd.prog 46 [.agg (dfaCells d nb nc fb fc).toArray, .int .i64 s, .int .i64 t] w fun v N => v = .tuple #[.slice none 0 0, .bool false, .int .i64 8] ∧ N = [] := by
  refine CallT.enter Tryd.func46 rfl Tryd.ntmps46 rfl ?_
  have he := checkD_zero.2 hv
  have hb : d.next.length < 9223372036854775807 := by have := hv.n4; omega
  have hbr : ∀ r ∈ d.next, r.length < 9223372036854775807 := hv.bound
  have hbf : d.final.length < 9223372036854775807 := by have := hv.fin; omega
  refine T.seq (T.region ?_)
  refine TO.loud rfl (l_box (v := (.agg #[(.int .i64 d.vars), (.int .i64 d.start), (.slice nb d.next.length nc), (.slice fb d.final.length fc)])) (cs := [(.int .i64 d.vars), (.int .i64 d.start), (.slice nb d.next.length nc), (.slice fb d.final.length fc)]) rfl rfl (fun b1 => ?_))
  refine TO.quiet (q_assign rfl) (TO.quiet (q_assign rfl) (TO.quiet (q_assign rfl) ?_))
  refine TO.nil (T.seq (T.seq (T.region ?_)))
  refine TO.quiet (q_load_boxAgg 0 Tryd.underlying25 rfl inf25 rfl rfl rfl) ?_
  have hk16 := fun (w1 : World) (hI : Inv w [oI b1 25 [(.int .i64 d.vars), (.int .i64 d.start), (.slice nb d.next.length nc), (.slice fb d.final.length fc)]] w1) => (haveI := Inv.tab (P := Tryd.prog) hI; subsetCheck w1 d nb fb nc fc vs (hI.dfa h) hb hbr hbf)
  refine TO.loud rfl (l_call ent26 (CallT.of_pure hk16) rfl ?_)
  clear hk16
  rintro v O' ⟨N, rfl, rfl, rfl⟩
  rw [he]
  refine TO.quiet (q_assign rfl) ?_
  refine TO.nil (T.seq (T.region ?_))
  refine TO.quiet (q_move rfl) (TO.quiet (q_neq rfl rfl) ?_)
  refine TO.nil ?_
  refine T.cond0 rfl ?_
  refine T.skip (T.seq (T.seq (T.region ?_)))
  refine TO.quiet (q_move rfl) (TO.quiet (q_move rfl) (TO.quiet (q_min rfl rfl) ?_))
  by_cases hm : (if t < s then t else s) < 0
  · refine TO.quiet (QT.toB (q_lss rfl rfl) (decide_eq_true hm)) ?_
    refine TO.quiet (q_move rfl) ?_
    refine TO.passed rfl rfl ?_
    refine TO.passed rfl rfl ?_
    refine TO.passed rfl rfl ?_
    refine TO.passed rfl rfl ?_
    refine TO.passed rfl rfl ?_
    refine TO.passed rfl rfl ?_
    refine TO.passed rfl rfl ?_
    refine TO.quiet (q_pick1 rfl rfl) ?_
    refine TO.nil ?_
    refine T.cond1 rfl ?_
    refine T.seq (T.region ?_)
    refine TO.quiet (q_assign rfl) (TO.quiet (q_assign rfl) (TO.quiet (q_assign rfl) ?_))
    refine TO.nil (T.ret (Res.drop ?_))
    refine Res.three (.slice none 0 0) (.bool false) (.int .i64 8) Tryd.results46 rfl rfl rfl ?_
    exact ⟨[], Sub.of (List.nil_sublist _), rfl, rfl⟩
  refine TO.quiet (QT.toB (q_lss rfl rfl) (decide_eq_false hm)) (TO.quiet (q_move rfl) ?_)
  refine TO.guarded rfl rfl rfl (LT.of_quiet rfl rfl (q_move rfl) ?_)
  refine TO.guarded rfl rfl rfl (LT.of_quiet rfl rfl (q_move rfl) ?_)
  refine TO.guarded rfl rfl rfl (LT.of_quiet rfl rfl (q_max rfl rfl) ?_)
  refine TO.guarded rfl rfl rfl (LT.of_quiet rfl rfl (q_fieldAddr Tryd.underlying25 rfl inf22 rfl rfl) ?_)
  refine TO.guarded rfl rfl rfl (LT.of_quiet rfl rfl (q_load_box 0 Tryd.underlying22 rfl rfl rfl rfl) ?_)
  refine TO.guarded rfl rfl rfl (LT.of_quiet rfl rfl (q_len Tryd.underlying22 rfl) ?_)
  refine TO.guarded rfl rfl rfl (LT.of_quiet rfl rfl (QT.toB (q_geq rfl rfl) (decide_eq_true (by split <;> (split at hm <;> omega)))) ?_)
  refine TO.quiet (q_pick0 rfl rfl) ?_
  refine TO.nil ?_
  refine T.cond1 rfl ?_
  refine T.seq (T.region ?_)
  refine TO.quiet (q_assign rfl) (TO.quiet (q_assign rfl) (TO.quiet (q_assign rfl) ?_))
  refine TO.nil (T.ret (Res.drop ?_))
  refine Res.three (.slice none 0 0) (.bool false) (.int .i64 8) Tryd.results46 rfl rfl rfl ?_
  exact ⟨[], Sub.of (List.nil_sublist _), rfl, rfl⟩
set_option maxHeartbeats 8000000 in
set_option maxRecDepth 20000 in
theorem distOk (w : World) [Tab Tryd.prog w] (d : DFA) (nb fb : Option Addr) (nc fc : Nat) (vs : List Value) (h : DfaAt w d nb vs fb) (hv : Valid d) (hn : d.next.length < 10000) (s t : Nat) (hs : s < d.next.length) (ht : t < d.next.length) :
    PureT Tryd.prog 46 [.agg (dfaCells d nb nc fb fc).toArray, .int .i64 (s : Int), .int .i64 (t : Int)] w fun v N => ∃ res, Tell d s t res ∧ TellV 5 v N res := by
  refine CallT.enter Tryd.func46 rfl Tryd.ntmps46 rfl ?_
  have he := checkD_zero.2 hv
  have hb : d.next.length < 9223372036854775807 := by have := hv.n4; omega
  have hbr : ∀ r ∈ d.next, r.length < 9223372036854775807 := hv.bound
  have hbf : d.final.length < 9223372036854775807 := by have := hv.fin; omega
  have hvl := h.rows.1
  refine T.seq (T.region ?_)
  refine TO.loud rfl (l_box (v := (.agg #[(.int .i64 d.vars), (.int .i64 d.start), (.slice nb d.next.length nc), (.slice fb d.final.length fc)])) (cs := [(.int .i64 d.vars), (.int .i64 d.start), (.slice nb d.next.length nc), (.slice fb d.final.length fc)]) rfl rfl (fun z1 => ?_))
  refine TO.quiet (q_assign rfl) (TO.quiet (q_assign rfl) (TO.quiet (q_assign rfl) ?_))
  refine TO.nil (T.seq (T.seq (T.region ?_)))
  refine TO.quiet (q_load_boxAgg 0 Tryd.underlying25 rfl inf25 rfl rfl rfl) ?_
  have hk16 := fun (w1 : World) (hI : Inv w [oI z1 25 [(.int .i64 d.vars), (.int .i64 d.start), (.slice nb d.next.length nc), (.slice fb d.final.length fc)]] w1) => (haveI := Inv.tab (P := Tryd.prog) hI; subsetCheck w1 d nb fb nc fc vs (hI.dfa h) hb hbr hbf)
  refine TO.loud rfl (l_call ent26 (CallT.of_pure hk16) rfl ?_)
  clear hk16
  rintro v O' ⟨N, rfl, rfl, rfl⟩
  rw [he]
  refine TO.quiet (q_assign rfl) ?_
  refine TO.nil (T.seq (T.region ?_))
  refine TO.quiet (q_move rfl) (TO.quiet (q_neq rfl rfl) ?_)
  refine TO.nil ?_
  refine T.cond0 rfl ?_
  refine T.skip (T.seq (T.seq (T.region ?_)))
  refine TO.quiet (q_move rfl) (TO.quiet (q_move rfl) (TO.quiet (q_min rfl rfl) (TO.quiet (QT.toB (q_lss rfl rfl) (decide_eq_false (by split <;> omega))) ?_)))
  refine TO.quiet (q_move rfl) ?_
  refine TO.guarded rfl rfl rfl (LT.of_quiet rfl rfl (q_move rfl) ?_)
  refine TO.guarded rfl rfl rfl (LT.of_quiet rfl rfl (q_move rfl) ?_)
  refine TO.guarded rfl rfl rfl (LT.of_quiet rfl rfl (q_max rfl rfl) ?_)
  refine TO.guarded rfl rfl rfl (LT.of_quiet rfl rfl (q_fieldAddr Tryd.underlying25 rfl inf22 rfl rfl) ?_)
  refine TO.guarded rfl rfl rfl (LT.of_quiet rfl rfl (q_load_box 0 Tryd.underlying22 rfl rfl rfl rfl) ?_)
  refine TO.guarded rfl rfl rfl (LT.of_quiet rfl rfl (q_len Tryd.underlying22 rfl) ?_)
  refine TO.guarded rfl rfl rfl (LT.of_quiet rfl rfl (QT.toB (q_geq rfl rfl) (decide_eq_false (by split <;> omega))) ?_)
  refine TO.quiet (q_pick0 rfl rfl) ?_
  refine TO.nil ?_
  refine T.cond0 rfl ?_
  refine T.skip (T.seq (T.region ?_))
  refine TO.loud rfl (l_makeMap pairV Value.bool (fun mp2 => ?_))
  refine TO.quiet (q_move rfl) (TO.quiet (q_move rfl) (TO.quiet (q_build (cs := [.int .i64 (s : Int), .int .i64 (t : Int)]) plan100 inf100 (by kernel_rfl)) ?_))
  refine TO.loud rfl (l_mapInsert (a := cast2 (s, t)) (v := true) 0 Tryd.underlying101 (KeyOk.pair pair100) rfl rfl rfl rfl (by simp) ?_)
  refine TO.quiet (q_move rfl) (TO.quiet (q_assign rfl) ?_)
  refine TO.nil (T.seq (T.seq (T.region ?_)))
  refine TO.quiet (q_move rfl) (TO.quiet (q_move rfl) (TO.quiet (q_build (cs := [.int .i64 (s : Int), .int .i64 (t : Int)]) plan100 inf100 (by kernel_rfl)) (TO.quiet (q_build (cs := [.int .i64 (s : Int), .int .i64 (t : Int), (.slice none 0 0)]) plan103 inf103 (by kernel_rfl)) ?_)))
  refine TO.loud rfl (l_buildSlice (m := 1) (parts := [(0, _)]) (cs := [.int .i64 (s : Int), .int .i64 (t : Int), (.slice none 0 0)]) Tryd.underlying104 inf103 (by decide) (by kernel_rfl) rfl (fun z3 => ?_))
  refine TO.quiet (q_assign rfl) ?_
  refine TO.nil ?_
  refine T.nilRow 5 1 ?_
  refine T.sub (O' := [rowI (some ⟨z3, 0, none⟩) 1 103 3 [.int .i64 (s : Int), .int .i64 (t : Int), (.slice none 0 0)], mapI pairV Value.bool mp2 [(cast2 (s, t), true)], oI z1 25 [(.int .i64 d.vars), (.int .i64 d.start), (.slice nb d.next.length nc), (.slice fb d.final.length fc)], rowI none 0 5 1 []]) (Sub.pick [1, 1, 1, 0] rfl) ?_
  refine T.block ?_
  refine T.loop (fun (i : Nat) ρ O => ∃ (qb : Option Addr) (qc m : Nat) (rs : List QRec), O = ([rowI qb qc 103 3 (qcells rs), mapI pairV Value.bool mp2 (seenL (bq d s t i)), oI z1 25 [(.int .i64 d.vars), (.int .i64 d.start), (.slice nb d.next.length nc), (.slice fb d.final.length fc)]] ++ (qitms 5 rs)) ∧ m = rs.length ∧ rs.map QRec.stp = (bq d s t i).drop i ∧ (∀ j, j < i → ∃ q, (bq d s t j)[j]? = some q ∧ finN d q.1.1 = finN d q.1.2) ∧ Heads [(0, (.agg #[(.int .i64 d.vars), (.int .i64 d.start), (.slice nb d.next.length nc), (.slice fb d.final.length fc)])), (1, .int .i64 (s : Int)), (2, .int .i64 (t : Int)), (3, (.pointer (some ⟨z1, 0, none⟩))), (9, .int .i64 ((0 : Nat) : Int)), (10, (.map (some mp2))), (11, (.slice qb m qc))] ρ) (fun i => d.next.length * d.next.length - i) 0 ?_ ?_
  · exact ⟨_, _, 1, [⟨(s, t), none, 0, []⟩], rfl, rfl, rfl, fun j hj => absurd hj (by omega), ⟨rfl, rfl, rfl, rfl, rfl, rfl, rfl, trivial⟩⟩
  rintro i ρ O ⟨qb, qc, m, rs, rfl, hm, hrs, hj, hH⟩
  obtain ⟨ρ0, rfl⟩ := hH.elim
  clear hH
  refine T.seq (T.seq (T.region ?_))
  refine TO.quiet (q_move rfl) (TO.quiet (q_len Tryd.underlying104 rfl) (TO.quiet (q_gtr rfl rfl) ?_))
  refine TO.nil ?_
  refine T.condP rfl (fun hc => ?_) (fun hc => ?_)
  · have hlt45 : m > 0 := by omega
    refine T.skip (T.seq (T.block (T.seq ?_)))
    obtain ⟨q0, rest, rfl⟩ : ∃ q0 rest, rs = q0 :: rest := by
      cases rs with
      | nil => subst hm; exact absurd hc (by simp)
      | cons a l => exact ⟨a, l, rfl⟩
    obtain ⟨m, rfl⟩ : ∃ k, m = k + 1 := ⟨rest.length, hm⟩
    have hm : m = rest.length := by simpa using hm
    have hq0 : (bq d s t i)[i]? = some q0.stp := by
      have := congrArg List.head? hrs
      rw [List.head?_drop] at this
      simpa using this.symm
    have hmid := fun x (hx : x ≤ letN d) => mid_ok hv hs ht hj hq0 hx
    have hp1 : q0.p.1 < d.next.length := (hmid 0 (Nat.zero_le _)).2.1
    have hp2 : q0.p.2 < d.next.length := (hmid 0 (Nat.zero_le _)).2.2.1
    have hwl : q0.xs.length ≤ i := (hmid 0 (Nat.zero_le _)).2.2.2.1
    have hi9 := (hmid 0 (Nat.zero_le _)).2.2.2.2.1
    have hn2 : d.next.length * d.next.length < 100000000 := Nat.lt_of_le_of_lt (Nat.mul_le_mul (show d.next.length ≤ 9999 by omega) (show d.next.length ≤ 9999 by omega)) (by decide)
    have hf1 : q0.p.1 < d.final.length := by have := hv.fin; omega
    have hf2 : q0.p.2 < d.final.length := by have := hv.fin; omega
    obtain ⟨vb1, vc1, g1, s1⟩ := h.rows.get hp1
    obtain ⟨vb2, vc2, g2, s2⟩ := h.rows.get hp2
    have hl1 : d.next[q0.p.1].length = 2 ^ d.vars.toNat := hv.len _ (List.getElem_mem hp1)
    have hl2 : d.next[q0.p.2].length = 2 ^ d.vars.toNat := hv.len _ (List.getElem_mem hp2)
    have hww := hv.width
    refine T.region ?_
    refine TO.quiet (q_move rfl) (TO.quiet (q_ixK (i := 0) Tryd.underlying104 inf103 rfl rfl (rowO (List.mem_of_getElem? (i := 0) rfl)) (by omega) (by rw [qcells_len]; simp)) (TO.quiet (q_ldK (vs := [(.int .i64 ((q0.p.1 : Nat) : Int)), (.int .i64 ((q0.p.2 : Nat) : Int)), (.slice q0.b q0.xs.length q0.c)]) Tryd.underlying103 rfl inf103 rfl rfl (Nat.succ_pos _) (rowO (List.mem_of_getElem? (i := 0) rfl)) (by intro j hj; match j, hj with | 0, _ => rfl | 1, _ => rfl | 2, _ => rfl)) ?_))
    refine TO.loud rfl (l_alloc inf103 rfl (fun z4 => ?_))
    refine TO.loud rfl (l_store_box (v := (.agg #[(.int .i64 ((q0.p.1 : Nat) : Int)), (.int .i64 ((q0.p.2 : Nat) : Int)), (.slice q0.b q0.xs.length q0.c)])) (vs := [(.int .i64 ((q0.p.1 : Nat) : Int)), (.int .i64 ((q0.p.2 : Nat) : Int)), (.slice q0.b q0.xs.length q0.c)]) 0 inf103 rfl rfl rfl rfl rfl rfl (by simp [putL]) ?_)
    refine TO.nil (T.seq (T.seq ?_))
    refine T.draws [oI z4 103 [(.int .i64 ((q0.p.1 : Nat) : Int)), (.int .i64 ((q0.p.2 : Nat) : Int)), (.slice q0.b q0.xs.length q0.c)], oI z1 25 [(.int .i64 d.vars), (.int .i64 d.start), (.slice nb d.next.length nc), (.slice fb d.final.length fc)]] [(0, 0), (1, 0), (2, 0), (3, 0), (4, 0), (5, 0), (6, 0), (7, 0), (8, 0), (9, 0), (10, 0), (11, 0), (12, 0), (13, 0), (14, 0)] mixed (by kernel_rfl) (Sub.pick0 [0, 2] [oI z4 103 [(.int .i64 ((q0.p.1 : Nat) : Int)), (.int .i64 ((q0.p.2 : Nat) : Int)), (.slice q0.b q0.xs.length q0.c)], rowI qb qc 103 3 (qcells (q0 :: rest)), mapI pairV Value.bool mp2 (seenL (bq d s t i)), oI z1 25 [(.int .i64 d.vars), (.int .i64 d.start), (.slice nb d.next.length nc), (.slice fb d.final.length fc)]] (qitms 5 (q0 :: rest)) rfl rfl) (fun _ _ _ h => h) ?_
    refine DO.quiet rfl (q_fieldAddr Tryd.underlying25 rfl inf23 rfl rfl) (DO.quiet rfl (q_load_box 1 Tryd.underlying23 rfl rfl rfl rfl) (DO.quiet rfl (q_fieldAddr Tryd.underlying103 rfl inf100 rfl rfl) (DO.quiet rfl (q_fieldAddr Tryd.underlying100 rfl inf3 rfl rfl) ?_)))
    refine DO.quiet rfl (q_load_box 0 Tryd.underlying3 rfl rfl rfl rfl) (DO.quiet rfl (q_ix (i := q0.p.1) Tryd.underlying23 inf4 rfl rfl (Sl.o h.final) hf1 (by rw [List.length_map]; exact hf1)) (DO.quiet rfl (q_ld Tryd.underlying4 rfl rfl (Sl.o h.final) (bools_get hf1)) (DO.quiet rfl (q_fieldAddr Tryd.underlying25 rfl inf23 rfl rfl) ?_)))
    refine DO.quiet rfl (q_load_box 1 Tryd.underlying23 rfl rfl rfl rfl) (DO.quiet rfl (q_fieldAddr Tryd.underlying103 rfl inf100 rfl rfl) (DO.quiet rfl (q_fieldAddr Tryd.underlying100 rfl inf3 rfl rfl) (DO.quiet rfl (q_load_box 0 Tryd.underlying3 rfl rfl rfl rfl) ?_)))
    refine DO.quiet rfl (q_ix (i := q0.p.2) Tryd.underlying23 inf4 rfl rfl (Sl.o h.final) hf2 (by rw [List.length_map]; exact hf2)) (DO.quiet rfl (q_ld Tryd.underlying4 rfl rfl (Sl.o h.final) (bools_get hf2)) (DO.quiet rfl (q_bneq Tryd.underlying4 rfl rfl) ?_))
    refine DO.done ?_
    refine T.cond rfl (fun hc => ?_) (fun hc => ?_)
    · have hne : finN d q0.p.1 ≠ finN d q0.p.2 := by simpa [finN, hf1, hf2] using hc
      refine T.seq (T.region ?_)
      refine TO.quiet (q_fieldAddr Tryd.underlying103 rfl inf29 rfl rfl) (TO.quiet (q_load_box 0 Tryd.underlying29 rfl rfl rfl rfl) (TO.quiet (q_assign rfl) (TO.quiet (q_assign rfl) ?_)))
      refine TO.quiet (q_assign rfl) ?_
      refine TO.nil (T.ret (Res.drop ?_))
      refine Res.three (.slice q0.b q0.xs.length q0.c) (.bool true) (.int .i64 0) Tryd.results46 rfl rfl rfl ?_
      exact ⟨[QRec.itm 5 q0], Sub.cnt ([oI z4 103 [(.int .i64 ((q0.p.1 : Nat) : Int)), (.int .i64 ((q0.p.2 : Nat) : Int)), (.slice q0.b q0.xs.length q0.c)], rowI qb qc 103 3 (qcells (q0 :: rest)), mapI pairV Value.bool mp2 (seenL (bq d s t i)), oI z1 25 [(.int .i64 d.vars), (.int .i64 d.start), (.slice nb d.next.length nc), (.slice fb d.final.length fc)]] ++ qitms 5 rest) (by intro a; simp only [itms, qitms, oI, List.set_cons_zero, List.set_cons_succ, putL, List.cons_append, List.nil_append, List.append_nil, List.append_assoc, List.map_append, List.map_cons, List.map_nil, cnt_append, cnt_cons, cnt_nil] <;> omega), some q0.xs, BfsR.tell hv ⟨i, hj, q0.stp, hq0, hne, rfl⟩, q0.b, q0.c, rfl, rfl⟩
    have heq : finN d q0.p.1 = finN d q0.p.2 := by simpa [finN, hf1, hf2] using hc
    refine T.skip (T.seq (T.region ?_))
    refine TO.quiet (q_fieldAddr Tryd.underlying25 rfl inf3 rfl rfl) (TO.quiet (q_load_box 3 Tryd.underlying3 rfl rfl rfl rfl) (TO.quiet (q_shl1 (v := d.vars.toNat) rfl (by show Value.int _ d.vars = _; rw [Int.toNat_of_nonneg hv.v0]) (by have := hv.v6; omega)) (TO.quiet (q_move rfl) ?_)))
    refine TO.nil (T.block ?_)
    refine T.sub (O' := [rowI qb qc 103 3 (qcells (q0 :: rest)), mapI pairV Value.bool mp2 (seenL (bq d s t i)), oI z4 103 [(.int .i64 ((q0.p.1 : Nat) : Int)), (.int .i64 ((q0.p.2 : Nat) : Int)), (.slice q0.b q0.xs.length q0.c)], oI z1 25 [(.int .i64 d.vars), (.int .i64 d.start), (.slice nb d.next.length nc), (.slice fb d.final.length fc)]] ++ qitms 5 (q0 :: rest)) (Sub.pickR [1, 1, 0, 0] [oI z4 103 [(.int .i64 ((q0.p.1 : Nat) : Int)), (.int .i64 ((q0.p.2 : Nat) : Int)), (.slice q0.b q0.xs.length q0.c)], rowI qb qc 103 3 (qcells (q0 :: rest)), mapI pairV Value.bool mp2 (seenL (bq d s t i)), oI z1 25 [(.int .i64 d.vars), (.int .i64 d.start), (.slice nb d.next.length nc), (.slice fb d.final.length fc)]] (qitms 5 (q0 :: rest)) rfl rfl) ?_
    refine T.loop (fun (x : Nat) ρ O => ∃ (qb : Option Addr) (qc m : Nat) (rest : List QRec), O = ([rowI qb qc 103 3 (qcells (q0 :: rest)), mapI pairV Value.bool mp2 (seenL (pushN d q0.stp (bq d s t i) x)), oI z4 103 [(.int .i64 ((q0.p.1 : Nat) : Int)), (.int .i64 ((q0.p.2 : Nat) : Int)), (.slice q0.b q0.xs.length q0.c)], oI z1 25 [(.int .i64 d.vars), (.int .i64 d.start), (.slice nb d.next.length nc), (.slice fb d.final.length fc)]] ++ (qitms 5 (q0 :: rest))) ∧ x ≤ letN d ∧ m = rest.length ∧ (q0 :: rest).map QRec.stp = (pushN d q0.stp (bq d s t i) x).drop i ∧ Heads [(0, (.agg #[(.int .i64 d.vars), (.int .i64 d.start), (.slice nb d.next.length nc), (.slice fb d.final.length fc)])), (1, .int .i64 (s : Int)), (2, .int .i64 (t : Int)), (3, (.pointer (some ⟨z1, 0, none⟩))), (9, .int .i64 ((0 : Nat) : Int)), (10, (.map (some mp2))), (11, (.slice qb (m + 1) qc)), (12, (.pointer (some ⟨z4, 0, none⟩))), (70, .int .i64 ((2 ^ d.vars.toNat : Nat) : Int)), (71, .int .i64 (x : Int))] ρ) (fun x => letN d - x) 0 ?_ ?_
    · exact ⟨qb, qc, m, rest, rfl, Nat.zero_le _, hm, hrs, ⟨rfl, rfl, rfl, rfl, rfl, rfl, rfl, rfl, rfl, rfl, trivial⟩⟩
    rintro x ρ O ⟨qb, qc, m, rest, rfl, hx9, hm, hrs2, hH⟩
    obtain ⟨ρ0, rfl⟩ := hH.elim
    clear hH
    refine T.seq (T.region ?_)
    refine TO.quiet (q_lss rfl rfl) ?_
    refine TO.nil (T.seq ?_)
    refine T.condP rfl (fun hc => ?_) (fun hc => ?_)
    · have hlt72 : x < 2 ^ d.vars.toNat := by omega
      have hlx : x < letN d := hlt72
      refine T.skip (T.seq (T.block (T.seq (T.region ?_))))
      refine TO.quiet (q_move rfl) (TO.quiet (q_assign rfl) ?_)
      refine TO.nil (T.seq ?_)
      obtain ⟨_, _, hxk1, hx1⟩ := hv.toN_lt hp1 hlt72
      obtain ⟨_, _, hxk2, hx2⟩ := hv.toN_lt hp2 hlt72
      have hx1 : (ints d.next[q0.p.1])[x]? = some (.int .i64 ((toN d q0.p.1 x : Nat) : Int)) := by rw [ints_get hxk1, hx1]
      have hx2 : (ints d.next[q0.p.2])[x]? = some (.int .i64 ((toN d q0.p.2 x : Nat) : Int)) := by rw [ints_get hxk2, hx2]
      refine T.draws [oI z4 103 [(.int .i64 ((q0.p.1 : Nat) : Int)), (.int .i64 ((q0.p.2 : Nat) : Int)), (.slice q0.b q0.xs.length q0.c)], oI z1 25 [(.int .i64 d.vars), (.int .i64 d.start), (.slice nb d.next.length nc), (.slice fb d.final.length fc)]] [(0, 0), (1, 0), (2, 0), (3, 0), (4, 0), (5, 0), (6, 0), (7, 0), (8, 0), (9, 0), (10, 0), (11, 0), (12, 0), (13, 0), (14, 0), (15, 0), (16, 0), (17, 0), (18, 0), (19, 0), (20, 0), (21, 1), (22, 2)] mixed (by kernel_rfl) (Sub.pick0 [2, 2] [rowI qb qc 103 3 (qcells (q0 :: rest)), mapI pairV Value.bool mp2 (seenL (pushN d q0.stp (bq d s t i) x)), oI z4 103 [(.int .i64 ((q0.p.1 : Nat) : Int)), (.int .i64 ((q0.p.2 : Nat) : Int)), (.slice q0.b q0.xs.length q0.c)], oI z1 25 [(.int .i64 d.vars), (.int .i64 d.start), (.slice nb d.next.length nc), (.slice fb d.final.length fc)]] (qitms 5 (q0 :: rest)) rfl rfl) (fun _ _ _ h => h) ?_
      refine DO.quiet rfl (q_fieldAddr Tryd.underlying25 rfl inf22 rfl rfl) (DO.quiet rfl (q_load_box 1 Tryd.underlying22 rfl rfl rfl rfl) (DO.quiet rfl (q_fieldAddr Tryd.underlying103 rfl inf100 rfl rfl) (DO.quiet rfl (q_fieldAddr Tryd.underlying100 rfl inf3 rfl rfl) ?_)))
      refine DO.quiet rfl (q_load_box 0 Tryd.underlying3 rfl rfl rfl rfl) (DO.quiet rfl (q_ix (i := q0.p.1) Tryd.underlying22 inf54 rfl rfl (Sl.o h.outer) hp1 (hvl ▸ hp1)) (DO.quiet rfl (q_ld Tryd.underlying54 rfl rfl (Sl.o h.outer) g1) (DO.quiet rfl (q_move rfl) ?_)))
      refine DO.quiet rfl (q_ix (i := x) Tryd.underlying54 inf3 rfl rfl (Sl.o s1) (by rw [hl1]; exact hlt72) (by rw [List.length_map, hl1]; exact hlt72)) (DO.quiet rfl (q_ld Tryd.underlying3 rfl rfl (Sl.o s1) hx1) (DO.quiet rfl (q_fieldAddr Tryd.underlying25 rfl inf22 rfl rfl) (DO.quiet rfl (q_load_box 1 Tryd.underlying22 rfl rfl rfl rfl) ?_)))
      refine DO.quiet rfl (q_fieldAddr Tryd.underlying103 rfl inf100 rfl rfl) (DO.quiet rfl (q_fieldAddr Tryd.underlying100 rfl inf3 rfl rfl) (DO.quiet rfl (q_load_box 0 Tryd.underlying3 rfl rfl rfl rfl) (DO.quiet rfl (q_ix (i := q0.p.2) Tryd.underlying22 inf54 rfl rfl (Sl.o h.outer) hp2 (hvl ▸ hp2)) ?_)))
      refine DO.quiet rfl (q_ld Tryd.underlying54 rfl rfl (Sl.o h.outer) g2) (DO.quiet rfl (q_move rfl) (DO.quiet rfl (q_ix (i := x) Tryd.underlying54 inf3 rfl rfl (Sl.o s2) (by rw [hl2]; exact hlt72) (by rw [List.length_map, hl2]; exact hlt72)) (DO.quiet rfl (q_ld Tryd.underlying3 rfl rfl (Sl.o s2) hx2) ?_)))
      refine DO.quiet rfl (q_build (cs := [.int .i64 ((toN d q0.p.1 x : Nat) : Int), .int .i64 ((toN d q0.p.2 x : Nat) : Int)]) plan100 inf100 (by kernel_rfl)) ?_
      refine DO.loud rfl rfl (l_alloc inf100 rfl (fun z5 => ⟨Sub.pick0 [3, 3] [oI z5 100 [(.int .i64 0), (.int .i64 0)], rowI qb qc 103 3 (qcells (q0 :: rest)), mapI pairV Value.bool mp2 (seenL (pushN d q0.stp (bq d s t i) x)), oI z4 103 [(.int .i64 ((q0.p.1 : Nat) : Int)), (.int .i64 ((q0.p.2 : Nat) : Int)), (.slice q0.b q0.xs.length q0.c)], oI z1 25 [(.int .i64 d.vars), (.int .i64 d.start), (.slice nb d.next.length nc), (.slice fb d.final.length fc)]] (qitms 5 (q0 :: rest)) rfl rfl, ?_⟩))
      refine DO.last rfl rfl (l_store_box (v := (.agg #[.int .i64 ((toN d q0.p.1 x : Nat) : Int), .int .i64 ((toN d q0.p.2 x : Nat) : Int)])) (vs := [.int .i64 ((toN d q0.p.1 x : Nat) : Int), .int .i64 ((toN d q0.p.2 x : Nat) : Int)]) 0 inf100 rfl rfl rfl rfl rfl rfl (by simp [putL]) ?_)
      refine DO.done ?_
      refine T.seq (T.region ?_)
      refine TO.quiet (q_move rfl) (TO.quiet (q_load_boxAgg 0 Tryd.underlying100 rfl inf100 rfl rfl rfl) ?_)
      by_cases hin : suc2 d q0.p x ∈ (pushN d q0.stp (bq d s t i) x).map Prod.fst
      · refine TO.quiet (QT.toB (QT.cast (q_lookup (a := cast2 (suc2 d q0.p x)) Tryd.underlying101 inf4 (KeyOk.pair pair100) rfl rfl (List.mem_of_getElem? (i := 2) rfl)) (v' := .bool (decide (suc2 d q0.p x ∈ (pushN d q0.stp (bq d s t i) x).map Prod.fst))) (look_seenV _ _)) (decide_eq_true hin)) ?_
        refine TO.quiet (q_not rfl) ?_
        refine TO.nil ?_
        refine T.cond0 rfl ?_
        refine T.skip (T.region ?_)
        refine TO.quiet (q_inc rfl rfl (by omega)) (TO.quiet (q_move rfl) ?_)
        refine TO.sub (O' := ([rowI qb qc 103 3 (qcells (q0 :: rest)), mapI pairV Value.bool mp2 (seenL (pushN d q0.stp (bq d s t i) x)), oI z4 103 [(.int .i64 ((q0.p.1 : Nat) : Int)), (.int .i64 ((q0.p.2 : Nat) : Int)), (.slice q0.b q0.xs.length q0.c)], oI z1 25 [(.int .i64 d.vars), (.int .i64 d.start), (.slice nb d.next.length nc), (.slice fb d.final.length fc)]] ++ (qitms 5 (q0 :: rest)))) (Sub.pickR [1, 1, 1, 1] [oI z5 100 [.int .i64 ((toN d q0.p.1 x : Nat) : Int), .int .i64 ((toN d q0.p.2 x : Nat) : Int)], rowI qb qc 103 3 (qcells (q0 :: rest)), mapI pairV Value.bool mp2 (seenL (pushN d q0.stp (bq d s t i) x)), oI z4 103 [(.int .i64 ((q0.p.1 : Nat) : Int)), (.int .i64 ((q0.p.2 : Nat) : Int)), (.slice q0.b q0.xs.length q0.c)], oI z1 25 [(.int .i64 d.vars), (.int .i64 d.start), (.slice nb d.next.length nc), (.slice fb d.final.length fc)]] (qitms 5 (q0 :: rest)) rfl rfl) ?_
        refine TO.nil ?_
        have hA : pushN d q0.stp (bq d s t i) (x + 1) = (pushN d q0.stp (bq d s t i) x) := by
          show pushS d q0.stp _ x = _
          unfold pushS
          exact if_pos hin
        refine ⟨x + 1, by omega, qb, qc, m, rest, by rw [hA], by omega, hm, by rw [hA]; exact hrs2, ⟨rfl, rfl, rfl, rfl, rfl, rfl, rfl, rfl, rfl, rfl, trivial⟩⟩
      refine TO.quiet (QT.toB (QT.cast (q_lookup (a := cast2 (suc2 d q0.p x)) Tryd.underlying101 inf4 (KeyOk.pair pair100) rfl rfl (List.mem_of_getElem? (i := 2) rfl)) (v' := .bool (decide (suc2 d q0.p x ∈ (pushN d q0.stp (bq d s t i) x).map Prod.fst))) (look_seenV _ _)) (decide_eq_false hin)) (TO.quiet (q_not rfl) ?_)
      refine TO.nil ?_
      refine T.cond1 rfl ?_
      refine T.seq (T.region ?_)
      refine TO.quiet (q_move rfl) (TO.quiet (q_load_boxAgg 0 Tryd.underlying100 rfl inf100 rfl rfl rfl) ?_)
      refine TO.loud rfl (l_mapPut (a := cast2 (suc2 d q0.p x)) (v := true) 2 Tryd.underlying101 (KeyOk.pair pair100) rfl rfl rfl rfl (seen_fresh hin) ?_)
      refine TO.nil ?_
      have hRR : ∀ wb2 wc2, rowI wb2 wc2 5 1 ((byts q0.xs) ++ [(.int .u8 (x : Int))]) = QRec.itm 5 ⟨suc2 d q0.p x, wb2, wc2, q0.xs ++ [x]⟩ := fun _ _ => by simp [QRec.itm]
      have hrl : rest.length + 1 ≤ d.next.length * d.next.length := by
        have := congrArg List.length hrs2
        simp at this
        have := (hmid x hx9).1
        omega
      have hil := (hmid x hx9).2.2.2.2.2
      refine T.cut1 (fun ρ O => ∃ (qb2 : Option Addr) (qc2 : Nat) (wb2 : Option Addr) (wc2 : Nat), O = ([rowI qb2 qc2 103 3 ((qcells (q0 :: rest)) ++ [(.int .i64 ((toN d q0.p.1 x : Nat) : Int)), (.int .i64 ((toN d q0.p.2 x : Nat) : Int)), (.slice wb2 (q0.xs.length + 1) wc2)]), oI z5 100 [.int .i64 ((toN d q0.p.1 x : Nat) : Int), .int .i64 ((toN d q0.p.2 x : Nat) : Int)], mapI pairV Value.bool mp2 ((seenL (pushN d q0.stp (bq d s t i) x)) ++ [(cast2 (suc2 d q0.p x), true)]), oI z4 103 [(.int .i64 ((q0.p.1 : Nat) : Int)), (.int .i64 ((q0.p.2 : Nat) : Int)), (.slice q0.b q0.xs.length q0.c)], oI z1 25 [(.int .i64 d.vars), (.int .i64 d.start), (.slice nb d.next.length nc), (.slice fb d.final.length fc)]] ++ (qitms 5 (q0 :: (rest ++ [⟨suc2 d q0.p x, wb2, wc2, q0.xs ++ [x]⟩])))) ∧ Heads [(0, (.agg #[(.int .i64 d.vars), (.int .i64 d.start), (.slice nb d.next.length nc), (.slice fb d.final.length fc)])), (1, .int .i64 (s : Int)), (2, .int .i64 (t : Int)), (3, (.pointer (some ⟨z1, 0, none⟩))), (9, .int .i64 ((0 : Nat) : Int)), (10, (.map (some mp2))), (11, (.slice qb2 (m + 1 + 1) qc2)), (12, (.pointer (some ⟨z4, 0, none⟩))), (13, .int .i64 (x : Int)), (14, (.pointer (some ⟨z5, 0, none⟩))), (70, .int .i64 ((2 ^ d.vars.toNat : Nat) : Int)), (71, .int .i64 (x : Int))] ρ) ?_ ?_
      · refine T.tree [oI z5 100 [.int .i64 ((toN d q0.p.1 x : Nat) : Int), .int .i64 ((toN d q0.p.2 x : Nat) : Int)], oI z4 103 [(.int .i64 ((q0.p.1 : Nat) : Int)), (.int .i64 ((q0.p.2 : Nat) : Int)), (.slice q0.b q0.xs.length q0.c)], oI z1 25 [(.int .i64 d.vars), (.int .i64 d.start), (.slice nb d.next.length nc), (.slice fb d.final.length fc)]] 13 mixed rfl (Sub.pick0 [0, 2, 2] [oI z5 100 [.int .i64 ((toN d q0.p.1 x : Nat) : Int), .int .i64 ((toN d q0.p.2 x : Nat) : Int)], rowI qb qc 103 3 (qcells (q0 :: rest)), mapI pairV Value.bool mp2 ((seenL (pushN d q0.stp (bq d s t i) x)) ++ [(cast2 (suc2 d q0.p x), true)]), oI z4 103 [(.int .i64 ((q0.p.1 : Nat) : Int)), (.int .i64 ((q0.p.2 : Nat) : Int)), (.slice q0.b q0.xs.length q0.c)], oI z1 25 [(.int .i64 d.vars), (.int .i64 d.start), (.slice nb d.next.length nc), (.slice fb d.final.length fc)]] (qitms 5 (q0 :: rest)) rfl rfl) (fun _ _ _ h => h) ?_
        refine RO.quietT 0 rfl (by kernel_rfl) (q_move rfl) ?_
        refine RO.quietT 1 rfl (by kernel_rfl) (q_load_boxAgg 0 Tryd.underlying100 rfl inf100 rfl rfl rfl) ?_
        refine RO.quietT 2 rfl (by kernel_rfl) (q_fieldAddr Tryd.underlying103 rfl inf29 rfl rfl) ?_
        refine RO.quietT 3 rfl (by kernel_rfl) (q_load_box 1 Tryd.underlying29 rfl rfl rfl rfl) ?_
        refine RO.quietT 5 rfl (by kernel_rfl) (q_move rfl) ?_
        refine RO.quietT 6 rfl (by kernel_rfl) (q_conv_id Tryd.underlying3 Tryd.underlying5 rfl (wrap8 (by omega))) ?_
        have hk105 := fun (w1 : World) (hI : Inv w ([oI z5 100 [.int .i64 ((toN d q0.p.1 x : Nat) : Int), .int .i64 ((toN d q0.p.2 x : Nat) : Int)], rowI qb qc 103 3 (qcells (q0 :: rest)), mapI pairV Value.bool mp2 ((seenL (pushN d q0.stp (bq d s t i) x)) ++ [(cast2 (suc2 d q0.p x), true)]), oI z4 103 [(.int .i64 ((q0.p.1 : Nat) : Int)), (.int .i64 ((q0.p.2 : Nat) : Int)), (.slice q0.b q0.xs.length q0.c)], oI z1 25 [(.int .i64 d.vars), (.int .i64 d.start), (.slice nb d.next.length nc), (.slice fb d.final.length fc)]] ++ (qitms 5 (q0 :: rest))) w1) => (haveI := Inv.tab (P := Tryd.prog) hI; cloneC w1 q0.b q0.c q0.xs (hI.slOf (T := 5) (k := 1) (List.mem_append_right _ List.mem_cons_self)) (by omega))
        refine RO.fork [4, 7] (by kernel_rfl) rfl ⟨⟨_, rfl, rfl, l_call ent66 (CallT.of_pure hk105) rfl ?_⟩, ⟨_, rfl, rfl, l_build1 (v := .int .u8 (x : Int)) Tryd.underlying29 inf5 rfl rfl rfl (fun zA => ⟨Sub.pick0 [1, 3, 3] [rowI (some ⟨zA, 0, none⟩) 1 5 1 [.int .u8 (x : Int)], oI z5 100 [.int .i64 ((toN d q0.p.1 x : Nat) : Int), .int .i64 ((toN d q0.p.2 x : Nat) : Int)], rowI qb qc 103 3 (qcells (q0 :: rest)), mapI pairV Value.bool mp2 ((seenL (pushN d q0.stp (bq d s t i) x)) ++ [(cast2 (suc2 d q0.p x), true)]), oI z4 103 [(.int .i64 ((q0.p.1 : Nat) : Int)), (.int .i64 ((q0.p.2 : Nat) : Int)), (.slice q0.b q0.xs.length q0.c)], oI z1 25 [(.int .i64 d.vars), (.int .i64 d.start), (.slice nb d.next.length nc), (.slice fb d.final.length fc)]] (qitms 5 (q0 :: rest)) rfl rfl, ?_⟩)⟩, trivial⟩
        · clear hk105
          rintro v O' ⟨N, rfl, wb, wc, rfl, rfl⟩
          refine ⟨Sub.pick0 [1, 3, 3] [rowI wb wc 5 1 (byts q0.xs), oI z5 100 [.int .i64 ((toN d q0.p.1 x : Nat) : Int), .int .i64 ((toN d q0.p.2 x : Nat) : Int)], rowI qb qc 103 3 (qcells (q0 :: rest)), mapI pairV Value.bool mp2 ((seenL (pushN d q0.stp (bq d s t i) x)) ++ [(cast2 (suc2 d q0.p x), true)]), oI z4 103 [(.int .i64 ((q0.p.1 : Nat) : Int)), (.int .i64 ((q0.p.2 : Nat) : Int)), (.slice q0.b q0.xs.length q0.c)], oI z1 25 [(.int .i64 d.vars), (.int .i64 d.start), (.slice nb d.next.length nc), (.slice fb d.final.length fc)]] (qitms 5 (q0 :: rest)) rfl rfl, ?_⟩
          refine RO.fork [7] (by kernel_rfl) rfl ⟨⟨_, rfl, rfl, l_build1 (v := .int .u8 (x : Int)) Tryd.underlying29 inf5 rfl rfl rfl (fun zA => ⟨Sub.pick0 [2, 4, 4] [rowI (some ⟨zA, 0, none⟩) 1 5 1 [.int .u8 (x : Int)], rowI wb wc 5 1 (byts q0.xs), oI z5 100 [.int .i64 ((toN d q0.p.1 x : Nat) : Int), .int .i64 ((toN d q0.p.2 x : Nat) : Int)], rowI qb qc 103 3 (qcells (q0 :: rest)), mapI pairV Value.bool mp2 ((seenL (pushN d q0.stp (bq d s t i) x)) ++ [(cast2 (suc2 d q0.p x), true)]), oI z4 103 [(.int .i64 ((q0.p.1 : Nat) : Int)), (.int .i64 ((q0.p.2 : Nat) : Int)), (.slice q0.b q0.xs.length q0.c)], oI z1 25 [(.int .i64 d.vars), (.int .i64 d.start), (.slice nb d.next.length nc), (.slice fb d.final.length fc)]] (qitms 5 (q0 :: rest)) rfl rfl, ?_⟩)⟩, trivial⟩
          refine RO.fork [8] (by kernel_rfl) rfl ⟨⟨_, rfl, rfl, l_append 1 Tryd.underlying29 Tryd.underlying29 inf5 rfl rfl rfl rfl (by rw [List.length_map, Nat.mul_one]) (by decide) (Src.row (j := 0) rfl (by simp)) (by simp [oneB]) (by omega) (by decide) (by decide) (fun wb2 wc2 => ⟨Sub.pick0 [2, 4, 4] [rowI (some ⟨zA, 0, none⟩) 1 5 1 [.int .u8 (x : Int)], rowI wb2 wc2 5 1 ((byts q0.xs) ++ [.int .u8 (x : Int)]), oI z5 100 [.int .i64 ((toN d q0.p.1 x : Nat) : Int), .int .i64 ((toN d q0.p.2 x : Nat) : Int)], rowI qb qc 103 3 (qcells (q0 :: rest)), mapI pairV Value.bool mp2 ((seenL (pushN d q0.stp (bq d s t i) x)) ++ [(cast2 (suc2 d q0.p x), true)]), oI z4 103 [(.int .i64 ((q0.p.1 : Nat) : Int)), (.int .i64 ((q0.p.2 : Nat) : Int)), (.slice q0.b q0.xs.length q0.c)], oI z1 25 [(.int .i64 d.vars), (.int .i64 d.start), (.slice nb d.next.length nc), (.slice fb d.final.length fc)]] (qitms 5 (q0 :: rest)) rfl rfl, ?_⟩)⟩, trivial⟩
          refine RO.quietT 9 rfl (by kernel_rfl) (q_build (cs := [.int .i64 ((toN d q0.p.1 x : Nat) : Int), .int .i64 ((toN d q0.p.2 x : Nat) : Int), (.slice wb2 (q0.xs.length + 1) wc2)]) plan103 inf103 (by kernel_rfl)) ?_
          refine RO.fork [10] (by kernel_rfl) rfl ⟨⟨_, rfl, rfl, l_buildSlice (m := 1) (parts := [(0, _)]) (cs := [.int .i64 ((toN d q0.p.1 x : Nat) : Int), .int .i64 ((toN d q0.p.2 x : Nat) : Int), (.slice wb2 (q0.xs.length + 1) wc2)]) Tryd.underlying104 inf103 (by decide) (by kernel_rfl) rfl (fun zB => ⟨Sub.pick0 [3, 5, 5] [rowI (some ⟨zB, 0, none⟩) 1 103 3 [.int .i64 ((toN d q0.p.1 x : Nat) : Int), .int .i64 ((toN d q0.p.2 x : Nat) : Int), (.slice wb2 (q0.xs.length + 1) wc2)], rowI (some ⟨zA, 0, none⟩) 1 5 1 [.int .u8 (x : Int)], rowI wb2 wc2 5 1 ((byts q0.xs) ++ [.int .u8 (x : Int)]), oI z5 100 [.int .i64 ((toN d q0.p.1 x : Nat) : Int), .int .i64 ((toN d q0.p.2 x : Nat) : Int)], rowI qb qc 103 3 (qcells (q0 :: rest)), mapI pairV Value.bool mp2 ((seenL (pushN d q0.stp (bq d s t i) x)) ++ [(cast2 (suc2 d q0.p x), true)]), oI z4 103 [(.int .i64 ((q0.p.1 : Nat) : Int)), (.int .i64 ((q0.p.2 : Nat) : Int)), (.slice q0.b q0.xs.length q0.c)], oI z1 25 [(.int .i64 d.vars), (.int .i64 d.start), (.slice nb d.next.length nc), (.slice fb d.final.length fc)]] (qitms 5 (q0 :: rest)) rfl rfl, ?_⟩)⟩, trivial⟩
          refine RO.fork [11] (by kernel_rfl) rfl ⟨⟨_, rfl, rfl, l_append 4 Tryd.underlying104 Tryd.underlying104 inf103 rfl rfl rfl rfl (by rw [qcells_len, hm]; rfl) (by decide) (Src.row (j := 0) rfl (by simp)) (by simp [oneB]) (by omega) (by decide) (by decide) (fun qb2 qc2 => ⟨Sub.pick0 [3, 5, 5] [rowI (some ⟨zB, 0, none⟩) 1 103 3 [.int .i64 ((toN d q0.p.1 x : Nat) : Int), .int .i64 ((toN d q0.p.2 x : Nat) : Int), (.slice wb2 (q0.xs.length + 1) wc2)], rowI (some ⟨zA, 0, none⟩) 1 5 1 [.int .u8 (x : Int)], rowI wb2 wc2 5 1 ((byts q0.xs) ++ [.int .u8 (x : Int)]), oI z5 100 [.int .i64 ((toN d q0.p.1 x : Nat) : Int), .int .i64 ((toN d q0.p.2 x : Nat) : Int)], rowI qb2 qc2 103 3 ((qcells (q0 :: rest)) ++ [.int .i64 ((toN d q0.p.1 x : Nat) : Int), .int .i64 ((toN d q0.p.2 x : Nat) : Int), (.slice wb2 (q0.xs.length + 1) wc2)]), mapI pairV Value.bool mp2 ((seenL (pushN d q0.stp (bq d s t i) x)) ++ [(cast2 (suc2 d q0.p x), true)]), oI z4 103 [(.int .i64 ((q0.p.1 : Nat) : Int)), (.int .i64 ((q0.p.2 : Nat) : Int)), (.slice q0.b q0.xs.length q0.c)], oI z1 25 [(.int .i64 d.vars), (.int .i64 d.start), (.slice nb d.next.length nc), (.slice fb d.final.length fc)]] (qitms 5 (q0 :: rest)) rfl rfl, ?_⟩)⟩, trivial⟩
          refine RO.quietT 12 rfl (by kernel_rfl) (q_assign rfl) ?_
          exact RO.fin (by kernel_rfl) ⟨qb2, qc2, wb2, wc2, rfl, ⟨rfl, rfl, rfl, rfl, rfl, rfl, rfl, rfl, rfl, rfl, rfl, rfl, trivial⟩⟩ (by show Sub _ ([rowI (some ⟨zB, 0, none⟩) 1 103 3 [.int .i64 ((toN d q0.p.1 x : Nat) : Int), .int .i64 ((toN d q0.p.2 x : Nat) : Int), (.slice wb2 (q0.xs.length + 1) wc2)], rowI (some ⟨zA, 0, none⟩) 1 5 1 [.int .u8 (x : Int)], rowI wb2 wc2 5 1 ((byts q0.xs) ++ [.int .u8 (x : Int)]), oI z5 100 [.int .i64 ((toN d q0.p.1 x : Nat) : Int), .int .i64 ((toN d q0.p.2 x : Nat) : Int)], rowI qb2 qc2 103 3 ((qcells (q0 :: rest)) ++ [.int .i64 ((toN d q0.p.1 x : Nat) : Int), .int .i64 ((toN d q0.p.2 x : Nat) : Int), (.slice wb2 (q0.xs.length + 1) wc2)]), mapI pairV Value.bool mp2 ((seenL (pushN d q0.stp (bq d s t i) x)) ++ [(cast2 (suc2 d q0.p x), true)]), oI z4 103 [(.int .i64 ((q0.p.1 : Nat) : Int)), (.int .i64 ((q0.p.2 : Nat) : Int)), (.slice q0.b q0.xs.length q0.c)], oI z1 25 [(.int .i64 d.vars), (.int .i64 d.start), (.slice nb d.next.length nc), (.slice fb d.final.length fc)]] ++ qitms 5 (q0 :: rest)); rw [hRR]; exact Sub.cnt [rowI (some ⟨zB, 0, none⟩) 1 103 3 [.int .i64 ((toN d q0.p.1 x : Nat) : Int), .int .i64 ((toN d q0.p.2 x : Nat) : Int), (.slice wb2 (q0.xs.length + 1) wc2)], rowI (some ⟨zA, 0, none⟩) 1 5 1 [.int .u8 (x : Int)]] (by intro a; simp only [itms, qitms, oI, List.set_cons_zero, List.set_cons_succ, putL, List.cons_append, List.nil_append, List.append_nil, List.append_assoc, List.map_append, List.map_cons, List.map_nil, cnt_append, cnt_cons, cnt_nil] <;> omega))
        have hk105 := fun (w1 : World) (hI : Inv w ([rowI (some ⟨zA, 0, none⟩) 1 5 1 [.int .u8 (x : Int)], oI z5 100 [.int .i64 ((toN d q0.p.1 x : Nat) : Int), .int .i64 ((toN d q0.p.2 x : Nat) : Int)], rowI qb qc 103 3 (qcells (q0 :: rest)), mapI pairV Value.bool mp2 ((seenL (pushN d q0.stp (bq d s t i) x)) ++ [(cast2 (suc2 d q0.p x), true)]), oI z4 103 [(.int .i64 ((q0.p.1 : Nat) : Int)), (.int .i64 ((q0.p.2 : Nat) : Int)), (.slice q0.b q0.xs.length q0.c)], oI z1 25 [(.int .i64 d.vars), (.int .i64 d.start), (.slice nb d.next.length nc), (.slice fb d.final.length fc)]] ++ (qitms 5 (q0 :: rest))) w1) => (haveI := Inv.tab (P := Tryd.prog) hI; cloneC w1 q0.b q0.c q0.xs (hI.slOf (T := 5) (k := 1) (List.mem_append_right _ List.mem_cons_self)) (by omega))
        refine RO.fork [4] (by kernel_rfl) rfl ⟨⟨_, rfl, rfl, l_call ent66 (CallT.of_pure hk105) rfl ?_⟩, trivial⟩
        clear hk105
        rintro v O' ⟨N, rfl, wb, wc, rfl, rfl⟩
        refine ⟨Sub.pick0 [2, 4, 4] [rowI wb wc 5 1 (byts q0.xs), rowI (some ⟨zA, 0, none⟩) 1 5 1 [.int .u8 (x : Int)], oI z5 100 [.int .i64 ((toN d q0.p.1 x : Nat) : Int), .int .i64 ((toN d q0.p.2 x : Nat) : Int)], rowI qb qc 103 3 (qcells (q0 :: rest)), mapI pairV Value.bool mp2 ((seenL (pushN d q0.stp (bq d s t i) x)) ++ [(cast2 (suc2 d q0.p x), true)]), oI z4 103 [(.int .i64 ((q0.p.1 : Nat) : Int)), (.int .i64 ((q0.p.2 : Nat) : Int)), (.slice q0.b q0.xs.length q0.c)], oI z1 25 [(.int .i64 d.vars), (.int .i64 d.start), (.slice nb d.next.length nc), (.slice fb d.final.length fc)]] (qitms 5 (q0 :: rest)) rfl rfl, ?_⟩
        refine RO.fork [8] (by kernel_rfl) rfl ⟨⟨_, rfl, rfl, l_append 0 Tryd.underlying29 Tryd.underlying29 inf5 rfl rfl rfl rfl (by rw [List.length_map, Nat.mul_one]) (by decide) (Src.row (j := 1) rfl (by simp)) (by simp [oneB]) (by omega) (by decide) (by decide) (fun wb2 wc2 => ⟨Sub.pick0 [2, 4, 4] [rowI wb2 wc2 5 1 ((byts q0.xs) ++ [.int .u8 (x : Int)]), rowI (some ⟨zA, 0, none⟩) 1 5 1 [.int .u8 (x : Int)], oI z5 100 [.int .i64 ((toN d q0.p.1 x : Nat) : Int), .int .i64 ((toN d q0.p.2 x : Nat) : Int)], rowI qb qc 103 3 (qcells (q0 :: rest)), mapI pairV Value.bool mp2 ((seenL (pushN d q0.stp (bq d s t i) x)) ++ [(cast2 (suc2 d q0.p x), true)]), oI z4 103 [(.int .i64 ((q0.p.1 : Nat) : Int)), (.int .i64 ((q0.p.2 : Nat) : Int)), (.slice q0.b q0.xs.length q0.c)], oI z1 25 [(.int .i64 d.vars), (.int .i64 d.start), (.slice nb d.next.length nc), (.slice fb d.final.length fc)]] (qitms 5 (q0 :: rest)) rfl rfl, ?_⟩)⟩, trivial⟩
        refine RO.quietT 9 rfl (by kernel_rfl) (q_build (cs := [.int .i64 ((toN d q0.p.1 x : Nat) : Int), .int .i64 ((toN d q0.p.2 x : Nat) : Int), (.slice wb2 (q0.xs.length + 1) wc2)]) plan103 inf103 (by kernel_rfl)) ?_
        refine RO.fork [10] (by kernel_rfl) rfl ⟨⟨_, rfl, rfl, l_buildSlice (m := 1) (parts := [(0, _)]) (cs := [.int .i64 ((toN d q0.p.1 x : Nat) : Int), .int .i64 ((toN d q0.p.2 x : Nat) : Int), (.slice wb2 (q0.xs.length + 1) wc2)]) Tryd.underlying104 inf103 (by decide) (by kernel_rfl) rfl (fun zB => ⟨Sub.pick0 [3, 5, 5] [rowI (some ⟨zB, 0, none⟩) 1 103 3 [.int .i64 ((toN d q0.p.1 x : Nat) : Int), .int .i64 ((toN d q0.p.2 x : Nat) : Int), (.slice wb2 (q0.xs.length + 1) wc2)], rowI wb2 wc2 5 1 ((byts q0.xs) ++ [.int .u8 (x : Int)]), rowI (some ⟨zA, 0, none⟩) 1 5 1 [.int .u8 (x : Int)], oI z5 100 [.int .i64 ((toN d q0.p.1 x : Nat) : Int), .int .i64 ((toN d q0.p.2 x : Nat) : Int)], rowI qb qc 103 3 (qcells (q0 :: rest)), mapI pairV Value.bool mp2 ((seenL (pushN d q0.stp (bq d s t i) x)) ++ [(cast2 (suc2 d q0.p x), true)]), oI z4 103 [(.int .i64 ((q0.p.1 : Nat) : Int)), (.int .i64 ((q0.p.2 : Nat) : Int)), (.slice q0.b q0.xs.length q0.c)], oI z1 25 [(.int .i64 d.vars), (.int .i64 d.start), (.slice nb d.next.length nc), (.slice fb d.final.length fc)]] (qitms 5 (q0 :: rest)) rfl rfl, ?_⟩)⟩, trivial⟩
        refine RO.fork [11] (by kernel_rfl) rfl ⟨⟨_, rfl, rfl, l_append 4 Tryd.underlying104 Tryd.underlying104 inf103 rfl rfl rfl rfl (by rw [qcells_len, hm]; rfl) (by decide) (Src.row (j := 0) rfl (by simp)) (by simp [oneB]) (by omega) (by decide) (by decide) (fun qb2 qc2 => ⟨Sub.pick0 [3, 5, 5] [rowI (some ⟨zB, 0, none⟩) 1 103 3 [.int .i64 ((toN d q0.p.1 x : Nat) : Int), .int .i64 ((toN d q0.p.2 x : Nat) : Int), (.slice wb2 (q0.xs.length + 1) wc2)], rowI wb2 wc2 5 1 ((byts q0.xs) ++ [.int .u8 (x : Int)]), rowI (some ⟨zA, 0, none⟩) 1 5 1 [.int .u8 (x : Int)], oI z5 100 [.int .i64 ((toN d q0.p.1 x : Nat) : Int), .int .i64 ((toN d q0.p.2 x : Nat) : Int)], rowI qb2 qc2 103 3 ((qcells (q0 :: rest)) ++ [.int .i64 ((toN d q0.p.1 x : Nat) : Int), .int .i64 ((toN d q0.p.2 x : Nat) : Int), (.slice wb2 (q0.xs.length + 1) wc2)]), mapI pairV Value.bool mp2 ((seenL (pushN d q0.stp (bq d s t i) x)) ++ [(cast2 (suc2 d q0.p x), true)]), oI z4 103 [(.int .i64 ((q0.p.1 : Nat) : Int)), (.int .i64 ((q0.p.2 : Nat) : Int)), (.slice q0.b q0.xs.length q0.c)], oI z1 25 [(.int .i64 d.vars), (.int .i64 d.start), (.slice nb d.next.length nc), (.slice fb d.final.length fc)]] (qitms 5 (q0 :: rest)) rfl rfl, ?_⟩)⟩, trivial⟩
        refine RO.quietT 12 rfl (by kernel_rfl) (q_assign rfl) ?_
        exact RO.fin (by kernel_rfl) ⟨qb2, qc2, wb2, wc2, rfl, ⟨rfl, rfl, rfl, rfl, rfl, rfl, rfl, rfl, rfl, rfl, rfl, rfl, trivial⟩⟩ (by show Sub _ ([rowI (some ⟨zB, 0, none⟩) 1 103 3 [.int .i64 ((toN d q0.p.1 x : Nat) : Int), .int .i64 ((toN d q0.p.2 x : Nat) : Int), (.slice wb2 (q0.xs.length + 1) wc2)], rowI wb2 wc2 5 1 ((byts q0.xs) ++ [.int .u8 (x : Int)]), rowI (some ⟨zA, 0, none⟩) 1 5 1 [.int .u8 (x : Int)], oI z5 100 [.int .i64 ((toN d q0.p.1 x : Nat) : Int), .int .i64 ((toN d q0.p.2 x : Nat) : Int)], rowI qb2 qc2 103 3 ((qcells (q0 :: rest)) ++ [.int .i64 ((toN d q0.p.1 x : Nat) : Int), .int .i64 ((toN d q0.p.2 x : Nat) : Int), (.slice wb2 (q0.xs.length + 1) wc2)]), mapI pairV Value.bool mp2 ((seenL (pushN d q0.stp (bq d s t i) x)) ++ [(cast2 (suc2 d q0.p x), true)]), oI z4 103 [(.int .i64 ((q0.p.1 : Nat) : Int)), (.int .i64 ((q0.p.2 : Nat) : Int)), (.slice q0.b q0.xs.length q0.c)], oI z1 25 [(.int .i64 d.vars), (.int .i64 d.start), (.slice nb d.next.length nc), (.slice fb d.final.length fc)]] ++ qitms 5 (q0 :: rest)); rw [hRR]; exact Sub.cnt [rowI (some ⟨zB, 0, none⟩) 1 103 3 [.int .i64 ((toN d q0.p.1 x : Nat) : Int), .int .i64 ((toN d q0.p.2 x : Nat) : Int), (.slice wb2 (q0.xs.length + 1) wc2)], rowI (some ⟨zA, 0, none⟩) 1 5 1 [.int .u8 (x : Int)]] (by intro a; simp only [itms, qitms, oI, List.set_cons_zero, List.set_cons_succ, putL, List.cons_append, List.nil_append, List.append_nil, List.append_assoc, List.map_append, List.map_cons, List.map_nil, cnt_append, cnt_cons, cnt_nil] <;> omega))
      rintro ρ O ⟨qb2, qc2, wb2, wc2, rfl, hH⟩
      obtain ⟨ρ0, rfl⟩ := hH.elim
      clear hH
      refine T.region ?_
      refine TO.quiet (q_inc rfl rfl (by omega)) (TO.quiet (q_move rfl) ?_)
      refine TO.sub (O' := ([rowI qb2 qc2 103 3 ((qcells (q0 :: rest)) ++ [(.int .i64 ((toN d q0.p.1 x : Nat) : Int)), (.int .i64 ((toN d q0.p.2 x : Nat) : Int)), (.slice wb2 (q0.xs.length + 1) wc2)]), mapI pairV Value.bool mp2 ((seenL (pushN d q0.stp (bq d s t i) x)) ++ [(cast2 (suc2 d q0.p x), true)]), oI z4 103 [(.int .i64 ((q0.p.1 : Nat) : Int)), (.int .i64 ((q0.p.2 : Nat) : Int)), (.slice q0.b q0.xs.length q0.c)], oI z1 25 [(.int .i64 d.vars), (.int .i64 d.start), (.slice nb d.next.length nc), (.slice fb d.final.length fc)]] ++ (qitms 5 (q0 :: (rest ++ [⟨suc2 d q0.p x, wb2, wc2, q0.xs ++ [x]⟩]))))) (Sub.pickR [0, 1, 1, 1] [rowI qb2 qc2 103 3 ((qcells (q0 :: rest)) ++ [(.int .i64 ((toN d q0.p.1 x : Nat) : Int)), (.int .i64 ((toN d q0.p.2 x : Nat) : Int)), (.slice wb2 (q0.xs.length + 1) wc2)]), oI z5 100 [.int .i64 ((toN d q0.p.1 x : Nat) : Int), .int .i64 ((toN d q0.p.2 x : Nat) : Int)], mapI pairV Value.bool mp2 ((seenL (pushN d q0.stp (bq d s t i) x)) ++ [(cast2 (suc2 d q0.p x), true)]), oI z4 103 [(.int .i64 ((q0.p.1 : Nat) : Int)), (.int .i64 ((q0.p.2 : Nat) : Int)), (.slice q0.b q0.xs.length q0.c)], oI z1 25 [(.int .i64 d.vars), (.int .i64 d.start), (.slice nb d.next.length nc), (.slice fb d.final.length fc)]] (qitms 5 (q0 :: (rest ++ [⟨suc2 d q0.p x, wb2, wc2, q0.xs ++ [x]⟩]))) rfl rfl) ?_
      refine TO.nil ?_
      have hA : pushN d q0.stp (bq d s t i) (x + 1) = (pushN d q0.stp (bq d s t i) x) ++ [(suc2 d q0.p x, q0.xs ++ [x])] := by
        show pushS d q0.stp _ x = _
        unfold pushS
        exact if_neg hin
      refine ⟨x + 1, by omega, qb2, qc2, m + 1, rest ++ [⟨suc2 d q0.p x, wb2, wc2, q0.xs ++ [x]⟩], ?_, by omega, by simp [hm], ?_, ⟨rfl, rfl, rfl, rfl, rfl, rfl, rfl, rfl, rfl, rfl, trivial⟩⟩
      · rw [hA, show seenL ((pushN d q0.stp (bq d s t i) x) ++ [(suc2 d q0.p x, q0.xs ++ [x])]) = seenL (pushN d q0.stp (bq d s t i) x) ++ [(cast2 (suc2 d q0.p x), true)] from List.map_append, show qcells (q0 :: (rest ++ [⟨suc2 d q0.p x, wb2, wc2, q0.xs ++ [x]⟩])) = qcells (q0 :: rest) ++ [(.int .i64 ((toN d q0.p.1 x : Nat) : Int)), (.int .i64 ((toN d q0.p.2 x : Nat) : Int)), (.slice wb2 (q0.xs.length + 1) wc2)] by simp [QRec.cells, suc2]]
      · rw [hA, List.drop_append_of_le_length (by omega), ← hrs2]; simp [QRec.stp]
    have hge72 : ¬ x < 2 ^ d.vars.toNat := by omega
    have hgx : ¬ x < letN d := hge72
    refine T.exit ?_
    refine T.region ?_
    refine TO.quiet (q_move rfl) ?_
    refine TO.loud rfl (l_tail 0 Tryd.underlying104 inf103 (by decide) rfl rfl rfl (by rw [qcells_len, hm]; rfl) (by omega) (fun z6 => ?_))
    refine TO.quiet (q_assign rfl) ?_
    refine TO.sub (O' := [rowI z6 (qc - 1) 103 3 (qcells rest), mapI pairV Value.bool mp2 (seenL (pushN d q0.stp (bq d s t i) x)), oI z1 25 [(.int .i64 d.vars), (.int .i64 d.start), (.slice nb d.next.length nc), (.slice fb d.final.length fc)]] ++ qitms 5 rest) (by show Sub _ ([rowI z6 (qc - 1) 103 3 (qcells rest), mapI pairV Value.bool mp2 (seenL (pushN d q0.stp (bq d s t i) x)), oI z4 103 [(.int .i64 ((q0.p.1 : Nat) : Int)), (.int .i64 ((q0.p.2 : Nat) : Int)), (.slice q0.b q0.xs.length q0.c)], oI z1 25 [(.int .i64 d.vars), (.int .i64 d.start), (.slice nb d.next.length nc), (.slice fb d.final.length fc)]] ++ qitms 5 (q0 :: rest)); exact Sub.cnt [oI z4 103 [(.int .i64 ((q0.p.1 : Nat) : Int)), (.int .i64 ((q0.p.2 : Nat) : Int)), (.slice q0.b q0.xs.length q0.c)], QRec.itm 5 q0] (by intro a; simp only [itms, qitms, oI, List.set_cons_zero, List.set_cons_succ, putL, List.cons_append, List.nil_append, List.append_nil, List.append_assoc, List.map_append, List.map_cons, List.map_nil, cnt_append, cnt_cons, cnt_nil] <;> omega)) ?_
    refine TO.nil ?_
    have hxe : x = letN d := by omega
    have hbq : pushN d q0.stp (bq d s t i) x = bq d s t (i + 1) := by rw [bq_succ hq0, hxe]
    refine ⟨i + 1, by omega, z6, qc - 1, m, rest, by rw [hbq], hm, ?_, ?_, ⟨rfl, rfl, rfl, rfl, rfl, rfl, rfl, trivial⟩⟩
    · rw [← hbq]; have := congrArg List.tail hrs2; simpa [List.tail_drop] using this
    · intro j hj9
      by_cases e : j = i
      · subst e; exact ⟨q0.stp, hq0, heq⟩
      · exact hj j (by omega)
  have hge45 : ¬ m > 0 := by omega
  refine T.exit ?_
  refine T.seq (T.region ?_)
  refine TO.quiet (q_assign rfl) (TO.quiet (q_assign rfl) (TO.quiet (q_assign rfl) ?_))
  refine TO.nil (T.ret (Res.drop ?_))
  refine Res.three (.slice none 0 0) (.bool false) (.int .i64 0) Tryd.results46 rfl rfl rfl ?_
  have hend : (bq d s t i).length ≤ i := by
    have := congrArg List.length hrs
    simp at this
    omega
  exact ⟨[], Sub.of (List.nil_sublist _), none, BfsR.tell hv (res := none) ⟨i, hj, hend⟩, rfl, rfl⟩
end Go.Proofs.YtnpehjpookcfkaaDoor

namespace Go.Proofs.YtnpehjpookcfkaaDoor
open Go.Lx Go.RowKit
set_option linter.unusedVariables false
set_option linter.unusedSimpArgs false
theorem roundsA (w : World) [Tab Tryd.prog w] (d : DFA) (nb fb : Option Addr) (nc fc : Nat) (vs : List Value) (h : DfaAt w d nb vs fb) (hb : d.next.length < 9223372036854775807) (hbr : ∀ r ∈ d.next, r.length < 9223372036854775807) (hbf : d.final.length < 9223372036854775807) (hn : Valid d → d.next.length < 10000) (k : Int) (hk9 : k ≤ 9223372036854775807) :
    PureT Tryd.prog 61 [.agg (dfaCells d nb nc fb fc).toArray, .int .i64 k] w fun v N => ∃ b c, v = .tuple #[.slice b (rndsV d k).length c, .int .i64 (checkD d : Int)] ∧ N = [rowI b c 3 1 (nats (rndsV d k))] := by
  unfold rndsV
  by_cases he : checkD d = 0
  · have hv := checkD_zero.1 he
    rw [he, if_pos rfl, itF_length]
    exact roundsOk w d nb fb nc fc vs h hv (hn hv) k hk9
  · rw [if_neg he]
    refine (CallT.addNil 3 1 (roundsBad w d nb fb nc fc vs h hb hbr hbf he k)).mono ?_
    rintro v N ⟨O2, rfl, rfl, rfl⟩
    exact ⟨none, 0, rfl, rfl⟩
theorem classesA (w : World) [Tab Tryd.prog w] (d : DFA) (nb fb : Option Addr) (nc fc : Nat) (vs : List Value) (h : DfaAt w d nb vs fb) (hb : d.next.length < 9223372036854775807) (hbr : ∀ r ∈ d.next, r.length < 9223372036854775807) (hbf : d.final.length < 9223372036854775807) (hn : Valid d → d.next.length < 10000) :
    PureT Tryd.prog 41 [.agg (dfaCells d nb nc fb fc).toArray] w fun v N => ∃ b c, v = .tuple #[.slice b (rndsV d d.next.length).length c, .int .i64 (checkD d : Int)] ∧ N = [rowI b c 3 1 (nats (rndsV d d.next.length))] := by
  unfold rndsV
  by_cases he : checkD d = 0
  · have hv := checkD_zero.1 he
    rw [he, if_pos rfl, itF_length]
    exact classesOk w d nb fb nc fc vs h hv (hn hv)
  · rw [if_neg he]
    refine (CallT.addNil 3 1 (classesBad w d nb fb nc fc vs h hb hbr hbf he)).mono ?_
    rintro v N ⟨O2, rfl, rfl, rfl⟩
    exact ⟨none, 0, rfl, rfl⟩
theorem minA (w : World) [Tab Tryd.prog w] (d : DFA) (nb fb : Option Addr) (nc fc : Nat) (vs : List Value) (h : DfaAt w d nb vs fb) (hb : d.next.length < 9223372036854775807) (hbr : ∀ r ∈ d.next, r.length < 9223372036854775807) (hbf : d.final.length < 9223372036854775807) (hn : Valid d → d.next.length < 10000) :
    PureT Tryd.prog 17 [.agg (dfaCells d nb nc fb fc).toArray] w fun v N => ∃ nb' nc' fb' fc' qs, v = .tuple #[.agg (dfaCells (minV d) nb' nc' fb' fc').toArray, .int .i64 (checkD d : Int)] ∧ N = [rowI nb' nc' 54 1 (vals qs), rowI fb' fc' 4 1 (bools (minV d).final)] ++ itms 3 qs ∧ nums qs = (minV d).next := by
  unfold minV
  by_cases he : checkD d = 0
  · have hv := checkD_zero.1 he
    obtain ⟨q1, q2⟩ := quo_itF hv d.next.length
    rw [he, if_pos rfl]
    exact minOk w d nb fb nc fc vs h hv (hn hv) q1 (by have := hn hv; omega)
  · rw [if_neg he]
    refine (CallT.addNil 54 1 (CallT.addNil 4 1 (minBad w d nb fb nc fc vs h hb hbr hbf he))).mono ?_
    rintro v N ⟨O2, rfl, O3, rfl, rfl, rfl⟩
    exact ⟨none, 0, none, 0, [], rfl, rfl, rfl⟩
theorem distA (w : World) [Tab Tryd.prog w] (d : DFA) (nb fb : Option Addr) (nc fc : Nat) (vs : List Value) (h : DfaAt w d nb vs fb) (hb : d.next.length < 9223372036854775807) (hbr : ∀ r ∈ d.next, r.length < 9223372036854775807) (hbf : d.final.length < 9223372036854775807) (hn : Valid d → d.next.length < 10000) (s t : Int) :
    PureT Tryd.prog 46 [.agg (dfaCells d nb nc fb fc).toArray, .int .i64 s, .int .i64 t] w fun v N => DistV 5 d s t v N := by
  by_cases he : checkD d = 0
  · have hv := checkD_zero.1 he
    by_cases hst : s < 0 ∨ t < 0 ∨ (d.next.length : Int) ≤ s ∨ (d.next.length : Int) ≤ t
    · have e8 : eD d s t = 8 := by unfold eD; rw [if_neg (by simp [he]), if_pos hst]
      refine (CallT.addNil 5 1 (distOut w d nb fb nc fc vs h hv s t hst)).mono ?_
      rintro v N ⟨O2, rfl, rfl, rfl⟩
      exact ⟨none, none, 0, by unfold TellA; rw [if_neg (by rw [e8]; decide)], by rw [e8]; rfl, rfl⟩
    · have e0 : eD d s t = 0 := by unfold eD; rw [if_neg (by simp [he]), if_neg hst]
      have hs : s = ((s.toNat : Nat) : Int) := by omega
      have ht : t = ((t.toNat : Nat) : Int) := by omega
      have h1 := distOk w d nb fb nc fc vs h hv (hn hv) s.toNat t.toNat (by omega) (by omega)
      rw [← hs, ← ht] at h1
      refine (CallT.nilOr 5 1 h1).mono ?_
      rintro v N ⟨O2, hN, res, hT, hV⟩
      have hTA : TellA d s t res := by unfold TellA; rw [if_pos e0]; exact hT
      cases res with
      | none =>
        obtain ⟨rfl, rfl⟩ := hV
        exact ⟨none, none, 0, hTA, by rw [e0]; rfl, hN.2 rfl⟩
      | some u =>
        obtain ⟨b, c, rfl, rfl⟩ := hV
        exact ⟨some u, b, c, hTA, by rw [e0]; rfl, hN.1 (by simp)⟩
  · have e1 : eD d s t = checkD d := by unfold eD; rw [if_pos he]
    refine (CallT.addNil 5 1 (distBad w d nb fb nc fc vs h hb hbr hbf he s t)).mono ?_
    rintro v N ⟨O2, rfl, rfl, rfl⟩
    exact ⟨none, none, 0, by unfold TellA; rw [if_neg (by rw [e1]; exact he)], by rw [e1]; rfl, rfl⟩
end Go.Proofs.YtnpehjpookcfkaaDoor

namespace Go.Proofs.YtnpehjpookcfkaaDoor
open Go.Lx Go.RowKit
set_option linter.unusedVariables false
set_option linter.unusedSimpArgs false
theorem pairT : Pair2 Tryd.prog 112 { name := "s", type := 3, offset := 0, embedded := false, tag := "", pkgPath := "sentinel/boolean", byteOffset := 0 } { name := "t", type := 3, offset := 1, embedded := false, tag := "", pkgPath := "sentinel/boolean", byteOffset := 8 } := ⟨Tryd.underlying112, Tryd.underlying3, Tryd.underlying3, rfl, rfl, by decide, by decide, by kernel_rfl⟩
set_option maxHeartbeats 1000000 in
set_option maxRecDepth 20000 in
theorem beginBad (w : World) [Tab Tryd.prog w] (a b : DFA) (j k : DK) (ha : At w a j) (hb : At w b k) (haa : a.next.length < 9223372036854775807) (haar : ∀ r ∈ a.next, r.length < 9223372036854775807) (haaf : a.final.length < 9223372036854775807) (hbb : b.next.length < 9223372036854775807) (hbbr : ∀ r ∈ b.next, r.length < 9223372036854775807) (hbbf : b.final.length < 9223372036854775807) (he : wrongD a b ≠ 0) :
    PureT Tryd.prog 67 [dV a j, dV b k] w fun v N => v = .tuple #[.pointer none, .int .i64 (wrongD a b : Int)] ∧ N = [] := by
  refine CallT.enter Tryd.func67 rfl Tryd.ntmps67 rfl ?_
  refine T.seq (T.region ?_)
  refine TO.loud rfl (l_box (v := (dV a j)) (cs := (dC a j)) rfl rfl (fun bx1 => ?_))
  refine TO.loud rfl (l_box (v := (dV b k)) (cs := (dC b k)) rfl rfl (fun bx2 => ?_))
  refine TO.quiet (q_assign rfl) (TO.quiet (q_assign rfl) ?_)
  refine TO.nil (T.seq (T.seq (T.region ?_)))
  refine TO.quiet (q_load_boxAgg 1 Tryd.underlying25 rfl inf25 rfl rfl rfl) ?_
  have hk10 := fun (w1 : World) (hI : Inv w [oI bx2 25 (dC b k), oI bx1 25 (dC a j)] w1) => (haveI := Inv.tab (P := Tryd.prog) hI; subsetCheck w1 a j.nb j.fb j.nc j.fc (vals j.qs) (hI.dfa ha) haa haar haaf)
  refine TO.loud rfl (l_call ent26 (CallT.of_pure hk10) rfl ?_)
  clear hk10
  rintro vr O' ⟨N, rfl, rfl, rfl⟩
  refine TO.quiet (q_assign rfl) ?_
  refine TO.nil (T.seq (T.region ?_))
  refine TO.quiet (q_move rfl) (TO.quiet (q_neq rfl rfl) ?_)
  refine TO.nil ?_
  refine T.condP rfl (fun hc => ?_) (fun hc => ?_)
  · have hlt12 : checkD a ≠ 0 := by omega
    refine T.seq (T.region ?_)
    refine TO.quiet (q_move rfl) (TO.quiet (q_assign rfl) (TO.quiet (q_assign rfl) ?_))
    refine TO.nil (T.ret (Res.drop ?_))
    refine Res.two (.pointer none) (.int .i64 (checkD a : Int)) Tryd.results67 rfl rfl ?_
    exact ⟨[], Sub.z, by rw [wrong_first (by omega)], rfl⟩
  have hge12 : ¬ checkD a ≠ 0 := by omega
  refine T.skip (T.seq (T.seq (T.region ?_)))
  refine TO.quiet (q_load_boxAgg 0 Tryd.underlying25 rfl inf25 rfl rfl rfl) ?_
  have hk15 := fun (w1 : World) (hI : Inv w [oI bx2 25 (dC b k), oI bx1 25 (dC a j)] w1) => (haveI := Inv.tab (P := Tryd.prog) hI; subsetCheck w1 b k.nb k.fb k.nc k.fc (vals k.qs) (hI.dfa hb) hbb hbbr hbbf)
  refine TO.loud rfl (l_call ent26 (CallT.of_pure hk15) rfl ?_)
  clear hk15
  rintro vr O' ⟨N, rfl, rfl, rfl⟩
  refine TO.quiet (q_assign rfl) ?_
  refine TO.nil (T.seq (T.region ?_))
  refine TO.quiet (q_move rfl) (TO.quiet (q_neq rfl rfl) ?_)
  refine TO.nil ?_
  refine T.condP rfl (fun hc => ?_) (fun hc => ?_)
  · have hlt17 : checkD b ≠ 0 := by omega
    refine T.seq (T.region ?_)
    refine TO.quiet (q_move rfl) (TO.quiet (q_assign rfl) (TO.quiet (q_assign rfl) ?_))
    refine TO.nil (T.ret (Res.drop ?_))
    refine Res.two (.pointer none) (.int .i64 (checkD b : Int)) Tryd.results67 rfl rfl ?_
    exact ⟨[], Sub.z, by rw [wrong_second (by omega) (by omega)], rfl⟩
  have hge17 : ¬ checkD b ≠ 0 := by omega
  refine T.skip (T.seq (T.seq (T.region ?_)))
  refine TO.quiet (q_fieldAddr Tryd.underlying25 rfl inf3 rfl rfl) (TO.quiet (q_load_box 1 Tryd.underlying3 rfl rfl rfl rfl) (TO.quiet (q_fieldAddr Tryd.underlying25 rfl inf3 rfl rfl) (TO.quiet (q_load_box 0 Tryd.underlying3 rfl rfl rfl rfl) ?_)))
  refine TO.quiet (q_neq rfl rfl) ?_
  refine TO.nil ?_
  refine T.condP (p := ¬ a.vars = b.vars) (congrArg Value.bool (decide_eq_decide.2 (by omega))) (fun hc => ?_) (fun hc => ?_)
  · refine T.seq ?_
    refine T.region ?_
    refine TO.quiet (q_assign rfl) (TO.quiet (q_assign rfl) ?_)
    refine TO.nil (T.ret (Res.drop ?_))
    refine Res.two (.pointer none) (.int .i64 7) Tryd.results67 rfl rfl ?_
    exact ⟨[], Sub.z, by rw [wrong_vars (by omega) (by omega) hc]; rfl, rfl⟩
  refine absurd (wrongD_zero.2 ⟨checkD_zero.1 (by omega), checkD_zero.1 (by omega), Classical.not_not.1 hc⟩) he
set_option maxHeartbeats 1000000 in
set_option maxRecDepth 20000 in
theorem beginOk (w : World) [Tab Tryd.prog w] (a b : DFA) (j k : DK) (ha : At w a j) (hb : At w b k) (va : Valid a) (vb : Valid b) (hv : a.vars = b.vars) :
    PureT Tryd.prog 67 [dV a j, dV b k] w fun v N => ∃ (bp qb m : Nat), v = .tuple #[.pointer (some ⟨bp, 0, none⟩), .int .i64 0] ∧ N = [oI bp 116 [(.int .i64 a.vars), (.int .i64 a.start), (.slice j.nb a.next.length j.nc), (.slice j.fb a.final.length j.fc), (.int .i64 b.vars), (.int .i64 b.start), (.slice k.nb b.next.length k.nc), (.slice k.fb b.final.length k.fc), (.slice (some ⟨qb, 0, none⟩) ([a.start.toNat * b.next.length + b.start.toNat].length) 1), (.map (some m))], rowI (some ⟨qb, 0, none⟩) 1 112 2 (prs b.next.length [a.start.toNat * b.next.length + b.start.toNat]), mapI pairV (fun n : Nat => Value.int .i64 (n : Int)) m (pmap b.next.length [a.start.toNat * b.next.length + b.start.toNat])] := by
  refine CallT.enter Tryd.func67 rfl Tryd.ntmps67 rfl ?_
  have wa : checkD a = 0 := checkD_zero.2 va
  have wb : checkD b = 0 := checkD_zero.2 vb
  have hs1 : a.start = ((a.start.toNat : Nat) : Int) := by have := va.s0; omega
  have hs2 : b.start = ((b.start.toNat : Nat) : Int) := by have := vb.s0; omega
  have hpd := pr_div (s := a.start.toNat) (start_lt vb.toVal)
  refine T.seq (T.region ?_)
  refine TO.loud rfl (l_box (v := (dV a j)) (cs := (dC a j)) rfl rfl (fun bx1 => ?_))
  refine TO.loud rfl (l_box (v := (dV b k)) (cs := (dC b k)) rfl rfl (fun bx2 => ?_))
  refine TO.quiet (q_assign rfl) (TO.quiet (q_assign rfl) ?_)
  refine TO.nil (T.seq (T.seq (T.region ?_)))
  refine TO.quiet (q_load_boxAgg 1 Tryd.underlying25 rfl inf25 rfl rfl rfl) ?_
  have hk10 := fun (w1 : World) (hI : Inv w [oI bx2 25 (dC b k), oI bx1 25 (dC a j)] w1) => (haveI := Inv.tab (P := Tryd.prog) hI; subsetCheck w1 a j.nb j.fb j.nc j.fc (vals j.qs) (hI.dfa ha) (by have := va.n4; omega) va.bound (by have := va.fin; have := va.n4; omega))
  refine TO.loud rfl (l_call ent26 (CallT.of_pure hk10) rfl ?_)
  clear hk10
  rintro vr O' ⟨N, rfl, rfl, rfl⟩
  rw [wa]
  refine TO.quiet (q_assign rfl) ?_
  refine TO.nil (T.seq (T.region ?_))
  refine TO.quiet (q_move rfl) (TO.quiet (q_neq rfl rfl) ?_)
  refine TO.nil ?_
  refine T.cond0 rfl ?_
  refine T.skip (T.seq (T.seq (T.region ?_)))
  refine TO.quiet (q_load_boxAgg 0 Tryd.underlying25 rfl inf25 rfl rfl rfl) ?_
  have hk15 := fun (w1 : World) (hI : Inv w [oI bx2 25 (dC b k), oI bx1 25 (dC a j)] w1) => (haveI := Inv.tab (P := Tryd.prog) hI; subsetCheck w1 b k.nb k.fb k.nc k.fc (vals k.qs) (hI.dfa hb) (by have := vb.n4; omega) vb.bound (by have := vb.fin; have := vb.n4; omega))
  refine TO.loud rfl (l_call ent26 (CallT.of_pure hk15) rfl ?_)
  clear hk15
  rintro vr O' ⟨N, rfl, rfl, rfl⟩
  rw [wb]
  refine TO.quiet (q_assign rfl) ?_
  refine TO.nil (T.seq (T.region ?_))
  refine TO.quiet (q_move rfl) (TO.quiet (q_neq rfl rfl) ?_)
  refine TO.nil ?_
  refine T.cond0 rfl ?_
  refine T.skip (T.seq (T.seq (T.region ?_)))
  refine TO.quiet (q_fieldAddr Tryd.underlying25 rfl inf3 rfl rfl) (TO.quiet (q_load_box 1 Tryd.underlying3 rfl rfl rfl rfl) (TO.quiet (q_fieldAddr Tryd.underlying25 rfl inf3 rfl rfl) (TO.quiet (q_load_box 0 Tryd.underlying3 rfl rfl rfl rfl) ?_)))
  refine TO.quiet (q_neq rfl rfl) ?_
  refine TO.nil ?_
  refine T.cond0 (congrArg Value.bool (decide_eq_false (fun h => h hv))) ?_
  refine T.skip (T.seq (T.region ?_))
  refine TO.quiet (q_fieldAddr Tryd.underlying25 rfl inf3 rfl rfl) (TO.quiet (q_load_box 1 Tryd.underlying3 rfl rfl rfl rfl) (TO.quiet (q_fieldAddr Tryd.underlying25 rfl inf3 rfl rfl) (TO.quiet (q_load_box 0 Tryd.underlying3 rfl rfl rfl rfl) ?_)))
  refine TO.quiet (q_build (cs := [(.int .i64 a.start), (.int .i64 b.start)]) plan112 inf112 (by kernel_rfl)) ?_
  refine TO.loud rfl (l_alloc inf112 rfl (fun bx3 => ?_))
  refine TO.loud rfl (l_store_box (v := (.agg #[(.int .i64 a.start), (.int .i64 b.start)])) (vs := [(.int .i64 a.start), (.int .i64 b.start)]) 0 inf112 rfl rfl rfl rfl rfl rfl (by simp [putL]) ?_)
  refine TO.nil ?_
  refine T.cut (fun ρ O => ∃ (bp qb m : Nat), O = [oI bp 116 [(.int .i64 a.vars), (.int .i64 a.start), (.slice j.nb a.next.length j.nc), (.slice j.fb a.final.length j.fc), (.int .i64 b.vars), (.int .i64 b.start), (.slice k.nb b.next.length k.nc), (.slice k.fb b.final.length k.fc), (.slice (some ⟨qb, 0, none⟩) 1 1), (.map (some m))], rowI (some ⟨qb, 0, none⟩) 1 112 2 [(.int .i64 a.start), (.int .i64 b.start)], mapI pairV (fun n : Nat => Value.int .i64 (n : Int)) m [((a.start, b.start), (0 : Nat))]] ∧ Heads [(0, (dV a j)), (1, (dV b k)), (2, (.pointer (some ⟨bx1, 0, none⟩))), (3, (.pointer (some ⟨bx2, 0, none⟩))), (4, (.pointer (some ⟨bp, 0, none⟩))), (5, .int .i64 0), (6, .int .i64 ((0 : Nat) : Int)), (7, .int .i64 ((0 : Nat) : Int)), (8, (.pointer (some ⟨bx3, 0, none⟩)))] ρ) ?_ ?_
  · refine T.tree [oI bx3 112 [(.int .i64 a.start), (.int .i64 b.start)], oI bx2 25 (dC b k), oI bx1 25 (dC a j)] 12 mixed rfl (by exact Sub.rf) (fun _ _ _ h => h) ?_
    refine RO.quietT 0 rfl (by kernel_rfl) (q_load_boxAgg 2 Tryd.underlying25 rfl inf25 rfl rfl rfl) ?_
    refine RO.quietT 1 rfl (by kernel_rfl) (q_load_boxAgg 1 Tryd.underlying25 rfl inf25 rfl rfl rfl) ?_
    refine RO.quietT 2 rfl (by kernel_rfl) (q_load_boxAgg 0 Tryd.underlying112 rfl inf112 rfl rfl rfl) ?_
    refine RO.quietT 5 rfl (by kernel_rfl) (q_load_boxAgg 0 Tryd.underlying112 rfl inf112 rfl rfl rfl) ?_
    refine RO.fork [3, 4] (by kernel_rfl) rfl ⟨⟨_, rfl, rfl, l_buildSlice (m := 1) (parts := [(0, _)]) (cs := [(.int .i64 a.start), (.int .i64 b.start)]) Tryd.underlying113 inf112 (by decide) (by kernel_rfl) rfl (fun qb => ⟨by exact Sub.d (.k (.k (.k .z))), ?_⟩)⟩, ⟨_, rfl, rfl, l_makeMap pairV (fun n : Nat => Value.int .i64 (n : Int)) (fun m => ⟨by exact Sub.d (.k (.k (.k .z))), ?_⟩)⟩, trivial⟩
    · refine RO.fork [4] (by kernel_rfl) rfl ⟨⟨_, rfl, rfl, l_makeMap pairV (fun n : Nat => Value.int .i64 (n : Int)) (fun m => ⟨by exact Sub.d (.d (.k (.k (.k .z)))), ?_⟩)⟩, trivial⟩
      refine RO.fork [6] (by kernel_rfl) rfl ⟨⟨_, rfl, rfl, l_mapInsert (a := (a.start, b.start)) (v := (0 : Nat)) 0 Tryd.underlying114 (KeyOk.pair pairT) rfl rfl rfl rfl (by simp) ⟨by exact Sub.d (.d (.k (.k (.k .z)))), ?_⟩⟩, trivial⟩
      refine RO.quietT 7 rfl (by kernel_rfl) (q_move rfl) ?_
      refine RO.quietT 8 rfl (by kernel_rfl) (q_build (cs := [(.int .i64 a.vars), (.int .i64 a.start), (.slice j.nb a.next.length j.nc), (.slice j.fb a.final.length j.fc), (.int .i64 b.vars), (.int .i64 b.start), (.slice k.nb b.next.length k.nc), (.slice k.fb b.final.length k.fc), (.slice (some ⟨qb, 0, none⟩) 1 1), (.map (some m))]) plan116 inf116 (by kernel_rfl)) ?_
      refine RO.fork [9] (by kernel_rfl) rfl ⟨⟨_, rfl, rfl, l_box (v := (.agg #[(.int .i64 a.vars), (.int .i64 a.start), (.slice j.nb a.next.length j.nc), (.slice j.fb a.final.length j.fc), (.int .i64 b.vars), (.int .i64 b.start), (.slice k.nb b.next.length k.nc), (.slice k.fb b.final.length k.fc), (.slice (some ⟨qb, 0, none⟩) 1 1), (.map (some m))])) (cs := [(.int .i64 a.vars), (.int .i64 a.start), (.slice j.nb a.next.length j.nc), (.slice j.fb a.final.length j.fc), (.int .i64 b.vars), (.int .i64 b.start), (.slice k.nb b.next.length k.nc), (.slice k.fb b.final.length k.fc), (.slice (some ⟨qb, 0, none⟩) 1 1), (.map (some m))]) rfl rfl (fun bp => ⟨by exact Sub.d (.d (.d (.k (.k (.k .z))))), ?_⟩)⟩, trivial⟩
      refine RO.quietT 10 rfl (by kernel_rfl) (q_assign rfl) ?_
      refine RO.quietT 11 rfl (by kernel_rfl) (q_assign rfl) ?_
      exact RO.fin (by kernel_rfl) ⟨bp, qb, m, rfl, ⟨rfl, rfl, rfl, rfl, rfl, rfl, rfl, rfl, rfl, trivial⟩⟩ (by exact Sub.k (.pull [mapI pairV (fun n : Nat => Value.int .i64 (n : Int)) m [((a.start, b.start), (0 : Nat))]] _ (.k .z)))
    refine RO.fork [3, 6] (by kernel_rfl) rfl ⟨⟨_, rfl, rfl, l_buildSlice (m := 1) (parts := [(0, _)]) (cs := [(.int .i64 a.start), (.int .i64 b.start)]) Tryd.underlying113 inf112 (by decide) (by kernel_rfl) rfl (fun qb => ⟨by exact Sub.d (.d (.k (.k (.k .z)))), ?_⟩)⟩, ⟨_, rfl, rfl, l_mapInsert (a := (a.start, b.start)) (v := (0 : Nat)) 0 Tryd.underlying114 (KeyOk.pair pairT) rfl rfl rfl rfl (by simp) ⟨by exact Sub.d (.k (.k (.k .z))), ?_⟩⟩, trivial⟩
    · refine RO.fork [6] (by kernel_rfl) rfl ⟨⟨_, rfl, rfl, l_mapInsert (a := (a.start, b.start)) (v := (0 : Nat)) 1 Tryd.underlying114 (KeyOk.pair pairT) rfl rfl rfl rfl (by simp) ⟨by exact Sub.d (.d (.k (.k (.k .z)))), ?_⟩⟩, trivial⟩
      refine RO.quietT 7 rfl (by kernel_rfl) (q_move rfl) ?_
      refine RO.quietT 8 rfl (by kernel_rfl) (q_build (cs := [(.int .i64 a.vars), (.int .i64 a.start), (.slice j.nb a.next.length j.nc), (.slice j.fb a.final.length j.fc), (.int .i64 b.vars), (.int .i64 b.start), (.slice k.nb b.next.length k.nc), (.slice k.fb b.final.length k.fc), (.slice (some ⟨qb, 0, none⟩) 1 1), (.map (some m))]) plan116 inf116 (by kernel_rfl)) ?_
      refine RO.fork [9] (by kernel_rfl) rfl ⟨⟨_, rfl, rfl, l_box (v := (.agg #[(.int .i64 a.vars), (.int .i64 a.start), (.slice j.nb a.next.length j.nc), (.slice j.fb a.final.length j.fc), (.int .i64 b.vars), (.int .i64 b.start), (.slice k.nb b.next.length k.nc), (.slice k.fb b.final.length k.fc), (.slice (some ⟨qb, 0, none⟩) 1 1), (.map (some m))])) (cs := [(.int .i64 a.vars), (.int .i64 a.start), (.slice j.nb a.next.length j.nc), (.slice j.fb a.final.length j.fc), (.int .i64 b.vars), (.int .i64 b.start), (.slice k.nb b.next.length k.nc), (.slice k.fb b.final.length k.fc), (.slice (some ⟨qb, 0, none⟩) 1 1), (.map (some m))]) rfl rfl (fun bp => ⟨by exact Sub.d (.d (.d (.k (.k (.k .z))))), ?_⟩)⟩, trivial⟩
      refine RO.quietT 10 rfl (by kernel_rfl) (q_assign rfl) ?_
      refine RO.quietT 11 rfl (by kernel_rfl) (q_assign rfl) ?_
      exact RO.fin (by kernel_rfl) ⟨bp, qb, m, rfl, ⟨rfl, rfl, rfl, rfl, rfl, rfl, rfl, rfl, rfl, trivial⟩⟩ (by exact Sub.k (.k (.k .z)))
    refine RO.quietT 7 rfl (by kernel_rfl) (q_move rfl) ?_
    refine RO.fork [3] (by kernel_rfl) rfl ⟨⟨_, rfl, rfl, l_buildSlice (m := 1) (parts := [(0, _)]) (cs := [(.int .i64 a.start), (.int .i64 b.start)]) Tryd.underlying113 inf112 (by decide) (by kernel_rfl) rfl (fun qb => ⟨by exact Sub.d (.d (.k (.k (.k .z)))), ?_⟩)⟩, trivial⟩
    refine RO.quietT 8 rfl (by kernel_rfl) (q_build (cs := [(.int .i64 a.vars), (.int .i64 a.start), (.slice j.nb a.next.length j.nc), (.slice j.fb a.final.length j.fc), (.int .i64 b.vars), (.int .i64 b.start), (.slice k.nb b.next.length k.nc), (.slice k.fb b.final.length k.fc), (.slice (some ⟨qb, 0, none⟩) 1 1), (.map (some m))]) plan116 inf116 (by kernel_rfl)) ?_
    refine RO.fork [9] (by kernel_rfl) rfl ⟨⟨_, rfl, rfl, l_box (v := (.agg #[(.int .i64 a.vars), (.int .i64 a.start), (.slice j.nb a.next.length j.nc), (.slice j.fb a.final.length j.fc), (.int .i64 b.vars), (.int .i64 b.start), (.slice k.nb b.next.length k.nc), (.slice k.fb b.final.length k.fc), (.slice (some ⟨qb, 0, none⟩) 1 1), (.map (some m))])) (cs := [(.int .i64 a.vars), (.int .i64 a.start), (.slice j.nb a.next.length j.nc), (.slice j.fb a.final.length j.fc), (.int .i64 b.vars), (.int .i64 b.start), (.slice k.nb b.next.length k.nc), (.slice k.fb b.final.length k.fc), (.slice (some ⟨qb, 0, none⟩) 1 1), (.map (some m))]) rfl rfl (fun bp => ⟨by exact Sub.d (.d (.d (.k (.k (.k .z))))), ?_⟩)⟩, trivial⟩
    refine RO.quietT 10 rfl (by kernel_rfl) (q_assign rfl) ?_
    refine RO.quietT 11 rfl (by kernel_rfl) (q_assign rfl) ?_
    exact RO.fin (by kernel_rfl) ⟨bp, qb, m, rfl, ⟨rfl, rfl, rfl, rfl, rfl, rfl, rfl, rfl, rfl, trivial⟩⟩ (by exact Sub.k (.k (.k .z)))
  rintro ρ O ⟨bp, qb, m, rfl, hH⟩
  obtain ⟨ρ0, rfl⟩ := hH.elim
  clear hH
  refine T.ret (Res.drop ?_)
  refine Res.two (.pointer (some ⟨bp, 0, none⟩)) (.int .i64 0) Tryd.results67 rfl rfl ?_
  have e1 : prs b.next.length [a.start.toNat * b.next.length + b.start.toNat] = [.int .i64 a.start, .int .i64 b.start] := by
    simp only [prs, List.flatMap_cons, List.flatMap_nil, List.append_nil, unC, hpd.1, hpd.2, ← hs1, ← hs2]
  have e2 : pmap b.next.length [a.start.toNat * b.next.length + b.start.toNat] = [((a.start, b.start), 0)] := by
    show [(un _ _, 0)] = _
    simp only [un, hpd.1, hpd.2, ← hs1, ← hs2]
  exact ⟨[oI bp 116 [(.int .i64 a.vars), (.int .i64 a.start), (.slice j.nb a.next.length j.nc), (.slice j.fb a.final.length j.fc), (.int .i64 b.vars), (.int .i64 b.start), (.slice k.nb b.next.length k.nc), (.slice k.fb b.final.length k.fc), (.slice (some ⟨qb, 0, none⟩) 1 1), (.map (some m))], rowI (some ⟨qb, 0, none⟩) 1 112 2 [(.int .i64 a.start), (.int .i64 b.start)], mapI pairV (fun n : Nat => Value.int .i64 (n : Int)) m [((a.start, b.start), (0 : Nat))]], (by exact Sub.rf), bp, qb, m, rfl, by rw [e1, e2]; rfl⟩
set_option maxHeartbeats 1000000 in
set_option maxRecDepth 20000 in
theorem pairsF (w : World) [Tab Tryd.prog w] (bp : Nat) : PureT Tryd.prog 68 [.pointer (some ⟨bp, 0, none⟩)] w fun v N => ∃ b, v = .func (.func 79) #[] #[.pointer (some ⟨b, 0, none⟩)] ∧ N = [oI b 105 [(.pointer (some ⟨bp, 0, none⟩))]] := by
  refine CallT.enter Tryd.func68 rfl Tryd.ntmps68 rfl ?_
  refine T.seq (T.region ?_)
  refine TO.loud rfl (l_box (v := (.pointer (some ⟨bp, 0, none⟩))) (cs := [(.pointer (some ⟨bp, 0, none⟩))]) rfl rfl (fun bx1 => ?_))
  refine TO.quiet (q_assign rfl) ?_
  refine TO.nil (T.seq (T.region ?_))
  refine TO.quiet (q_makeFunc) (TO.quiet (q_assign rfl) ?_)
  refine TO.nil (T.ret ?_)
  refine Res.one (.func (.func 79) #[] #[(.pointer (some ⟨bx1, 0, none⟩))]) Tryd.results68 rfl ?_
  exact ⟨bx1, rfl, rfl⟩
set_option maxHeartbeats 1000000 in
set_option maxRecDepth 20000 in
theorem pvHit (base : World) [Tab Tryd.prog base] (a b : DFA) (j k : DK) (bp m : Nat) (ks : List Nat) (c : Nat) (qb : Option Addr) (qc : Nat) (hk : c ∈ ks) (hl : ks.length ≤ 17000000) :
    CallT Tryd.prog base 80 [.pointer (some ⟨bp, 0, none⟩), (.agg #[.int .i64 ((c / b.next.length : Nat) : Int), .int .i64 ((c % b.next.length : Nat) : Int)])] [oI bp 116 [(.int .i64 a.vars), (.int .i64 a.start), (.slice j.nb a.next.length j.nc), (.slice j.fb a.final.length j.fc), (.int .i64 b.vars), (.int .i64 b.start), (.slice k.nb b.next.length k.nc), (.slice k.fb b.final.length k.fc), (.slice qb ks.length qc), (.map (some m))], rowI qb qc 112 2 (prs b.next.length ks), mapI pairV (fun n : Nat => Value.int .i64 (n : Int)) m (pmap b.next.length ks)] (fun v O' => v = .int .i64 ((ix c (add ks c) : Nat) : Int) ∧ ∃ qb' qc', O' = [oI bp 116 [(.int .i64 a.vars), (.int .i64 a.start), (.slice j.nb a.next.length j.nc), (.slice j.fb a.final.length j.fc), (.int .i64 b.vars), (.int .i64 b.start), (.slice k.nb b.next.length k.nc), (.slice k.fb b.final.length k.fc), (.slice qb' ((add ks c).length) qc'), (.map (some m))], rowI qb' qc' 112 2 (prs b.next.length (add ks c)), mapI pairV (fun n : Nat => Value.int .i64 (n : Int)) m (pmap b.next.length (add ks c))]) := by
  refine CallT.enter Tryd.func80 rfl Tryd.ntmps80 rfl ?_
  refine T.seq (T.region ?_)
  refine TO.loud rfl (l_box (v := (.agg #[.int .i64 ((c / b.next.length : Nat) : Int), .int .i64 ((c % b.next.length : Nat) : Int)])) (cs := [.int .i64 ((c / b.next.length : Nat) : Int), .int .i64 ((c % b.next.length : Nat) : Int)]) rfl rfl (fun bx1 => ?_))
  refine TO.quiet (q_assign rfl) ?_
  refine TO.nil (T.seq ?_)
  refine T.draws [oI bx1 112 [.int .i64 ((c / b.next.length : Nat) : Int), .int .i64 ((c % b.next.length : Nat) : Int)], oI bp 116 [(.int .i64 a.vars), (.int .i64 a.start), (.slice j.nb a.next.length j.nc), (.slice j.fb a.final.length j.fc), (.int .i64 b.vars), (.int .i64 b.start), (.slice k.nb b.next.length k.nc), (.slice k.fb b.final.length k.fc), (.slice qb ks.length qc), (.map (some m))], rowI qb qc 112 2 (prs b.next.length ks), mapI pairV (fun n : Nat => Value.int .i64 (n : Int)) m (pmap b.next.length ks)] [(0, 0), (1, 0), (2, 0), (3, 0), (4, 0), (5, 0), (6, 0), (7, 0), (8, 0), (9, 0), (10, 0)] mixed (by kernel_rfl) (by exact Sub.rf) (fun _ _ _ h => h) ?_
  refine DO.quiet rfl (q_move rfl) (DO.quiet rfl (q_nilCheck rfl) (DO.quiet rfl (q_fieldAddr Tryd.underlying116 rfl inf114 rfl rfl) (DO.quiet rfl (q_load_box 1 Tryd.underlying114 rfl rfl rfl rfl) ?_)))
  refine DO.quiet rfl (q_load_boxAgg 0 Tryd.underlying112 rfl inf112 rfl rfl rfl) (DO.quiet rfl (QT.cast (q_lookupOk (a := un b.next.length c) Tryd.underlying114 inf3 (KeyOk.pair pairT) rfl rfl (List.mem_of_getElem? (i := 3) rfl)) (v' := (.tuple #[.int .i64 ((ix c ks : Nat) : Int), .bool true])) (by rw [look_zip]; simp only [un_mem, hk, if_true, if_false, un_ix, Nat.zero_add]; rfl)) (DO.quiet rfl (q_move rfl) (DO.quiet rfl (q_extract (vs := _) rfl rfl) ?_)))
  refine DO.quiet rfl (q_extract (vs := _) rfl rfl) (DO.quiet rfl (q_assign rfl) (DO.quiet rfl (q_assign rfl) ?_))
  refine DO.done ?_
  refine T.seq (T.seq (T.region ?_))
  refine TO.quiet (q_move rfl) (TO.quiet (q_not rfl) ?_)
  refine TO.nil ?_
  refine T.cond0 rfl ?_
  refine T.skip (T.seq (T.region ?_))
  refine TO.quiet (q_move rfl) (TO.quiet (q_assign rfl) ?_)
  refine TO.nil (T.ret (Res.drop ?_))
  refine Res.one (.int .i64 ((ix c ks : Nat) : Int)) Tryd.results80 rfl ?_
  have ha : add ks c = ks := if_pos hk
  rw [ha]
  exact ⟨[oI bp 116 [(.int .i64 a.vars), (.int .i64 a.start), (.slice j.nb a.next.length j.nc), (.slice j.fb a.final.length j.fc), (.int .i64 b.vars), (.int .i64 b.start), (.slice k.nb b.next.length k.nc), (.slice k.fb b.final.length k.fc), (.slice qb ks.length qc), (.map (some m))], rowI qb qc 112 2 (prs b.next.length ks), mapI pairV (fun n : Nat => Value.int .i64 (n : Int)) m (pmap b.next.length ks)], (by exact Sub.d (.k (.k (.k .z)))), rfl, qb, qc, rfl⟩
set_option maxHeartbeats 1000000 in
set_option maxRecDepth 20000 in
theorem pvNew (base : World) [Tab Tryd.prog base] (a b : DFA) (j k : DK) (bp m : Nat) (ks : List Nat) (c : Nat) (qb : Option Addr) (qc : Nat) (hk : c ∉ ks) (hl : ks.length ≤ 17000000) :
    CallT Tryd.prog base 80 [.pointer (some ⟨bp, 0, none⟩), (.agg #[.int .i64 ((c / b.next.length : Nat) : Int), .int .i64 ((c % b.next.length : Nat) : Int)])] [oI bp 116 [(.int .i64 a.vars), (.int .i64 a.start), (.slice j.nb a.next.length j.nc), (.slice j.fb a.final.length j.fc), (.int .i64 b.vars), (.int .i64 b.start), (.slice k.nb b.next.length k.nc), (.slice k.fb b.final.length k.fc), (.slice qb ks.length qc), (.map (some m))], rowI qb qc 112 2 (prs b.next.length ks), mapI pairV (fun n : Nat => Value.int .i64 (n : Int)) m (pmap b.next.length ks)] (fun v O' => v = .int .i64 ((ix c (add ks c) : Nat) : Int) ∧ ∃ qb' qc', O' = [oI bp 116 [(.int .i64 a.vars), (.int .i64 a.start), (.slice j.nb a.next.length j.nc), (.slice j.fb a.final.length j.fc), (.int .i64 b.vars), (.int .i64 b.start), (.slice k.nb b.next.length k.nc), (.slice k.fb b.final.length k.fc), (.slice qb' ((add ks c).length) qc'), (.map (some m))], rowI qb' qc' 112 2 (prs b.next.length (add ks c)), mapI pairV (fun n : Nat => Value.int .i64 (n : Int)) m (pmap b.next.length (add ks c))]) := by
  refine CallT.enter Tryd.func80 rfl Tryd.ntmps80 rfl ?_
  refine T.seq (T.region ?_)
  refine TO.loud rfl (l_box (v := (.agg #[.int .i64 ((c / b.next.length : Nat) : Int), .int .i64 ((c % b.next.length : Nat) : Int)])) (cs := [.int .i64 ((c / b.next.length : Nat) : Int), .int .i64 ((c % b.next.length : Nat) : Int)]) rfl rfl (fun bx1 => ?_))
  refine TO.quiet (q_assign rfl) ?_
  refine TO.nil (T.seq ?_)
  refine T.draws [oI bx1 112 [.int .i64 ((c / b.next.length : Nat) : Int), .int .i64 ((c % b.next.length : Nat) : Int)], oI bp 116 [(.int .i64 a.vars), (.int .i64 a.start), (.slice j.nb a.next.length j.nc), (.slice j.fb a.final.length j.fc), (.int .i64 b.vars), (.int .i64 b.start), (.slice k.nb b.next.length k.nc), (.slice k.fb b.final.length k.fc), (.slice qb ks.length qc), (.map (some m))], rowI qb qc 112 2 (prs b.next.length ks), mapI pairV (fun n : Nat => Value.int .i64 (n : Int)) m (pmap b.next.length ks)] [(0, 0), (1, 0), (2, 0), (3, 0), (4, 0), (5, 0), (6, 0), (7, 0), (8, 0), (9, 0), (10, 0)] mixed (by kernel_rfl) (by exact Sub.rf) (fun _ _ _ h => h) ?_
  refine DO.quiet rfl (q_move rfl) (DO.quiet rfl (q_nilCheck rfl) (DO.quiet rfl (q_fieldAddr Tryd.underlying116 rfl inf114 rfl rfl) (DO.quiet rfl (q_load_box 1 Tryd.underlying114 rfl rfl rfl rfl) ?_)))
  refine DO.quiet rfl (q_load_boxAgg 0 Tryd.underlying112 rfl inf112 rfl rfl rfl) (DO.quiet rfl (QT.cast (q_lookupOk (a := un b.next.length c) Tryd.underlying114 inf3 (KeyOk.pair pairT) rfl rfl (List.mem_of_getElem? (i := 3) rfl)) (v' := (.tuple #[.int .i64 0, .bool false])) (by rw [look_zip]; simp only [un_mem, hk, if_true, if_false, un_ix, Nat.zero_add]; rfl)) (DO.quiet rfl (q_move rfl) (DO.quiet rfl (q_extract (vs := _) rfl rfl) ?_)))
  refine DO.quiet rfl (q_extract (vs := _) rfl rfl) (DO.quiet rfl (q_assign rfl) (DO.quiet rfl (q_assign rfl) ?_))
  refine DO.done ?_
  refine T.seq (T.seq (T.region ?_))
  refine TO.quiet (q_move rfl) (TO.quiet (q_not rfl) ?_)
  refine TO.nil ?_
  refine T.cond1 rfl ?_
  refine T.seq (T.region ?_)
  refine TO.quiet (q_move rfl) (TO.quiet (q_nilCheck rfl) (TO.quiet (q_fieldAddr Tryd.underlying116 rfl inf113 rfl rfl) (TO.quiet (q_load_box 1 Tryd.underlying113 rfl rfl rfl rfl) ?_)))
  refine TO.quiet (q_len Tryd.underlying113 rfl) (TO.quiet (q_assign rfl) ?_)
  refine TO.nil (T.seq ?_)
  refine T.draws [oI bx1 112 [.int .i64 ((c / b.next.length : Nat) : Int), .int .i64 ((c % b.next.length : Nat) : Int)], oI bp 116 [(.int .i64 a.vars), (.int .i64 a.start), (.slice j.nb a.next.length j.nc), (.slice j.fb a.final.length j.fc), (.int .i64 b.vars), (.int .i64 b.start), (.slice k.nb b.next.length k.nc), (.slice k.fb b.final.length k.fc), (.slice qb ks.length qc), (.map (some m))], rowI qb qc 112 2 (prs b.next.length ks), mapI pairV (fun n : Nat => Value.int .i64 (n : Int)) m (pmap b.next.length ks)] [(0, 0), (1, 0), (2, 0), (3, 0), (4, 0), (5, 0), (6, 2)] mixed (by kernel_rfl) (by exact Sub.rf) (fun _ _ _ h => h) ?_
  refine DO.quiet rfl (q_move rfl) (DO.quiet rfl (q_nilCheck rfl) (DO.quiet rfl (q_fieldAddr Tryd.underlying116 rfl inf114 rfl rfl) (DO.quiet rfl (q_load_box 1 Tryd.underlying114 rfl rfl rfl rfl) ?_)))
  refine DO.quiet rfl (q_load_boxAgg 0 Tryd.underlying112 rfl inf112 rfl rfl rfl) (DO.quiet rfl (q_move rfl) ?_)
  refine DO.last rfl rfl (l_mapPut (a := un b.next.length c) (v := ks.length) 3 Tryd.underlying114 (KeyOk.pair pairT) rfl rfl rfl rfl (by rw [pmap_fst, un_mem]; exact hk) ?_)
  refine DO.done ?_
  refine T.draws [oI bx1 112 [.int .i64 ((c / b.next.length : Nat) : Int), .int .i64 ((c % b.next.length : Nat) : Int)], oI bp 116 [(.int .i64 a.vars), (.int .i64 a.start), (.slice j.nb a.next.length j.nc), (.slice j.fb a.final.length j.fc), (.int .i64 b.vars), (.int .i64 b.start), (.slice k.nb b.next.length k.nc), (.slice k.fb b.final.length k.fc), (.slice qb ks.length qc), (.map (some m))], mapI pairV (fun n : Nat => Value.int .i64 (n : Int)) m ((pmap b.next.length ks) ++ [(un b.next.length c, ks.length)])] [(0, 0), (1, 0), (2, 0), (3, 0), (4, 0), (5, 0), (6, 1), (7, 1), (8, 0), (9, 0), (10, 2)] mixed (by kernel_rfl) (by exact Sub.k (.k (.d (.k .z)))) (fun _ _ _ h => h) ?_
  refine DO.quiet rfl (q_move rfl) (DO.quiet rfl (q_move rfl) (DO.quiet rfl (q_nilCheck rfl) (DO.quiet rfl (q_fieldAddr Tryd.underlying116 rfl inf113 rfl rfl) ?_)))
  refine DO.quiet rfl (q_load_box 1 Tryd.underlying113 rfl rfl rfl rfl) (DO.quiet rfl (q_load_boxAgg 0 Tryd.underlying112 rfl inf112 rfl rfl rfl) ?_)
  refine DO.loud rfl rfl (l_buildSlice (m := 1) (parts := [(0, _)]) (cs := [.int .i64 ((c / b.next.length : Nat) : Int), .int .i64 ((c % b.next.length : Nat) : Int)]) Tryd.underlying113 inf112 (by decide) (by kernel_rfl) rfl (fun bx2 => ⟨by exact Sub.d (.k (.k (.d (.k .z)))), ?_⟩))
  refine DO.loud rfl rfl (l_append 3 Tryd.underlying113 Tryd.underlying113 inf112 rfl rfl rfl rfl (by rw [prs_len]) (by decide) (Src.row (j := 0) rfl (by simp)) (by simp [oneB]) (by omega) (by decide) (by decide) (fun bx3 c4 => ⟨by exact Sub.d (.k (.k (.d (.k .z)))), ?_⟩))
  refine DO.quiet rfl (q_nilCheck rfl) (DO.quiet rfl (q_fieldAddr Tryd.underlying116 rfl inf113 rfl rfl) ?_)
  refine DO.last rfl rfl (l_store_box (v := (.slice bx3 (ks.length + 1) c4)) (vs := [(.slice bx3 (ks.length + 1) c4)]) 2 inf113 rfl rfl rfl rfl rfl rfl (by simp [putL]) ?_)
  refine DO.done ?_
  refine T.seq (T.region ?_)
  refine TO.quiet (q_move rfl) (TO.quiet (q_assign rfl) ?_)
  refine TO.nil (T.ret (Res.drop ?_))
  refine Res.one (.int .i64 (ks.length : Int)) Tryd.results80 rfl ?_
  have ha : add ks c = ks ++ [c] := if_neg hk
  rw [ha]
  exact ⟨[oI bp 116 [(.int .i64 a.vars), (.int .i64 a.start), (.slice j.nb a.next.length j.nc), (.slice j.fb a.final.length j.fc), (.int .i64 b.vars), (.int .i64 b.start), (.slice k.nb b.next.length k.nc), (.slice k.fb b.final.length k.fc), (.slice bx3 (ks.length + 1) c4), (.map (some m))], rowI bx3 c4 112 2 ((prs b.next.length ks) ++ [.int .i64 ((c / b.next.length : Nat) : Int), .int .i64 ((c % b.next.length : Nat) : Int)]), mapI pairV (fun n : Nat => Value.int .i64 (n : Int)) m ((pmap b.next.length ks) ++ [(un b.next.length c, ks.length)])], (by exact Sub.d (.d (.k (.k (.k .z))))), by rw [ix_append_right hk]; simp [ix], _, _, by rw [prs_snoc, pmap_snoc, List.length_append]; rfl⟩
theorem pvC (base : World) [Tab Tryd.prog base] (a b : DFA) (j k : DK) (bp m : Nat) (ks : List Nat) (c : Nat) (qb : Option Addr) (qc : Nat) (hl : ks.length ≤ 17000000) :
    CallT Tryd.prog base 80 [.pointer (some ⟨bp, 0, none⟩), (.agg #[.int .i64 ((c / b.next.length : Nat) : Int), .int .i64 ((c % b.next.length : Nat) : Int)])] [objI bp (.cells (List.toArray [(.int .i64 a.vars), (.int .i64 a.start), (.slice j.nb a.next.length j.nc), (.slice j.fb a.final.length j.fc), (.int .i64 b.vars), (.int .i64 b.start), (.slice k.nb b.next.length k.nc), (.slice k.fb b.final.length k.fc), (.slice qb ks.length qc), (.map (some m))]) 116 (0, 0)), rowI qb qc 112 2 (prs b.next.length ks), mapI pairV (fun n : Nat => Value.int .i64 (n : Int)) m (pmap b.next.length ks)] (fun v O' => v = .int .i64 ((ix c (add ks c) : Nat) : Int) ∧ ∃ qb' qc', O' = [objI bp (.cells (List.toArray [(.int .i64 a.vars), (.int .i64 a.start), (.slice j.nb a.next.length j.nc), (.slice j.fb a.final.length j.fc), (.int .i64 b.vars), (.int .i64 b.start), (.slice k.nb b.next.length k.nc), (.slice k.fb b.final.length k.fc), (.slice qb' ((add ks c).length) qc'), (.map (some m))]) 116 (0, 0)), rowI qb' qc' 112 2 (prs b.next.length (add ks c)), mapI pairV (fun n : Nat => Value.int .i64 (n : Int)) m (pmap b.next.length (add ks c))]) := by
  by_cases hk : c ∈ ks
  · exact pvHit base a b j k bp m ks c qb qc hk hl
  · exact pvNew base a b j k bp m ks c qb qc hk hl
end Go.Proofs.YtnpehjpookcfkaaDoor

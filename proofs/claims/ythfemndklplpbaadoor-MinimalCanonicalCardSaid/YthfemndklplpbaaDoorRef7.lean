/- Contracts of functions of the program (Ref7): what each call answers and that it leaves memory as it was. Conditions: those each theorem names. -/
import Derived.Test.YthfemndklplpbaaDoorCheck
import Derived.Test.YthfemndklplpbaaDoorOrd
set_option linter.unusedSectionVars false
set_option linter.unusedSimpArgs false
set_option linter.unusedVariables false
set_option linter.unnecessarySimpa false
namespace Go.Proofs.YthfemndklplpbaaDoor
open Go.Lx Go.RowKit
set_option linter.unusedVariables false
set_option linter.unusedSimpArgs false

theorem hasNat (w : World) (b : Option Addr) (c : Nat) (xs : List Nat) (x m : Nat) (hm : m = xs.length) (h : Sl w b (nats xs)) (hb : xs.length < 9223372036854775807) : PureT Tryd.prog 68 [.slice b m c, .int .i64 (x : Int)] w fun v N => v = .bool (decide (x ∈ xs)) ∧ N = [] := by
  subst hm
  have h1 := hasInt w b c (xs.map fun x : Nat => (x : Int)) x (by simpa [Function.comp_def] using h) (by simpa using hb)
  have e : decide ((x : Int) ∈ xs.map fun x : Nat => (x : Int)) = decide (x ∈ xs) := by
    apply decide_eq_decide.2
    simp only [List.mem_map]
    constructor
    · rintro ⟨y, hy, e⟩
      have : y = x := by omega
      exact this ▸ hy
    · exact fun h => ⟨x, h, rfl⟩
  rw [e, List.length_map] at h1
  exact h1

set_option maxHeartbeats 1000000 in
set_option maxRecDepth 20000 in
theorem numberC (w : World) (b : Option Addr) (c : Nat) (xs : List Nat) (x m : Nat) (hm : m = xs.length) (h : Sl w b (nats xs)) (hb : xs.length < 9223372036854775807) (hx : x ∈ xs) : PureT Tryd.prog 59 [.slice b m c, .int .i64 (x : Int)] w fun v N => v = .int .i64 ((ix x xs : Nat) : Int) ∧ N = [] := by
  refine CallT.enter Tryd.func59 rfl Tryd.ntmps59 rfl ?_
  have hix := ix_lt hx
  have hixg := ix_get hx
  refine T.seq ?_
  refine T.region ?_
  refine TO.quiet (q_assign rfl) ?_
  refine TO.nil ?_
  refine T.seq ?_
  refine T.region ?_
  refine TO.quiet (q_assign rfl) ?_
  refine TO.nil ?_
  refine T.seq ?_
  refine T.block ?_
  refine T.loop (fun (k : Nat) ρ O => O = [] ∧ k ≤ ix x xs ∧ Heads [(0, (.slice b m c)), (1, .int .i64 (x : Int)), (4, .int .i64 0), (5, .int .i64 (k : Int))] ρ) (fun k => xs.length - k) 0 ?_ ?_
  · exact ⟨rfl, Nat.zero_le _, ⟨rfl, rfl, rfl, rfl, trivial⟩⟩
  · rintro k ρ O ⟨rfl, hk, hH⟩
    obtain ⟨ρ0, rfl⟩ := hH.elim
    clear hH
    have hk9 : k < xs.length := by omega
    refine T.seq ?_
    refine T.seq ?_
    refine T.region ?_
    refine TO.quiet (q_move rfl) ?_
    refine TO.quiet (q_move rfl) ?_
    refine TO.quiet (q_ix (i := k) Tryd.underlying33 inf3 rfl rfl (Sl.o h) (by omega) (by rw [List.length_map]; omega)) ?_
    refine TO.quiet (q_ld Tryd.underlying3 rfl rfl (Sl.o h) (nats_get hk9)) ?_
    refine TO.quiet (q_move rfl) ?_
    refine TO.quiet (q_neq rfl rfl) ?_
    refine TO.nil ?_
    refine T.condP (p := ¬ xs[k] = x) (congrArg Value.bool (decide_eq_decide.2 (by omega))) (fun hc => ?_) (fun hc => ?_)
    · have hlt11 : xs[k] ≠ x := by omega
      have hne : k ≠ ix x xs := fun e => hc (by subst e; exact Option.some.inj (by rw [← hixg, List.getElem?_eq_getElem hk9]))
      refine T.skip ?_
      refine T.block ?_
      refine T.region ?_
      refine TO.quiet (q_move rfl) ?_
      refine TO.quiet (q_inc rfl rfl (by omega)) ?_
      refine TO.quiet (q_assign rfl) ?_
      refine TO.nil ?_
      exact ⟨k + 1, by omega, rfl, by omega, ⟨rfl, rfl, rfl, rfl, trivial⟩⟩
    · have hge11 : ¬ xs[k] ≠ x := by omega
      refine T.exit ?_
      refine T.seq ?_
      refine T.region ?_
      refine TO.quiet (q_move rfl) ?_
      refine TO.quiet (q_assign rfl) ?_
      refine TO.nil ?_
      refine T.ret ?_
      refine Res.one (.int .i64 (k : Int)) Tryd.results59 rfl ?_
      have hle := ix_le (List.getElem?_eq_some_iff.2 ⟨hk9, Classical.not_not.1 hc⟩)
      exact ⟨by rw [show k = ix x xs by omega], rfl⟩

set_option maxHeartbeats 1000000 in
set_option maxRecDepth 20000 in
theorem orderC (w : World) (d : DFA) (nb fb : Option Addr) (nc fc : Nat) (vs : List Value) (h : DfaAt w d nb vs fb) (hv : Valid d) (hn : d.next.length < 100) :
    PureT Tryd.prog 58 [.agg (dfaCells d nb nc fb fc).toArray] w fun v N => ∃ b c, v = .slice b (order d).length c ∧ N = [rowI b c 3 1 (nats (order d))] := by
  refine CallT.enter Tryd.func58 rfl Tryd.ntmps58 rfl ?_
  have hs0 := hv.s0
  have hvl := h.rows.1
  have hww := hv.width
  refine T.seq ?_
  refine T.region ?_
  refine TO.loud rfl (l_box (v := (.agg #[(.int .i64 d.vars), (.int .i64 d.start), (.slice nb d.next.length nc), (.slice fb d.final.length fc)])) (cs := [(.int .i64 d.vars), (.int .i64 d.start), (.slice nb d.next.length nc), (.slice fb d.final.length fc)]) rfl rfl (fun z1 => ?_))
  refine TO.quiet (q_assign rfl) ?_
  refine TO.nil ?_
  refine T.seq ?_
  refine T.region ?_
  refine TO.quiet (q_fieldAddr Tryd.underlying25 rfl inf3 rfl rfl) ?_
  refine TO.quiet (q_load_box 0 Tryd.underlying3 rfl rfl rfl rfl) ?_
  refine TO.loud rfl (l_build1 (v := (.int .i64 d.start)) Tryd.underlying33 inf3 rfl rfl rfl (fun z2 => ?_))
  refine TO.quiet (q_assign rfl) ?_
  refine TO.nil ?_
  refine T.seq ?_
  refine T.seq ?_
  refine T.region ?_
  refine TO.quiet (q_assign rfl) ?_
  refine TO.nil ?_
  refine T.block ?_
  refine T.loop (fun (i : Nat) ρ O => ∃ (lb : Option Addr) (lc m : Nat), O = [rowI lb lc 3 1 (nats (bfsN d i)), objI z1 (.cells (List.toArray [(.int .i64 d.vars), (.int .i64 d.start), (.slice nb d.next.length nc), (.slice fb d.final.length fc)]) 25 (0, 0))] ∧ m = (bfsN d i).length ∧ i ≤ m ∧ Heads [(0, (.agg #[(.int .i64 d.vars), (.int .i64 d.start), (.slice nb d.next.length nc), (.slice fb d.final.length fc)])), (1, (.pointer (some ⟨z1, 0, none⟩))), (2, (.slice none 0 0)), (3, (.slice lb m lc)), (4, .int .i64 (i : Int))] ρ) (fun i => d.next.length - i) 0 ?_ ?_
  · exact ⟨_, _, 1, by rw [show nats (bfsN d 0) = [.int .i64 d.start] by simp [bfsN, Int.toNat_of_nonneg hs0]], rfl, Nat.zero_le _, ⟨rfl, rfl, rfl, rfl, rfl, trivial⟩⟩
  · rintro i ρ O ⟨lb, lc, m, rfl, hm, him, hH⟩
    obtain ⟨ρ0, rfl⟩ := hH.elim
    clear hH
    have hlen := bfsN_len hv i
    refine T.seq ?_
    refine T.seq ?_
    refine T.region ?_
    refine TO.quiet (q_move rfl) ?_
    refine TO.quiet (q_move rfl) ?_
    refine TO.quiet (q_len Tryd.underlying33 rfl) ?_
    refine TO.quiet (q_lss rfl rfl) ?_
    refine TO.nil ?_
    refine T.condP rfl (fun hc => ?_) (fun hc => ?_)
    · have hlt13 : i < m := by omega
      obtain ⟨o, ho⟩ : ∃ o, (bfsN d i)[i]? = some o := ⟨_, List.getElem?_eq_getElem (show i < (bfsN d i).length by omega)⟩
      have ho9 := (bfsN_ok hv i).2 o (List.mem_of_getElem? ho)
      obtain ⟨vb, vc, g1, s1⟩ := h.rows.get ho9
      have hl1 : d.next[o].length = 2 ^ d.vars.toNat := hv.len _ (List.getElem_mem ho9)
      refine T.skip ?_
      refine T.seq ?_
      refine T.block ?_
      refine T.seq ?_
      refine T.draws _ [(0, 0), (1, 0), (2, 0), (3, 0), (4, 0), (5, 0), (6, 0), (7, 0), (8, 0)] mixed (by kernel_rfl) (Sub.of (List.Sublist.refl _)) (fun _ _ _ h => h) ?_
      refine DO.quiet rfl (q_fieldAddr Tryd.underlying25 rfl inf22 rfl rfl) ?_
      refine DO.quiet rfl (q_load_box 1 Tryd.underlying22 rfl rfl rfl rfl) ?_
      refine DO.quiet rfl (q_move rfl) ?_
      refine DO.quiet rfl (q_move rfl) ?_
      refine DO.quiet rfl (q_ix (i := i) Tryd.underlying33 inf3 rfl rfl (rowO (List.mem_of_getElem? (i := 0) rfl)) (by omega) (by rw [List.length_map]; omega)) ?_
      refine DO.quiet rfl (q_ld Tryd.underlying3 rfl rfl (rowO (List.mem_of_getElem? (i := 0) rfl)) (show (nats (bfsN d i))[i]? = some (.int .i64 ((o : Nat) : Int)) by rw [List.getElem?_map, ho]; rfl)) ?_
      refine DO.quiet rfl (q_ix (i := o) Tryd.underlying22 inf33 rfl rfl (Sl.o h.outer) ho9 (hvl ▸ ho9)) ?_
      refine DO.quiet rfl (q_ld Tryd.underlying33 rfl rfl (Sl.o h.outer) g1) ?_
      refine DO.quiet rfl (q_assign rfl) ?_
      refine DO.done ?_
      refine T.seq ?_
      refine T.region ?_
      refine TO.quiet (q_assign rfl) ?_
      refine TO.nil ?_
      refine T.block ?_
      refine T.loop (fun (x : Nat) ρ O => ∃ (lb : Option Addr) (lc m2 : Nat), O = [rowI lb lc 3 1 (nats (bfsM d i o x)), objI z1 (.cells (List.toArray [(.int .i64 d.vars), (.int .i64 d.start), (.slice nb d.next.length nc), (.slice fb d.final.length fc)]) 25 (0, 0))] ∧ x ≤ 2 ^ d.vars.toNat ∧ m2 = (bfsM d i o x).length ∧ Heads [(0, (.agg #[(.int .i64 d.vars), (.int .i64 d.start), (.slice nb d.next.length nc), (.slice fb d.final.length fc)])), (1, (.pointer (some ⟨z1, 0, none⟩))), (2, (.slice none 0 0)), (3, (.slice lb m2 lc)), (4, .int .i64 (i : Int)), (5, (.slice vb d.next[o].length vc)), (6, .int .i64 (x : Int))] ρ) (fun x => 2 ^ d.vars.toNat - x) 0 ?_ ?_
      · exact ⟨lb, lc, m, rfl, Nat.zero_le _, hm, ⟨rfl, rfl, rfl, rfl, rfl, rfl, rfl, trivial⟩⟩
      · rintro x ρ O ⟨lb, lc, m2, rfl, hx, hm2, hH⟩
        obtain ⟨ρ0, rfl⟩ := hH.elim
        clear hH
        obtain ⟨hml1, hml2⟩ := bfsM_len (i := i) hv ho9 hx
        refine T.seq ?_
        refine T.seq ?_
        refine T.region ?_
        refine TO.quiet (q_move rfl) ?_
        refine TO.quiet (q_move rfl) ?_
        refine TO.quiet (q_len Tryd.underlying33 rfl) ?_
        refine TO.quiet (q_lss rfl rfl) ?_
        refine TO.nil ?_
        refine T.condP rfl (fun hc => ?_) (fun hc => ?_)
        · have hlt27 : x < d.next[o].length := by omega
          have hlx : x < 2 ^ d.vars.toNat := by omega
          obtain ⟨hta, _, hxk1, hx1⟩ := hv.toN_lt ho9 hlx
          have hx1 : (ints d.next[o])[x]? = some (.int .i64 ((toN d o x : Nat) : Int)) := by rw [ints_get hxk1, hx1]
          refine T.skip ?_
          refine T.seq ?_
          refine T.block ?_
          refine T.seq ?_
          refine T.region ?_
          refine TO.quiet (q_move rfl) ?_
          refine TO.quiet (q_move rfl) ?_
          refine TO.quiet (q_move rfl) ?_
          refine TO.quiet (q_ix (i := x) Tryd.underlying33 inf3 rfl rfl (Sl.o s1) (by rw [hl1]; exact hlx) (by rw [List.length_map, hl1]; exact hlx)) ?_
          refine TO.quiet (q_ld Tryd.underlying3 rfl rfl (Sl.o s1) hx1) ?_
          by_cases hin : toN d o x ∈ bfsM d i o x
          · have hk35 := fun (w1 : World) (hI : Inv w [rowI lb lc 3 1 (nats (bfsM d i o x)), objI z1 (.cells (List.toArray [(.int .i64 d.vars), (.int .i64 d.start), (.slice nb d.next.length nc), (.slice fb d.final.length fc)]) 25 (0, 0))] w1) => hasNat w1 lb lc (bfsM d i o x) (toN d o x) m2 hm2 (hI.slOf (List.mem_of_getElem? (i := 0) rfl)) (by omega)
            refine TO.loud rfl (l_call ent68 (CallT.of_pure hk35) rfl ?_)
            clear hk35
            rintro v O' ⟨N, rfl, rfl, rfl⟩
            rw [decide_eq_true hin]
            refine TO.quiet (q_not rfl) ?_
            refine TO.nil ?_
            refine T.cond0 rfl ?_
            refine T.skip ?_
            refine T.region ?_
            refine TO.quiet (q_move rfl) ?_
            refine TO.quiet (q_inc rfl rfl (by omega)) ?_
            refine TO.quiet (q_assign rfl) ?_
            refine TO.sub (O' := [rowI lb lc 3 1 (nats (bfsM d i o x)), objI z1 (.cells (List.toArray [(.int .i64 d.vars), (.int .i64 d.start), (.slice nb d.next.length nc), (.slice fb d.final.length fc)]) 25 (0, 0))]) (Sub.pick [0, 0] rfl) ?_
            refine TO.nil ?_
            have hst : bfsM d i o (x + 1) = bfsM d i o x := by rw [bfsM_step, add, if_pos hin]
            exact ⟨x + 1, by omega, lb, lc, m2, by rw [hst], by omega, by rw [hst]; exact hm2, ⟨rfl, rfl, rfl, rfl, rfl, rfl, rfl, trivial⟩⟩
          · have hk35 := fun (w1 : World) (hI : Inv w [rowI lb lc 3 1 (nats (bfsM d i o x)), objI z1 (.cells (List.toArray [(.int .i64 d.vars), (.int .i64 d.start), (.slice nb d.next.length nc), (.slice fb d.final.length fc)]) 25 (0, 0))] w1) => hasNat w1 lb lc (bfsM d i o x) (toN d o x) m2 hm2 (hI.slOf (List.mem_of_getElem? (i := 0) rfl)) (by omega)
            refine TO.loud rfl (l_call ent68 (CallT.of_pure hk35) rfl ?_)
            clear hk35
            rintro v O' ⟨N, rfl, rfl, rfl⟩
            rw [decide_eq_false hin]
            refine TO.quiet (q_not rfl) ?_
            refine TO.nil ?_
            refine T.cond1 rfl ?_
            refine T.region ?_
            refine TO.quiet (q_move rfl) ?_
            refine TO.quiet (q_move rfl) ?_
            refine TO.quiet (q_move rfl) ?_
            refine TO.quiet (q_ix (i := x) Tryd.underlying33 inf3 rfl rfl (Sl.o s1) (by rw [hl1]; exact hlx) (by rw [List.length_map, hl1]; exact hlx)) ?_
            refine TO.quiet (q_ld Tryd.underlying3 rfl rfl (Sl.o s1) hx1) ?_
            refine TO.loud rfl (l_build1 (v := .int .i64 ((toN d o x : Nat) : Int)) Tryd.underlying33 inf3 rfl rfl rfl (fun z3 => ?_))
            refine TO.loud rfl (l_append 1 Tryd.underlying33 Tryd.underlying33 inf3 rfl rfl rfl rfl (by rw [List.length_map, hm2, Nat.mul_one]) (by decide) (Src.row (j := 0) rfl (by simp)) (by simp [oneB]) (by omega) (by decide) (by decide) (fun z4 zc5 => ?_))
            refine TO.quiet (q_assign rfl) ?_
            refine TO.nil ?_
            refine T.region ?_
            refine TO.quiet (q_move rfl) ?_
            refine TO.quiet (q_inc rfl rfl (by omega)) ?_
            refine TO.quiet (q_assign rfl) ?_
            refine TO.sub (O' := [rowI z4 zc5 3 1 ((nats (bfsM d i o x)) ++ [.int .i64 ((toN d o x : Nat) : Int)]), objI z1 (.cells (List.toArray [(.int .i64 d.vars), (.int .i64 d.start), (.slice nb d.next.length nc), (.slice fb d.final.length fc)]) 25 (0, 0))]) (Sub.pick [1, 1] rfl) ?_
            refine TO.nil ?_
            have hst : bfsM d i o (x + 1) = bfsM d i o x ++ [toN d o x] := by rw [bfsM_step, add, if_neg hin]
            exact ⟨x + 1, by omega, z4, zc5, m2 + 1, by rw [hst, show nats (bfsM d i o x ++ [toN d o x]) = nats (bfsM d i o x) ++ [.int .i64 ((toN d o x : Nat) : Int)] from List.map_append], by omega, by rw [hst]; simp [hm2], ⟨rfl, rfl, rfl, rfl, rfl, rfl, rfl, trivial⟩⟩
        · have hge27 : ¬ x < d.next[o].length := by omega
          refine T.exit ?_
          refine T.region ?_
          refine TO.quiet (q_move rfl) ?_
          refine TO.quiet (q_inc rfl rfl (by omega)) ?_
          refine TO.quiet (q_assign rfl) ?_
          refine TO.nil ?_
          have hxe : x = 2 ^ d.vars.toNat := by omega
          have hbs : bfsM d i o x = bfsN d (i + 1) := by rw [bfsN_succ ho, hxe]; rfl
          exact ⟨i + 1, by omega, lb, lc, m2, by rw [hbs], by rw [← hbs]; exact hm2, by omega, ⟨rfl, rfl, rfl, rfl, rfl, trivial⟩⟩
    · have hge13 : ¬ i < m := by omega
      refine T.exit ?_
      refine T.seq ?_
      refine T.region ?_
      refine TO.quiet (q_move rfl) ?_
      refine TO.quiet (q_assign rfl) ?_
      refine TO.nil ?_
      refine T.ret ?_
      refine Res.drop ?_
      refine Res.one (.slice lb m lc) Tryd.results58 rfl ?_
      have hlen := bfsN_len hv i
      have hle : order d = bfsN d i := order_eq (by omega) (by omega)
      exact ⟨[rowI lb lc 3 1 (nats (bfsN d i))], (Sub.pick [0] rfl), _, _, by rw [hle, ← hm], by rw [hle]⟩

set_option maxHeartbeats 1000000 in
set_option maxRecDepth 20000 in
theorem rRenumBad (w : World) (d : DFA) (nb fb : Option Addr) (nc fc : Nat) (vs : List Value) (h : DfaAt w d nb vs fb) (hb : d.next.length < 9223372036854775807) (hbr : ∀ r ∈ d.next, r.length < 9223372036854775807) (hbf : d.final.length < 9223372036854775807) (he : checkD d ≠ 0) :
    PureT Tryd.prog 40 [.agg (dfaCells d nb nc fb fc).toArray] w fun v N => v = .tuple #[.agg #[.int .i64 0, .int .i64 0, .slice none 0 0, .slice none 0 0], .int .i64 (checkD d : Int)] ∧ N = [] := by
  refine CallT.enter Tryd.func40 rfl Tryd.ntmps40 rfl ?_
  refine T.seq ?_
  refine T.region ?_
  refine TO.loud rfl (l_box (v := (.agg #[(.int .i64 d.vars), (.int .i64 d.start), (.slice nb d.next.length nc), (.slice fb d.final.length fc)])) (cs := [(.int .i64 d.vars), (.int .i64 d.start), (.slice nb d.next.length nc), (.slice fb d.final.length fc)]) rfl rfl (fun b1 => ?_))
  refine TO.loud rfl (l_alloc inf25 rfl (fun b2 => ?_))
  refine TO.quiet (q_assign rfl) ?_
  refine TO.nil ?_
  refine T.seq ?_
  refine T.region ?_
  refine TO.quiet (q_load_boxAgg 1 Tryd.underlying25 rfl inf25 rfl rfl rfl) ?_
  have hk11 := fun (w1 : World) (hI : Inv w [objI b2 (.cells (List.toArray [(.int .i64 0), (.int .i64 0), (.slice none 0 0), (.slice none 0 0)]) 25 (0, 0)), objI b1 (.cells (List.toArray [(.int .i64 d.vars), (.int .i64 d.start), (.slice nb d.next.length nc), (.slice fb d.final.length fc)]) 25 (0, 0))] w1) => refCheck w1 d nb fb nc fc vs (hI.dfa h) hb hbr hbf
  refine TO.loud rfl (l_call ent11 (CallT.of_pure hk11) rfl ?_)
  clear hk11
  rintro v O' ⟨N, rfl, rfl, rfl⟩
  refine TO.quiet (q_assign rfl) ?_
  refine TO.nil ?_
  refine T.seq ?_
  refine T.seq ?_
  refine T.region ?_
  refine TO.quiet (q_move rfl) ?_
  refine TO.quiet (QT.toB (q_neq rfl rfl) (decide_eq_true (by omega))) ?_
  refine TO.nil ?_
  refine T.cond1 rfl ?_
  refine T.seq ?_
  refine T.region ?_
  refine TO.quiet (q_build plan25 inf25 rfl) ?_
  refine TO.quiet (q_move rfl) ?_
  refine TO.loud rfl (l_store_box (v := (.agg #[(.int .i64 0), (.int .i64 0), (.slice none 0 0), (.slice none 0 0)])) (vs := [(.int .i64 0), (.int .i64 0), (.slice none 0 0), (.slice none 0 0)]) 0 inf25 rfl rfl rfl rfl rfl rfl (by simp [putL]) ?_)
  refine TO.quiet (q_assign rfl) ?_
  refine TO.nil ?_
  refine T.ret ?_
  refine Res.drop ?_
  refine Res.cell1b (.int .i64 (checkD d : Int)) (i := 0) Tryd.results40 Tryd.underlying25 rfl inf25 rfl rfl rfl rfl ?_
  exact ⟨[], Sub.of (List.nil_sublist _), rfl, rfl⟩

set_option maxHeartbeats 4000000 in
set_option maxRecDepth 20000 in
theorem rRenumOk (w : World) (d : DFA) (nb fb : Option Addr) (nc fc : Nat) (vs : List Value) (h : DfaAt w d nb vs fb) (hv : Valid d) (hn : d.next.length < 100) :
    PureT Tryd.prog 40 [.agg (dfaCells d nb nc fb fc).toArray] w fun v N => ∃ nb' nc' fb' fc' qs, v = .tuple #[.agg (dfaCells (renum d) nb' nc' fb' fc').toArray, .int .i64 0] ∧ N = [rowI nb' nc' 33 1 (vals qs), rowI fb' fc' 4 1 (bools (renum d).final)] ++ itms 3 qs ∧ nums qs = (renum d).next := by
  refine CallT.enter Tryd.func40 rfl Tryd.ntmps40 rfl ?_
  have he := checkD_zero.2 hv
  have hb : d.next.length < 9223372036854775807 := by have := hv.n4; omega
  have hbr : ∀ r ∈ d.next, r.length < 9223372036854775807 := hv.bound
  have hbf : d.final.length < 9223372036854775807 := by have := hv.fin; omega
  have hvl := h.rows.1
  have hww := hv.width
  have hol := order_len hv
  have hfl := hv.fin
  refine T.seq ?_
  refine T.region ?_
  refine TO.loud rfl (l_box (v := (.agg #[(.int .i64 d.vars), (.int .i64 d.start), (.slice nb d.next.length nc), (.slice fb d.final.length fc)])) (cs := [(.int .i64 d.vars), (.int .i64 d.start), (.slice nb d.next.length nc), (.slice fb d.final.length fc)]) rfl rfl (fun z1 => ?_))
  refine TO.loud rfl (l_alloc inf25 rfl (fun z2 => ?_))
  refine TO.quiet (q_assign rfl) ?_
  refine TO.nil ?_
  refine T.seq ?_
  refine T.region ?_
  refine TO.quiet (q_load_boxAgg 1 Tryd.underlying25 rfl inf25 rfl rfl rfl) ?_
  have hk11 := fun (w1 : World) (hI : Inv w [objI z2 (.cells (List.toArray [(.int .i64 0), (.int .i64 0), (.slice none 0 0), (.slice none 0 0)]) 25 (0, 0)), objI z1 (.cells (List.toArray [(.int .i64 d.vars), (.int .i64 d.start), (.slice nb d.next.length nc), (.slice fb d.final.length fc)]) 25 (0, 0))] w1) => refCheck w1 d nb fb nc fc vs (hI.dfa h) hb hbr hbf
  refine TO.loud rfl (l_call ent11 (CallT.of_pure hk11) rfl ?_)
  clear hk11
  rintro v O' ⟨N, rfl, rfl, rfl⟩
  rw [he]
  refine TO.quiet (q_assign rfl) ?_
  refine TO.nil ?_
  refine T.seq ?_
  refine T.seq ?_
  refine T.region ?_
  refine TO.quiet (q_move rfl) ?_
  refine TO.quiet (q_neq rfl rfl) ?_
  refine TO.nil ?_
  refine T.cond0 rfl ?_
  refine T.skip ?_
  refine T.seq ?_
  refine T.region ?_
  refine TO.quiet (q_load_boxAgg 1 Tryd.underlying25 rfl inf25 rfl rfl rfl) ?_
  have hk17 := fun (w1 : World) (hI : Inv w [objI z2 (.cells (List.toArray [(.int .i64 0), (.int .i64 0), (.slice none 0 0), (.slice none 0 0)]) 25 (0, 0)), objI z1 (.cells (List.toArray [(.int .i64 d.vars), (.int .i64 d.start), (.slice nb d.next.length nc), (.slice fb d.final.length fc)]) 25 (0, 0))] w1) => orderC w1 d nb fb nc fc vs (hI.dfa h) hv hn
  refine TO.loud rfl (l_call ent58 (CallT.of_pure hk17) rfl ?_)
  clear hk17
  rintro v O' ⟨N, rfl, lb, lc, rfl, rfl⟩
  refine TO.quiet (q_assign rfl) ?_
  refine TO.nil ?_
  refine T.seq ?_
  refine T.region ?_
  refine TO.quiet (q_fieldAddr Tryd.underlying25 rfl inf3 rfl rfl) ?_
  refine TO.quiet (q_load_box 2 Tryd.underlying3 rfl rfl rfl rfl) ?_
  refine TO.quiet (q_build (cs := [(.int .i64 d.vars), (.int .i64 0), (.slice none 0 0), (.slice none 0 0)]) plan25 inf25 (by kernel_rfl)) ?_
  refine TO.loud rfl (l_alloc inf25 rfl (fun z3 => ?_))
  refine TO.loud rfl (l_store_box (v := (.agg #[(.int .i64 d.vars), (.int .i64 0), (.slice none 0 0), (.slice none 0 0)])) (vs := [(.int .i64 d.vars), (.int .i64 0), (.slice none 0 0), (.slice none 0 0)]) 0 inf25 rfl rfl rfl rfl rfl rfl (by simp [putL]) ?_)
  refine TO.nil ?_
  refine T.seq ?_
  refine T.seq ?_
  refine T.region ?_
  refine TO.quiet (q_assign rfl) ?_
  refine TO.nil ?_
  refine T.block ?_
  refine T.nilRow 4 1 ?_
  refine T.nilRow 33 1 ?_
  refine T.loop (fun (i : Nat) ρ O => ∃ (ob fb9 : Option Addr) (oc fc9 : Nat) (qs : List Rec), O = ([rowI ob oc 33 1 (vals qs), rowI fb9 fc9 4 1 (bools (((order d).take i).map fun o => d.final.getD o false)), objI z3 (.cells (List.toArray [(.int .i64 d.vars), (.int .i64 0), (.slice ob i oc), (.slice fb9 i fc9)]) 25 (0, 0)), rowI lb lc 3 1 (nats (order d)), objI z2 (.cells (List.toArray [(.int .i64 0), (.int .i64 0), (.slice none 0 0), (.slice none 0 0)]) 25 (0, 0)), objI z1 (.cells (List.toArray [(.int .i64 d.vars), (.int .i64 d.start), (.slice nb d.next.length nc), (.slice fb d.final.length fc)]) 25 (0, 0))] ++ itms 3 qs) ∧ i ≤ (order d).length ∧ nums qs = (renum d).next.take i ∧ Heads [(0, (.agg #[(.int .i64 d.vars), (.int .i64 d.start), (.slice nb d.next.length nc), (.slice fb d.final.length fc)])), (1, (.pointer (some ⟨z1, 0, none⟩))), (2, (.pointer (some ⟨z2, 0, none⟩))), (3, .int .i64 0), (4, .int .i64 ((0 : Nat) : Int)), (5, (.slice lb ((order d).length) lc)), (6, (.pointer (some ⟨z3, 0, none⟩))), (7, .int .i64 (i : Int))] ρ) (fun i => (order d).length - i) 0 ?_ ?_
  · refine ⟨none, none, 0, 0, [], ?_, Nat.zero_le _, rfl, ⟨rfl, rfl, rfl, rfl, rfl, rfl, rfl, rfl, trivial⟩⟩
    rfl
  · rintro i ρ O ⟨ob, fb9, oc, fc9, qs, rfl, hi, hqs, hH⟩
    obtain ⟨ρ0, rfl⟩ := hH.elim
    clear hH
    have hql : qs.length = i := by
      have := congrArg List.length hqs
      simp [renum_next] at this
      omega
    refine T.seq ?_
    refine T.seq ?_
    refine T.region ?_
    refine TO.quiet (q_move rfl) ?_
    refine TO.quiet (q_move rfl) ?_
    refine TO.quiet (q_len Tryd.underlying33 rfl) ?_
    refine TO.quiet (q_lss rfl rfl) ?_
    refine TO.nil ?_
    refine T.condP rfl (fun hc => ?_) (fun hc => ?_)
    · have hlt24 : i < (order d).length := by omega
      obtain ⟨o, hog⟩ : ∃ o, (order d)[i] = o := ⟨_, rfl⟩
      have ho : (order d)[i]? = some o := by rw [List.getElem?_eq_getElem hlt24, hog]
      have hom := List.mem_of_getElem? ho
      have ho9 := order_lt hv o hom
      have hof : o < d.final.length := by omega
      obtain ⟨vb, vc, g1, s1⟩ := h.rows.get ho9
      have hl1 : d.next[o].length = 2 ^ d.vars.toNat := hv.len _ (List.getElem_mem ho9)
      refine T.skip ?_
      refine T.seq ?_
      refine T.block ?_
      refine T.seq ?_
      refine T.region ?_
      refine TO.quiet (q_assign rfl) ?_
      refine TO.nil ?_
      refine T.seq ?_
      refine T.seq ?_
      refine T.region ?_
      refine TO.quiet (q_assign rfl) ?_
      refine TO.nil ?_
      refine T.block ?_
      refine T.nilRow 3 1 ?_
      refine T.loop (fun (x : Nat) ρ O => ∃ (kb : Option Addr) (kc : Nat), O = ([rowI kb kc 3 1 (nats ((renRow d o).take x)), rowI ob oc 33 1 (vals qs), rowI fb9 fc9 4 1 (bools (((order d).take i).map fun o => d.final.getD o false)), objI z3 (.cells (List.toArray [(.int .i64 d.vars), (.int .i64 0), (.slice ob i oc), (.slice fb9 i fc9)]) 25 (0, 0)), rowI lb lc 3 1 (nats (order d)), objI z2 (.cells (List.toArray [(.int .i64 0), (.int .i64 0), (.slice none 0 0), (.slice none 0 0)]) 25 (0, 0)), objI z1 (.cells (List.toArray [(.int .i64 d.vars), (.int .i64 d.start), (.slice nb d.next.length nc), (.slice fb d.final.length fc)]) 25 (0, 0))] ++ itms 3 qs) ∧ x ≤ 2 ^ d.vars.toNat ∧ Heads [(0, (.agg #[(.int .i64 d.vars), (.int .i64 d.start), (.slice nb d.next.length nc), (.slice fb d.final.length fc)])), (1, (.pointer (some ⟨z1, 0, none⟩))), (2, (.pointer (some ⟨z2, 0, none⟩))), (3, .int .i64 0), (4, .int .i64 ((0 : Nat) : Int)), (5, (.slice lb ((order d).length) lc)), (6, (.pointer (some ⟨z3, 0, none⟩))), (7, .int .i64 (i : Int)), (8, (.slice kb x kc)), (9, .int .i64 (x : Int))] ρ) (fun x => 2 ^ d.vars.toNat - x) 0 ?_ ?_
      · exact ⟨none, 0, rfl, Nat.zero_le _, ⟨rfl, rfl, rfl, rfl, rfl, rfl, rfl, rfl, rfl, rfl, trivial⟩⟩
      · rintro x ρ O ⟨kb, kc, rfl, hx, hH⟩
        obtain ⟨ρ0, rfl⟩ := hH.elim
        clear hH
        refine T.seq ?_
        refine T.seq ?_
        refine T.draws _ [(0, 0), (1, 0), (2, 0), (3, 0), (4, 0), (5, 0), (6, 0), (7, 0), (8, 0), (9, 0), (10, 0)] mixed (by kernel_rfl) (Sub.of (List.Sublist.refl _)) (fun _ _ _ h => h) ?_
        refine DO.quiet rfl (q_move rfl) ?_
        refine DO.quiet rfl (q_fieldAddr Tryd.underlying25 rfl inf22 rfl rfl) ?_
        refine DO.quiet rfl (q_load_box 6 Tryd.underlying22 rfl rfl rfl rfl) ?_
        refine DO.quiet rfl (q_move rfl) ?_
        refine DO.quiet rfl (q_move rfl) ?_
        refine DO.quiet rfl (q_ix (i := i) Tryd.underlying33 inf3 rfl rfl (rowO (List.mem_of_getElem? (i := 4) rfl)) hlt24 (by rw [List.length_map]; exact hlt24)) ?_
        refine DO.quiet rfl (q_ld Tryd.underlying3 rfl rfl (rowO (List.mem_of_getElem? (i := 4) rfl)) (show (nats (order d))[i]? = some (.int .i64 ((o : Nat) : Int)) by rw [List.getElem?_map, ho]; rfl)) ?_
        refine DO.quiet rfl (q_ix (i := o) Tryd.underlying22 inf33 rfl rfl (Sl.o h.outer) ho9 (hvl ▸ ho9)) ?_
        refine DO.quiet rfl (q_ld Tryd.underlying33 rfl rfl (Sl.o h.outer) g1) ?_
        refine DO.quiet rfl (q_len Tryd.underlying33 rfl) ?_
        refine DO.quiet rfl (q_lss rfl rfl) ?_
        refine DO.done ?_
        refine T.condP rfl (fun hc => ?_) (fun hc => ?_)
        · have hlt37 : x < d.next[o].length := by omega
          have hlx : x < 2 ^ d.vars.toNat := by omega
          obtain ⟨hta, _, hxk1, hx1⟩ := hv.toN_lt ho9 hlx
          have hx1 : (ints d.next[o])[x]? = some (.int .i64 ((toN d o x : Nat) : Int)) := by rw [ints_get hxk1, hx1]
          have hin : toN d o x ∈ order d := order_closed hv o hom _ (List.mem_of_getElem? (sucs_get hlx))
          refine T.skip ?_
          refine T.seq ?_
          refine T.block ?_
          refine T.draws _ [(0, 0), (1, 0), (2, 0), (3, 0), (4, 0), (5, 0), (6, 0), (7, 0), (8, 0), (9, 0), (10, 0), (11, 0), (12, 0), (13, 1), (14, 1), (15, 2), (16, 2)] mixed (by kernel_rfl) (Sub.of (List.Sublist.refl _)) (fun _ _ _ h => h) ?_
          refine DO.quiet rfl (q_move rfl) ?_
          refine DO.quiet rfl (q_move rfl) ?_
          refine DO.quiet rfl (q_fieldAddr Tryd.underlying25 rfl inf22 rfl rfl) ?_
          refine DO.quiet rfl (q_load_box 6 Tryd.underlying22 rfl rfl rfl rfl) ?_
          refine DO.quiet rfl (q_move rfl) ?_
          refine DO.quiet rfl (q_move rfl) ?_
          refine DO.quiet rfl (q_ix (i := i) Tryd.underlying33 inf3 rfl rfl (rowO (List.mem_of_getElem? (i := 4) rfl)) hlt24 (by rw [List.length_map]; exact hlt24)) ?_
          refine DO.quiet rfl (q_ld Tryd.underlying3 rfl rfl (rowO (List.mem_of_getElem? (i := 4) rfl)) (show (nats (order d))[i]? = some (.int .i64 ((o : Nat) : Int)) by rw [List.getElem?_map, ho]; rfl)) ?_
          refine DO.quiet rfl (q_ix (i := o) Tryd.underlying22 inf33 rfl rfl (Sl.o h.outer) ho9 (hvl ▸ ho9)) ?_
          refine DO.quiet rfl (q_ld Tryd.underlying33 rfl rfl (Sl.o h.outer) g1) ?_
          refine DO.quiet rfl (q_move rfl) ?_
          refine DO.quiet rfl (q_ix (i := x) Tryd.underlying33 inf3 rfl rfl (Sl.o s1) (by rw [hl1]; exact hlx) (by rw [List.length_map, hl1]; exact hlx)) ?_
          refine DO.quiet rfl (q_ld Tryd.underlying3 rfl rfl (Sl.o s1) hx1) ?_
          have hk53 := fun (w1 : World) (hI : Inv w ([rowI kb kc 3 1 (nats ((renRow d o).take x)), rowI ob oc 33 1 (vals qs), rowI fb9 fc9 4 1 (bools (((order d).take i).map fun o => d.final.getD o false)), objI z3 (.cells (List.toArray [(.int .i64 d.vars), (.int .i64 0), (.slice ob i oc), (.slice fb9 i fc9)]) 25 (0, 0)), rowI lb lc 3 1 (nats (order d)), objI z2 (.cells (List.toArray [(.int .i64 0), (.int .i64 0), (.slice none 0 0), (.slice none 0 0)]) 25 (0, 0)), objI z1 (.cells (List.toArray [(.int .i64 d.vars), (.int .i64 d.start), (.slice nb d.next.length nc), (.slice fb d.final.length fc)]) 25 (0, 0))] ++ itms 3 qs) w1) => numberC w1 lb lc (order d) (toN d o x) _ rfl (hI.slOf (List.mem_of_getElem? (i := 4) rfl)) (by omega) hin
          refine DO.loud rfl rfl (l_call ent59 (CallT.of_pure hk53) rfl ?_)
          clear hk53
          rintro v O' ⟨N, rfl, rfl, rfl⟩
          refine ⟨Sub.pickR [0, 0, 0, 0, 0, 0, 0] [rowI kb kc 3 1 (nats ((renRow d o).take x)), rowI ob oc 33 1 (vals qs), rowI fb9 fc9 4 1 (bools (((order d).take i).map fun o => d.final.getD o false)), objI z3 (.cells (List.toArray [(.int .i64 d.vars), (.int .i64 0), (.slice ob i oc), (.slice fb9 i fc9)]) 25 (0, 0)), rowI lb lc 3 1 (nats (order d)), objI z2 (.cells (List.toArray [(.int .i64 0), (.int .i64 0), (.slice none 0 0), (.slice none 0 0)]) 25 (0, 0)), objI z1 (.cells (List.toArray [(.int .i64 d.vars), (.int .i64 d.start), (.slice nb d.next.length nc), (.slice fb d.final.length fc)]) 25 (0, 0))] (itms 3 qs) rfl rfl, ?_⟩
          refine DO.loud rfl rfl (l_build1 (v := .int .i64 ((ix (toN d o x) (order d) : Nat) : Int)) Tryd.underlying33 inf3 rfl rfl rfl (fun z4 => ⟨Sub.pickR [1, 1, 1, 1, 1, 1, 1] [rowI (some ⟨z4, 0, none⟩) 1 3 1 [.int .i64 ((ix (toN d o x) (order d) : Nat) : Int)], rowI kb kc 3 1 (nats ((renRow d o).take x)), rowI ob oc 33 1 (vals qs), rowI fb9 fc9 4 1 (bools (((order d).take i).map fun o => d.final.getD o false)), objI z3 (.cells (List.toArray [(.int .i64 d.vars), (.int .i64 0), (.slice ob i oc), (.slice fb9 i fc9)]) 25 (0, 0)), rowI lb lc 3 1 (nats (order d)), objI z2 (.cells (List.toArray [(.int .i64 0), (.int .i64 0), (.slice none 0 0), (.slice none 0 0)]) 25 (0, 0)), objI z1 (.cells (List.toArray [(.int .i64 d.vars), (.int .i64 d.start), (.slice nb d.next.length nc), (.slice fb d.final.length fc)]) 25 (0, 0))] (itms 3 qs) rfl rfl, ?_⟩))
          refine DO.last rfl rfl (l_append 1 Tryd.underlying33 Tryd.underlying33 inf3 rfl rfl rfl rfl (by rw [List.length_map, List.length_take, renRow_length]; omega) (by decide) (Src.row (j := 0) rfl (by simp)) (by simp [oneB]) (by omega) (by decide) (by decide) (fun z5 zc6 => ?_))
          refine DO.last rfl rfl (LT.of_quiet rfl rfl (q_assign rfl) ?_)
          refine DO.done ?_
          refine T.region ?_
          refine TO.quiet (q_move rfl) ?_
          refine TO.quiet (q_inc rfl rfl (by omega)) ?_
          refine TO.quiet (q_assign rfl) ?_
          refine TO.sub (O' := ([rowI z5 zc6 3 1 ((nats ((renRow d o).take x)) ++ [.int .i64 ((ix (toN d o x) (order d) : Nat) : Int)]), rowI ob oc 33 1 (vals qs), rowI fb9 fc9 4 1 (bools (((order d).take i).map fun o => d.final.getD o false)), objI z3 (.cells (List.toArray [(.int .i64 d.vars), (.int .i64 0), (.slice ob i oc), (.slice fb9 i fc9)]) 25 (0, 0)), rowI lb lc 3 1 (nats (order d)), objI z2 (.cells (List.toArray [(.int .i64 0), (.int .i64 0), (.slice none 0 0), (.slice none 0 0)]) 25 (0, 0)), objI z1 (.cells (List.toArray [(.int .i64 d.vars), (.int .i64 d.start), (.slice nb d.next.length nc), (.slice fb d.final.length fc)]) 25 (0, 0))] ++ itms 3 qs)) (Sub.pickR [1, 1, 1, 1, 1, 1, 1] [rowI (some ⟨z4, 0, none⟩) 1 3 1 [.int .i64 ((ix (toN d o x) (order d) : Nat) : Int)], rowI z5 zc6 3 1 ((nats ((renRow d o).take x)) ++ [.int .i64 ((ix (toN d o x) (order d) : Nat) : Int)]), rowI ob oc 33 1 (vals qs), rowI fb9 fc9 4 1 (bools (((order d).take i).map fun o => d.final.getD o false)), objI z3 (.cells (List.toArray [(.int .i64 d.vars), (.int .i64 0), (.slice ob i oc), (.slice fb9 i fc9)]) 25 (0, 0)), rowI lb lc 3 1 (nats (order d)), objI z2 (.cells (List.toArray [(.int .i64 0), (.int .i64 0), (.slice none 0 0), (.slice none 0 0)]) 25 (0, 0)), objI z1 (.cells (List.toArray [(.int .i64 d.vars), (.int .i64 d.start), (.slice nb d.next.length nc), (.slice fb d.final.length fc)]) 25 (0, 0))] (itms 3 qs) rfl rfl) ?_
          refine TO.nil ?_
          exact ⟨x + 1, by omega, z5, zc6, by rw [renRow_step hlx, show nats ((renRow d o).take x ++ [ix (toN d o x) (order d)]) = nats ((renRow d o).take x) ++ [.int .i64 ((ix (toN d o x) (order d) : Nat) : Int)] from List.map_append], by omega, ⟨rfl, rfl, rfl, rfl, rfl, rfl, rfl, rfl, rfl, rfl, trivial⟩⟩
        · have hge37 : ¬ x < d.next[o].length := by omega
          refine T.exit ?_
          refine T.seq ?_
          refine T.region ?_
          refine TO.quiet (q_fieldAddr Tryd.underlying25 rfl inf22 rfl rfl) ?_
          refine TO.quiet (q_load_box 3 Tryd.underlying22 rfl rfl rfl rfl) ?_
          refine TO.quiet (q_move rfl) ?_
          refine TO.loud rfl (l_build1 (v := (.slice kb x kc)) Tryd.underlying22 inf33 rfl rfl rfl (fun z7 => ?_))
          refine TO.loud rfl (l_append 2 Tryd.underlying22 Tryd.underlying22 inf33 rfl rfl rfl rfl (by rw [List.length_map]; omega) (by decide) (Src.row (j := 0) rfl (by simp)) (by simp [oneB]) (by omega) (by decide) (by decide) (fun z8 zc9 => ?_))
          refine TO.quiet (q_fieldAddr Tryd.underlying25 rfl inf22 rfl rfl) ?_
          refine TO.loud rfl (l_store_box (v := (.slice z8 (i + 1) zc9)) (vs := [(.slice z8 (i + 1) zc9)]) 4 inf22 rfl rfl rfl rfl rfl rfl (by simp [putL]) ?_)
          refine TO.nil ?_
          refine T.draws _ [(0, 0), (1, 0), (2, 0), (3, 0), (4, 0), (5, 0), (6, 0), (7, 0), (8, 0), (9, 0), (10, 1), (11, 2), (12, 2), (13, 2)] mixed (by kernel_rfl) (Sub.of (List.Sublist.refl _)) (fun _ _ _ h => h) ?_
          refine DO.quiet rfl (q_fieldAddr Tryd.underlying25 rfl inf23 rfl rfl) ?_
          refine DO.quiet rfl (q_load_box 4 Tryd.underlying23 rfl rfl rfl rfl) ?_
          refine DO.quiet rfl (q_fieldAddr Tryd.underlying25 rfl inf23 rfl rfl) ?_
          refine DO.quiet rfl (q_load_box 7 Tryd.underlying23 rfl rfl rfl rfl) ?_
          refine DO.quiet rfl (q_move rfl) ?_
          refine DO.quiet rfl (q_move rfl) ?_
          refine DO.quiet rfl (q_ix (i := i) Tryd.underlying33 inf3 rfl rfl (rowO (List.mem_of_getElem? (i := 5) rfl)) hlt24 (by rw [List.length_map]; exact hlt24)) ?_
          refine DO.quiet rfl (q_ld Tryd.underlying3 rfl rfl (rowO (List.mem_of_getElem? (i := 5) rfl)) (show (nats (order d))[i]? = some (.int .i64 ((o : Nat) : Int)) by rw [List.getElem?_map, ho]; rfl)) ?_
          refine DO.quiet rfl (q_ix (i := o) Tryd.underlying23 inf4 rfl rfl (Sl.o h.final) hof (by rw [List.length_map]; exact hof)) ?_
          refine DO.quiet rfl (q_ld Tryd.underlying4 rfl rfl (Sl.o h.final) (bools_get hof)) ?_
          refine DO.loud rfl rfl (l_build1 (v := .bool d.final[o]) Tryd.underlying23 inf4 rfl rfl rfl (fun z10 => ⟨Sub.pickR [1, 1, 1, 1, 1, 1, 1, 1] [rowI (some ⟨z10, 0, none⟩) 1 4 1 [.bool d.final[o]], rowI (some ⟨z7, 0, none⟩) 1 33 1 [(.slice kb x kc)], rowI kb kc 3 1 (nats ((renRow d o).take x)), rowI z8 zc9 33 1 ((vals qs) ++ [(.slice kb x kc)]), rowI fb9 fc9 4 1 (bools (((order d).take i).map fun o => d.final.getD o false)), objI z3 (.cells (List.toArray [(.int .i64 d.vars), (.int .i64 0), (.slice z8 (i + 1) zc9), (.slice fb9 i fc9)]) 25 (0, 0)), rowI lb lc 3 1 (nats (order d)), objI z2 (.cells (List.toArray [(.int .i64 0), (.int .i64 0), (.slice none 0 0), (.slice none 0 0)]) 25 (0, 0)), objI z1 (.cells (List.toArray [(.int .i64 d.vars), (.int .i64 d.start), (.slice nb d.next.length nc), (.slice fb d.final.length fc)]) 25 (0, 0))] (itms 3 qs) rfl rfl, ?_⟩))
          refine DO.last rfl rfl (l_append 4 Tryd.underlying23 Tryd.underlying23 inf4 rfl rfl rfl rfl (by simp; omega) (by decide) (Src.row (j := 0) rfl (by simp)) (by simp [oneB]) (by omega) (by decide) (by decide) (fun z11 zc12 => ?_))
          refine DO.last rfl rfl (LT.of_quiet rfl rfl (q_fieldAddr Tryd.underlying25 rfl inf23 rfl rfl) ?_)
          refine DO.last rfl rfl (l_store_box (v := (.slice z11 (i + 1) zc12)) (vs := [(.slice z11 (i + 1) zc12)]) 5 inf23 rfl rfl rfl rfl rfl rfl (by simp [putL]) ?_)
          refine DO.done ?_
          refine T.region ?_
          refine TO.quiet (q_move rfl) ?_
          refine TO.quiet (q_inc rfl rfl (by omega)) ?_
          refine TO.quiet (q_assign rfl) ?_
          have hxe : x = 2 ^ d.vars.toNat := by omega
          have hfs : bools (((order d).take (i + 1)).map fun o => d.final.getD o false) = bools (((order d).take i).map fun o => d.final.getD o false) ++ [.bool d.final[o]] := by
            rw [List.take_succ_eq_append_getElem hlt24, List.map_append, hog]; simp [hof]
          have hR : rowI kb kc 3 1 (nats ((renRow d o).take x)) = Rec.itm 3 ⟨kb, kc, (renRow d o).map fun x : Nat => (x : Int)⟩ := by
            rw [List.take_of_length_le (by rw [renRow_length]; omega)]; simp [Rec.itm, Function.comp_def]
          refine TO.sub (O' := [rowI z8 zc9 33 1 ((vals qs) ++ [(.slice kb x kc)]), rowI z11 zc12 4 1 ((bools (((order d).take i).map fun o => d.final.getD o false)) ++ [.bool d.final[o]]), objI z3 (.cells (List.toArray [(.int .i64 d.vars), (.int .i64 0), (.slice z8 (i + 1) zc9), (.slice z11 (i + 1) zc12)]) 25 (0, 0)), rowI lb lc 3 1 (nats (order d)), objI z2 (.cells (List.toArray [(.int .i64 0), (.int .i64 0), (.slice none 0 0), (.slice none 0 0)]) 25 (0, 0)), objI z1 (.cells (List.toArray [(.int .i64 d.vars), (.int .i64 d.start), (.slice nb d.next.length nc), (.slice fb d.final.length fc)]) 25 (0, 0))] ++ itms 3 (qs ++ [⟨kb, kc, (renRow d o).map fun x : Nat => (x : Int)⟩])) (by show Sub _ ([rowI (some ⟨z10, 0, none⟩) 1 4 1 [.bool d.final[o]], rowI (some ⟨z7, 0, none⟩) 1 33 1 [(.slice kb x kc)], rowI kb kc 3 1 (nats ((renRow d o).take x)), rowI z8 zc9 33 1 ((vals qs) ++ [(.slice kb x kc)]), rowI z11 zc12 4 1 ((bools (((order d).take i).map fun o => d.final.getD o false)) ++ [.bool d.final[o]]), objI z3 (.cells (List.toArray [(.int .i64 d.vars), (.int .i64 0), (.slice z8 (i + 1) zc9), (.slice z11 (i + 1) zc12)]) 25 (0, 0)), rowI lb lc 3 1 (nats (order d)), objI z2 (.cells (List.toArray [(.int .i64 0), (.int .i64 0), (.slice none 0 0), (.slice none 0 0)]) 25 (0, 0)), objI z1 (.cells (List.toArray [(.int .i64 d.vars), (.int .i64 d.start), (.slice nb d.next.length nc), (.slice fb d.final.length fc)]) 25 (0, 0))] ++ itms 3 qs); rw [hR]; exact Sub.cnt [rowI (some ⟨z10, 0, none⟩) 1 4 1 [.bool d.final[o]], rowI (some ⟨z7, 0, none⟩) 1 33 1 [(.slice kb x kc)]] (by intro a; simp only [itms, List.set_cons_zero, List.set_cons_succ, putL, List.cons_append, List.nil_append, List.append_nil, List.append_assoc, List.map_append, List.map_cons, List.map_nil, cnt_append, cnt_cons, cnt_nil] <;> omega)) ?_
          refine TO.nil ?_
          refine ⟨i + 1, by omega, z8, z11, zc9, zc12, qs ++ [⟨kb, kc, (renRow d o).map fun x : Nat => (x : Int)⟩], ?_, by omega, ?_, ⟨rfl, rfl, rfl, rfl, rfl, rfl, rfl, rfl, trivial⟩⟩
          · rw [hfs]; simp [Rec.val, hxe, renRow_length]
          · rw [show nums (qs ++ [⟨kb, kc, (renRow d o).map fun x : Nat => (x : Int)⟩]) = nums qs ++ [(renRow d o).map fun x : Nat => (x : Int)] by simp, hqs, renum_next, ← List.map_take, ← List.map_take, List.take_succ_eq_append_getElem hlt24, hog]; simp
    · have hge24 : ¬ i < (order d).length := by omega
      refine T.exit ?_
      refine T.seq ?_
      refine T.region ?_
      refine TO.quiet (q_load_boxAgg 2 Tryd.underlying25 rfl inf25 rfl rfl rfl) ?_
      refine TO.loud rfl (l_store_box (v := (.agg #[(.int .i64 d.vars), (.int .i64 0), (.slice ob i oc), (.slice fb9 i fc9)])) (vs := [(.int .i64 d.vars), (.int .i64 0), (.slice ob i oc), (.slice fb9 i fc9)]) 4 inf25 rfl rfl rfl rfl rfl rfl (by simp [putL]) ?_)
      refine TO.quiet (q_assign rfl) ?_
      refine TO.nil ?_
      refine T.ret ?_
      refine Res.drop ?_
      refine Res.cell1b (.int .i64 0) (i := 4) Tryd.results40 Tryd.underlying25 rfl inf25 rfl rfl rfl rfl ?_
      have hie : i = (order d).length := by omega
      have hfx : (((order d).take i).map fun o => d.final.getD o false) = (renum d).final := by rw [List.take_of_length_le (by omega)]; rfl
      have hl1 : (renum d).next.length = i := by simp [renum, hie]
      have hl2 : (renum d).final.length = i := by simp [renum, hie]
      have hnx : nums qs = (renum d).next := by rw [hqs, List.take_of_length_le (by omega)]
      refine ⟨[rowI ob oc 33 1 (vals qs), rowI fb9 fc9 4 1 (bools (((order d).take i).map fun o => d.final.getD o false))] ++ itms 3 qs, Sub.cnt [objI z3 (.cells (List.toArray [(.int .i64 d.vars), (.int .i64 0), (.slice ob i oc), (.slice fb9 i fc9)]) 25 (0, 0)), rowI lb lc 3 1 (nats (order d)), objI z2 (.cells (List.toArray [(.int .i64 d.vars), (.int .i64 0), (.slice ob i oc), (.slice fb9 i fc9)]) 25 (0, 0)), objI z1 (.cells (List.toArray [(.int .i64 d.vars), (.int .i64 d.start), (.slice nb d.next.length nc), (.slice fb d.final.length fc)]) 25 (0, 0))] (by intro a; simp only [itms, List.set_cons_zero, List.set_cons_succ, putL, List.cons_append, List.nil_append, List.append_nil, List.append_assoc, List.map_append, List.map_cons, List.map_nil, cnt_append, cnt_cons, cnt_nil] <;> omega), ob, oc, fb9, fc9, qs, ?_, by rw [hfx], hnx⟩
      show Value.tuple #[Value.agg (List.toArray [.int .i64 d.vars, .int .i64 0, .slice ob i oc, .slice fb9 i fc9]), _] = Value.tuple #[Value.agg (List.toArray [.int .i64 d.vars, .int .i64 0, .slice ob (renum d).next.length oc, .slice fb9 (renum d).final.length fc9]), _]
      rw [hl1, hl2]
end Go.Proofs.YthfemndklplpbaaDoor

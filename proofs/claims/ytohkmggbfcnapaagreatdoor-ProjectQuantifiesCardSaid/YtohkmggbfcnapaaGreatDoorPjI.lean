/- Contracts of functions of the program (Ref7, RefM, Uni, P1, P2, P3, P4, CoreO, J4, PjN, J7, PjR, J8, PjG, PjM, PjF, PjH, PjI): what each call answers and that it leaves memory as it was. Conditions: those each theorem names. -/
import Derived.Test.YtohkmggbfcnapaaGreatDoorCoreK
import Derived.Test.YtohkmggbfcnapaaGreatDoorBolE
import Derived.Test.YtohkmggbfcnapaaGreatDoorStr
import Derived.Test.YtohkmggbfcnapaaGreatDoorRefR
set_option linter.unusedSectionVars false
set_option linter.unusedSimpArgs false
set_option linter.unusedVariables false
set_option linter.unnecessarySimpa false
set_option maxHeartbeats 8000000
set_option maxRecDepth 20000
namespace Go.Proofs.YtohkmggbfcnapaaGreatDoor
open Go.Lx Go.RowKit _root_.Go.Proofs.Tryz
theorem hasNat (w : World) [Tab Tryz.prog w] (b : Option Addr) (c : Nat) (xs : List Nat) (x m : Nat) (hm : m = xs.length) (h : Sl w b (nats xs)) (hb : xs.length < 9223372036854775807) : PureT Tryz.prog 80 [.slice b m c, vI (x : Int)] w fun v N => v = .bool (decide (x ∈ xs)) ∧ N = [] := by
 subst hm
 have h1 := hasInt w b c (xs.map fun x : Nat => (x : Int)) x (by simpa [Function.comp_def] using h) (by simpa using hb)
 have e : decide ((x : Int) ∈ xs.map fun x : Nat => (x : Int)) = decide (x ∈ xs) := by
  apply decide_eq_decide.2
  simp only [List.mem_map]
  constructor
  ·rintro ⟨y, hy, e⟩
   have : y = x := by omega
   exact this ▸ hy
  ·exact fun h => ⟨x, h, rfl⟩
 rw [e, List.length_map] at h1
 exact h1
theorem numberC (w : World) [Tab Tryz.prog w] (b : Option Addr) (c : Nat) (xs : List Nat) (x m : Nat) (hm : m = xs.length) (h : Sl w b (nats xs)) (hb : xs.length < 9223372036854775807) (hx : x ∈ xs) : PureT Tryz.prog 107 [.slice b m c, vI (x : Int)] w fun v N => v = vI ((ix x xs : Nat) : Int) ∧ N = [] := by
 refine CallT.enter func107 rfl ntmps107 rfl ?_
 have hix := ix_lt hx
 have hixg := ix_get hx
 refine T.s (T.rg (TO.qa rfl (TO.nl (T.s (T.rg (TO.qa rfl (TO.nl (T.s (T.block ?_)))))))))
 refine T.loop (fun (k : Nat) ρ O => O = [] ∧ k ≤ ix x xs ∧ Heads [(0, (.slice b m c)), (1, vI (x : Int)), (4, vI 0), (5, vI (k : Int))] ρ) (fun k => xs.length - k) 0 ?_ ?_
 ·exact ⟨rfl, Nat.zero_le _, ⟨rfl, rfl, rfl, rfl, trivial⟩⟩
 rintro k ρ O ⟨rfl, hk, hH⟩
 obtain ⟨ρ0, rfl⟩ := hH.elim
 clear hH
 have hk9 : k < xs.length := by omega
 refine T.s (T.s (T.rg (TO.qm rfl (TO.qm rfl (TO.q (q_ix (i := k) underlying37 inf3 rfl rfl (Sl.o h) (by omega) (by rw [List.length_map]; omega)) (TO.q (q_ld underlying3 rfl rfl (Sl.o h) (nats_get hk9)) (TO.qm rfl (TO.q (q_neq rfl rfl) (TO.nl (T.condP (p := ¬ xs[k] = x) (congrArg Value.bool (decide_eq_decide.2 (by omega))) (fun hc => ?_) (fun hc => ?_)))))))))))
 ·have hlt11 : xs[k] ≠ x := by omega
  have hne : k ≠ ix x xs := fun e => hc (by subst e; exact Option.some.inj (by rw [← hixg, List.getElem?_eq_getElem hk9]))
  refine T.skip (T.block (T.rg (TO.qm rfl (TO.q (q_inc rfl rfl (by omega)) (TO.qa rfl (TO.nl ?_))))))
  exact ⟨k + 1, by omega, rfl, by omega, ⟨rfl, rfl, rfl, rfl, trivial⟩⟩
 have hge11 : ¬ xs[k] ≠ x := by omega
 refine T.exit ?_
 refine T.s (T.rg (TO.qm rfl (TO.qa rfl (TO.nl (T.ret ?_)))))
 refine Res.one (vI (k : Int)) Tryz.results107 rfl ?_
 have hle := ix_le (List.getElem?_eq_some_iff.2 ⟨hk9, Classical.not_not.1 hc⟩)
 exact ⟨by rw [show k = ix x xs by omega], rfl⟩
theorem orderC (w : World) [Tab Tryz.prog w] (d : DFA) (nb fb : Option Addr) (nc fc : Nat) (vs : List Value) (h : DfaAt w d nb vs fb) (hv : Valid d) (hn : d.next.length < 10000) :
  PureT Tryz.prog 106 [.agg (dfaCells d nb nc fb fc).toArray] w fun v N => ∃ b c, v = .slice b (order d).length c ∧ N = [rowI b c 3 1 (nats (order d))] := by
 refine CallT.enter func106 rfl ntmps106 rfl ?_
 have hs0 := hv.s0
 have hvl := h.rows.1
 have hww := hv.width
 refine T.s (T.rg (TO.l rfl (l_box (v := (.agg #[(vI d.vars), (vI d.start), (.slice nb d.next.length nc), (.slice fb d.final.length fc)])) (cs := [(vI d.vars), (vI d.start), (.slice nb d.next.length nc), (.slice fb d.final.length fc)]) rfl rfl (fun z1 => ?_))))
 refine TO.qa rfl (TO.nl (T.s (T.rg (TO.q (q_fa underlying25 rfl inf3 rfl rfl) (TO.q (q_lb 0 underlying3 rfl rfl rfl rfl) (TO.l rfl (l_build1 (v := (vI d.start)) underlying37 inf3 rfl rfl rfl (fun z2 => ?_))))))))
 refine TO.qa rfl (TO.nl (T.s (T.s (T.rg (TO.qa rfl (TO.nl (T.block ?_)))))))
 refine T.loop (fun (i : Nat) ρ O => ∃ (lb : Option Addr) (lc m : Nat), O = [rowI lb lc 3 1 (nats (bfsN d i)), oI z1 25 [(vI d.vars), (vI d.start), (.slice nb d.next.length nc), (.slice fb d.final.length fc)]] ∧ m = (bfsN d i).length ∧ i ≤ m ∧ Heads [(0, (.agg #[(vI d.vars), (vI d.start), (.slice nb d.next.length nc), (.slice fb d.final.length fc)])), (1, (.pointer (aD z1))), (2, nS), (3, (.slice lb m lc)), (4, vI (i : Int))] ρ) (fun i => d.next.length - i) 0 ?_ ?_
 ·exact ⟨_, _, 1, by rw [show nats (bfsN d 0) = [vI d.start] by simp [bfsN, Int.toNat_of_nonneg hs0]], rfl, Nat.zero_le _, (.of rfl)⟩
 rintro i ρ O ⟨lb, lc, m, rfl, hm, him, hH⟩
 obtain ⟨ρ0, rfl⟩ := hH.elim
 clear hH
 have hlen := bfsN_len hv.toVal i
 refine T.s (T.s (T.rg (TO.qm rfl (TO.qm rfl (TO.q (q_len underlying37 rfl) (TO.q (q_lss rfl rfl) (TO.nl (T.condP rfl (fun hc => ?_) (fun hc => ?_)))))))))
 ·have hlt13 : i < m := by omega
  obtain ⟨o, ho⟩ : ∃ o, (bfsN d i)[i]? = some o := ⟨_, List.getElem?_eq_getElem (show i < (bfsN d i).length by omega)⟩
  have ho9 := (bfsN_ok hv.toVal i).2 o (List.mem_of_getElem? ho)
  obtain ⟨vb, vc, g1, s1⟩ := h.rows.get ho9
  have hl1 : d.next[o].length = 2 ^ d.vars.toNat := hv.len _ (List.getElem_mem ho9)
  refine T.skip (T.s (T.block (T.s ?_)))
  refine T.draws _ [(0, 0), (1, 0), (2, 0), (3, 0), (4, 0), (5, 0), (6, 0), (7, 0), (8, 0)] mixed (by kernel_rfl) (Sub.of (List.Sublist.refl _)) (fun _ _ _ h => h) ?_
  refine DO.q rfl (q_fa underlying25 rfl inf22 rfl rfl) (DO.q rfl (q_lb 1 underlying22 rfl rfl rfl rfl) (DO.q rfl (q_move rfl) (DO.q rfl (q_move rfl) ?_)))
  refine DO.q rfl (q_ix (i := i) underlying37 inf3 rfl rfl (rowO (mG 0 rfl)) (by omega) (by rw [List.length_map]; omega)) (DO.q rfl (q_ld underlying3 rfl rfl (rowO (mG 0 rfl)) (show (nats (bfsN d i))[i]? = some (vI ((o : Nat) : Int)) by rw [List.getElem?_map, ho]; rfl)) (DO.q rfl (q_ix (i := o) underlying22 inf37 rfl rfl (Sl.o h.outer) ho9 (hvl ▸ ho9)) (DO.q rfl (q_ld underlying37 rfl rfl (Sl.o h.outer) g1) ?_)))
  refine DO.q rfl (q_assign rfl) ?_
  refine DO.done ?_
  refine T.s (T.rg (TO.qa rfl (TO.nl (T.block ?_))))
  refine T.loop (fun (x : Nat) ρ O => ∃ (lb : Option Addr) (lc m2 : Nat), O = [rowI lb lc 3 1 (nats (bfsM d i o x)), oI z1 25 [(vI d.vars), (vI d.start), (.slice nb d.next.length nc), (.slice fb d.final.length fc)]] ∧ x ≤ 2 ^ d.vars.toNat ∧ m2 = (bfsM d i o x).length ∧ Heads [(0, (.agg #[(vI d.vars), (vI d.start), (.slice nb d.next.length nc), (.slice fb d.final.length fc)])), (1, (.pointer (aD z1))), (2, nS), (3, (.slice lb m2 lc)), (4, vI (i : Int)), (5, (.slice vb d.next[o].length vc)), (6, vI (x : Int))] ρ) (fun x => 2 ^ d.vars.toNat - x) 0 ?_ ?_
  ·exact ⟨lb, lc, m, rfl, Nat.zero_le _, hm, (.of rfl)⟩
  rintro x ρ O ⟨lb, lc, m2, rfl, hx, hm2, hH⟩
  obtain ⟨ρ0, rfl⟩ := hH.elim
  clear hH
  obtain ⟨hml1, hml2⟩ := bfsM_len (i := i) hv ho9 hx
  refine T.s (T.s (T.rg (TO.qm rfl (TO.qm rfl (TO.q (q_len underlying37 rfl) (TO.q (q_lss rfl rfl) (TO.nl (T.condP rfl (fun hc => ?_) (fun hc => ?_)))))))))
  ·have hlt27 : x < d.next[o].length := by omega
   have hlx : x < 2 ^ d.vars.toNat := by omega
   obtain ⟨hta, _, hxk1, hx1⟩ := hv.toN_lt ho9 hlx
   have hx1 : (ints d.next[o])[x]? = some (vI ((toN d o x : Nat) : Int)) := by rw [ints_get hxk1, hx1]
   refine T.skip (T.s (T.block (T.s (T.rg (TO.qm rfl (TO.qm rfl (TO.qm rfl (TO.q (q_ix (i := x) underlying37 inf3 rfl rfl (Sl.o s1) (by rw [hl1]; exact hlx) (by rw [List.length_map, hl1]; exact hlx)) (TO.q (q_ld underlying3 rfl rfl (Sl.o s1) hx1) ?_)))))))))
   by_cases hin : toN d o x ∈ bfsM d i o x
   ·have hk35 := fun (w1 : World) (hI : Inv w [rowI lb lc 3 1 (nats (bfsM d i o x)), oI z1 25 [(vI d.vars), (vI d.start), (.slice nb d.next.length nc), (.slice fb d.final.length fc)]] w1) => (haveI := Inv.tab (P := Tryz.prog) hI; hasNat w1 lb lc (bfsM d i o x) (toN d o x) m2 hm2 (hI.slOf (mG 0 rfl)) (by omega))
    refine TO.l rfl (l_call ent80 (CallT.op hk35) rfl ?_)
    clear hk35
    rintro v O' ⟨N, rfl, rfl, rfl⟩
    rw [decide_eq_true hin]
    refine TO.q (q_not rfl) (TO.nl (T.cond0 rfl (T.skip (T.rg (TO.qm rfl (TO.q (q_inc rfl rfl (by omega)) (TO.qa rfl ?_)))))))
    refine TO.sub (O' := [rowI lb lc 3 1 (nats (bfsM d i o x)), oI z1 25 [(vI d.vars), (vI d.start), (.slice nb d.next.length nc), (.slice fb d.final.length fc)]]) (Sub.pick [0, 0] rfl) ?_
    refine TO.nl ?_
    have hst : bfsM d i o (x + 1) = bfsM d i o x := by rw [bfsM_step, add, if_pos hin]
    exact ⟨x + 1, by omega, lb, lc, m2, by rw [hst], by omega, by rw [hst]; exact hm2, (.of rfl)⟩
   have hk35 := fun (w1 : World) (hI : Inv w [rowI lb lc 3 1 (nats (bfsM d i o x)), oI z1 25 [(vI d.vars), (vI d.start), (.slice nb d.next.length nc), (.slice fb d.final.length fc)]] w1) => (haveI := Inv.tab (P := Tryz.prog) hI; hasNat w1 lb lc (bfsM d i o x) (toN d o x) m2 hm2 (hI.slOf (mG 0 rfl)) (by omega))
   refine TO.l rfl (l_call ent80 (CallT.op hk35) rfl ?_)
   clear hk35
   rintro v O' ⟨N, rfl, rfl, rfl⟩
   rw [decide_eq_false hin]
   refine TO.q (q_not rfl) (TO.nl ?_)
   refine T.cond1 rfl ?_
   refine T.rg (TO.qm rfl (TO.qm rfl (TO.qm rfl (TO.q (q_ix (i := x) underlying37 inf3 rfl rfl (Sl.o s1) (by rw [hl1]; exact hlx) (by rw [List.length_map, hl1]; exact hlx)) (TO.q (q_ld underlying3 rfl rfl (Sl.o s1) hx1) (TO.l rfl (l_build1 (v := vI ((toN d o x : Nat) : Int)) underlying37 inf3 rfl rfl rfl (fun z3 => ?_))))))))
   refine TO.l rfl (l_append 1 underlying37 underlying37 inf3 rfl rfl rfl rfl (by rw [List.length_map, hm2, Nat.mul_one]) (by decide) (Src.row (j := 0) rfl (by simp)) (by simp [oneB]) (by omega) (by decide) (by decide) (fun z4 zc5 => ?_))
   refine TO.qa rfl (TO.nl (T.rg (TO.qm rfl (TO.q (q_inc rfl rfl (by omega)) (TO.qa rfl ?_)))))
   refine TO.sub (O' := [rowI z4 zc5 3 1 ((nats (bfsM d i o x)) ++ [vI ((toN d o x : Nat) : Int)]), oI z1 25 [(vI d.vars), (vI d.start), (.slice nb d.next.length nc), (.slice fb d.final.length fc)]]) (Sub.pick [1, 1] rfl) ?_
   refine TO.nl ?_
   have hst : bfsM d i o (x + 1) = bfsM d i o x ++ [toN d o x] := by rw [bfsM_step, add, if_neg hin]
   exact ⟨x + 1, by omega, z4, zc5, m2 + 1, by rw [hst, show nats (bfsM d i o x ++ [toN d o x]) = nats (bfsM d i o x) ++ [vI ((toN d o x : Nat) : Int)] from List.map_append], by omega, by rw [hst]; simp [hm2], (.of rfl)⟩
  have hge27 : ¬ x < d.next[o].length := by omega
  refine T.exit ?_
  refine T.rg (TO.qm rfl (TO.q (q_inc rfl rfl (by omega)) (TO.qa rfl (TO.nl ?_))))
  have hxe : x = 2 ^ d.vars.toNat := by omega
  have hbs : bfsM d i o x = bfsN d (i + 1) := by rw [bfsN_succ ho, hxe]; rfl
  exact ⟨i + 1, by omega, lb, lc, m2, by rw [hbs], by rw [← hbs]; exact hm2, by omega, (.of rfl)⟩
 have hge13 : ¬ i < m := by omega
 refine T.exit ?_
 refine T.s (T.rg (TO.qm rfl (TO.qa rfl (TO.nl (T.ret (Res.drop ?_))))))
 refine Res.one (.slice lb m lc) Tryz.results106 rfl ?_
 have hlen := bfsN_len hv.toVal i
 have hle : order d = bfsN d i := order_eq (by omega) (by omega)
 exact ⟨[rowI lb lc 3 1 (nats (bfsN d i))], (Sub.pick [0] rfl), _, _, by rw [hle, ← hm], by rw [hle]⟩
theorem rRenumOk (w : World) [Tab Tryz.prog w] (d : DFA) (nb fb : Option Addr) (nc fc : Nat) (vs : List Value) (h : DfaAt w d nb vs fb) (hv : Valid d) (hn : d.next.length < 10000) :
  PureT Tryz.prog 82 [.agg (dfaCells d nb nc fb fc).toArray] w fun v N => ∃ nb' nc' fb' fc' qs, v = .tuple #[.agg (dfaCells (renum d) nb' nc' fb' fc').toArray, vI 0] ∧ N = [rowI nb' nc' 37 1 (vals qs), rowI fb' fc' 4 1 (bools (renum d).final)] ++ itms 3 qs ∧ nums qs = (renum d).next := by
 refine CallT.enter func82 rfl ntmps82 rfl ?_
 have he := checkD_zero.2 hv
 have hb : d.next.length < 9223372036854775807 := by have := hv.n4; omega
 have hbr : ∀ r ∈ d.next, r.length < 9223372036854775807 := hv.bound
 have hbf : d.final.length < 9223372036854775807 := by have := hv.fin; omega
 have hvl := h.rows.1
 have hww := hv.width
 have hol := order_len hv.toVal
 have hfl := hv.fin
 refine T.s (T.rg (TO.l rfl (l_box (v := (.agg #[(vI d.vars), (vI d.start), (.slice nb d.next.length nc), (.slice fb d.final.length fc)])) (cs := [(vI d.vars), (vI d.start), (.slice nb d.next.length nc), (.slice fb d.final.length fc)]) rfl rfl (fun z1 => ?_))))
 refine TO.l rfl (l_alloc inf25 rfl (fun z2 => ?_))
 refine TO.qa rfl (TO.nl (T.s (T.rg (TO.q (q_la 1 underlying25 rfl inf25 rfl rfl rfl) ?_))))
 have hk11 := fun (w1 : World) (hI : Inv w [oI z2 25 [(vI 0), (vI 0), nS, nS], oI z1 25 [(vI d.vars), (vI d.start), (.slice nb d.next.length nc), (.slice fb d.final.length fc)]] w1) => (haveI := Inv.tab (P := Tryz.prog) hI; refCheck w1 d nb fb nc fc vs (hI.dfa h) hb hbr hbf)
 refine TO.l rfl (l_call ent21 (CallT.op hk11) rfl ?_)
 clear hk11
 rintro v O' ⟨N, rfl, rfl, rfl⟩
 rw [he]
 refine TO.qa rfl (TO.nl (T.s (T.s (T.rg (TO.qm rfl (TO.q (q_neq rfl rfl) (TO.nl (T.cond0 rfl (T.skip (T.s (T.rg (TO.q (q_la 1 underlying25 rfl inf25 rfl rfl rfl) ?_))))))))))))
 have hk17 := fun (w1 : World) (hI : Inv w [oI z2 25 [(vI 0), (vI 0), nS, nS], oI z1 25 [(vI d.vars), (vI d.start), (.slice nb d.next.length nc), (.slice fb d.final.length fc)]] w1) => (haveI := Inv.tab (P := Tryz.prog) hI; orderC w1 d nb fb nc fc vs (hI.dfa h) hv hn)
 refine TO.l rfl (l_call ent106 (CallT.op hk17) rfl ?_)
 clear hk17
 rintro v O' ⟨N, rfl, lb, lc, rfl, rfl⟩
 refine TO.qa rfl (TO.nl (T.s (T.rg (TO.q (q_fa underlying25 rfl inf3 rfl rfl) (TO.q (q_lb 2 underlying3 rfl rfl rfl rfl) (TO.q (q_build (cs := [(vI d.vars), (vI 0), nS, nS]) plan25 inf25 (by kernel_rfl)) (TO.l rfl (l_alloc inf25 rfl (fun z3 => ?_)))))))))
 refine TO.l rfl (l_sb (v := (.agg #[(vI d.vars), (vI 0), nS, nS])) (vs := [(vI d.vars), (vI 0), nS, nS]) 0 inf25 rfl rfl rfl rfl rfl rfl (by simp [putL]) ?_)
 refine TO.nl (T.s (T.s (T.rg (TO.qa rfl (TO.nl (T.block (T.nilRow 4 1 ?_)))))))
 refine T.nilRow 37 1 ?_
 refine T.loop (fun (i : Nat) ρ O => ∃ (ob fb9 : Option Addr) (oc fc9 : Nat) (qs : List Rec), O = ([rowI ob oc 37 1 (vals qs), rowI fb9 fc9 4 1 (bools (((order d).take i).map fun o => d.final.getD o false)), oI z3 25 [(vI d.vars), (vI 0), (.slice ob i oc), (.slice fb9 i fc9)], rowI lb lc 3 1 (nats (order d)), oI z2 25 [(vI 0), (vI 0), nS, nS], oI z1 25 [(vI d.vars), (vI d.start), (.slice nb d.next.length nc), (.slice fb d.final.length fc)]] ++ (itms 3 qs)) ∧ i ≤ (order d).length ∧ nums qs = (renum d).next.take i ∧ Heads [(0, (.agg #[(vI d.vars), (vI d.start), (.slice nb d.next.length nc), (.slice fb d.final.length fc)])), (1, (.pointer (aD z1))), (2, (.pointer (aD z2))), (3, vI 0), (4, vI ((0 : Nat) : Int)), (5, (.slice lb ((order d).length) lc)), (6, (.pointer (aD z3))), (7, vI (i : Int))] ρ) (fun i => (order d).length - i) 0 ?_ ?_
 ·refine ⟨none, none, 0, 0, [], ?_, Nat.zero_le _, rfl, (.of rfl)⟩
  rfl
 rintro i ρ O ⟨ob, fb9, oc, fc9, qs, rfl, hi, hqs, hH⟩
 obtain ⟨ρ0, rfl⟩ := hH.elim
 clear hH
 have hql : qs.length = i := by
  have := congrArg List.length hqs
  simp [renum_next] at this
  omega
 refine T.s (T.s (T.rg (TO.qm rfl (TO.qm rfl (TO.q (q_len underlying37 rfl) (TO.q (q_lss rfl rfl) (TO.nl (T.condP rfl (fun hc => ?_) (fun hc => ?_)))))))))
 ·have hlt24 : i < (order d).length := by omega
  obtain ⟨o, hog⟩ : ∃ o, (order d)[i] = o := ⟨_, rfl⟩
  have ho : (order d)[i]? = some o := by rw [List.getElem?_eq_getElem hlt24, hog]
  have hom := List.mem_of_getElem? ho
  have ho9 := order_lt hv o hom
  have hof : o < d.final.length := by omega
  obtain ⟨vb, vc, g1, s1⟩ := h.rows.get ho9
  have hl1 : d.next[o].length = 2 ^ d.vars.toNat := hv.len _ (List.getElem_mem ho9)
  refine T.skip (T.s (T.block (T.s (T.rg (TO.qa rfl (TO.nl (T.s (T.s (T.rg (TO.qa rfl (TO.nl (T.block (T.nilRow 3 1 ?_)))))))))))))
  refine T.loop (fun (x : Nat) ρ O => ∃ (kb : Option Addr) (kc : Nat), O = ([rowI kb kc 3 1 (nats ((renRow d o).take x)), rowI ob oc 37 1 (vals qs), rowI fb9 fc9 4 1 (bools (((order d).take i).map fun o => d.final.getD o false)), oI z3 25 [(vI d.vars), (vI 0), (.slice ob i oc), (.slice fb9 i fc9)], rowI lb lc 3 1 (nats (order d)), oI z2 25 [(vI 0), (vI 0), nS, nS], oI z1 25 [(vI d.vars), (vI d.start), (.slice nb d.next.length nc), (.slice fb d.final.length fc)]] ++ (itms 3 qs)) ∧ x ≤ 2 ^ d.vars.toNat ∧ Heads [(0, (.agg #[(vI d.vars), (vI d.start), (.slice nb d.next.length nc), (.slice fb d.final.length fc)])), (1, (.pointer (aD z1))), (2, (.pointer (aD z2))), (3, vI 0), (4, vI ((0 : Nat) : Int)), (5, (.slice lb ((order d).length) lc)), (6, (.pointer (aD z3))), (7, vI (i : Int)), (8, (.slice kb x kc)), (9, vI (x : Int))] ρ) (fun x => 2 ^ d.vars.toNat - x) 0 ?_ ?_
  ·exact ⟨none, 0, rfl, Nat.zero_le _, (.of rfl)⟩
  rintro x ρ O ⟨kb, kc, rfl, hx, hH⟩
  obtain ⟨ρ0, rfl⟩ := hH.elim
  clear hH
  refine T.s (T.s ?_)
  refine T.draws _ [(0, 0), (1, 0), (2, 0), (3, 0), (4, 0), (5, 0), (6, 0), (7, 0), (8, 0), (9, 0), (10, 0)] mixed (by kernel_rfl) (Sub.of (List.Sublist.refl _)) (fun _ _ _ h => h) ?_
  refine DO.q rfl (q_move rfl) (DO.q rfl (q_fa underlying25 rfl inf22 rfl rfl) (DO.q rfl (q_lb 6 underlying22 rfl rfl rfl rfl) (DO.q rfl (q_move rfl) ?_)))
  refine DO.q rfl (q_move rfl) (DO.q rfl (q_ix (i := i) underlying37 inf3 rfl rfl (rowO (mG 4 rfl)) hlt24 (by rw [List.length_map]; exact hlt24)) (DO.q rfl (q_ld underlying3 rfl rfl (rowO (mG 4 rfl)) (show (nats (order d))[i]? = some (vI ((o : Nat) : Int)) by rw [List.getElem?_map, ho]; rfl)) (DO.q rfl (q_ix (i := o) underlying22 inf37 rfl rfl (Sl.o h.outer) ho9 (hvl ▸ ho9)) ?_)))
  refine DO.q rfl (q_ld underlying37 rfl rfl (Sl.o h.outer) g1) (DO.q rfl (q_len underlying37 rfl) (DO.q rfl (q_lss rfl rfl) ?_))
  refine DO.done ?_
  refine T.condP rfl (fun hc => ?_) (fun hc => ?_)
  ·have hlt37 : x < d.next[o].length := by omega
   have hlx : x < 2 ^ d.vars.toNat := by omega
   obtain ⟨hta, _, hxk1, hx1⟩ := hv.toN_lt ho9 hlx
   have hx1 : (ints d.next[o])[x]? = some (vI ((toN d o x : Nat) : Int)) := by rw [ints_get hxk1, hx1]
   have hin : toN d o x ∈ order d := order_closed hv o hom _ (List.mem_of_getElem? (sucs_get hlx))
   refine T.skip (T.s (T.block ?_))
   refine T.draws _ [(0, 0), (1, 0), (2, 0), (3, 0), (4, 0), (5, 0), (6, 0), (7, 0), (8, 0), (9, 0), (10, 0), (11, 0), (12, 0), (13, 1), (14, 1), (15, 2), (16, 2)] mixed (drawF_ok (by kernel_rfl)) (Sub.of (List.Sublist.refl _)) (fun _ _ _ h => h) ?_
   refine DO.q rfl (q_move rfl) (DO.q rfl (q_move rfl) (DO.q rfl (q_fa underlying25 rfl inf22 rfl rfl) (DO.q rfl (q_lb 6 underlying22 rfl rfl rfl rfl) ?_)))
   refine DO.q rfl (q_move rfl) (DO.q rfl (q_move rfl) (DO.q rfl (q_ix (i := i) underlying37 inf3 rfl rfl (rowO (mG 4 rfl)) hlt24 (by rw [List.length_map]; exact hlt24)) (DO.q rfl (q_ld underlying3 rfl rfl (rowO (mG 4 rfl)) (show (nats (order d))[i]? = some (vI ((o : Nat) : Int)) by rw [List.getElem?_map, ho]; rfl)) ?_)))
   refine DO.q rfl (q_ix (i := o) underlying22 inf37 rfl rfl (Sl.o h.outer) ho9 (hvl ▸ ho9)) (DO.q rfl (q_ld underlying37 rfl rfl (Sl.o h.outer) g1) (DO.q rfl (q_move rfl) (DO.q rfl (q_ix (i := x) underlying37 inf3 rfl rfl (Sl.o s1) (by rw [hl1]; exact hlx) (by rw [List.length_map, hl1]; exact hlx)) (DO.q rfl (q_ld underlying3 rfl rfl (Sl.o s1) hx1) ?_))))
   have hk53 := fun (w1 : World) (hI : Inv w ([rowI kb kc 3 1 (nats ((renRow d o).take x)), rowI ob oc 37 1 (vals qs), rowI fb9 fc9 4 1 (bools (((order d).take i).map fun o => d.final.getD o false)), oI z3 25 [(vI d.vars), (vI 0), (.slice ob i oc), (.slice fb9 i fc9)], rowI lb lc 3 1 (nats (order d)), oI z2 25 [(vI 0), (vI 0), nS, nS], oI z1 25 [(vI d.vars), (vI d.start), (.slice nb d.next.length nc), (.slice fb d.final.length fc)]] ++ (itms 3 qs)) w1) => (haveI := Inv.tab (P := Tryz.prog) hI; numberC w1 lb lc (order d) (toN d o x) _ rfl (hI.slOf (mG 4 rfl)) (by omega) hin)
   refine DO.loud rfl rfl (l_call ent107 (CallT.op hk53) rfl ?_)
   clear hk53
   rintro v O' ⟨N, rfl, rfl, rfl⟩
   refine ⟨Sub.pickR [0, 0, 0, 0, 0, 0, 0] [rowI kb kc 3 1 (nats ((renRow d o).take x)), rowI ob oc 37 1 (vals qs), rowI fb9 fc9 4 1 (bools (((order d).take i).map fun o => d.final.getD o false)), oI z3 25 [(vI d.vars), (vI 0), (.slice ob i oc), (.slice fb9 i fc9)], rowI lb lc 3 1 (nats (order d)), oI z2 25 [(vI 0), (vI 0), nS, nS], oI z1 25 [(vI d.vars), (vI d.start), (.slice nb d.next.length nc), (.slice fb d.final.length fc)]] (itms 3 qs) rfl rfl, ?_⟩
   refine DO.loud rfl rfl (l_build1 (v := vI ((ix (toN d o x) (order d) : Nat) : Int)) underlying37 inf3 rfl rfl rfl (fun z4 => ⟨Sub.pickR [1, 1, 1, 1, 1, 1, 1] [rowI (aD z4) 1 3 1 [vI ((ix (toN d o x) (order d) : Nat) : Int)], rowI kb kc 3 1 (nats ((renRow d o).take x)), rowI ob oc 37 1 (vals qs), rowI fb9 fc9 4 1 (bools (((order d).take i).map fun o => d.final.getD o false)), oI z3 25 [(vI d.vars), (vI 0), (.slice ob i oc), (.slice fb9 i fc9)], rowI lb lc 3 1 (nats (order d)), oI z2 25 [(vI 0), (vI 0), nS, nS], oI z1 25 [(vI d.vars), (vI d.start), (.slice nb d.next.length nc), (.slice fb d.final.length fc)]] (itms 3 qs) rfl rfl, ?_⟩))
   refine DO.last rfl rfl (l_append 1 underlying37 underlying37 inf3 rfl rfl rfl rfl (by rw [List.length_map, List.length_take, renRow_length]; omega) (by decide) (Src.row (j := 0) rfl (by simp)) (by simp [oneB]) (by omega) (by decide) (by decide) (fun z5 zc6 => ?_))
   refine DO.last rfl rfl (LT.oq rfl rfl (q_assign rfl) ?_)
   refine DO.done ?_
   refine T.rg (TO.qm rfl (TO.q (q_inc rfl rfl (by omega)) (TO.qa rfl ?_)))
   refine TO.sub (O' := ([rowI z5 zc6 3 1 ((nats ((renRow d o).take x)) ++ [vI ((ix (toN d o x) (order d) : Nat) : Int)]), rowI ob oc 37 1 (vals qs), rowI fb9 fc9 4 1 (bools (((order d).take i).map fun o => d.final.getD o false)), oI z3 25 [(vI d.vars), (vI 0), (.slice ob i oc), (.slice fb9 i fc9)], rowI lb lc 3 1 (nats (order d)), oI z2 25 [(vI 0), (vI 0), nS, nS], oI z1 25 [(vI d.vars), (vI d.start), (.slice nb d.next.length nc), (.slice fb d.final.length fc)]] ++ (itms 3 qs))) (Sub.pickR [1, 1, 1, 1, 1, 1, 1] [rowI (aD z4) 1 3 1 [vI ((ix (toN d o x) (order d) : Nat) : Int)], rowI z5 zc6 3 1 ((nats ((renRow d o).take x)) ++ [vI ((ix (toN d o x) (order d) : Nat) : Int)]), rowI ob oc 37 1 (vals qs), rowI fb9 fc9 4 1 (bools (((order d).take i).map fun o => d.final.getD o false)), oI z3 25 [(vI d.vars), (vI 0), (.slice ob i oc), (.slice fb9 i fc9)], rowI lb lc 3 1 (nats (order d)), oI z2 25 [(vI 0), (vI 0), nS, nS], oI z1 25 [(vI d.vars), (vI d.start), (.slice nb d.next.length nc), (.slice fb d.final.length fc)]] (itms 3 qs) rfl rfl) ?_
   refine TO.nl ?_
   exact ⟨x + 1, by omega, z5, zc6, by rw [renRow_step hlx, show nats ((renRow d o).take x ++ [ix (toN d o x) (order d)]) = nats ((renRow d o).take x) ++ [vI ((ix (toN d o x) (order d) : Nat) : Int)] from List.map_append], by omega, (.of rfl)⟩
  have hge37 : ¬ x < d.next[o].length := by omega
  refine T.exit ?_
  refine T.s (T.rg (TO.q (q_fa underlying25 rfl inf22 rfl rfl) (TO.q (q_lb 3 underlying22 rfl rfl rfl rfl) (TO.qm rfl (TO.l rfl (l_build1 (v := (.slice kb x kc)) underlying22 inf37 rfl rfl rfl (fun z7 => ?_)))))))
  refine TO.l rfl (l_append 2 underlying22 underlying22 inf37 rfl rfl rfl rfl (by rw [List.length_map]; omega) (by decide) (Src.row (j := 0) rfl (by simp)) (by simp [oneB]) (by omega) (by decide) (by decide) (fun z8 zc9 => ?_))
  refine TO.q (q_fa underlying25 rfl inf22 rfl rfl) (TO.l rfl (l_sb (v := (.slice z8 (i + 1) zc9)) (vs := [(.slice z8 (i + 1) zc9)]) 4 inf22 rfl rfl rfl rfl rfl rfl (by simp [putL]) ?_))
  refine TO.nl ?_
  refine T.draws _ [(0, 0), (1, 0), (2, 0), (3, 0), (4, 0), (5, 0), (6, 0), (7, 0), (8, 0), (9, 0), (10, 1), (11, 2), (12, 2), (13, 2)] mixed (drawF_ok (by kernel_rfl)) (Sub.of (List.Sublist.refl _)) (fun _ _ _ h => h) ?_
  refine DO.q rfl (q_fa underlying25 rfl inf23 rfl rfl) (DO.q rfl (q_lb 4 underlying23 rfl rfl rfl rfl) (DO.q rfl (q_fa underlying25 rfl inf23 rfl rfl) (DO.q rfl (q_lb 7 underlying23 rfl rfl rfl rfl) ?_)))
  refine DO.q rfl (q_move rfl) (DO.q rfl (q_move rfl) (DO.q rfl (q_ix (i := i) underlying37 inf3 rfl rfl (rowO (mG 5 rfl)) hlt24 (by rw [List.length_map]; exact hlt24)) (DO.q rfl (q_ld underlying3 rfl rfl (rowO (mG 5 rfl)) (show (nats (order d))[i]? = some (vI ((o : Nat) : Int)) by rw [List.getElem?_map, ho]; rfl)) ?_)))
  refine DO.q rfl (q_ix (i := o) underlying23 inf4 rfl rfl (Sl.o h.final) hof (by rw [List.length_map]; exact hof)) (DO.q rfl (q_ld underlying4 rfl rfl (Sl.o h.final) (bools_get hof)) ?_)
  refine DO.loud rfl rfl (l_build1 (v := .bool d.final[o]) underlying23 inf4 rfl rfl rfl (fun z10 => ⟨Sub.pickR [1, 1, 1, 1, 1, 1, 1, 1] [rowI (aD z10) 1 4 1 [.bool d.final[o]], rowI (aD z7) 1 37 1 [(.slice kb x kc)], rowI kb kc 3 1 (nats ((renRow d o).take x)), rowI z8 zc9 37 1 ((vals qs) ++ [(.slice kb x kc)]), rowI fb9 fc9 4 1 (bools (((order d).take i).map fun o => d.final.getD o false)), oI z3 25 [(vI d.vars), (vI 0), (.slice z8 (i + 1) zc9), (.slice fb9 i fc9)], rowI lb lc 3 1 (nats (order d)), oI z2 25 [(vI 0), (vI 0), nS, nS], oI z1 25 [(vI d.vars), (vI d.start), (.slice nb d.next.length nc), (.slice fb d.final.length fc)]] (itms 3 qs) rfl rfl, ?_⟩))
  refine DO.last rfl rfl (l_append 4 underlying23 underlying23 inf4 rfl rfl rfl rfl (by simp; omega) (by decide) (Src.row (j := 0) rfl (by simp)) (by simp [oneB]) (by omega) (by decide) (by decide) (fun z11 zc12 => ?_))
  refine DO.last rfl rfl (LT.oq rfl rfl (q_fa underlying25 rfl inf23 rfl rfl) ?_)
  refine DO.last rfl rfl (l_sb (v := (.slice z11 (i + 1) zc12)) (vs := [(.slice z11 (i + 1) zc12)]) 5 inf23 rfl rfl rfl rfl rfl rfl (by simp [putL]) ?_)
  refine DO.done ?_
  refine T.rg (TO.qm rfl (TO.q (q_inc rfl rfl (by omega)) (TO.qa rfl ?_)))
  have hxe : x = 2 ^ d.vars.toNat := by omega
  have hfs : bools (((order d).take (i + 1)).map fun o => d.final.getD o false) = bools (((order d).take i).map fun o => d.final.getD o false) ++ [.bool d.final[o]] := by
   rw [List.take_succ_eq_append_getElem hlt24, List.map_append, hog]; simp [hof]
  have hR : rowI kb kc 3 1 (nats ((renRow d o).take x)) = Rec.itm 3 ⟨kb, kc, (renRow d o).map fun x : Nat => (x : Int)⟩ := by
   rw [List.take_of_length_le (by rw [renRow_length]; omega)]; simp [Rec.itm, Function.comp_def]
  refine TO.sub (O' := [rowI z8 zc9 37 1 ((vals qs) ++ [(.slice kb x kc)]), rowI z11 zc12 4 1 ((bools (((order d).take i).map fun o => d.final.getD o false)) ++ [.bool d.final[o]]), oI z3 25 [(vI d.vars), (vI 0), (.slice z8 (i + 1) zc9), (.slice z11 (i + 1) zc12)], rowI lb lc 3 1 (nats (order d)), oI z2 25 [(vI 0), (vI 0), nS, nS], oI z1 25 [(vI d.vars), (vI d.start), (.slice nb d.next.length nc), (.slice fb d.final.length fc)]] ++ itms 3 (qs ++ [⟨kb, kc, (renRow d o).map fun x : Nat => (x : Int)⟩])) (by show Sub _ ([rowI (aD z10) 1 4 1 [.bool d.final[o]], rowI (aD z7) 1 37 1 [(.slice kb x kc)], rowI kb kc 3 1 (nats ((renRow d o).take x)), rowI z8 zc9 37 1 ((vals qs) ++ [(.slice kb x kc)]), rowI z11 zc12 4 1 ((bools (((order d).take i).map fun o => d.final.getD o false)) ++ [.bool d.final[o]]), oI z3 25 [(vI d.vars), (vI 0), (.slice z8 (i + 1) zc9), (.slice z11 (i + 1) zc12)], rowI lb lc 3 1 (nats (order d)), oI z2 25 [(vI 0), (vI 0), nS, nS], oI z1 25 [(vI d.vars), (vI d.start), (.slice nb d.next.length nc), (.slice fb d.final.length fc)]] ++ itms 3 qs); rw [hR]; exact Sub.ca [rowI (aD z10) 1 4 1 [.bool d.final[o]], rowI (aD z7) 1 37 1 [(.slice kb x kc)]]) ?_
  refine TO.nl ?_
  refine ⟨i + 1, by omega, z8, z11, zc9, zc12, qs ++ [⟨kb, kc, (renRow d o).map fun x : Nat => (x : Int)⟩], ?_, by omega, ?_, (.of rfl)⟩
  ·rw [hfs]; simp [Rec.val, hxe, renRow_length]
  ·rw [show nums (qs ++ [⟨kb, kc, (renRow d o).map fun x : Nat => (x : Int)⟩]) = nums qs ++ [(renRow d o).map fun x : Nat => (x : Int)] by simp, hqs, renum_next, ← List.map_take, ← List.map_take, List.take_succ_eq_append_getElem hlt24, hog]; simp
 have hge24 : ¬ i < (order d).length := by omega
 refine T.exit ?_
 refine T.s (T.rg (TO.q (q_la 2 underlying25 rfl inf25 rfl rfl rfl) (TO.l rfl (l_sb (v := (.agg #[(vI d.vars), (vI 0), (.slice ob i oc), (.slice fb9 i fc9)])) (vs := [(vI d.vars), (vI 0), (.slice ob i oc), (.slice fb9 i fc9)]) 4 inf25 rfl rfl rfl rfl rfl rfl (by simp [putL]) ?_))))
 refine TO.qa rfl (TO.nl (T.ret (Res.drop ?_)))
 refine Res.cell1b (vI 0) (i := 4) Tryz.results82 underlying25 rfl inf25 rfl rfl rfl rfl ?_
 have hie : i = (order d).length := by omega
 have hfx : (((order d).take i).map fun o => d.final.getD o false) = (renum d).final := by rw [List.take_of_length_le (by omega)]; rfl
 have hl1 : (renum d).next.length = i := by simp [renum, hie]
 have hl2 : (renum d).final.length = i := by simp [renum, hie]
 have hnx : nums qs = (renum d).next := by rw [hqs, List.take_of_length_le (by omega)]
 refine ⟨[rowI ob oc 37 1 (vals qs), rowI fb9 fc9 4 1 (bools (((order d).take i).map fun o => d.final.getD o false))] ++ itms 3 qs, Sub.ca [oI z3 25 [(vI d.vars), (vI 0), (.slice ob i oc), (.slice fb9 i fc9)], rowI lb lc 3 1 (nats (order d)), oI z2 25 [(vI d.vars), (vI 0), (.slice ob i oc), (.slice fb9 i fc9)], oI z1 25 [(vI d.vars), (vI d.start), (.slice nb d.next.length nc), (.slice fb d.final.length fc)]], ob, oc, fb9, fc9, qs, ?_, by rw [hfx], hnx⟩
 show Value.tuple #[Value.agg (List.toArray [vI d.vars, vI 0, .slice ob i oc, .slice fb9 i fc9]), _] = Value.tuple #[Value.agg (List.toArray [vI d.vars, vI 0, .slice ob (renum d).next.length oc, .slice fb9 (renum d).final.length fc9]), _]
 rw [hl1, hl2]
end Go.Proofs.YtohkmggbfcnapaaGreatDoor


namespace Go.Proofs.YtohkmggbfcnapaaGreatDoor
open Go.Lx Go.RowKit _root_.Go.Proofs.Tryz
theorem rMinBad (w : World) [Tab Tryz.prog w] (d : DFA) (nb fb : Option Addr) (nc fc : Nat) (vs : List Value) (h : DfaAt w d nb vs fb) (hb : d.next.length < 9223372036854775807) (hbr : ∀ r ∈ d.next, r.length < 9223372036854775807) (hbf : d.final.length < 9223372036854775807) (he : checkD d ≠ 0) :
  PureT Tryz.prog 45 [.agg (dfaCells d nb nc fb fc).toArray] w fun v N => v = .tuple #[.agg #[vI 0, vI 0, nS, nS], vI (checkD d : Int)] ∧ N = [] := by
 refine CallT.enter func45 rfl ntmps45 rfl ?_
 refine T.s (T.rg (TO.l rfl (l_box (v := (.agg #[(vI d.vars), (vI d.start), (.slice nb d.next.length nc), (.slice fb d.final.length fc)])) (cs := [(vI d.vars), (vI d.start), (.slice nb d.next.length nc), (.slice fb d.final.length fc)]) rfl rfl (fun b1 => ?_))))
 refine TO.l rfl (l_alloc inf25 rfl (fun b2 => ?_))
 refine TO.qa rfl (TO.nl (T.s (T.rg (TO.q (q_la 1 underlying25 rfl inf25 rfl rfl rfl) ?_))))
 have hk12 := fun (w1 : World) (hI : Inv w [oI b2 25 [(vI 0), (vI 0), nS, nS], oI b1 25 [(vI d.vars), (vI d.start), (.slice nb d.next.length nc), (.slice fb d.final.length fc)]] w1) => (haveI := Inv.tab (P := Tryz.prog) hI; rClassesBad w1 d nb fb nc fc vs (hI.dfa h) hb hbr hbf he)
 refine TO.l rfl (l_call ent81 (CallT.op hk12) rfl ?_)
 clear hk12
 rintro v O' ⟨N, rfl, rfl, rfl⟩
 refine TO.qm rfl (TO.q (q_extract (vs := _) rfl rfl) (TO.q (q_extract (vs := _) rfl rfl) (TO.qa rfl (TO.qa rfl (TO.nl (T.s (T.s (T.rg (TO.qm rfl (TO.q (QT.toB (q_neq rfl rfl) (decide_eq_true (by omega))) (TO.nl ?_)))))))))))
 refine T.cond1 rfl ?_
 refine T.s (T.rg (TO.q (q_build plan25 inf25 rfl) (TO.qm rfl (TO.l rfl (l_sb (v := (.agg #[(vI 0), (vI 0), nS, nS])) (vs := [(vI 0), (vI 0), nS, nS]) 0 inf25 rfl rfl rfl rfl rfl rfl (by simp [putL]) ?_)))))
 refine TO.qa rfl (TO.nl (T.ret (Res.drop ?_)))
 refine Res.cell1b (vI (checkD d : Int)) (i := 0) Tryz.results45 underlying25 rfl inf25 rfl rfl rfl rfl ?_
 exact ⟨[], Sub.of (List.nil_sublist _), rfl, rfl⟩
theorem rMinOk (w : World) [Tab Tryz.prog w] (d : DFA) (nb fb : Option Addr) (nc fc : Nat) (vs : List Value) (h : DfaAt w d nb vs fb) (hv : Valid d) (hn : d.next.length < 10000) (hqv : Valid (quo d (itF d d.next.length))) (hqn : (quo d (itF d d.next.length)).next.length < 10000) :
  PureT Tryz.prog 45 [.agg (dfaCells d nb nc fb fc).toArray] w fun v N => ∃ nb' nc' fb' fc' qs, v = .tuple #[.agg (dfaCells (renum (quo d (itF d d.next.length))) nb' nc' fb' fc').toArray, vI 0] ∧ N = [rowI nb' nc' 37 1 (vals qs), rowI fb' fc' 4 1 (bools (renum (quo d (itF d d.next.length))).final)] ++ itms 3 qs ∧ nums qs = (renum (quo d (itF d d.next.length))).next := by
 refine CallT.enter func45 rfl ntmps45 rfl ?_
 obtain ⟨cs, hcs⟩ : ∃ cs, itF d d.next.length = cs := ⟨_, rfl⟩
 rw [hcs] at hqv hqn ⊢
 have hcl : cs.length = d.next.length := hcs ▸ itF_length d _
 have hs0 := hv.s0
 have hs1 := hv.s1
 have hn0 := hv.n0
 have hn4 := hv.n4
 have hsn : d.start.toNat < cs.length := by omega
 have hb : d.next.length < 9223372036854775807 := by omega
 have hvl := h.rows.1
 have hww := hv.width
 refine T.s (T.rg (TO.l rfl (l_box (v := (.agg #[(vI d.vars), (vI d.start), (.slice nb d.next.length nc), (.slice fb d.final.length fc)])) (cs := [(vI d.vars), (vI d.start), (.slice nb d.next.length nc), (.slice fb d.final.length fc)]) rfl rfl (fun z1 => ?_))))
 refine TO.l rfl (l_alloc inf25 rfl (fun z2 => ?_))
 refine TO.qa rfl (TO.nl (T.s (T.rg (TO.q (q_la 1 underlying25 rfl inf25 rfl rfl rfl) ?_))))
 have hk12 := fun (w1 : World) (hI : Inv w [oI z2 25 [(vI 0), (vI 0), nS, nS], oI z1 25 [(vI d.vars), (vI d.start), (.slice nb d.next.length nc), (.slice fb d.final.length fc)]] w1) => (haveI := Inv.tab (P := Tryz.prog) hI; rClassesOk w1 d nb fb nc fc vs (hI.dfa h) hv hn)
 refine TO.l rfl (l_call ent81 (CallT.op hk12) rfl ?_)
 clear hk12
 rintro v O' ⟨N, rfl, cb, cc, rfl, rfl⟩
 rw [hcs]
 refine TO.qm rfl (TO.q (q_extract (vs := _) rfl rfl) (TO.q (q_extract (vs := _) rfl rfl) (TO.qa rfl (TO.qa rfl (TO.nl (T.s (T.s (T.rg (TO.qm rfl (TO.q (q_neq rfl rfl) (TO.nl (T.cond0 rfl (T.skip (T.s ?_))))))))))))))
 refine T.draws [rowI cb cc 3 1 (nats cs), oI z1 25 [(vI d.vars), (vI d.start), (.slice nb d.next.length nc), (.slice fb d.final.length fc)]] [(0, 0), (1, 0), (2, 0), (3, 0), (4, 0), (5, 0), (6, 0), (7, 0), (8, 1), (9, 2)] mixed (by kernel_rfl) (Sub.pick [0, 1] rfl) (fun _ _ _ h => h) ?_
 refine DO.q rfl (q_fa underlying25 rfl inf3 rfl rfl) (DO.q rfl (q_lb 1 underlying3 rfl rfl rfl rfl) (DO.q rfl (q_move rfl) (DO.q rfl (q_fa underlying25 rfl inf3 rfl rfl) (DO.q rfl (q_lb 1 underlying3 rfl rfl rfl rfl) (DO.q rfl (q_ixz (i := d.start) underlying37 inf3 rfl rfl (rowO (mG 0 rfl)) hs0 (hcl ▸ hsn) (by rw [List.length_map]; exact hsn)) (DO.q rfl (q_ld underlying3 rfl rfl (rowO (mG 0 rfl)) (show (nats cs)[d.start.toNat]? = some (vI ((cs.getD d.start.toNat 0 : Nat) : Int)) by rw [nats_get hsn]; simp [hsn])) (DO.q rfl (q_build (cs := [(vI d.vars), vI ((cs.getD d.start.toNat 0 : Nat) : Int), nS, nS]) plan25 inf25 (by kernel_rfl)) ?_)))))))
 refine DO.loud rfl rfl (l_alloc inf25 rfl (fun z3 => ⟨Sub.pick [1, 2] rfl, ?_⟩))
 refine DO.last rfl rfl (l_sb (v := (.agg #[(vI d.vars), vI ((cs.getD d.start.toNat 0 : Nat) : Int), nS, nS])) (vs := [(vI d.vars), vI ((cs.getD d.start.toNat 0 : Nat) : Int), nS, nS]) 0 inf25 rfl rfl rfl rfl rfl rfl (by simp [putL]) ?_)
 refine DO.done ?_
 refine T.s (T.s (T.rg (TO.qa rfl (TO.nl (T.block (T.nilRow 4 1 ?_))))))
 refine T.nilRow 37 1 ?_
 refine T.loop (fun (k : Nat) ρ O => ∃ (ob fb9 : Option Addr) (oc fc9 : Nat) (qs : List Rec) (fs : List Bool), O = ([rowI ob oc 37 1 (vals qs), rowI fb9 fc9 4 1 (bools fs), oI z3 25 [(vI d.vars), (vI ((cs.getD d.start.toNat 0 : Nat) : Int)), (.slice ob qs.length oc), (.slice fb9 fs.length fc9)], rowI cb cc 3 1 (nats cs), oI z2 25 [(vI 0), (vI 0), nS, nS], oI z1 25 [(vI d.vars), (vI d.start), (.slice nb d.next.length nc), (.slice fb d.final.length fc)]] ++ (itms 3 qs)) ∧ k ≤ d.next.length ∧ nums qs = (quoN d cs k).1 ∧ fs = (quoN d cs k).2 ∧ Heads [(0, (.agg #[(vI d.vars), (vI d.start), (.slice nb d.next.length nc), (.slice fb d.final.length fc)])), (1, (.pointer (aD z1))), (2, (.pointer (aD z2))), (3, vI 0), (4, (.slice cb d.next.length cc)), (5, vI 0), (6, (.pointer (aD z3))), (7, vI (k : Int))] ρ) (fun k => d.next.length - k) 0 ?_ ?_
 ·exact ⟨none, none, 0, 0, [], [], rfl, Nat.zero_le _, rfl, rfl, (.of rfl)⟩
 rintro k ρ O ⟨ob, fb9, oc, fc9, qs, fs, rfl, hk, hqs, hfs, hH⟩
 obtain ⟨ρ0, rfl⟩ := hH.elim
 clear hH
 refine T.s (T.s (T.rg (TO.qm rfl (TO.qm rfl (TO.q (q_len underlying37 rfl) (TO.q (q_lss rfl rfl) (TO.nl (T.condP rfl (fun hc => ?_) (fun hc => ?_)))))))))
 ·have hlt30 : k < d.next.length := by omega
  have hkc : k < cs.length := by omega
  have hql : qs.length = (quoN d cs k).1.length := by rw [← hqs]; simp
  have hfl : fs.length = (quoN d cs k).1.length := by rw [hfs]; exact (quoN_len d cs k).1.symm
  have hqk := (quoN_len d cs k).2
  have hkf : k < d.final.length := by have := hv.fin; omega
  obtain ⟨vb, vc, g1, s1⟩ := h.rows.get hlt30
  have hrl : d.next[k].length ≤ 64 := by
   have := hv.len _ (List.getElem_mem hlt30); omega
  have hto : ∀ j (hj : j < d.next[k].length), 0 ≤ d.next[k][j] ∧ d.next[k][j].toNat < cs.length := fun j hj => by have := hv.ok _ (List.getElem_mem hlt30) _ (List.getElem_mem hj); omega
  refine T.skip (T.s (T.block (T.s (T.s ?_))))
  refine T.draws [oI z3 25 [(vI d.vars), (vI ((cs.getD d.start.toNat 0 : Nat) : Int)), (.slice ob qs.length oc), (.slice fb9 fs.length fc9)], rowI cb cc 3 1 (nats cs)] [(0, 0), (1, 0), (2, 0), (3, 0), (4, 0), (5, 0), (6, 0), (7, 0)] mixed (by kernel_rfl) (Sub.pick0 [2, 2] [rowI ob oc 37 1 (vals qs), rowI fb9 fc9 4 1 (bools fs), oI z3 25 [(vI d.vars), (vI ((cs.getD d.start.toNat 0 : Nat) : Int)), (.slice ob qs.length oc), (.slice fb9 fs.length fc9)], rowI cb cc 3 1 (nats cs), oI z2 25 [(vI 0), (vI 0), nS, nS], oI z1 25 [(vI d.vars), (vI d.start), (.slice nb d.next.length nc), (.slice fb d.final.length fc)]] (itms 3 qs) rfl rfl) (fun _ _ _ h => h) ?_
  refine DO.q rfl (q_move rfl) (DO.q rfl (q_move rfl) (DO.q rfl (q_ix (i := k) underlying37 inf3 rfl rfl (rowO (mG 1 rfl)) hlt30 (by rw [List.length_map]; exact hkc)) (DO.q rfl (q_ld underlying3 rfl rfl (rowO (mG 1 rfl)) (nats_get hkc)) (DO.q rfl (q_fa underlying25 rfl inf22 rfl rfl) (DO.q rfl (q_lb 0 underlying22 rfl rfl rfl rfl) (DO.q rfl (q_len underlying22 rfl) (DO.q rfl (q_lss rfl rfl) ?_)))))))
  refine DO.done ?_
  refine T.condP rfl (fun hc => ?_) (fun hc => ?_)
  ·have hlt40 : cs[k] < qs.length := by omega
   have hqn1 : quoN d cs (k + 1) = quoN d cs k := by rw [quoN, if_pos (by simp [hkc]; omega)]
   refine T.exit ?_
   refine T.rg (TO.qm rfl (TO.q (q_inc rfl rfl (by omega)) (TO.qa rfl ?_)))
   skip
   refine TO.nl ?_
   refine ⟨k + 1, by omega, ob, fb9, oc, fc9, qs, fs, rfl, by omega, ?_, ?_, (.of rfl)⟩
   ·rw [hqn1]; exact hqs
   ·rw [hqn1]; exact hfs
  have hge40 : ¬ cs[k] < qs.length := by omega
  have hqn2 : quoN d cs (k + 1) = ((quoN d cs k).1 ++ [(rowK cs d.next[k]).map fun c : Nat => (c : Int)], (quoN d cs k).2 ++ [d.final[k]]) := by rw [quoN, if_neg (by simp [hkc]; omega)]; simp [hlt30, hkf]
  refine T.skip (T.s (T.rg (TO.qa rfl (TO.nl (T.s (T.s (T.rg (TO.qa rfl (TO.nl (T.block (T.nilRow 3 1 ?_)))))))))))
  refine T.loop (fun (j : Nat) ρ O => ∃ (kb : Option Addr) (kc : Nat), O = ([rowI kb kc 3 1 (nats ((rowK cs d.next[k]).take j)), rowI ob oc 37 1 (vals qs), rowI fb9 fc9 4 1 (bools fs), oI z3 25 [(vI d.vars), (vI ((cs.getD d.start.toNat 0 : Nat) : Int)), (.slice ob qs.length oc), (.slice fb9 fs.length fc9)], rowI cb cc 3 1 (nats cs), oI z2 25 [(vI 0), (vI 0), nS, nS], oI z1 25 [(vI d.vars), (vI d.start), (.slice nb d.next.length nc), (.slice fb d.final.length fc)]] ++ (itms 3 qs)) ∧ j ≤ d.next[k].length ∧ Heads [(0, (.agg #[(vI d.vars), (vI d.start), (.slice nb d.next.length nc), (.slice fb d.final.length fc)])), (1, (.pointer (aD z1))), (2, (.pointer (aD z2))), (3, vI 0), (4, (.slice cb d.next.length cc)), (5, vI 0), (6, (.pointer (aD z3))), (7, vI (k : Int)), (8, (.slice kb j kc)), (9, vI (j : Int))] ρ) (fun j => d.next[k].length - j) 0 ?_ ?_
  ·exact ⟨none, 0, rfl, Nat.zero_le _, (.of rfl)⟩
  rintro j ρ O ⟨kb, kc, rfl, hj, hH⟩
  obtain ⟨ρ0, rfl⟩ := hH.elim
  clear hH
  refine T.s (T.s (T.rg (TO.qm rfl (TO.q (q_fa underlying25 rfl inf22 rfl rfl) (TO.q (q_lb 6 underlying22 rfl rfl rfl rfl) (TO.qm rfl (TO.q (q_ix (i := k) underlying22 inf37 rfl rfl (Sl.o h.outer) hlt30 (hvl ▸ hlt30)) (TO.q (q_ld underlying37 rfl rfl (Sl.o h.outer) g1) (TO.q (q_len underlying37 rfl) (TO.q (q_lss rfl rfl) (TO.nl (T.condP rfl (fun hc => ?_) (fun hc => ?_)))))))))))))
  ·have hlt48 : j < d.next[k].length := by omega
   have htj := (hto j hlt48).2
   refine T.skip (T.s (T.block (T.rg (TO.qm rfl (TO.qm rfl (TO.q (q_fa underlying25 rfl inf22 rfl rfl) (TO.q (q_lb 6 underlying22 rfl rfl rfl rfl) (TO.qm rfl (TO.q (q_ix (i := k) underlying22 inf37 rfl rfl (Sl.o h.outer) hlt30 (hvl ▸ hlt30)) (TO.q (q_ld underlying37 rfl rfl (Sl.o h.outer) g1) (TO.qm rfl (TO.q (q_ix (i := j) underlying37 inf3 rfl rfl (Sl.o s1) hlt48 (by rw [List.length_map]; exact hlt48)) (TO.q (q_ld underlying3 rfl rfl (Sl.o s1) (ints_get hlt48)) (TO.q (q_ixz (i := d.next[k][j]) underlying37 inf3 rfl rfl (rowO (mG 4 rfl)) (hto j hlt48).1 (hcl ▸ (hto j hlt48).2) (by rw [List.length_map]; exact (hto j hlt48).2)) (TO.q (q_ld underlying3 rfl rfl (rowO (mG 4 rfl)) (nats_get (hto j hlt48).2)) (TO.l rfl (l_build1 (v := vI ((cs[d.next[k][j].toNat] : Nat) : Int)) underlying37 inf3 rfl rfl rfl (fun z4 => ?_))))))))))))))))))
   refine TO.l rfl (l_append 1 underlying37 underlying37 inf3 rfl rfl rfl rfl (by rw [List.length_map, List.length_take, rowK_length]; omega) (by decide) (Src.row (j := 0) rfl (by simp)) (by simp [oneB]) (by omega) (by decide) (by decide) (fun z5 zc6 => ?_))
   refine TO.qa rfl (TO.nl (T.rg (TO.qm rfl (TO.q (q_inc rfl rfl (by omega)) (TO.qa rfl ?_)))))
   refine TO.sub (O' := ([rowI z5 zc6 3 1 ((nats ((rowK cs d.next[k]).take j)) ++ [vI ((cs[d.next[k][j].toNat] : Nat) : Int)]), rowI ob oc 37 1 (vals qs), rowI fb9 fc9 4 1 (bools fs), oI z3 25 [(vI d.vars), (vI ((cs.getD d.start.toNat 0 : Nat) : Int)), (.slice ob qs.length oc), (.slice fb9 fs.length fc9)], rowI cb cc 3 1 (nats cs), oI z2 25 [(vI 0), (vI 0), nS, nS], oI z1 25 [(vI d.vars), (vI d.start), (.slice nb d.next.length nc), (.slice fb d.final.length fc)]] ++ (itms 3 qs))) (Sub.pickR [1, 1, 1, 1, 1, 1, 1] [rowI (aD z4) 1 3 1 [vI ((cs[d.next[k][j].toNat] : Nat) : Int)], rowI z5 zc6 3 1 ((nats ((rowK cs d.next[k]).take j)) ++ [vI ((cs[d.next[k][j].toNat] : Nat) : Int)]), rowI ob oc 37 1 (vals qs), rowI fb9 fc9 4 1 (bools fs), oI z3 25 [(vI d.vars), (vI ((cs.getD d.start.toNat 0 : Nat) : Int)), (.slice ob qs.length oc), (.slice fb9 fs.length fc9)], rowI cb cc 3 1 (nats cs), oI z2 25 [(vI 0), (vI 0), nS, nS], oI z1 25 [(vI d.vars), (vI d.start), (.slice nb d.next.length nc), (.slice fb d.final.length fc)]] (itms 3 qs) rfl rfl) ?_
   refine TO.nl ?_
   have hst : (rowK cs d.next[k]).take (j + 1) = (rowK cs d.next[k]).take j ++ [cs[d.next[k][j].toNat]] := by rw [List.take_succ_eq_append_getElem (by rw [rowK_length]; exact hlt48), rowK_get hlt48 (hto j hlt48).2]
   exact ⟨j + 1, by omega, z5, zc6, by rw [hst, show nats ((rowK cs d.next[k]).take j ++ [cs[d.next[k][j].toNat]]) = nats ((rowK cs d.next[k]).take j) ++ [vI ((cs[d.next[k][j].toNat] : Nat) : Int)] from List.map_append], by omega, (.of rfl)⟩
  have hge48 : ¬ j < d.next[k].length := by omega
  refine T.exit ?_
  refine T.s (T.rg (TO.q (q_fa underlying25 rfl inf22 rfl rfl) (TO.q (q_lb 3 underlying22 rfl rfl rfl rfl) (TO.qm rfl (TO.l rfl (l_build1 (v := (.slice kb j kc)) underlying22 inf37 rfl rfl rfl (fun z7 => ?_)))))))
  refine TO.l rfl (l_append 2 underlying22 underlying22 inf37 rfl rfl rfl rfl (by rw [List.length_map]; omega) (by decide) (Src.row (j := 0) rfl (by simp)) (by simp [oneB]) (by omega) (by decide) (by decide) (fun z8 zc9 => ?_))
  refine TO.q (q_fa underlying25 rfl inf22 rfl rfl) (TO.l rfl (l_sb (v := (.slice z8 (qs.length + 1) zc9)) (vs := [(.slice z8 (qs.length + 1) zc9)]) 4 inf22 rfl rfl rfl rfl rfl rfl (by simp [putL]) ?_))
  refine TO.nl ?_
  refine T.draws _ [(0, 0), (1, 0), (2, 0), (3, 0), (4, 0), (5, 0), (6, 0), (7, 1), (8, 2), (9, 2), (10, 2)] mixed (by kernel_rfl) (Sub.of (List.Sublist.refl _)) (fun _ _ _ h => h) ?_
  refine DO.q rfl (q_fa underlying25 rfl inf23 rfl rfl) (DO.q rfl (q_lb 4 underlying23 rfl rfl rfl rfl) (DO.q rfl (q_fa underlying25 rfl inf23 rfl rfl) (DO.q rfl (q_lb 7 underlying23 rfl rfl rfl rfl) (DO.q rfl (q_move rfl) (DO.q rfl (q_ix (i := k) underlying23 inf4 rfl rfl (Sl.o h.final) hkf (by rw [List.length_map]; exact hkf)) (DO.q rfl (q_ld underlying4 rfl rfl (Sl.o h.final) (bools_get hkf)) ?_))))))
  refine DO.loud rfl rfl (l_build1 (v := .bool d.final[k]) underlying23 inf4 rfl rfl rfl (fun z10 => ⟨Sub.pickR [1, 1, 1, 1, 1, 1, 1, 1] [rowI (aD z10) 1 4 1 [.bool d.final[k]], rowI (aD z7) 1 37 1 [(.slice kb j kc)], rowI kb kc 3 1 (nats ((rowK cs d.next[k]).take j)), rowI z8 zc9 37 1 ((vals qs) ++ [(.slice kb j kc)]), rowI fb9 fc9 4 1 (bools fs), oI z3 25 [(vI d.vars), (vI ((cs.getD d.start.toNat 0 : Nat) : Int)), (.slice z8 (qs.length + 1) zc9), (.slice fb9 fs.length fc9)], rowI cb cc 3 1 (nats cs), oI z2 25 [(vI 0), (vI 0), nS, nS], oI z1 25 [(vI d.vars), (vI d.start), (.slice nb d.next.length nc), (.slice fb d.final.length fc)]] (itms 3 qs) rfl rfl, ?_⟩))
  refine DO.last rfl rfl (l_append 4 underlying23 underlying23 inf4 rfl rfl rfl rfl (by rw [List.length_map]; omega) (by decide) (Src.row (j := 0) rfl (by simp)) (by simp [oneB]) (by omega) (by decide) (by decide) (fun z11 zc12 => ?_))
  refine DO.last rfl rfl (LT.oq rfl rfl (q_fa underlying25 rfl inf23 rfl rfl) ?_)
  refine DO.last rfl rfl (l_sb (v := (.slice z11 (fs.length + 1) zc12)) (vs := [(.slice z11 (fs.length + 1) zc12)]) 5 inf23 rfl rfl rfl rfl rfl rfl (by simp [putL]) ?_)
  refine DO.done ?_
  refine T.rg (TO.qm rfl (TO.q (q_inc rfl rfl (by omega)) (TO.qa rfl ?_)))
  have hjf : j = d.next[k].length := by omega
  have hR : rowI kb kc 3 1 (nats ((rowK cs d.next[k]).take j)) = Rec.itm 3 ⟨kb, kc, (rowK cs d.next[k]).map fun c : Nat => (c : Int)⟩ := by
   rw [List.take_of_length_le (by rw [rowK_length]; omega)]; simp [Rec.itm, Function.comp_def]
  refine TO.sub (O' := [rowI z8 zc9 37 1 ((vals qs) ++ [(.slice kb j kc)]), rowI z11 zc12 4 1 ((bools fs) ++ [.bool d.final[k]]), oI z3 25 [(vI d.vars), (vI ((cs.getD d.start.toNat 0 : Nat) : Int)), (.slice z8 (qs.length + 1) zc9), (.slice z11 (fs.length + 1) zc12)], rowI cb cc 3 1 (nats cs), oI z2 25 [(vI 0), (vI 0), nS, nS], oI z1 25 [(vI d.vars), (vI d.start), (.slice nb d.next.length nc), (.slice fb d.final.length fc)]] ++ itms 3 (qs ++ [⟨kb, kc, (rowK cs d.next[k]).map fun c : Nat => (c : Int)⟩])) (by show Sub _ ([rowI (aD z10) 1 4 1 [.bool d.final[k]], rowI (aD z7) 1 37 1 [(.slice kb j kc)], rowI kb kc 3 1 (nats ((rowK cs d.next[k]).take j)), rowI z8 zc9 37 1 ((vals qs) ++ [(.slice kb j kc)]), rowI z11 zc12 4 1 ((bools fs) ++ [.bool d.final[k]]), oI z3 25 [(vI d.vars), (vI ((cs.getD d.start.toNat 0 : Nat) : Int)), (.slice z8 (qs.length + 1) zc9), (.slice z11 (fs.length + 1) zc12)], rowI cb cc 3 1 (nats cs), oI z2 25 [(vI 0), (vI 0), nS, nS], oI z1 25 [(vI d.vars), (vI d.start), (.slice nb d.next.length nc), (.slice fb d.final.length fc)]] ++ itms 3 qs); rw [hR]; exact Sub.ca [rowI (aD z10) 1 4 1 [.bool d.final[k]], rowI (aD z7) 1 37 1 [(.slice kb j kc)]]) ?_
  refine TO.nl ?_
  refine ⟨k + 1, by omega, z8, z11, zc9, zc12, qs ++ [⟨kb, kc, (rowK cs d.next[k]).map fun c : Nat => (c : Int)⟩], fs ++ [d.final[k]], ?_, by omega, ?_, ?_, (.of rfl)⟩
  ·simp [Rec.val, rowK_length, hjf]
  ·rw [hqn2, ← hqs]; simp
  ·rw [hqn2, hfs]
 have hge30 : ¬ k < d.next.length := by omega
 refine T.exit ?_
 refine T.s ?_
 have hke : k = d.next.length := by omega
 rw [hke] at hqs hfs
 have hql : qs.length = (quo d cs).next.length := by rw [show qs.length = (nums qs).length by simp, hqs]; rfl
 obtain rfl : fs = (quo d cs).final := hfs
 rw [hql]
 refine T.rg (TO.q (q_la 2 underlying25 rfl inf25 rfl rfl rfl) ?_)
 have hk82 := fun (w1 : World) (hI : Inv w ([rowI ob oc 37 1 (vals qs), rowI fb9 fc9 4 1 (bools (quo d cs).final), oI z3 25 [(vI d.vars), (vI ((cs.getD d.start.toNat 0 : Nat) : Int)), (.slice ob ((quo d cs).next.length) oc), (.slice fb9 ((quo d cs).final.length) fc9)], rowI cb cc 3 1 (nats cs), oI z2 25 [(vI 0), (vI 0), nS, nS], oI z1 25 [(vI d.vars), (vI d.start), (.slice nb d.next.length nc), (.slice fb d.final.length fc)]] ++ (itms 3 qs)) w1) => (haveI := Inv.tab (P := Tryz.prog) hI; rRenumOk w1 (quo d cs) ob fb9 oc fc9 (vals qs) ⟨hI.slOf (mG 0 rfl), (show nums qs = (quo d cs).next from hqs) ▸ hI.recs (fun q hq => List.mem_append_right _ (List.mem_map_of_mem (f := Rec.itm 3) hq)), hI.slOf (mG 1 rfl)⟩ hqv hqn)
 refine TO.l rfl (l_call ent82 (CallT.op hk82) rfl ?_)
 clear hk82
 rintro v O' ⟨N, rfl, nb', nc', fb', fc', qs', rfl, rfl, hnx⟩
 refine TO.sub (O' := ([rowI nb' nc' 37 1 (vals qs'), rowI fb' fc' 4 1 (bools (renum (quo d cs)).final), rowI ob oc 37 1 (vals qs), rowI fb9 fc9 4 1 (bools (quo d cs).final), oI z3 25 [(vI d.vars), (vI ((cs.getD d.start.toNat 0 : Nat) : Int)), (.slice ob ((quo d cs).next.length) oc), (.slice fb9 ((quo d cs).final.length) fc9)], rowI cb cc 3 1 (nats cs), oI z2 25 [(vI 0), (vI 0), nS, nS], oI z1 25 [(vI d.vars), (vI d.start), (.slice nb d.next.length nc), (.slice fb d.final.length fc)]] ++ ((itms 3 qs') ++ (itms 3 qs)))) (Sub.ca []) ?_
 refine TO.q (q_extract (vs := _) rfl rfl) (TO.q (q_extract (vs := _) rfl rfl) (TO.l rfl (l_sb (v := (.agg #[(vI (renum (quo d cs)).vars), (vI (renum (quo d cs)).start), (.slice nb' ((renum (quo d cs)).next.length) nc'), (.slice fb' ((renum (quo d cs)).final.length) fc')])) (vs := [(vI (renum (quo d cs)).vars), (vI (renum (quo d cs)).start), (.slice nb' ((renum (quo d cs)).next.length) nc'), (.slice fb' ((renum (quo d cs)).final.length) fc')]) 6 inf25 rfl rfl rfl rfl rfl rfl (by simp [putL]) ?_)))
 refine TO.qa rfl (TO.nl (T.ret (Res.drop ?_)))
 refine Res.cell1b (vI 0) (i := 6) Tryz.results45 underlying25 rfl inf25 rfl rfl rfl rfl ?_
 exact ⟨[rowI nb' nc' 37 1 (vals qs'), rowI fb' fc' 4 1 (bools (renum (quo d cs)).final)] ++ itms 3 qs', Sub.ca ([rowI ob oc 37 1 (vals qs), rowI fb9 fc9 4 1 (bools (quo d cs).final), oI z3 25 [(vI d.vars), (vI ((cs.getD d.start.toNat 0 : Nat) : Int)), (.slice ob ((quo d cs).next.length) oc), (.slice fb9 ((quo d cs).final.length) fc9)], rowI cb cc 3 1 (nats cs), oI z2 25 [(vI (renum (quo d cs)).vars), (vI (renum (quo d cs)).start), (.slice nb' ((renum (quo d cs)).next.length) nc'), (.slice fb' ((renum (quo d cs)).final.length) fc')], oI z1 25 [(vI d.vars), (vI d.start), (.slice nb d.next.length nc), (.slice fb d.final.length fc)]] ++ itms 3 qs), nb', nc', fb', fc', qs', rfl, rfl, hnx⟩
end Go.Proofs.YtohkmggbfcnapaaGreatDoor


namespace Go.Proofs.YtohkmggbfcnapaaGreatDoor
open Go.Lx Go.RowKit _root_.Go.Proofs.Tryz
theorem minA (w : World) [Tab Tryz.prog w] (d : DFA) (nb fb : Option Addr) (nc fc : Nat) (vs : List Value) (h : DfaAt w d nb vs fb) (hb : d.next.length < 9223372036854775807) (hbr : ∀ r ∈ d.next, r.length < 9223372036854775807) (hbf : d.final.length < 9223372036854775807) (hn : Valid d → d.next.length < 10000) :
  PureT Tryz.prog 34 [.agg (dfaCells d nb nc fb fc).toArray] w fun v N => ∃ nb' nc' fb' fc' qs, v = .tuple #[.agg (dfaCells (minV d) nb' nc' fb' fc').toArray, .int .i64 (checkD d : Int)] ∧ N = [rowI nb' nc' 37 1 (vals qs), rowI fb' fc' 4 1 (bools (minV d).final)] ++ itms 3 qs ∧ nums qs = (minV d).next := by
 unfold minV
 by_cases he : checkD d = 0
 ·have hv := checkD_zero.1 he
  obtain ⟨q1, q2⟩ := quo_itF hv d.next.length
  rw [he, if_pos rfl]
  exact minOk w d nb fb nc fc vs h hv (hn hv) q1 (by have := hn hv; omega)
 ·rw [if_neg he]
  refine (CallT.addNil 37 1 (CallT.addNil 4 1 (minBad w d nb fb nc fc vs h hb hbr hbf he))).mono ?_
  rintro v N ⟨O2, rfl, O3, rfl, rfl, rfl⟩
  exact ⟨none, 0, none, 0, [], rfl, rfl, rfl⟩
theorem rMinA (w : World) [Tab Tryz.prog w] (d : DFA) (nb fb : Option Addr) (nc fc : Nat) (vs : List Value) (h : DfaAt w d nb vs fb) (hb : d.next.length < 9223372036854775807) (hbr : ∀ r ∈ d.next, r.length < 9223372036854775807) (hbf : d.final.length < 9223372036854775807) (hn : Valid d → d.next.length < 10000) :
  PureT Tryz.prog 45 [.agg (dfaCells d nb nc fb fc).toArray] w fun v N => ∃ nb' nc' fb' fc' qs, v = .tuple #[.agg (dfaCells (minV d) nb' nc' fb' fc').toArray, .int .i64 (checkD d : Int)] ∧ N = [rowI nb' nc' 37 1 (vals qs), rowI fb' fc' 4 1 (bools (minV d).final)] ++ itms 3 qs ∧ nums qs = (minV d).next := by
 unfold minV
 by_cases he : checkD d = 0
 ·have hv := checkD_zero.1 he
  obtain ⟨q1, q2⟩ := quo_itF hv d.next.length
  rw [he, if_pos rfl]
  exact rMinOk w d nb fb nc fc vs h hv (hn hv) q1 (by have := hn hv; omega)
 ·rw [if_neg he]
  refine (CallT.addNil 37 1 (CallT.addNil 4 1 (rMinBad w d nb fb nc fc vs h hb hbr hbf he))).mono ?_
  rintro v N ⟨O2, rfl, O3, rfl, rfl, rfl⟩
  exact ⟨none, 0, none, 0, [], rfl, rfl, rfl⟩
end Go.Proofs.YtohkmggbfcnapaaGreatDoor


namespace Go.Proofs.YtohkmggbfcnapaaGreatDoor
open Go.Lx Go.RowKit _root_.Go.Proofs.Tryz
theorem pairT : Pair2 Tryz.prog 119 { name := "s", type := 3, offset := 0, embedded := false, tag := "", pkgPath := "sentinel/boolean", byteOffset := 0 } { name := "t", type := 3, offset := 1, embedded := false, tag := "", pkgPath := "sentinel/boolean", byteOffset := 8 } := ⟨uT119, uT3, uT3, rfl, rfl, by decide, by decide, by kernel_rfl⟩
theorem beginBad (w : World) [Tab Tryz.prog w] (a b : DFA) (j k : DK) (ha : At w a j) (hb : At w b k) (haa : a.next.length < 9223372036854775807) (haar : ∀ r ∈ a.next, r.length < 9223372036854775807) (haaf : a.final.length < 9223372036854775807) (hbb : b.next.length < 9223372036854775807) (hbbr : ∀ r ∈ b.next, r.length < 9223372036854775807) (hbbf : b.final.length < 9223372036854775807) (he : wrongD a b ≠ 0) :
  PureT Tryz.prog 93 [dV a j, dV b k] w fun v N => v = .tuple #[.pointer none, vI (wrongD a b : Int)] ∧ N = [] := by
 refine CallT.enter func93 rfl ntmps93 rfl ?_
 refine T.s (T.rg (TO.l rfl (l_box (v := (dV a j)) (cs := (dC a j)) rfl rfl (fun bx1 => ?_))))
 refine TO.l rfl (l_box (v := (dV b k)) (cs := (dC b k)) rfl rfl (fun bx2 => ?_))
 refine TO.qa rfl (TO.qa rfl (TO.nl (T.s (T.s (T.rg (TO.q (q_la 1 uT25 rfl inf25 rfl rfl rfl) ?_))))))
 have hk10 := fun (w1 : World) (hI : Inv w [oI bx2 25 (dC b k), oI bx1 25 (dC a j)] w1) => (haveI := tbz hI; subsetCheck w1 a j.nb j.fb j.nc j.fc (vals j.qs) (hI.dfa ha) haa haar haaf)
 refine TO.l rfl (l_call ent35 (CallT.op hk10) rfl ?_)
 clear hk10
 rintro vr O' ⟨N, rfl, rfl, rfl⟩
 refine TO.qa rfl (TO.nl (T.s (T.rg (TO.qm rfl (TO.q (q_neq rfl rfl) (TO.nl (T.condP rfl (fun hc => ?_) (fun hc => ?_))))))))
 ·have hlt12 : checkD a ≠ 0 := by omega
  refine T.s (T.rg (TO.qm rfl (TO.qa rfl (TO.qa rfl (TO.nl (T.ret (Res.drop ?_)))))))
  refine Res.two (.pointer none) (vI (checkD a : Int)) Tryz.results93 rfl rfl ?_
  exact ⟨[], Sub.z, by rw [wrong_first (by omega)], rfl⟩
 have hge12 : ¬ checkD a ≠ 0 := by omega
 refine T.skip (T.s (T.s (T.rg (TO.q (q_la 0 uT25 rfl inf25 rfl rfl rfl) ?_))))
 have hk15 := fun (w1 : World) (hI : Inv w [oI bx2 25 (dC b k), oI bx1 25 (dC a j)] w1) => (haveI := tbz hI; subsetCheck w1 b k.nb k.fb k.nc k.fc (vals k.qs) (hI.dfa hb) hbb hbbr hbbf)
 refine TO.l rfl (l_call ent35 (CallT.op hk15) rfl ?_)
 clear hk15
 rintro vr O' ⟨N, rfl, rfl, rfl⟩
 refine TO.qa rfl (TO.nl (T.s (T.rg (TO.qm rfl (TO.q (q_neq rfl rfl) (TO.nl (T.condP rfl (fun hc => ?_) (fun hc => ?_))))))))
 ·have hlt17 : checkD b ≠ 0 := by omega
  refine T.s (T.rg (TO.qm rfl (TO.qa rfl (TO.qa rfl (TO.nl (T.ret (Res.drop ?_)))))))
  refine Res.two (.pointer none) (vI (checkD b : Int)) Tryz.results93 rfl rfl ?_
  exact ⟨[], Sub.z, by rw [wrong_second (by omega) (by omega)], rfl⟩
 have hge17 : ¬ checkD b ≠ 0 := by omega
 refine T.skip (T.s (T.s (T.rg (TO.q (q_fa uT25 rfl inf3 rfl rfl) (TO.q (q_lb 1 uT3 rfl rfl rfl rfl) (TO.q (q_fa uT25 rfl inf3 rfl rfl) (TO.q (q_lb 0 uT3 rfl rfl rfl rfl) (TO.q (q_neq rfl rfl) (TO.nl (T.condP (p := ¬ a.vars = b.vars) (congrArg Value.bool (decide_eq_decide.2 (by omega))) (fun hc => ?_) (fun hc => ?_)))))))))))
 ·refine T.s ?_
  refine T.rg (TO.qa rfl (TO.qa rfl (TO.nl (T.ret (Res.drop ?_)))))
  refine Res.two (.pointer none) (vI 7) Tryz.results93 rfl rfl ?_
  exact ⟨[], Sub.z, by rw [wrong_vars (by omega) (by omega) hc]; rfl, rfl⟩
 refine absurd (wrongD_zero.2 ⟨checkD_zero.1 (by omega), checkD_zero.1 (by omega), Classical.not_not.1 hc⟩) he
theorem beginOk (w : World) [Tab Tryz.prog w] (a b : DFA) (j k : DK) (ha : At w a j) (hb : At w b k) (va : Valid a) (vb : Valid b) (hv : a.vars = b.vars) :
  PureT Tryz.prog 93 [dV a j, dV b k] w fun v N => ∃ (bp qb m : Nat), v = .tuple #[.pointer (aD bp), vI 0] ∧ N = [oI bp 123 [(vI a.vars), (vI a.start), (.slice j.nb a.next.length j.nc), (.slice j.fb a.final.length j.fc), (vI b.vars), (vI b.start), (.slice k.nb b.next.length k.nc), (.slice k.fb b.final.length k.fc), (.slice (aD qb) ([a.start.toNat * b.next.length + b.start.toNat].length) 1), (.map (some m))], rowI (aD qb) 1 119 2 (prs b.next.length [a.start.toNat * b.next.length + b.start.toNat]), mapI pairV (fun n : Nat => Value.int .i64 (n : Int)) m (pmap b.next.length [a.start.toNat * b.next.length + b.start.toNat])] := by
 refine CallT.enter func93 rfl ntmps93 rfl ?_
 have wa : checkD a = 0 := checkD_zero.2 va
 have wb : checkD b = 0 := checkD_zero.2 vb
 have hs1 : a.start = ((a.start.toNat : Nat) : Int) := by have := va.s0; omega
 have hs2 : b.start = ((b.start.toNat : Nat) : Int) := by have := vb.s0; omega
 have hpd := pr_div (s := a.start.toNat) (start_lt vb.toVal)
 refine T.s (T.rg (TO.l rfl (l_box (v := (dV a j)) (cs := (dC a j)) rfl rfl (fun bx1 => ?_))))
 refine TO.l rfl (l_box (v := (dV b k)) (cs := (dC b k)) rfl rfl (fun bx2 => ?_))
 refine TO.qa rfl (TO.qa rfl (TO.nl (T.s (T.s (T.rg (TO.q (q_la 1 uT25 rfl inf25 rfl rfl rfl) ?_))))))
 have hk10 := fun (w1 : World) (hI : Inv w [oI bx2 25 (dC b k), oI bx1 25 (dC a j)] w1) => (haveI := tbz hI; subsetCheck w1 a j.nb j.fb j.nc j.fc (vals j.qs) (hI.dfa ha) (by have := va.n4; omega) va.bound (by have := va.fin; have := va.n4; omega))
 refine TO.l rfl (l_call ent35 (CallT.op hk10) rfl ?_)
 clear hk10
 rintro vr O' ⟨N, rfl, rfl, rfl⟩
 rw [wa]
 refine TO.qa rfl (TO.nl (T.s (T.rg (TO.qm rfl (TO.q (q_neq rfl rfl) (TO.nl (T.cond0 rfl (T.skip (T.s (T.s (T.rg (TO.q (q_la 0 uT25 rfl inf25 rfl rfl rfl) ?_))))))))))))
 have hk15 := fun (w1 : World) (hI : Inv w [oI bx2 25 (dC b k), oI bx1 25 (dC a j)] w1) => (haveI := tbz hI; subsetCheck w1 b k.nb k.fb k.nc k.fc (vals k.qs) (hI.dfa hb) (by have := vb.n4; omega) vb.bound (by have := vb.fin; have := vb.n4; omega))
 refine TO.l rfl (l_call ent35 (CallT.op hk15) rfl ?_)
 clear hk15
 rintro vr O' ⟨N, rfl, rfl, rfl⟩
 rw [wb]
 refine TO.qa rfl (TO.nl (T.s (T.rg (TO.qm rfl (TO.q (q_neq rfl rfl) (TO.nl (T.cond0 rfl (T.skip (T.s (T.s (T.rg (TO.q (q_fa uT25 rfl inf3 rfl rfl) (TO.q (q_lb 1 uT3 rfl rfl rfl rfl) (TO.q (q_fa uT25 rfl inf3 rfl rfl) (TO.q (q_lb 0 uT3 rfl rfl rfl rfl) (TO.q (q_neq rfl rfl) ?_))))))))))))))))
 refine TO.nl (T.cond0 (congrArg Value.bool (decide_eq_false (fun h => h hv))) (T.skip (T.s (T.rg (TO.q (q_fa uT25 rfl inf3 rfl rfl) (TO.q (q_lb 1 uT3 rfl rfl rfl rfl) (TO.q (q_fa uT25 rfl inf3 rfl rfl) (TO.q (q_lb 0 uT3 rfl rfl rfl rfl) (TO.q (q_build (cs := [(vI a.start), (vI b.start)]) plan119 inf119 (by kernel_rfl)) (TO.l rfl (l_alloc inf119 rfl (fun bx3 => ?_))))))))))))
 refine TO.l rfl (l_sb (v := (.agg #[(vI a.start), (vI b.start)])) (vs := [(vI a.start), (vI b.start)]) 0 inf119 rfl rfl rfl rfl rfl rfl (by simp [putL]) ?_)
 refine TO.nl ?_
 refine T.cut (fun ρ O => ∃ (bp qb m : Nat), O = [oI bp 123 [(vI a.vars), (vI a.start), (.slice j.nb a.next.length j.nc), (.slice j.fb a.final.length j.fc), (vI b.vars), (vI b.start), (.slice k.nb b.next.length k.nc), (.slice k.fb b.final.length k.fc), (.slice (aD qb) 1 1), (.map (some m))], rowI (aD qb) 1 119 2 [(vI a.start), (vI b.start)], mapI pairV (fun n : Nat => Value.int .i64 (n : Int)) m [((a.start, b.start), (0 : Nat))]] ∧ Heads [(0, (dV a j)), (1, (dV b k)), (2, (.pointer (aD bx1))), (3, (.pointer (aD bx2))), (4, (.pointer (aD bp))), (5, vI 0), (6, vI ((0 : Nat) : Int)), (7, vI ((0 : Nat) : Int)), (8, (.pointer (aD bx3)))] ρ) ?_ ?_
 ·refine T.tree [oI bx3 119 [(vI a.start), (vI b.start)], oI bx2 25 (dC b k), oI bx1 25 (dC a j)] 12 mixed rfl (by exact Sub.rf) (fun _ _ _ h => h) ?_
  refine RO.quietT 0 rfl (by kernel_rfl) (q_la 2 uT25 rfl inf25 rfl rfl rfl) ?_
  refine RO.quietT 1 rfl (by kernel_rfl) (q_la 1 uT25 rfl inf25 rfl rfl rfl) ?_
  refine RO.quietT 2 rfl (by kernel_rfl) (q_la 0 uT119 rfl inf119 rfl rfl rfl) ?_
  refine RO.quietT 5 rfl (by kernel_rfl) (q_la 0 uT119 rfl inf119 rfl rfl rfl) ?_
  refine RO.fork [3, 4] (by kernel_rfl) rfl ⟨⟨_, rfl, rfl, l_buildSlice (m := 1) (parts := [(0, _)]) (cs := [(vI a.start), (vI b.start)]) uT120 inf119 (by decide) (by kernel_rfl) rfl (fun qb => ⟨by exact Sub.d (.k (.k (.k .z))), ?_⟩)⟩, ⟨_, rfl, rfl, l_makeMap pairV (fun n : Nat => Value.int .i64 (n : Int)) (fun m => ⟨by exact Sub.d (.k (.k (.k .z))), ?_⟩)⟩, trivial⟩
  ·refine RO.fork [4] (by kernel_rfl) rfl ⟨⟨_, rfl, rfl, l_makeMap pairV (fun n : Nat => Value.int .i64 (n : Int)) (fun m => ⟨by exact Sub.d (.d (.k (.k (.k .z)))), ?_⟩)⟩, trivial⟩
   refine RO.fork [6] (by kernel_rfl) rfl ⟨⟨_, rfl, rfl, l_mapInsert (a := (a.start, b.start)) (v := (0 : Nat)) 0 uT121 (KeyOk.pair pairT) rfl rfl rfl rfl (by simp) ⟨by exact Sub.d (.d (.k (.k (.k .z)))), ?_⟩⟩, trivial⟩
   refine RO.quietT 7 rfl (by kernel_rfl) (q_move rfl) ?_
   refine RO.quietT 8 rfl (by kernel_rfl) (q_build (cs := [(vI a.vars), (vI a.start), (.slice j.nb a.next.length j.nc), (.slice j.fb a.final.length j.fc), (vI b.vars), (vI b.start), (.slice k.nb b.next.length k.nc), (.slice k.fb b.final.length k.fc), (.slice (aD qb) 1 1), (.map (some m))]) plan123 inf123 (by kernel_rfl)) ?_
   refine RO.fork [9] (by kernel_rfl) rfl ⟨⟨_, rfl, rfl, l_box (v := (.agg #[(vI a.vars), (vI a.start), (.slice j.nb a.next.length j.nc), (.slice j.fb a.final.length j.fc), (vI b.vars), (vI b.start), (.slice k.nb b.next.length k.nc), (.slice k.fb b.final.length k.fc), (.slice (aD qb) 1 1), (.map (some m))])) (cs := [(vI a.vars), (vI a.start), (.slice j.nb a.next.length j.nc), (.slice j.fb a.final.length j.fc), (vI b.vars), (vI b.start), (.slice k.nb b.next.length k.nc), (.slice k.fb b.final.length k.fc), (.slice (aD qb) 1 1), (.map (some m))]) rfl rfl (fun bp => ⟨by exact Sub.d (.d (.d (.k (.k (.k .z))))), ?_⟩)⟩, trivial⟩
   refine RO.quietT 10 rfl (by kernel_rfl) (q_assign rfl) ?_
   refine RO.quietT 11 rfl (by kernel_rfl) (q_assign rfl) ?_
   exact RO.fin (by kernel_rfl) ⟨bp, qb, m, rfl, (.of rfl)⟩ (by exact Sub.k (.pull [mapI pairV (fun n : Nat => Value.int .i64 (n : Int)) m [((a.start, b.start), (0 : Nat))]] _ (.k .z)))
  refine RO.fork [3, 6] (by kernel_rfl) rfl ⟨⟨_, rfl, rfl, l_buildSlice (m := 1) (parts := [(0, _)]) (cs := [(vI a.start), (vI b.start)]) uT120 inf119 (by decide) (by kernel_rfl) rfl (fun qb => ⟨by exact Sub.d (.d (.k (.k (.k .z)))), ?_⟩)⟩, ⟨_, rfl, rfl, l_mapInsert (a := (a.start, b.start)) (v := (0 : Nat)) 0 uT121 (KeyOk.pair pairT) rfl rfl rfl rfl (by simp) ⟨by exact Sub.d (.k (.k (.k .z))), ?_⟩⟩, trivial⟩
  ·refine RO.fork [6] (by kernel_rfl) rfl ⟨⟨_, rfl, rfl, l_mapInsert (a := (a.start, b.start)) (v := (0 : Nat)) 1 uT121 (KeyOk.pair pairT) rfl rfl rfl rfl (by simp) ⟨by exact Sub.d (.d (.k (.k (.k .z)))), ?_⟩⟩, trivial⟩
   refine RO.quietT 7 rfl (by kernel_rfl) (q_move rfl) ?_
   refine RO.quietT 8 rfl (by kernel_rfl) (q_build (cs := [(vI a.vars), (vI a.start), (.slice j.nb a.next.length j.nc), (.slice j.fb a.final.length j.fc), (vI b.vars), (vI b.start), (.slice k.nb b.next.length k.nc), (.slice k.fb b.final.length k.fc), (.slice (aD qb) 1 1), (.map (some m))]) plan123 inf123 (by kernel_rfl)) ?_
   refine RO.fork [9] (by kernel_rfl) rfl ⟨⟨_, rfl, rfl, l_box (v := (.agg #[(vI a.vars), (vI a.start), (.slice j.nb a.next.length j.nc), (.slice j.fb a.final.length j.fc), (vI b.vars), (vI b.start), (.slice k.nb b.next.length k.nc), (.slice k.fb b.final.length k.fc), (.slice (aD qb) 1 1), (.map (some m))])) (cs := [(vI a.vars), (vI a.start), (.slice j.nb a.next.length j.nc), (.slice j.fb a.final.length j.fc), (vI b.vars), (vI b.start), (.slice k.nb b.next.length k.nc), (.slice k.fb b.final.length k.fc), (.slice (aD qb) 1 1), (.map (some m))]) rfl rfl (fun bp => ⟨by exact Sub.d (.d (.d (.k (.k (.k .z))))), ?_⟩)⟩, trivial⟩
   refine RO.quietT 10 rfl (by kernel_rfl) (q_assign rfl) ?_
   refine RO.quietT 11 rfl (by kernel_rfl) (q_assign rfl) ?_
   exact RO.fin (by kernel_rfl) ⟨bp, qb, m, rfl, (.of rfl)⟩ (by exact Sub.k (.k (.k .z)))
  refine RO.quietT 7 rfl (by kernel_rfl) (q_move rfl) ?_
  refine RO.fork [3] (by kernel_rfl) rfl ⟨⟨_, rfl, rfl, l_buildSlice (m := 1) (parts := [(0, _)]) (cs := [(vI a.start), (vI b.start)]) uT120 inf119 (by decide) (by kernel_rfl) rfl (fun qb => ⟨by exact Sub.d (.d (.k (.k (.k .z)))), ?_⟩)⟩, trivial⟩
  refine RO.quietT 8 rfl (by kernel_rfl) (q_build (cs := [(vI a.vars), (vI a.start), (.slice j.nb a.next.length j.nc), (.slice j.fb a.final.length j.fc), (vI b.vars), (vI b.start), (.slice k.nb b.next.length k.nc), (.slice k.fb b.final.length k.fc), (.slice (aD qb) 1 1), (.map (some m))]) plan123 inf123 (by kernel_rfl)) ?_
  refine RO.fork [9] (by kernel_rfl) rfl ⟨⟨_, rfl, rfl, l_box (v := (.agg #[(vI a.vars), (vI a.start), (.slice j.nb a.next.length j.nc), (.slice j.fb a.final.length j.fc), (vI b.vars), (vI b.start), (.slice k.nb b.next.length k.nc), (.slice k.fb b.final.length k.fc), (.slice (aD qb) 1 1), (.map (some m))])) (cs := [(vI a.vars), (vI a.start), (.slice j.nb a.next.length j.nc), (.slice j.fb a.final.length j.fc), (vI b.vars), (vI b.start), (.slice k.nb b.next.length k.nc), (.slice k.fb b.final.length k.fc), (.slice (aD qb) 1 1), (.map (some m))]) rfl rfl (fun bp => ⟨by exact Sub.d (.d (.d (.k (.k (.k .z))))), ?_⟩)⟩, trivial⟩
  refine RO.quietT 10 rfl (by kernel_rfl) (q_assign rfl) ?_
  refine RO.quietT 11 rfl (by kernel_rfl) (q_assign rfl) ?_
  exact RO.fin (by kernel_rfl) ⟨bp, qb, m, rfl, (.of rfl)⟩ (by exact Sub.k (.k (.k .z)))
 rintro ρ O ⟨bp, qb, m, rfl, hH⟩
 obtain ⟨ρ0, rfl⟩ := hH.elim
 clear hH
 refine T.ret (Res.drop ?_)
 refine Res.two (.pointer (aD bp)) (vI 0) Tryz.results93 rfl rfl ?_
 have e1 : prs b.next.length [a.start.toNat * b.next.length + b.start.toNat] = [vI a.start, vI b.start] := by
  simp only [prs, List.flatMap_cons, List.flatMap_nil, List.append_nil, unC, hpd.1, hpd.2, ← hs1, ← hs2]
 have e2 : pmap b.next.length [a.start.toNat * b.next.length + b.start.toNat] = [((a.start, b.start), 0)] := by
  show [(un _ _, 0)] = _
  simp only [un, hpd.1, hpd.2, ← hs1, ← hs2]
 exact ⟨[oI bp 123 [(vI a.vars), (vI a.start), (.slice j.nb a.next.length j.nc), (.slice j.fb a.final.length j.fc), (vI b.vars), (vI b.start), (.slice k.nb b.next.length k.nc), (.slice k.fb b.final.length k.fc), (.slice (aD qb) 1 1), (.map (some m))], rowI (aD qb) 1 119 2 [(vI a.start), (vI b.start)], mapI pairV (fun n : Nat => Value.int .i64 (n : Int)) m [((a.start, b.start), (0 : Nat))]], (by exact Sub.rf), bp, qb, m, rfl, by rw [e1, e2]; rfl⟩
theorem pairsF (w : World) [Tab Tryz.prog w] (bp : Nat) : PureT Tryz.prog 94 [.pointer (aD bp)] w fun v N => ∃ b, v = .func (.func 116) #[] #[.pointer (aD b)] ∧ N = [oI b 112 [(.pointer (aD bp))]] := by
 refine CallT.enter func94 rfl ntmps94 rfl ?_
 refine T.s (T.rg (TO.l rfl (l_box (v := (.pointer (aD bp))) (cs := [(.pointer (aD bp))]) rfl rfl (fun bx1 => ?_))))
 refine TO.qa rfl (TO.nl (T.s (T.rg (TO.q (q_makeFunc) (TO.qa rfl (TO.nl (T.ret ?_)))))))
 refine Res.one (.func (.func 116) #[] #[(.pointer (aD bx1))]) Tryz.results94 rfl ?_
 exact ⟨bx1, rfl, rfl⟩
theorem pvHit (base : World) [Tab Tryz.prog base] (a b : DFA) (j k : DK) (bp m : Nat) (ks : List Nat) (c : Nat) (qb : Option Addr) (qc : Nat) (hk : c ∈ ks) (hl : ks.length ≤ 17000000) :
  CallT Tryz.prog base 117 [.pointer (aD bp), (.agg #[vI ((c / b.next.length : Nat) : Int), vI ((c % b.next.length : Nat) : Int)])] [oI bp 123 [(vI a.vars), (vI a.start), (.slice j.nb a.next.length j.nc), (.slice j.fb a.final.length j.fc), (vI b.vars), (vI b.start), (.slice k.nb b.next.length k.nc), (.slice k.fb b.final.length k.fc), (.slice qb ks.length qc), (.map (some m))], rowI qb qc 119 2 (prs b.next.length ks), mapI pairV (fun n : Nat => Value.int .i64 (n : Int)) m (pmap b.next.length ks)] (fun v O' => v = vI ((ix c (add ks c) : Nat) : Int) ∧ ∃ qb' qc', O' = [oI bp 123 [(vI a.vars), (vI a.start), (.slice j.nb a.next.length j.nc), (.slice j.fb a.final.length j.fc), (vI b.vars), (vI b.start), (.slice k.nb b.next.length k.nc), (.slice k.fb b.final.length k.fc), (.slice qb' ((add ks c).length) qc'), (.map (some m))], rowI qb' qc' 119 2 (prs b.next.length (add ks c)), mapI pairV (fun n : Nat => Value.int .i64 (n : Int)) m (pmap b.next.length (add ks c))]) := by
 refine CallT.enter func117 rfl ntmps117 rfl ?_
 refine T.s (T.rg (TO.l rfl (l_box (v := (.agg #[vI ((c / b.next.length : Nat) : Int), vI ((c % b.next.length : Nat) : Int)])) (cs := [vI ((c / b.next.length : Nat) : Int), vI ((c % b.next.length : Nat) : Int)]) rfl rfl (fun bx1 => ?_))))
 refine TO.qa rfl (TO.nl (T.s ?_))
 refine T.draws [oI bx1 119 [vI ((c / b.next.length : Nat) : Int), vI ((c % b.next.length : Nat) : Int)], oI bp 123 [(vI a.vars), (vI a.start), (.slice j.nb a.next.length j.nc), (.slice j.fb a.final.length j.fc), (vI b.vars), (vI b.start), (.slice k.nb b.next.length k.nc), (.slice k.fb b.final.length k.fc), (.slice qb ks.length qc), (.map (some m))], rowI qb qc 119 2 (prs b.next.length ks), mapI pairV (fun n : Nat => Value.int .i64 (n : Int)) m (pmap b.next.length ks)] [(0, 0), (1, 0), (2, 0), (3, 0), (4, 0), (5, 0), (6, 0), (7, 0), (8, 0), (9, 0), (10, 0)] mixed (by kernel_rfl) (by exact Sub.rf) (fun _ _ _ h => h) ?_
 refine DO.q rfl (q_move rfl) (DO.q rfl (q_nilCheck rfl) (DO.q rfl (q_fa uT123 rfl inf121 rfl rfl) (DO.q rfl (q_lb 1 uT121 rfl rfl rfl rfl) (DO.q rfl (q_la 0 uT119 rfl inf119 rfl rfl rfl) (DO.q rfl (QT.cast (q_lookupOk (a := un b.next.length c) uT121 inf3 (KeyOk.pair pairT) rfl rfl (mG 3 rfl)) (v' := (.tuple #[vI ((ix c ks : Nat) : Int), .bool true])) (by rw [look_zip]; simp only [un_mem, hk, if_true, if_false, un_ix, Nat.zero_add]; rfl)) (DO.q rfl (q_move rfl) (DO.q rfl (q_extract (vs := _) rfl rfl) (DO.q rfl (q_extract (vs := _) rfl rfl) (DO.q rfl (q_assign rfl) (DO.q rfl (q_assign rfl) ?_))))))))))
 refine DO.done ?_
 refine T.s (T.s (T.rg (TO.qm rfl (TO.q (q_not rfl) (TO.nl (T.cond0 rfl (T.skip (T.s (T.rg (TO.qm rfl (TO.qa rfl (TO.nl (T.ret (Res.drop ?_))))))))))))))
 refine Res.one (vI ((ix c ks : Nat) : Int)) Tryz.results117 rfl ?_
 have ha : add ks c = ks := if_pos hk
 rw [ha]
 exact ⟨[oI bp 123 [(vI a.vars), (vI a.start), (.slice j.nb a.next.length j.nc), (.slice j.fb a.final.length j.fc), (vI b.vars), (vI b.start), (.slice k.nb b.next.length k.nc), (.slice k.fb b.final.length k.fc), (.slice qb ks.length qc), (.map (some m))], rowI qb qc 119 2 (prs b.next.length ks), mapI pairV (fun n : Nat => Value.int .i64 (n : Int)) m (pmap b.next.length ks)], (by exact Sub.d (.k (.k (.k .z)))), rfl, qb, qc, rfl⟩
theorem pvNew (base : World) [Tab Tryz.prog base] (a b : DFA) (j k : DK) (bp m : Nat) (ks : List Nat) (c : Nat) (qb : Option Addr) (qc : Nat) (hk : c ∉ ks) (hl : ks.length ≤ 17000000) :
  CallT Tryz.prog base 117 [.pointer (aD bp), (.agg #[vI ((c / b.next.length : Nat) : Int), vI ((c % b.next.length : Nat) : Int)])] [oI bp 123 [(vI a.vars), (vI a.start), (.slice j.nb a.next.length j.nc), (.slice j.fb a.final.length j.fc), (vI b.vars), (vI b.start), (.slice k.nb b.next.length k.nc), (.slice k.fb b.final.length k.fc), (.slice qb ks.length qc), (.map (some m))], rowI qb qc 119 2 (prs b.next.length ks), mapI pairV (fun n : Nat => Value.int .i64 (n : Int)) m (pmap b.next.length ks)] (fun v O' => v = vI ((ix c (add ks c) : Nat) : Int) ∧ ∃ qb' qc', O' = [oI bp 123 [(vI a.vars), (vI a.start), (.slice j.nb a.next.length j.nc), (.slice j.fb a.final.length j.fc), (vI b.vars), (vI b.start), (.slice k.nb b.next.length k.nc), (.slice k.fb b.final.length k.fc), (.slice qb' ((add ks c).length) qc'), (.map (some m))], rowI qb' qc' 119 2 (prs b.next.length (add ks c)), mapI pairV (fun n : Nat => Value.int .i64 (n : Int)) m (pmap b.next.length (add ks c))]) := by
 refine CallT.enter func117 rfl ntmps117 rfl ?_
 refine T.s (T.rg (TO.l rfl (l_box (v := (.agg #[vI ((c / b.next.length : Nat) : Int), vI ((c % b.next.length : Nat) : Int)])) (cs := [vI ((c / b.next.length : Nat) : Int), vI ((c % b.next.length : Nat) : Int)]) rfl rfl (fun bx1 => ?_))))
 refine TO.qa rfl (TO.nl (T.s ?_))
 refine T.draws [oI bx1 119 [vI ((c / b.next.length : Nat) : Int), vI ((c % b.next.length : Nat) : Int)], oI bp 123 [(vI a.vars), (vI a.start), (.slice j.nb a.next.length j.nc), (.slice j.fb a.final.length j.fc), (vI b.vars), (vI b.start), (.slice k.nb b.next.length k.nc), (.slice k.fb b.final.length k.fc), (.slice qb ks.length qc), (.map (some m))], rowI qb qc 119 2 (prs b.next.length ks), mapI pairV (fun n : Nat => Value.int .i64 (n : Int)) m (pmap b.next.length ks)] [(0, 0), (1, 0), (2, 0), (3, 0), (4, 0), (5, 0), (6, 0), (7, 0), (8, 0), (9, 0), (10, 0)] mixed (by kernel_rfl) (by exact Sub.rf) (fun _ _ _ h => h) ?_
 refine DO.q rfl (q_move rfl) (DO.q rfl (q_nilCheck rfl) (DO.q rfl (q_fa uT123 rfl inf121 rfl rfl) (DO.q rfl (q_lb 1 uT121 rfl rfl rfl rfl) (DO.q rfl (q_la 0 uT119 rfl inf119 rfl rfl rfl) (DO.q rfl (QT.cast (q_lookupOk (a := un b.next.length c) uT121 inf3 (KeyOk.pair pairT) rfl rfl (mG 3 rfl)) (v' := (.tuple #[vI 0, .bool false])) (by rw [look_zip]; simp only [un_mem, hk, if_true, if_false, un_ix, Nat.zero_add]; rfl)) (DO.q rfl (q_move rfl) (DO.q rfl (q_extract (vs := _) rfl rfl) (DO.q rfl (q_extract (vs := _) rfl rfl) (DO.q rfl (q_assign rfl) (DO.q rfl (q_assign rfl) ?_))))))))))
 refine DO.done ?_
 refine T.s (T.s (T.rg (TO.qm rfl (TO.q (q_not rfl) (TO.nl ?_)))))
 refine T.cond1 rfl ?_
 refine T.s (T.rg (TO.qm rfl (TO.q (q_nilCheck rfl) (TO.q (q_fa uT123 rfl inf120 rfl rfl) (TO.q (q_lb 1 uT120 rfl rfl rfl rfl) (TO.q (q_len uT120 rfl) (TO.qa rfl (TO.nl (T.s ?_)))))))))
 refine T.draws [oI bx1 119 [vI ((c / b.next.length : Nat) : Int), vI ((c % b.next.length : Nat) : Int)], oI bp 123 [(vI a.vars), (vI a.start), (.slice j.nb a.next.length j.nc), (.slice j.fb a.final.length j.fc), (vI b.vars), (vI b.start), (.slice k.nb b.next.length k.nc), (.slice k.fb b.final.length k.fc), (.slice qb ks.length qc), (.map (some m))], rowI qb qc 119 2 (prs b.next.length ks), mapI pairV (fun n : Nat => Value.int .i64 (n : Int)) m (pmap b.next.length ks)] [(0, 0), (1, 0), (2, 0), (3, 0), (4, 0), (5, 0), (6, 2)] mixed (by kernel_rfl) (by exact Sub.rf) (fun _ _ _ h => h) ?_
 refine DO.q rfl (q_move rfl) (DO.q rfl (q_nilCheck rfl) (DO.q rfl (q_fa uT123 rfl inf121 rfl rfl) (DO.q rfl (q_lb 1 uT121 rfl rfl rfl rfl) (DO.q rfl (q_la 0 uT119 rfl inf119 rfl rfl rfl) (DO.q rfl (q_move rfl) ?_)))))
 refine DO.last rfl rfl (l_mapPut (a := un b.next.length c) (v := ks.length) 3 uT121 (KeyOk.pair pairT) rfl rfl rfl rfl (by rw [pmap_fst, un_mem]; exact hk) ?_)
 refine DO.done ?_
 refine T.draws [oI bx1 119 [vI ((c / b.next.length : Nat) : Int), vI ((c % b.next.length : Nat) : Int)], oI bp 123 [(vI a.vars), (vI a.start), (.slice j.nb a.next.length j.nc), (.slice j.fb a.final.length j.fc), (vI b.vars), (vI b.start), (.slice k.nb b.next.length k.nc), (.slice k.fb b.final.length k.fc), (.slice qb ks.length qc), (.map (some m))], mapI pairV (fun n : Nat => Value.int .i64 (n : Int)) m ((pmap b.next.length ks) ++ [(un b.next.length c, ks.length)])] [(0, 0), (1, 0), (2, 0), (3, 0), (4, 0), (5, 0), (6, 1), (7, 1), (8, 0), (9, 0), (10, 2)] mixed (by kernel_rfl) (by exact Sub.k (.k (.d (.k .z)))) (fun _ _ _ h => h) ?_
 refine DO.q rfl (q_move rfl) (DO.q rfl (q_move rfl) (DO.q rfl (q_nilCheck rfl) (DO.q rfl (q_fa uT123 rfl inf120 rfl rfl) (DO.q rfl (q_lb 1 uT120 rfl rfl rfl rfl) (DO.q rfl (q_la 0 uT119 rfl inf119 rfl rfl rfl) ?_)))))
 refine DO.loud rfl rfl (l_buildSlice (m := 1) (parts := [(0, _)]) (cs := [vI ((c / b.next.length : Nat) : Int), vI ((c % b.next.length : Nat) : Int)]) uT120 inf119 (by decide) (by kernel_rfl) rfl (fun bx2 => ⟨by exact Sub.d (.k (.k (.d (.k .z)))), ?_⟩))
 refine DO.loud rfl rfl (l_append 3 uT120 uT120 inf119 rfl rfl rfl rfl (by rw [prs_len]) (by decide) (Src.row (j := 0) rfl (by simp)) (by simp [oneB]) (by omega) (by decide) (by decide) (fun bx3 c4 => ⟨by exact Sub.d (.k (.k (.d (.k .z)))), ?_⟩))
 refine DO.q rfl (q_nilCheck rfl) (DO.q rfl (q_fa uT123 rfl inf120 rfl rfl) ?_)
 refine DO.last rfl rfl (l_sb (v := (.slice bx3 (ks.length + 1) c4)) (vs := [(.slice bx3 (ks.length + 1) c4)]) 2 inf120 rfl rfl rfl rfl rfl rfl (by simp [putL]) ?_)
 refine DO.done ?_
 refine T.s (T.rg (TO.qm rfl (TO.qa rfl (TO.nl (T.ret (Res.drop ?_))))))
 refine Res.one (vI (ks.length : Int)) Tryz.results117 rfl ?_
 have ha : add ks c = ks ++ [c] := if_neg hk
 rw [ha]
 exact ⟨[oI bp 123 [(vI a.vars), (vI a.start), (.slice j.nb a.next.length j.nc), (.slice j.fb a.final.length j.fc), (vI b.vars), (vI b.start), (.slice k.nb b.next.length k.nc), (.slice k.fb b.final.length k.fc), (.slice bx3 (ks.length + 1) c4), (.map (some m))], rowI bx3 c4 119 2 ((prs b.next.length ks) ++ [vI ((c / b.next.length : Nat) : Int), vI ((c % b.next.length : Nat) : Int)]), mapI pairV (fun n : Nat => Value.int .i64 (n : Int)) m ((pmap b.next.length ks) ++ [(un b.next.length c, ks.length)])], (by exact Sub.d (.d (.k (.k (.k .z))))), by rw [ix_append_right hk]; simp [ix], _, _, by rw [prs_snoc, pmap_snoc, List.length_append]; rfl⟩
theorem pvC (base : World) [Tab Tryz.prog base] (a b : DFA) (j k : DK) (bp m : Nat) (ks : List Nat) (c : Nat) (qb : Option Addr) (qc : Nat) (hl : ks.length ≤ 17000000) :
  CallT Tryz.prog base 117 [.pointer (aD bp), (.agg #[vI ((c / b.next.length : Nat) : Int), vI ((c % b.next.length : Nat) : Int)])] [objI bp (.cells (List.toArray [(vI a.vars), (vI a.start), (.slice j.nb a.next.length j.nc), (.slice j.fb a.final.length j.fc), (vI b.vars), (vI b.start), (.slice k.nb b.next.length k.nc), (.slice k.fb b.final.length k.fc), (.slice qb ks.length qc), (.map (some m))]) 123 (0, 0)), rowI qb qc 119 2 (prs b.next.length ks), mapI pairV (fun n : Nat => Value.int .i64 (n : Int)) m (pmap b.next.length ks)] (fun v O' => v = vI ((ix c (add ks c) : Nat) : Int) ∧ ∃ qb' qc', O' = [objI bp (.cells (List.toArray [(vI a.vars), (vI a.start), (.slice j.nb a.next.length j.nc), (.slice j.fb a.final.length j.fc), (vI b.vars), (vI b.start), (.slice k.nb b.next.length k.nc), (.slice k.fb b.final.length k.fc), (.slice qb' ((add ks c).length) qc'), (.map (some m))]) 123 (0, 0)), rowI qb' qc' 119 2 (prs b.next.length (add ks c)), mapI pairV (fun n : Nat => Value.int .i64 (n : Int)) m (pmap b.next.length (add ks c))]) := by
 by_cases hk : c ∈ ks
 ·exact pvHit base a b j k bp m ks c qb qc hk hl
 ·exact pvNew base a b j k bp m ks c qb qc hk hl
end Go.Proofs.YtohkmggbfcnapaaGreatDoor


namespace Go.Proofs.YtohkmggbfcnapaaGreatDoor
open Go.Lx Go.RowKit _root_.Go.Proofs.Tryz
theorem pvS (base : World) [Tab Tryz.prog base] (f : Bool → Bool → Bool) (a b : DFA) (j k : DK) (bp m i o x : Nat) (qb : Option Addr) (qc : Nat) (va : Valid a) (vb : Valid b) (hv : a.vars = b.vars) (hq : (bfsN (prodD f a b) i)[i]? = some o) (hx : x < 2 ^ a.vars.toNat) :
  CallT Tryz.prog base 117 [.pointer (aD bp), (.agg #[vI (((toN (prodD f a b) o x) / b.next.length : Nat) : Int), vI (((toN (prodD f a b) o x) % b.next.length : Nat) : Int)])] [objI bp (.cells (List.toArray [(vI a.vars), (vI a.start), (.slice j.nb a.next.length j.nc), (.slice j.fb a.final.length j.fc), (vI b.vars), (vI b.start), (.slice k.nb b.next.length k.nc), (.slice k.fb b.final.length k.fc), (.slice qb ((bfsM (prodD f a b) i o x).length) qc), (.map (some m))]) 123 (0, 0)), rowI qb qc 119 2 (prs b.next.length (bfsM (prodD f a b) i o x)), mapI pairV (fun n : Nat => Value.int .i64 (n : Int)) m (pmap b.next.length (bfsM (prodD f a b) i o x))] (fun v O' => v = vI ((ix (toN (prodD f a b) o x) (order (prodD f a b)) : Nat) : Int) ∧ ∃ qb' qc', O' = [objI bp (.cells (List.toArray [(vI a.vars), (vI a.start), (.slice j.nb a.next.length j.nc), (.slice j.fb a.final.length j.fc), (vI b.vars), (vI b.start), (.slice k.nb b.next.length k.nc), (.slice k.fb b.final.length k.fc), (.slice qb' ((bfsM (prodD f a b) i o (x + 1)).length) qc'), (.map (some m))]) 123 (0, 0)), rowI qb' qc' 119 2 (prs b.next.length (bfsM (prodD f a b) i o (x + 1))), mapI pairV (fun n : Nat => Value.int .i64 (n : Int)) m (pmap b.next.length (bfsM (prodD f a b) i o (x + 1)))]) := by
 have ho := (pr_bfs_ok (f := f) va vb hv i).2 o (List.mem_of_getElem? hq)
 have hil := (List.getElem?_eq_some_iff.1 hq).1
 have hbl := pr_bfs_len (f := f) va vb hv i
 have hml := pr_bfsM_len (f := f) va vb hv (i := i) ho (Nat.le_of_lt hx)
 have h4 : a.next.length * b.next.length ≤ 4096 * 4096 := Nat.mul_le_mul va.n4 vb.n4
 rw [bfsM_step]
 refine (pvC base a b j k bp m (bfsM (prodD f a b) i o x) (toN (prodD f a b) o x) qb qc (by omega)).mono ?_
 rintro v O' ⟨rfl, h⟩
 refine ⟨?_, h⟩
 rw [← bfsM_step, visit_old hq (x := x + 1) hx (by rw [prod_len]; omega) (by rw [bfsM_step]; exact mem_add.2 (.inr rfl))]
theorem pairs1 (base : World) [Tab Tryz.prog base] (f : Bool → Bool → Bool) (a b : DFA) (j k : DK) (ha : At base a j) (hb : At base b k) (va : Valid a) (vb : Valid b) (hv : a.vars = b.vars) (L : Nat) (hL : 2 ^ a.vars.toNat = L) (bx bp m : Nat) (qb0 : Option Addr) (qc0 : Nat) (yv : Value) (J : Nat → List Lx.Item → Prop) (Q : List Lx.Item → Prop)
  (hy : ∀ (i o : Nat) (qb : Option Addr) (qc rb : Nat) (O : List Lx.Item), (bfsN (prodD f a b) i)[i]? = some o → J i O → CallV Tryz.prog base yv [(.agg #[vI ((o / b.next.length : Nat) : Int), vI ((o % b.next.length : Nat) : Int)]), .slice (aD rb) L L] (O ++ [oI bp 123 [(vI a.vars), (vI a.start), (.slice j.nb a.next.length j.nc), (.slice j.fb a.final.length j.fc), (vI b.vars), (vI b.start), (.slice k.nb b.next.length k.nc), (.slice k.fb b.final.length k.fc), (.slice qb ((bfsN (prodD f a b) (i + 1)).length) qc), (.map (some m))], rowI qb qc 119 2 (prs b.next.length (bfsN (prodD f a b) (i + 1))), mapI pairV (fun n : Nat => Value.int .i64 (n : Int)) m (pmap b.next.length (bfsN (prodD f a b) (i + 1))), rowI (aD rb) L 3 1 (ints (rnR (prodD f a b) o))])
   (fun v O' => (v = .bool true ∧ ∃ O2, O' = O2 ++ [oI bp 123 [(vI a.vars), (vI a.start), (.slice j.nb a.next.length j.nc), (.slice j.fb a.final.length j.fc), (vI b.vars), (vI b.start), (.slice k.nb b.next.length k.nc), (.slice k.fb b.final.length k.fc), (.slice qb ((bfsN (prodD f a b) (i + 1)).length) qc), (.map (some m))], rowI qb qc 119 2 (prs b.next.length (bfsN (prodD f a b) (i + 1))), mapI pairV (fun n : Nat => Value.int .i64 (n : Int)) m (pmap b.next.length (bfsN (prodD f a b) (i + 1)))] ∧ J (i + 1) O2) ∨ (v = .bool false ∧ Q O')))
  (O : List Lx.Item) (h0 : J 0 O) :
  CallT Tryz.prog base 116 [yv, .pointer (aD bx)] ([oI bx 112 [(.pointer (aD bp))], oI bp 123 [(vI a.vars), (vI a.start), (.slice j.nb a.next.length j.nc), (.slice j.fb a.final.length j.fc), (vI b.vars), (vI b.start), (.slice k.nb b.next.length k.nc), (.slice k.fb b.final.length k.fc), (.slice qb0 ((bfsN (prodD f a b) 0).length) qc0), (.map (some m))], rowI qb0 qc0 119 2 (prs b.next.length (bfsN (prodD f a b) 0)), mapI pairV (fun n : Nat => Value.int .i64 (n : Int)) m (pmap b.next.length (bfsN (prodD f a b) 0))] ++ O) (fun _ O' => (∃ N qb qc O2, O' = O2 ++ [oI bp 123 [(vI a.vars), (vI a.start), (.slice j.nb a.next.length j.nc), (.slice j.fb a.final.length j.fc), (vI b.vars), (vI b.start), (.slice k.nb b.next.length k.nc), (.slice k.fb b.final.length k.fc), (.slice qb ((bfsN (prodD f a b) N).length) qc), (.map (some m))], rowI qb qc 119 2 (prs b.next.length (bfsN (prodD f a b) N)), mapI pairV (fun n : Nat => Value.int .i64 (n : Int)) m (pmap b.next.length (bfsN (prodD f a b) N))] ∧ (bfsN (prodD f a b) N).length = N ∧ J N O2) ∨ Q O') := by
 refine CallT.enter func116 rfl ntmps116 rfl ?_
 have h4 : a.next.length * b.next.length ≤ 4096 * 4096 := Nat.mul_le_mul va.n4 vb.n4
 have hw : L ≤ 64 := by rw [← hL]; exact va.width
 have ha1 := ha.rows.1
 have hb1 := hb.rows.1
 refine T.s (T.rg (TO.qa rfl (TO.nl (T.block ?_))))
 refine T.loop (fun (i : Nat) ρ O => ∃ (qb : Option Addr) (qc : Nat) (O1 : List Lx.Item), O = ([oI bx 112 [(.pointer (aD bp))], oI bp 123 [(vI a.vars), (vI a.start), (.slice j.nb a.next.length j.nc), (.slice j.fb a.final.length j.fc), (vI b.vars), (vI b.start), (.slice k.nb b.next.length k.nc), (.slice k.fb b.final.length k.fc), (.slice qb ((bfsN (prodD f a b) i).length) qc), (.map (some m))], rowI qb qc 119 2 (prs b.next.length (bfsN (prodD f a b) i)), mapI pairV (fun n : Nat => Value.int .i64 (n : Int)) m (pmap b.next.length (bfsN (prodD f a b) i))] ++ O1) ∧ i ≤ (bfsN (prodD f a b) i).length ∧ J i O1 ∧ Heads [(0, yv), (1, (.pointer (aD bx))), (3, vI ((i : Nat) : Int))] ρ) (fun i => a.next.length * b.next.length - i) 0 ?_ ?_
 ·exact ⟨qb0, qc0, O, rfl, Nat.zero_le _, h0, ⟨rfl, rfl, rfl, trivial⟩⟩
 rintro i ρ O ⟨qb, qc, O1, rfl, hle, hJ, hH⟩
 obtain ⟨ρ0, rfl⟩ := hH.elim
 clear hH
 have hbl := pr_bfs_len (f := f) va vb hv i
 refine T.s (T.s (T.rg (TO.qm rfl (TO.q (q_lb 0 uT112 rfl rfl rfl rfl) (TO.q (q_nilCheck rfl) (TO.q (q_fa uT123 rfl inf120 rfl rfl) (TO.q (q_lb 1 uT120 rfl rfl rfl rfl) (TO.q (q_len uT120 rfl) (TO.q (q_lss rfl rfl) (TO.nl (T.condP rfl (fun hc => ?_) (fun hc => ?_))))))))))))
 ·have hlt13 : i < (bfsN (prodD f a b) i).length := by omega
  obtain ⟨o, hq⟩ : ∃ o, (bfsN (prodD f a b) i)[i]? = some o := ⟨_, List.getElem?_eq_getElem hlt13⟩
  have ho := (pr_bfs_ok (f := f) va vb hv i).2 o (List.mem_of_getElem? hq)
  obtain ⟨hs, ht⟩ := pr_split ho
  obtain ⟨v1, c1, g1, s1⟩ := ha.rows.get hs
  obtain ⟨v2, c2, g2, s2⟩ := hb.rows.get ht
  refine T.skip (T.s (T.block (T.s (T.rg (TO.q (q_lb 0 uT112 rfl rfl rfl rfl) (TO.q (q_nilCheck rfl) (TO.q (q_fa uT123 rfl inf120 rfl rfl) (TO.q (q_lb 1 uT120 rfl rfl rfl rfl) (TO.qm rfl (TO.q (q_ixK (i := i) uT120 inf119 rfl rfl (rowO (mG 2 rfl)) hlt13 (by rw [prs_len]; omega)) (TO.q (q_ldK (vs := [vI ((o / b.next.length : Nat) : Int), vI ((o % b.next.length : Nat) : Int)]) uT119 rfl inf119 rfl rfl (Nat.succ_pos _) (rowO (mG 2 rfl)) (prs_get hq)) (TO.l rfl (l_alloc inf119 rfl (fun z1 => ?_))))))))))))))
  refine TO.l rfl (l_sb (v := (.agg #[vI ((o / b.next.length : Nat) : Int), vI ((o % b.next.length : Nat) : Int)])) (vs := [vI ((o / b.next.length : Nat) : Int), vI ((o % b.next.length : Nat) : Int)]) 0 inf119 rfl rfl rfl rfl rfl rfl (by simp [putL]) ?_)
  refine TO.nl (T.s (T.rg (TO.q (q_lb 1 uT112 rfl rfl rfl rfl) (TO.q (q_nilCheck rfl) (TO.q (q_fa uT123 rfl inf25 rfl rfl) (TO.q (q_fa uT25 rfl inf3 rfl rfl) (TO.q (q_lb 2 uT3 rfl rfl rfl rfl) (TO.q (QT.cast (q_shl1 (v := a.vars.toNat) rfl (by show Value.int _ a.vars = _; rw [Int.toNat_of_nonneg va.v0]) (by have := va.v6; omega)) (v' := vI ((L : Nat) : Int)) (by rw [hL])) (TO.l rfl (l_makeSlice (m := L) uT37 inf3 rfl rfl (by omega) (by omega) (fun z2 => ?_)))))))))))
  refine TO.qa rfl (TO.nl (T.s (T.s (T.rg (TO.qm rfl (TO.q (q_len uT37 rfl) (TO.qm rfl (TO.nl (T.block ?_)))))))))
  refine T.sub (O' := ([oI bp 123 [(vI a.vars), (vI a.start), (.slice j.nb a.next.length j.nc), (.slice j.fb a.final.length j.fc), (vI b.vars), (vI b.start), (.slice k.nb b.next.length k.nc), (.slice k.fb b.final.length k.fc), (.slice qb ((bfsN (prodD f a b) i).length) qc), (.map (some m))], rowI qb qc 119 2 (prs b.next.length (bfsN (prodD f a b) i)), mapI pairV (fun n : Nat => Value.int .i64 (n : Int)) m (pmap b.next.length (bfsN (prodD f a b) i)), rowI (aD z2) L 3 1 (List.replicate L (vI 0)), oI z1 119 [vI ((o / b.next.length : Nat) : Int), vI ((o % b.next.length : Nat) : Int)], oI bx 112 [(.pointer (aD bp))]] ++ O1)) (by exact Sub.pull [rowI (aD z2) L 3 1 (List.replicate L (vI 0)), oI z1 119 [vI ((o / b.next.length : Nat) : Int), vI ((o % b.next.length : Nat) : Int)], oI bx 112 [(.pointer (aD bp))]] _ (.pull [rowI (aD z2) L 3 1 (List.replicate L (vI 0)), oI z1 119 [vI ((o / b.next.length : Nat) : Int), vI ((o % b.next.length : Nat) : Int)], oI bx 112 [(.pointer (aD bp))]] _ (.pull [rowI (aD z2) L 3 1 (List.replicate L (vI 0)), oI z1 119 [vI ((o / b.next.length : Nat) : Int), vI ((o % b.next.length : Nat) : Int)], oI bx 112 [(.pointer (aD bp))]] _ (.k (.k (.k .rf)))))) ?_
  refine T.loop (fun (x : Nat) ρ O => ∃ (qbm : Option Addr) (qcm : Nat) (ys : List Nat), O = ([oI bp 123 [(vI a.vars), (vI a.start), (.slice j.nb a.next.length j.nc), (.slice j.fb a.final.length j.fc), (vI b.vars), (vI b.start), (.slice k.nb b.next.length k.nc), (.slice k.fb b.final.length k.fc), (.slice qbm ((bfsM (prodD f a b) i o x).length) qcm), (.map (some m))], rowI qbm qcm 119 2 (prs b.next.length (bfsM (prodD f a b) i o x)), mapI pairV (fun n : Nat => Value.int .i64 (n : Int)) m (pmap b.next.length (bfsM (prodD f a b) i o x)), rowI (aD z2) L 3 1 (nats ys), oI z1 119 [vI ((o / b.next.length : Nat) : Int), vI ((o % b.next.length : Nat) : Int)], oI bx 112 [(.pointer (aD bp))]] ++ O1) ∧ x ≤ L ∧ ys.length = L ∧ (∀ y, y < x → ys[y]? = some (ix (toN (prodD f a b) o y) (order (prodD f a b)))) ∧ Heads [(0, yv), (1, (.pointer (aD bx))), (3, vI ((i : Nat) : Int)), (4, (.pointer (aD z1))), (5, (.slice (aD z2) L L)), (31, vI (L : Int)), (32, vI ((x : Nat) : Int))] ρ) (fun x => L - x) 0 ?_ ?_
  ·refine ⟨qb, qc, List.replicate L 0, ?_, Nat.zero_le _, by simp, fun y hy9 => absurd hy9 (by omega), (.of rfl)⟩
   rw [show List.replicate L (Value.int .i64 0) = nats (List.replicate L 0) by simp]; rfl
  rintro x ρ O ⟨qbm, qcm, ys, rfl, hx, hyl, hys, hH⟩
  obtain ⟨ρ0, rfl⟩ := hH.elim
  clear hH
  refine T.s (T.rg (TO.q (q_lss rfl rfl) (TO.nl (T.s (T.condP rfl (fun hc => ?_) (fun hc => ?_))))))
  ·have hlt33 : x < L := by omega
   have hxa : x < 2 ^ a.vars.toNat := by omega
   have hxb : x < 2 ^ b.vars.toNat := by rw [← hv]; exact hxa
   obtain ⟨t1, _, x1, d1⟩ := va.toN_lt hs hxa
   obtain ⟨t2, _, x2, d2⟩ := vb.toN_lt ht hxb
   have hst := (pr_toN_lt (f := f) va vb hv ho hxa).1
   have hdm := pr_div (n := b.next.length) (s := toN a (o / b.next.length) x) t2
   rw [← hst] at hdm
   have hx1 : (ints a.next[o / b.next.length])[x]? = some (vI ((toN (prodD f a b) o x / b.next.length : Nat) : Int)) := by rw [ints_get x1, d1, hdm.1]
   have hx2 : (ints b.next[o % b.next.length])[x]? = some (vI ((toN (prodD f a b) o x % b.next.length : Nat) : Int)) := by rw [ints_get x2, d2, hdm.2]
   refine T.skip (T.s (T.block (T.s (T.rg (TO.qm rfl (TO.qa rfl (TO.nl ?_)))))))
   refine T.draws2 [] [oI bp 123 [(vI a.vars), (vI a.start), (.slice j.nb a.next.length j.nc), (.slice j.fb a.final.length j.fc), (vI b.vars), (vI b.start), (.slice k.nb b.next.length k.nc), (.slice k.fb b.final.length k.fc), (.slice qbm ((bfsM (prodD f a b) i o x).length) qcm), (.map (some m))], oI z1 119 [vI ((o / b.next.length : Nat) : Int), vI ((o % b.next.length : Nat) : Int)], oI bx 112 [(.pointer (aD bp))]] [(0, 0), (1, 0), (2, 3), (3, 3), (4, 3), (5, 3), (6, 3), (7, 3), (8, 3), (9, 3), (10, 3), (11, 3), (12, 3), (13, 3), (14, 3), (15, 3), (16, 3), (17, 3), (18, 3), (19, 3), (20, 3), (21, 3), (22, 3), (23, 3), (24, 3), (25, 3), (26, 3), (27, 3), (28, 4), (29, 2), (30, 2)] mixed (drawF_ok (by kernel_rfl)) (Sub.of (List.nil_sublist _)) (by exact Sub.k (.d (.d (.d (.k (.k .z)))))) (fun _ _ _ h => h) ?_
   refine DO.q rfl (q_move rfl) (DO.q rfl (q_move rfl) ?_)
   refine DO.quiet2 rfl (q_lb 2 uT112 rfl rfl rfl rfl) ?_
   refine DO.quiet2 rfl (q_lb 2 uT112 rfl rfl rfl rfl) ?_
   refine DO.quiet2 rfl (q_nilCheck rfl) ?_
   refine DO.quiet2 rfl (q_fa uT123 rfl inf25 rfl rfl) ?_
   refine DO.quiet2 rfl (q_fa uT25 rfl inf22 rfl rfl) ?_
   refine DO.quiet2 rfl (q_lb 0 uT22 rfl rfl rfl rfl) ?_
   refine DO.quiet2 rfl (q_fa uT119 rfl inf3 rfl rfl) ?_
   refine DO.quiet2 rfl (q_lb 1 uT3 rfl rfl rfl rfl) ?_
   refine DO.quiet2 rfl (q_ix (i := (o / b.next.length)) uT22 inf37 rfl rfl (Sl.o ha.outer) hs (by rw [ha1]; exact hs)) ?_
   refine DO.quiet2 rfl (q_ld uT37 rfl rfl (Sl.o ha.outer) g1) ?_
   refine DO.quiet2 rfl (q_move rfl) ?_
   refine DO.quiet2 rfl (q_ix (i := x) uT37 inf3 rfl rfl (Sl.o s1) x1 (by rw [List.length_map]; exact x1)) ?_
   refine DO.quiet2 rfl (q_ld uT3 rfl rfl (Sl.o s1) hx1) ?_
   refine DO.quiet2 rfl (q_lb 2 uT112 rfl rfl rfl rfl) ?_
   refine DO.quiet2 rfl (q_nilCheck rfl) ?_
   refine DO.quiet2 rfl (q_fa uT123 rfl inf25 rfl rfl) ?_
   refine DO.quiet2 rfl (q_fa uT25 rfl inf22 rfl rfl) ?_
   refine DO.quiet2 rfl (q_lb 0 uT22 rfl rfl rfl rfl) ?_
   refine DO.quiet2 rfl (q_fa uT119 rfl inf3 rfl rfl) ?_
   refine DO.quiet2 rfl (q_lb 1 uT3 rfl rfl rfl rfl) ?_
   refine DO.quiet2 rfl (q_ix (i := (o % b.next.length)) uT22 inf37 rfl rfl (Sl.o hb.outer) ht (by rw [hb1]; exact ht)) ?_
   refine DO.quiet2 rfl (q_ld uT37 rfl rfl (Sl.o hb.outer) g2) ?_
   refine DO.quiet2 rfl (q_move rfl) ?_
   refine DO.quiet2 rfl (q_ix (i := x) uT37 inf3 rfl rfl (Sl.o s2) x2 (by rw [List.length_map]; exact x2)) ?_
   refine DO.quiet2 rfl (q_ld uT3 rfl rfl (Sl.o s2) hx2) ?_
   refine DO.quiet2 rfl (q_build (cs := [vI (((toN (prodD f a b) o x) / b.next.length : Nat) : Int), vI (((toN (prodD f a b) o x) % b.next.length : Nat) : Int)]) plan119 inf119 (by kernel_rfl)) ?_
   have hk63 := CallT.under (B := ([rowI (aD z2) L 3 1 (nats ys), oI z1 119 [vI ((o / b.next.length : Nat) : Int), vI ((o % b.next.length : Nat) : Int)], oI bx 112 [(.pointer (aD bp))]] ++ O1)) (O := ([oI bp 123 [(vI a.vars), (vI a.start), (.slice j.nb a.next.length j.nc), (.slice j.fb a.final.length j.fc), (vI b.vars), (vI b.start), (.slice k.nb b.next.length k.nc), (.slice k.fb b.final.length k.fc), (.slice qbm ((bfsM (prodD f a b) i o x).length) qcm), (.map (some m))], rowI qbm qcm 119 2 (prs b.next.length (bfsM (prodD f a b) i o x)), mapI pairV (fun n : Nat => Value.int .i64 (n : Int)) m (pmap b.next.length (bfsM (prodD f a b) i o x)), rowI (aD z2) L 3 1 (nats ys), oI z1 119 [vI ((o / b.next.length : Nat) : Int), vI ((o % b.next.length : Nat) : Int)], oI bx 112 [(.pointer (aD bp))]] ++ O1)) (pvS base f a b j k bp m i o x qbm qcm va vb hv hq (by omega)) (by exact Sub.rf)
   refine DO.last2 rfl rfl (l_call ent117 hk63 rfl ?_)
   clear hk63
   rintro vr O' ⟨A1, rfl, rfl, qb2, qc2, rfl⟩
   refine ⟨by exact Sub.z, ?_⟩
   refine DO.last rfl rfl (LT.oq rfl rfl (q_ix (i := x) uT37 inf3 rfl rfl (rowO (mG 3 rfl))) ?_)
   refine DO.last rfl rfl (l_st (j := x) (v := vI ((ix (toN (prodD f a b) o x) (order (prodD f a b)) : Nat) : Int)) (vs := [(vI ((ix (toN (prodD f a b) o x) (order (prodD f a b)) : Nat) : Int))]) (cs := nats ys) 3 inf3 rfl rfl rfl rfl rfl (by simp) rfl (by first | (simp; omega) | (simp_all; omega)) ?_)
   refine DO.sub (O' := ([oI bp 123 [(vI a.vars), (vI a.start), (.slice j.nb a.next.length j.nc), (.slice j.fb a.final.length j.fc), (vI b.vars), (vI b.start), (.slice k.nb b.next.length k.nc), (.slice k.fb b.final.length k.fc), (.slice qb2 ((bfsM (prodD f a b) i o (x + 1)).length) qc2), (.map (some m))], rowI qb2 qc2 119 2 (prs b.next.length (bfsM (prodD f a b) i o (x + 1))), mapI pairV (fun n : Nat => Value.int .i64 (n : Int)) m (pmap b.next.length (bfsM (prodD f a b) i o (x + 1))), rowI (aD z2) L 3 1 (nats (ys.set x (ix (toN (prodD f a b) o x) (order (prodD f a b))))), oI z1 119 [vI ((o / b.next.length : Nat) : Int), vI ((o % b.next.length : Nat) : Int)], oI bx 112 [(.pointer (aD bp))]] ++ O1)) (by rw [show putL (nats ys) x [(vI ((ix (toN (prodD f a b) o x) (order (prodD f a b)) : Nat) : Int))] = nats (ys.set x (ix (toN (prodD f a b) o x) (order (prodD f a b)))) from by simp [putL]]; exact Sub.of (List.Sublist.refl _)) ?_
   refine DO.done ?_
   refine T.rg (TO.q (q_addN (a := x) (b := 1) rfl rfl (by omega)) (TO.qm rfl (TO.nl ?_)))
   refine ⟨x + 1, by omega, qb2, qc2, ys.set x (ix (toN (prodD f a b) o x) (order (prodD f a b))), rfl, by omega, by simp [hyl], fun y hy9 => ?_, (.of rfl)⟩
   by_cases e : y = x
   ·subst e; rw [List.getElem?_set_self (by omega)]
   ·rw [List.getElem?_set_ne (fun h => e h.symm)]; exact hys y (by omega)
  have hge33 : ¬ x < L := by omega
  refine T.exit ?_
  refine T.s ?_
  have hxe : x = L := by omega
  have e1 : bfsN (prodD f a b) (i + 1) = bfsM (prodD f a b) i o x := by rw [hxe, ← hL]; exact (bfsM_full hq).symm
  have e3 : renRow (prodD f a b) o = ys := by
   apply List.ext_getElem?
   intro y
   by_cases hy9 : y < L
   ·rw [hys y (by omega)]
    have hy8 : y < 2 ^ (prodD f a b).vars.toNat := by show y < 2 ^ a.vars.toNat; omega
    unfold renRow
    rw [List.getElem?_map, sucs_get hy8]; rfl
   ·rw [List.getElem?_eq_none (by rw [renRow_length]; show 2 ^ a.vars.toNat ≤ y; omega), List.getElem?_eq_none (by omega)]
  have e2 : ints (rnR (prodD f a b) o) = nats ys := by unfold rnR; rw [e3]; simp [Function.comp_def]
  refine T.sub (O' := ([oI bp 123 [(vI a.vars), (vI a.start), (.slice j.nb a.next.length j.nc), (.slice j.fb a.final.length j.fc), (vI b.vars), (vI b.start), (.slice k.nb b.next.length k.nc), (.slice k.fb b.final.length k.fc), (.slice qbm ((bfsN (prodD f a b) (i + 1)).length) qcm), (.map (some m))], rowI qbm qcm 119 2 (prs b.next.length (bfsN (prodD f a b) (i + 1))), mapI pairV (fun n : Nat => Value.int .i64 (n : Int)) m (pmap b.next.length (bfsN (prodD f a b) (i + 1))), rowI (aD z2) L 3 1 (ints (rnR (prodD f a b) o)), oI z1 119 [vI ((o / b.next.length : Nat) : Int), vI ((o % b.next.length : Nat) : Int)], oI bx 112 [(.pointer (aD bp))]] ++ O1)) (by rw [e1, e2]; exact Sub.rf) ?_
  refine T.rg (TO.qm rfl (TO.q (q_la 4 uT119 rfl inf119 rfl rfl rfl) (TO.qm rfl ?_)))
  have hk69 := CallV.under (B := [oI z1 119 [vI ((o / b.next.length : Nat) : Int), vI ((o % b.next.length : Nat) : Int)], oI bx 112 [(.pointer (aD bp))]]) (O := ([oI bp 123 [(vI a.vars), (vI a.start), (.slice j.nb a.next.length j.nc), (.slice j.fb a.final.length j.fc), (vI b.vars), (vI b.start), (.slice k.nb b.next.length k.nc), (.slice k.fb b.final.length k.fc), (.slice qbm ((bfsN (prodD f a b) (i + 1)).length) qcm), (.map (some m))], rowI qbm qcm 119 2 (prs b.next.length (bfsN (prodD f a b) (i + 1))), mapI pairV (fun n : Nat => Value.int .i64 (n : Int)) m (pmap b.next.length (bfsN (prodD f a b) (i + 1))), rowI (aD z2) L 3 1 (ints (rnR (prodD f a b) o)), oI z1 119 [vI ((o / b.next.length : Nat) : Int), vI ((o % b.next.length : Nat) : Int)], oI bx 112 [(.pointer (aD bp))]] ++ O1)) (hy i o qbm qcm z2 O1 hq hJ) (Sub.ca [])
  refine TO.l rfl (l_callG hk69 rfl rfl ?_)
  clear hk69
  rintro vr O' ⟨A1, rfl, ⟨rfl, O2, rfl, hJ2⟩ | ⟨rfl, hQ2⟩⟩
  ·refine TO.q (q_not rfl) ?_
   refine TO.nl (T.cond0 rfl (T.skip ?_))
   refine T.sub (O' := ([oI bx 112 [(.pointer (aD bp))], oI bp 123 [(vI a.vars), (vI a.start), (.slice j.nb a.next.length j.nc), (.slice j.fb a.final.length j.fc), (vI b.vars), (vI b.start), (.slice k.nb b.next.length k.nc), (.slice k.fb b.final.length k.fc), (.slice qbm ((bfsN (prodD f a b) (i + 1)).length) qcm), (.map (some m))], rowI qbm qcm 119 2 (prs b.next.length (bfsN (prodD f a b) (i + 1))), mapI pairV (fun n : Nat => Value.int .i64 (n : Int)) m (pmap b.next.length (bfsN (prodD f a b) (i + 1)))] ++ O2)) (Sub.ca [oI z1 119 [vI ((o / b.next.length : Nat) : Int), vI ((o % b.next.length : Nat) : Int)]]) ?_
   refine T.rg (TO.qm rfl (TO.q (q_addN (a := i) (b := 1) rfl rfl (by omega)) (TO.qa rfl (TO.nl ?_))))
   have hpl := (bfsN_prefix (prodD f a b) i (i + 1) (by omega)).length_le
   exact ⟨i + 1, by omega, qbm, qcm, O2, rfl, by omega, hJ2, ⟨rfl, rfl, rfl, trivial⟩⟩
  refine TO.q (q_not rfl) (TO.nl ?_)
  refine T.cond1 rfl ?_
  refine T.ret (Res.drop ?_)
  refine Res.zero Tryz.results116 ?_
  exact ⟨A1, Sub.of (List.sublist_append_left _ _), .inr hQ2⟩
 have hge13 : ¬ i < (bfsN (prodD f a b) i).length := by omega
 refine T.exit ?_
 refine Res.drop ?_
 refine Res.zero Tryz.results116 ?_
 have hN : (bfsN (prodD f a b) i).length = i := by omega
 exact ⟨O1 ++ [oI bp 123 [(vI a.vars), (vI a.start), (.slice j.nb a.next.length j.nc), (.slice j.fb a.final.length j.fc), (vI b.vars), (vI b.start), (.slice k.nb b.next.length k.nc), (.slice k.fb b.final.length k.fc), (.slice qb ((bfsN (prodD f a b) i).length) qc), (.map (some m))], rowI qb qc 119 2 (prs b.next.length (bfsN (prodD f a b) i)), mapI pairV (fun n : Nat => Value.int .i64 (n : Int)) m (pmap b.next.length (bfsN (prodD f a b) i))], Sub.ca [oI bx 112 [(.pointer (aD bp))]], .inl ⟨i, qb, qc, O1, rfl, hN, hJ⟩⟩
end Go.Proofs.YtohkmggbfcnapaaGreatDoor


namespace Go.Proofs.YtohkmggbfcnapaaGreatDoor
open Go.Lx Go.RowKit _root_.Go.Proofs.Tryz
theorem minK (w : World) [Tab Tryz.prog w] (d : DFA) (k : DK) (h : At w d k) (hb : d.next.length < 9223372036854775807) (hbr : ∀ r ∈ d.next, r.length < 9223372036854775807) (hbf : d.final.length < 9223372036854775807) (hn : Valid d → d.next.length < 10000) :
  PureT Tryz.prog 34 [dV d k] w fun v N => ∃ k' : DK, v = .tuple #[dV (minV d) k', vI (checkD d : Int)] ∧ N = [dI 37 4 3 (minV d) k'] :=
 CallT.dk (g := fun x => .tuple #[x, vI (checkD d : Int)]) (minA w d k.nb k.fb k.nc k.fc (vals k.qs) h hb hbr hbf hn)
theorem minKE (w : World) [Tab Tryz.prog w] (d : DFA) (k : DK) (h : At w d k) (hv : Valid d) (hn : d.next.length < 10000) {M : DFA} (hM : minD d = M) :
  PureT Tryz.prog 34 [dV d k] w fun v N => ∃ k' : DK, v = .tuple #[dV M k', vI 0] ∧ N = [dI 37 4 3 M k'] := by
 have h1 := minK w d k h (by have := hv.n4; omega) hv.bound (by have := hv.fin; have := hv.n4; omega) (fun _ => hn)
 rw [minV_valid hv, hM, checkD_zero.2 hv] at h1
 exact h1
theorem rMinK (w : World) [Tab Tryz.prog w] (d : DFA) (k : DK) (h : At w d k) (hb : d.next.length < 9223372036854775807) (hbr : ∀ r ∈ d.next, r.length < 9223372036854775807) (hbf : d.final.length < 9223372036854775807) (hn : Valid d → d.next.length < 10000) :
  PureT Tryz.prog 45 [dV d k] w fun v N => ∃ k' : DK, v = .tuple #[dV (minV d) k', vI (checkD d : Int)] ∧ N = [dI 37 4 3 (minV d) k'] :=
 CallT.dk (g := fun x => .tuple #[x, vI (checkD d : Int)]) (rMinA w d k.nb k.fb k.nc k.fc (vals k.qs) h hb hbr hbf hn)
theorem rMinKE (w : World) [Tab Tryz.prog w] (d : DFA) (k : DK) (h : At w d k) (hv : Valid d) (hn : d.next.length < 10000) {M : DFA} (hM : minD d = M) :
  PureT Tryz.prog 45 [dV d k] w fun v N => ∃ k' : DK, v = .tuple #[dV M k', vI 0] ∧ N = [dI 37 4 3 M k'] := by
 have h1 := rMinK w d k h (by have := hv.n4; omega) hv.bound (by have := hv.fin; have := hv.n4; omega) (fun _ => hn)
 rw [minV_valid hv, hM, checkD_zero.2 hv] at h1
 exact h1
theorem notF (base : World) (x y : Bool) : CallT Tryz.prog base 69 [.bool x, .bool y] [] (fun v O' => v = .bool (notB x y) ∧ O' = []) := by
 refine CallT.enter func69 rfl ntmps69 rfl ?_
 refine T.s (T.rg (TO.qa rfl (TO.nl (T.s (T.rg (TO.qm rfl (TO.q (q_not rfl) (TO.qa rfl (TO.nl (T.ret ?_))))))))))
 refine Res.one (.bool (!x)) Tryz.results69 rfl ?_
 cases x <;> cases y <;> first | exact ⟨rfl, rfl⟩ | (exfalso; simp_all; done) | simp_all [andB, orB, xorB, minusB, notB]
set_option maxRecDepth 20000 in
theorem notFV (base : World) (x y : Bool) : CallV Tryz.prog base (.func (.func 69) #[] #[]) [.bool x, .bool y] [] (fun v O' => v = .bool (notB x y) ∧ O' = []) := CallV.of_fn (first := []) (caps := []) ent69 (notF base x y)
theorem combineBad (w : World) [Tab Tryz.prog w] (a b : DFA) (j k : DK) (ha : At w a j) (hb : At w b k) (haa : a.next.length < 9223372036854775807) (haar : ∀ r ∈ a.next, r.length < 9223372036854775807) (haaf : a.final.length < 9223372036854775807) (hbb : b.next.length < 9223372036854775807) (hbbr : ∀ r ∈ b.next, r.length < 9223372036854775807) (hbbf : b.final.length < 9223372036854775807) (g : Nat) (he : wrongD a b ≠ 0) :
  PureT Tryz.prog 68 [dV a j, dV b k, .func (.func g) #[] #[]] w fun v N => v = .tuple #[dV noD ⟨none, 0, none, 0, []⟩, vI (wrongD a b : Int)] ∧ N = [] := by
 refine CallT.enter func68 rfl ntmps68 rfl ?_
 refine T.s (T.rg (TO.l rfl (l_box (v := (dV a j)) (cs := (dC a j)) rfl rfl (fun bx1 => ?_))))
 refine TO.l rfl (l_box (v := (dV b k)) (cs := (dC b k)) rfl rfl (fun bx2 => ?_))
 refine TO.l rfl (l_box (v := (.func (.func g) #[] #[])) (cs := [(.func (.func g) #[] #[])]) rfl rfl (fun bx3 => ?_))
 refine TO.l rfl (l_alloc inf25 rfl (fun bx4 => ?_))
 refine TO.l rfl (l_alloc inf29 rfl (fun bx5 => ?_))
 refine TO.nl (T.s (T.rg (TO.q (q_la 4 uT25 rfl inf25 rfl rfl rfl) (TO.q (q_la 3 uT25 rfl inf25 rfl rfl rfl) ?_))))
 have hk16 := fun (w1 : World) (hI : Inv w [oI bx5 29 [(vI 0)], oI bx4 25 [(vI 0), (vI 0), nS, nS], oI bx3 92 [(.func (.func g) #[] #[])], oI bx2 25 (dC b k), oI bx1 25 (dC a j)] w1) => (haveI := tbz hI; beginBad w1 a b j k (hI.atB ha) (hI.atB hb) haa haar haaf hbb hbbr hbbf he)
 refine TO.l rfl (l_call ent93 (CallT.op hk16) rfl ?_)
 clear hk16
 rintro vr O' ⟨N, rfl, rfl, rfl⟩
 refine TO.qm rfl (TO.q (q_extract (vs := _) rfl rfl) (TO.q (q_extract (vs := _) rfl rfl) (TO.l rfl (l_alloc inf112 rfl (fun bx6 => ?_)))))
 refine TO.l rfl (l_sb (v := .pointer none) (vs := [(.pointer none)]) 0 inf112 rfl rfl rfl rfl rfl rfl (by simp [putL]) ?_)
 refine TO.qa rfl (TO.nl (T.s (T.s (T.rg (TO.qm rfl (TO.q (q_neq rfl rfl) (TO.nl ?_)))))))
 refine T.cond1 (congrArg Value.bool (decide_eq_true (by omega))) ?_
 refine T.s (T.rg (TO.q (q_build plan25 inf25 rfl) (TO.qm rfl (TO.l rfl (l_sb (v := (.agg #[(vI 0), (vI 0), nS, nS])) (vs := [(vI 0), (vI 0), nS, nS]) 2 inf25 rfl rfl rfl rfl rfl rfl (by simp [putL]) ?_)))))
 refine TO.l rfl (l_sb (v := vI (wrongD a b : Int)) (vs := [(vI (wrongD a b : Int))]) 1 inf29 rfl rfl rfl rfl rfl rfl (by simp [putL]) ?_)
 refine TO.nl (T.ret (Res.drop ?_))
 refine Res.cell2a (i := 2) (j := 1) Tryz.results68 uT25 rfl inf25 uT29 rfl rfl rfl rfl rfl rfl ?_
 exact ⟨[], Sub.z, rfl, rfl⟩
theorem combineW (w : World) [Tab Tryz.prog w] (a b : DFA) (j k : DK) (ha : At w a j) (hb : At w b k) (va : Valid a) (vb : Valid b) (hv : a.vars = b.vars) (f : Bool → Bool → Bool) (g : Nat) (hf : ∀ (base : World) (x y : Bool), CallV Tryz.prog base (.func (.func g) #[] #[]) [.bool x, .bool y] [] (fun v O' => v = .bool (f x y) ∧ O' = [])) (hN8 : (order (prodD f a b)).length ≤ 4096) :
  PureT Tryz.prog 68 [dV a j, dV b k, .func (.func g) #[] #[]] w fun v N => ∃ k' : DK, v = .tuple #[dV (opD f a b) k', vI 0] ∧ N = [dI 37 4 3 (opD f a b) k'] := by
 refine CallT.enter func68 rfl ntmps68 rfl ?_
 have h4 : a.next.length * b.next.length ≤ 4096 * 4096 := Nat.mul_le_mul va.n4 vb.n4
 obtain ⟨L, hL⟩ : ∃ L, 2 ^ a.vars.toNat = L := ⟨_, rfl⟩
 have hw : L ≤ 64 := by rw [← hL]; exact va.width
 refine T.s (T.rg (TO.l rfl (l_box (v := (dV a j)) (cs := (dC a j)) rfl rfl (fun z1 => ?_))))
 refine TO.l rfl (l_box (v := (dV b k)) (cs := (dC b k)) rfl rfl (fun z2 => ?_))
 refine TO.l rfl (l_box (v := (.func (.func g) #[] #[])) (cs := [(.func (.func g) #[] #[])]) rfl rfl (fun z3 => ?_))
 refine TO.l rfl (l_alloc inf25 rfl (fun z4 => ?_))
 refine TO.l rfl (l_alloc inf29 rfl (fun z5 => ?_))
 refine TO.nl (T.s (T.rg (TO.q (q_la 4 uT25 rfl inf25 rfl rfl rfl) (TO.q (q_la 3 uT25 rfl inf25 rfl rfl rfl) ?_))))
 have hk16 := fun (w1 : World) (hI : Inv w [oI z5 29 [(vI 0)], oI z4 25 [(vI 0), (vI 0), nS, nS], oI z3 92 [(.func (.func g) #[] #[])], oI z2 25 (dC b k), oI z1 25 (dC a j)] w1) => (haveI := tbz hI; beginOk w1 a b j k (hI.atB ha) (hI.atB hb) va vb hv)
 refine TO.l rfl (l_call ent93 (CallT.op hk16) rfl ?_)
 clear hk16
 rintro vr O' ⟨N, rfl, bp, qb, m, rfl, rfl⟩
 refine TO.qm rfl (TO.q (q_extract (vs := _) rfl rfl) (TO.q (q_extract (vs := _) rfl rfl) (TO.l rfl (l_alloc inf112 rfl (fun z6 => ?_)))))
 refine TO.l rfl (l_sb (v := (.pointer (aD bp))) (vs := [(.pointer (aD bp))]) 0 inf112 rfl rfl rfl rfl rfl rfl (by simp [putL]) ?_)
 refine TO.qa rfl (TO.nl (T.s (T.s (T.rg (TO.qm rfl (TO.q (q_neq rfl rfl) (TO.nl (T.cond0 rfl (T.skip (T.s (T.rg (TO.q (q_fa uT25 rfl inf3 rfl rfl) (TO.q (q_lb 8 uT3 rfl rfl rfl rfl) (TO.q (q_build (cs := [(vI a.vars), (vI 0), nS, nS]) plan25 inf25 (by kernel_rfl)) (TO.l rfl (l_alloc inf25 rfl (fun z7 => ?_)))))))))))))))))
 refine TO.l rfl (l_sb (v := (.agg #[(vI a.vars), (vI 0), nS, nS])) (vs := [(vI a.vars), (vI 0), nS, nS]) 0 inf25 rfl rfl rfl rfl rfl rfl (by simp [putL]) ?_)
 refine TO.nl (T.s (T.s (T.nilRow 4 1 ?_)))
 refine T.nilRow 37 1 ?_
 refine T.rg (TO.q (q_lb 3 uT112 rfl rfl rfl rfl) ?_)
 have hk27 := fun (w1 : World) (hI : Inv w [rowI none 0 37 1 (vals []), rowI none 0 4 1 (bools []), oI z7 25 [(vI a.vars), (vI 0), nS, nS], oI z6 112 [(.pointer (aD bp))], oI bp 123 [(vI a.vars), (vI a.start), (.slice j.nb a.next.length j.nc), (.slice j.fb a.final.length j.fc), (vI b.vars), (vI b.start), (.slice k.nb b.next.length k.nc), (.slice k.fb b.final.length k.fc), (.slice (aD qb) ([a.start.toNat * b.next.length + b.start.toNat].length) 1), (.map (some m))], rowI (aD qb) 1 119 2 (prs b.next.length [a.start.toNat * b.next.length + b.start.toNat]), mapI pairV (fun n : Nat => Value.int .i64 (n : Int)) m (pmap b.next.length [a.start.toNat * b.next.length + b.start.toNat]), oI z5 29 [(vI 0)], oI z4 25 [(vI 0), (vI 0), nS, nS], oI z3 92 [(.func (.func g) #[] #[])], oI z2 25 (dC b k), oI z1 25 (dC a j)] w1) => (haveI := tbz hI; pairsF w1 bp)
 refine TO.l rfl (l_call ent94 (CallT.op hk27) rfl ?_)
 clear hk27
 rintro vr O' ⟨N, rfl, bP, rfl, rfl⟩
 refine TO.nl (T.block ?_)
 refine T.rangeFunc (first := []) (caps := [(.pointer (aD bP))]) rfl ent116 (fun yl yq yhq => ?_)
 refine CallT.mono (CallT.sub (O' := oI bP 112 [(.pointer (aD bp))] :: oI bp 123 [(vI a.vars), (vI a.start), (.slice j.nb a.next.length j.nc), (.slice j.fb a.final.length j.fc), (vI b.vars), (vI b.start), (.slice k.nb b.next.length k.nc), (.slice k.fb b.final.length k.fc), (.slice (aD qb) ([a.start.toNat * b.next.length + b.start.toNat].length) 1), (.map (some m))] :: rowI (aD qb) 1 119 2 (prs b.next.length [a.start.toNat * b.next.length + b.start.toNat]) :: mapI pairV (fun n : Nat => Value.int .i64 (n : Int)) m (pmap b.next.length [a.start.toNat * b.next.length + b.start.toNat]) :: (objI yl (lp yq none) :: [rowI none 0 37 1 (vals []), rowI none 0 4 1 (bools []), oI z7 25 [(vI a.vars), (vI 0), nS, nS], oI z6 112 [(.pointer (aD bp))], oI z5 29 [(vI 0)], oI z4 25 [(vI 0), (vI 0), nS, nS], oI z3 92 [(.func (.func g) #[] #[])], oI z2 25 (dC b k), oI z1 25 (dC a j)])) (Sub.pick [1, 5, 5, 5, 0, 0, 0, 0, 0, 0, 0, 0, 0, 0] rfl) (pairs1 w f a b j k ha hb va vb hv L hL bP bp m (aD qb) 1 (.func (.yield yl) #[] #[]) (fun i O => ∃ (nbm fbm : Option Addr) (ncm fcm n1 n2 : Nat) (qs : List Rec) (fs : List Bool), O = objI yl (lp yq none) :: ([rowI nbm ncm 37 1 (vals qs), rowI fbm fcm 4 1 (bools fs), oI z7 25 [(vI a.vars), (vI 0), (.slice nbm n1 ncm), (.slice fbm n2 fcm)], oI z6 112 [(.pointer (aD bp))], oI z5 29 [(vI 0)], oI z4 25 [(vI 0), (vI 0), nS, nS], oI z3 92 [(.func (.func g) #[] #[])], oI z2 25 (dC b k), oI z1 25 (dC a j)] ++ (itms 3 qs)) ∧ n1 = i ∧ n2 = i ∧ qs.length = i ∧ fs.length = i ∧ nums qs = ((order (prodD f a b)).take i).map (rnR (prodD f a b)) ∧ fs = ((order (prodD f a b)).take i).map (finN (prodD f a b))) (fun _ => False) ?_ _ ?_)) ?_
 ·intro i o qb qc rb O hq hJ
  obtain ⟨nbm, fbm, ncm, fcm, n1, n2, qs, fs, rfl, hn1, hn2, hql, hfl, hqs, hfs⟩ := hJ
  refine CallV.yield yhq rfl rfl ?_
  refine T.sub (O' := ([rowI nbm ncm 37 1 (vals qs), rowI fbm fcm 4 1 (bools fs), oI z7 25 [(vI a.vars), (vI 0), (.slice nbm n1 ncm), (.slice fbm n2 fcm)], oI z6 112 [(.pointer (aD bp))], oI z5 29 [(vI 0)], oI z4 25 [(vI 0), (vI 0), nS, nS], oI z3 92 [(.func (.func g) #[] #[])], oI z2 25 (dC b k), oI z1 25 (dC a j), oI bp 123 [(vI a.vars), (vI a.start), (.slice j.nb a.next.length j.nc), (.slice j.fb a.final.length j.fc), (vI b.vars), (vI b.start), (.slice k.nb b.next.length k.nc), (.slice k.fb b.final.length k.fc), (.slice qb ((bfsN (prodD f a b) (i + 1)).length) qc), (.map (some m))], rowI qb qc 119 2 (prs b.next.length (bfsN (prodD f a b) (i + 1))), mapI pairV (fun n : Nat => Value.int .i64 (n : Int)) m (pmap b.next.length (bfsN (prodD f a b) (i + 1))), rowI (aD rb) L 3 1 (ints (rnR (prodD f a b) o))] ++ itms 3 qs)) (by exact Sub.swap3 [rowI nbm ncm 37 1 (vals qs), rowI fbm fcm 4 1 (bools fs), oI z7 25 [(vI a.vars), (vI 0), (.slice nbm n1 ncm), (.slice fbm n2 fcm)], oI z6 112 [(.pointer (aD bp))], oI z5 29 [(vI 0)], oI z4 25 [(vI 0), (vI 0), nS, nS], oI z3 92 [(.func (.func g) #[] #[])], oI z2 25 (dC b k), oI z1 25 (dC a j)] _ (itms 3 qs)) ?_
  have hbl := pr_bfs_len (f := f) va vb hv i
  have hil := (List.getElem?_eq_some_iff.1 hq).1
  have ho := (pr_bfs_ok (f := f) va vb hv i).2 o (List.mem_of_getElem? hq)
  obtain ⟨hs, ht⟩ := pr_split ho
  have hoa := bfs_at hq (by rw [prod_len]; omega)
  have hfa : (bools a.final)[o / b.next.length]? = some (.bool (finN a (o / b.next.length))) := by
   have hl : o / b.next.length < a.final.length := by rw [va.fin]; exact hs
   rw [bools_get hl]; unfold finN; rw [List.getD_eq_getElem?_getD, List.getElem?_eq_getElem hl]; rfl
  have hfb : (bools b.final)[o % b.next.length]? = some (.bool (finN b (o % b.next.length))) := by
   have hl : o % b.next.length < b.final.length := by rw [vb.fin]; exact ht
   rw [bools_get hl]; unfold finN; rw [List.getD_eq_getElem?_getD, List.getElem?_eq_getElem hl]; rfl
  have hrl : (rnR (prodD f a b) o).length = L := by unfold rnR; rw [List.length_map, renRow_length]; exact hL
  have hvq : vals (qs ++ [⟨some ⟨rb, 0, none⟩, L, rnR (prodD f a b) o⟩]) = vals qs ++ [.slice (aD rb) L L] := by simp [Rec.val, hrl]
  have hbq : bools (fs ++ [f (finN a (o / b.next.length)) (finN b (o % b.next.length))]) = bools fs ++ [.bool (f (finN a (o / b.next.length)) (finN b (o % b.next.length)))] := by simp
  have hbl2 := pr_bfs_len (f := f) va vb hv (i + 1)
  have hlt9 : (bfsN (prodD f a b) (i + 1)).length ≤ 4096 := Nat.le_trans (bfsN_prefix (prodD f a b) (i + 1) (prodD f a b).next.length (by rw [prod_len]; omega)).length_le hN8
  refine T.s (T.rg (TO.l rfl (l_alloc inf119 rfl (fun z8 => ?_))))
  refine TO.l rfl (l_sb (v := (.agg #[vI ((o / b.next.length : Nat) : Int), vI ((o % b.next.length : Nat) : Int)])) (vs := [vI ((o / b.next.length : Nat) : Int), vI ((o % b.next.length : Nat) : Int)]) 0 inf119 rfl rfl rfl rfl rfl rfl (by simp [putL]) ?_)
  refine TO.nl (T.rg (TO.qa rfl (TO.nl (T.block (T.s (T.s (T.rg (TO.q (q_lb 4 uT112 rfl rfl rfl rfl) (TO.q (q_nilCheck rfl) (TO.q (q_fa uT123 rfl inf120 rfl rfl) (TO.q (q_lb 10 uT120 rfl rfl rfl rfl) (TO.q (q_len uT120 rfl) (TO.q (QT.toB (q_gtr rfl rfl) (decide_eq_false (by omega))) (TO.nl (T.cond0 rfl (T.skip ?_))))))))))))))))
  refine T.draws [oI z8 119 [vI ((o / b.next.length : Nat) : Int), vI ((o % b.next.length : Nat) : Int)], oI z7 25 [(vI a.vars), (vI 0), (.slice nbm n1 ncm), (.slice fbm n2 fcm)], oI z6 112 [(.pointer (aD bp))], oI z5 29 [(vI 0)], oI z4 25 [(vI 0), (vI 0), nS, nS], oI z3 92 [(.func (.func g) #[] #[])], oI z2 25 (dC b k), oI z1 25 (dC a j), oI bp 123 [(vI a.vars), (vI a.start), (.slice j.nb a.next.length j.nc), (.slice j.fb a.final.length j.fc), (vI b.vars), (vI b.start), (.slice k.nb b.next.length k.nc), (.slice k.fb b.final.length k.fc), (.slice qb ((bfsN (prodD f a b) (i + 1)).length) qc), (.map (some m))]] [(0, 0), (1, 0), (2, 0), (5, 0), (6, 0), (7, 0), (8, 0), (9, 0), (10, 0), (11, 0), (12, 0), (13, 0), (14, 0), (15, 0), (16, 0), (17, 0), (18, 0), (19, 0), (3, 1), (4, 1), (23, 0), (20, 1), (21, 1), (22, 1), (24, 2), (25, 2), (26, 2)] mixed (drawF_ok (by kernel_rfl)) (by exact Sub.k (.d (.d (.k (.k (.k (.k (.k (.k (.k (.k .z))))))))))) (fun _ _ _ h => h) ?_
  refine DO.q rfl (q_fa uT25 rfl inf22 rfl rfl) (DO.q rfl (q_lb 1 uT22 rfl rfl rfl rfl) (DO.q rfl (q_move rfl) (DO.q rfl (q_fa uT25 rfl inf23 rfl rfl) (DO.q rfl (q_lb 1 uT23 rfl rfl rfl rfl) (DO.q rfl (q_lb 5 uT92 rfl rfl rfl rfl) (DO.q rfl (q_fa uT25 rfl inf23 rfl rfl) (DO.q rfl (q_lb 7 uT23 rfl rfl rfl rfl) (DO.q rfl (q_fa uT119 rfl inf3 rfl rfl) (DO.q rfl (q_lb 0 uT3 rfl rfl rfl rfl) (DO.q rfl (q_ix (i := (o / b.next.length)) uT23 inf4 rfl rfl (Sl.o ha.final) (by rw [va.fin]; exact hs) (by rw [List.length_map, va.fin]; exact hs)) (DO.q rfl (q_ld uT4 rfl rfl (Sl.o ha.final) hfa) (DO.q rfl (q_fa uT25 rfl inf23 rfl rfl) (DO.q rfl (q_lb 6 uT23 rfl rfl rfl rfl) (DO.q rfl (q_fa uT119 rfl inf3 rfl rfl) (DO.q rfl (q_lb 0 uT3 rfl rfl rfl rfl) (DO.q rfl (q_ix (i := (o % b.next.length)) uT23 inf4 rfl rfl (Sl.o hb.final) (by rw [vb.fin]; exact ht) (by rw [List.length_map, vb.fin]; exact ht)) (DO.q rfl (q_ld uT4 rfl rfl (Sl.o hb.final) hfb) ?_)))))))))))))))))
  refine DO.loud rfl rfl (l_build1 (v := (.slice (aD rb) L L)) uT22 inf37 rfl rfl rfl (fun z9 => ⟨by exact Sub.d (.k (.d (.d (.k (.k (.k (.k (.k (.k (.k (.k .z))))))))))), ?_⟩))
  refine DO.loud rfl rfl (l_append 2 uT22 uT22 inf37 rfl rfl rfl rfl (by simp; omega) (by decide) (Src.row (j := 0) rfl (by simp)) (by simp [oneB]) (by omega) (by decide) (by decide) (fun z10 zc11 => ⟨by exact Sub.d (.k (.d (.d (.k (.k (.k (.k (.k (.k (.k (.k .z))))))))))), ?_⟩))
  refine DO.q rfl (q_fa uT25 rfl inf22 rfl rfl) ?_
  have hk57 := CallV.under (B := ([rowI (aD z9) 1 37 1 [(.slice (aD rb) L L)], oI z8 119 [vI ((o / b.next.length : Nat) : Int), vI ((o % b.next.length : Nat) : Int)], rowI z10 zc11 37 1 ((vals qs) ++ [(.slice (aD rb) L L)]), rowI fbm fcm 4 1 (bools fs), oI z7 25 [(vI a.vars), (vI 0), (.slice nbm n1 ncm), (.slice fbm n2 fcm)], oI z6 112 [(.pointer (aD bp))], oI z5 29 [(vI 0)], oI z4 25 [(vI 0), (vI 0), nS, nS], oI z3 92 [(.func (.func g) #[] #[])], oI z2 25 (dC b k), oI z1 25 (dC a j), oI bp 123 [(vI a.vars), (vI a.start), (.slice j.nb a.next.length j.nc), (.slice j.fb a.final.length j.fc), (vI b.vars), (vI b.start), (.slice k.nb b.next.length k.nc), (.slice k.fb b.final.length k.fc), (.slice qb ((bfsN (prodD f a b) (i + 1)).length) qc), (.map (some m))], rowI qb qc 119 2 (prs b.next.length (bfsN (prodD f a b) (i + 1))), mapI pairV (fun n : Nat => Value.int .i64 (n : Int)) m (pmap b.next.length (bfsN (prodD f a b) (i + 1))), rowI (aD rb) L 3 1 (ints (rnR (prodD f a b) o))] ++ itms 3 qs)) (O := ([rowI (aD z9) 1 37 1 [(.slice (aD rb) L L)], oI z8 119 [vI ((o / b.next.length : Nat) : Int), vI ((o % b.next.length : Nat) : Int)], rowI z10 zc11 37 1 ((vals qs) ++ [(.slice (aD rb) L L)]), rowI fbm fcm 4 1 (bools fs), oI z7 25 [(vI a.vars), (vI 0), (.slice nbm n1 ncm), (.slice fbm n2 fcm)], oI z6 112 [(.pointer (aD bp))], oI z5 29 [(vI 0)], oI z4 25 [(vI 0), (vI 0), nS, nS], oI z3 92 [(.func (.func g) #[] #[])], oI z2 25 (dC b k), oI z1 25 (dC a j), oI bp 123 [(vI a.vars), (vI a.start), (.slice j.nb a.next.length j.nc), (.slice j.fb a.final.length j.fc), (vI b.vars), (vI b.start), (.slice k.nb b.next.length k.nc), (.slice k.fb b.final.length k.fc), (.slice qb ((bfsN (prodD f a b) (i + 1)).length) qc), (.map (some m))], rowI qb qc 119 2 (prs b.next.length (bfsN (prodD f a b) (i + 1))), mapI pairV (fun n : Nat => Value.int .i64 (n : Int)) m (pmap b.next.length (bfsN (prodD f a b) (i + 1))), rowI (aD rb) L 3 1 (ints (rnR (prodD f a b) o))] ++ (itms 3 qs))) (hf w (finN a (o / b.next.length)) (finN b (o % b.next.length))) (by exact Sub.rf)
  refine DO.loud rfl rfl (l_callG hk57 rfl rfl ?_)
  clear hk57
  rintro vr O' ⟨A1, rfl, rfl, rfl⟩
  refine ⟨by exact Sub.d (.k (.d (.d (.k (.k (.k (.k (.k (.k (.k (.k .z))))))))))), ?_⟩
  refine DO.loud rfl rfl (l_build1 (v := .bool (f (finN a (o / b.next.length)) (finN b (o % b.next.length)))) uT23 inf4 rfl rfl rfl (fun z12 => ⟨by exact Sub.d (.d (.k (.d (.d (.k (.k (.k (.k (.k (.k (.k (.k .z)))))))))))), ?_⟩))
  refine DO.loud rfl rfl (l_append 4 uT23 uT23 inf4 rfl rfl rfl rfl (by simp; omega) (by decide) (Src.row (j := 0) rfl (by simp)) (by simp [oneB]) (by omega) (by decide) (by decide) (fun z13 zc14 => ⟨by exact Sub.d (.d (.k (.d (.d (.k (.k (.k (.k (.k (.k (.k (.k .z)))))))))))), ?_⟩))
  refine DO.last rfl rfl (l_sb (v := (.slice z10 (n1 + 1) zc11)) (vs := [(.slice z10 (n1 + 1) zc11)]) 5 inf22 rfl rfl rfl rfl rfl rfl (by simp [putL]) ?_)
  refine DO.last rfl rfl (LT.oq rfl rfl (q_fa uT25 rfl inf23 rfl rfl) ?_)
  refine DO.last rfl rfl (l_sb (v := (.slice z13 (n2 + 1) zc14)) (vs := [(.slice z13 (n2 + 1) zc14)]) 5 inf23 rfl rfl rfl rfl rfl rfl (by simp [putL]) ?_)
  refine DO.sub (O' := ([rowI z10 zc11 37 1 ((vals qs) ++ [(.slice (aD rb) L L)]), rowI z13 zc14 4 1 ((bools fs) ++ [.bool (f (finN a (o / b.next.length)) (finN b (o % b.next.length)))]), oI z7 25 [(vI a.vars), (vI 0), (.slice z10 (n1 + 1) zc11), (.slice z13 (n2 + 1) zc14)], oI z6 112 [(.pointer (aD bp))], oI z5 29 [(vI 0)], oI z4 25 [(vI 0), (vI 0), nS, nS], oI z3 92 [(.func (.func g) #[] #[])], oI z2 25 (dC b k), oI z1 25 (dC a j), rowI (aD rb) L 3 1 (ints (rnR (prodD f a b) o)), oI bp 123 [(vI a.vars), (vI a.start), (.slice j.nb a.next.length j.nc), (.slice j.fb a.final.length j.fc), (vI b.vars), (vI b.start), (.slice k.nb b.next.length k.nc), (.slice k.fb b.final.length k.fc), (.slice qb ((bfsN (prodD f a b) (i + 1)).length) qc), (.map (some m))], rowI qb qc 119 2 (prs b.next.length (bfsN (prodD f a b) (i + 1))), mapI pairV (fun n : Nat => Value.int .i64 (n : Int)) m (pmap b.next.length (bfsN (prodD f a b) (i + 1)))] ++ itms 3 qs)) (by exact Sub.d (.d (.d (.k (.k (.k (.k (.k (.k (.k (.k (.k (.pull [oI bp 123 [(vI a.vars), (vI a.start), (.slice j.nb a.next.length j.nc), (.slice j.fb a.final.length j.fc), (vI b.vars), (vI b.start), (.slice k.nb b.next.length k.nc), (.slice k.fb b.final.length k.fc), (.slice qb ((bfsN (prodD f a b) (i + 1)).length) qc), (.map (some m))], rowI qb qc 119 2 (prs b.next.length (bfsN (prodD f a b) (i + 1))), mapI pairV (fun n : Nat => Value.int .i64 (n : Int)) m (pmap b.next.length (bfsN (prodD f a b) (i + 1)))] _ (.k (.k (.k .rf)))))))))))))))) ?_
  refine DO.sub (O' := (([rowI z10 zc11 37 1 (vals (qs ++ [⟨some ⟨rb, 0, none⟩, L, rnR (prodD f a b) o⟩])), rowI z13 zc14 4 1 (bools (fs ++ [f (finN a (o / b.next.length)) (finN b (o % b.next.length))])), oI z7 25 [(vI a.vars), (vI 0), (.slice z10 (n1 + 1) zc11), (.slice z13 (n2 + 1) zc14)], oI z6 112 [(.pointer (aD bp))], oI z5 29 [(vI 0)], oI z4 25 [(vI 0), (vI 0), nS, nS], oI z3 92 [(.func (.func g) #[] #[])], oI z2 25 (dC b k), oI z1 25 (dC a j)] ++ itms 3 (qs ++ [⟨some ⟨rb, 0, none⟩, L, rnR (prodD f a b) o⟩])) ++ [oI bp 123 [(vI a.vars), (vI a.start), (.slice j.nb a.next.length j.nc), (.slice j.fb a.final.length j.fc), (vI b.vars), (vI b.start), (.slice k.nb b.next.length k.nc), (.slice k.fb b.final.length k.fc), (.slice qb ((bfsN (prodD f a b) (i + 1)).length) qc), (.map (some m))], rowI qb qc 119 2 (prs b.next.length (bfsN (prodD f a b) (i + 1))), mapI pairV (fun n : Nat => Value.int .i64 (n : Int)) m (pmap b.next.length (bfsN (prodD f a b) (i + 1)))])) (by rw [hvq, hbq]; exact Sub.fold [rowI z10 zc11 37 1 ((vals qs) ++ [(.slice (aD rb) L L)]), rowI z13 zc14 4 1 ((bools fs) ++ [.bool (f (finN a (o / b.next.length)) (finN b (o % b.next.length)))]), oI z7 25 [(vI a.vars), (vI 0), (.slice z10 (n1 + 1) zc11), (.slice z13 (n2 + 1) zc14)], oI z6 112 [(.pointer (aD bp))], oI z5 29 [(vI 0)], oI z4 25 [(vI 0), (vI 0), nS, nS], oI z3 92 [(.func (.func g) #[] #[])], oI z2 25 (dC b k), oI z1 25 (dC a j)] (rowI (aD rb) L 3 1 (ints (rnR (prodD f a b) o))) [oI bp 123 [(vI a.vars), (vI a.start), (.slice j.nb a.next.length j.nc), (.slice j.fb a.final.length j.fc), (vI b.vars), (vI b.start), (.slice k.nb b.next.length k.nc), (.slice k.fb b.final.length k.fc), (.slice qb ((bfsN (prodD f a b) (i + 1)).length) qc), (.map (some m))], rowI qb qc 119 2 (prs b.next.length (bfsN (prodD f a b) (i + 1))), mapI pairV (fun n : Nat => Value.int .i64 (n : Int)) m (pmap b.next.length (bfsN (prodD f a b) (i + 1)))] (itms 3 qs) _ (itms_snoc 3 qs ⟨some ⟨rb, 0, none⟩, L, rnR (prodD f a b) o⟩)) ?_
  refine DO.done ?_
  refine .inl ⟨rfl, _, rfl, z10, z13, zc11, zc14, n1 + 1, n2 + 1, qs ++ [⟨some ⟨rb, 0, none⟩, L, rnR (prodD f a b) o⟩], fs ++ [f (finN a (o / b.next.length)) (finN b (o % b.next.length))], rfl, by omega, by omega, by simp [hql], by simp [hfl], ?_, ?_⟩
  ·rw [take_at hoa, List.map_append]
   show List.map Rec.xs (qs ++ [_]) = _
   rw [List.map_append, show List.map Rec.xs qs = _ from hqs]; rfl
  ·rw [take_at hoa, List.map_append, hfs, ← pr_fin_at (f := f) ho]; rfl
 ·refine ⟨none, none, 0, 0, 0, 0, [], [], rfl, rfl, rfl, rfl, rfl, by simp, by simp⟩
 rintro v O' (⟨N, qbF, qcF, O2, rfl, hN, nbm, fbm, ncm, fcm, n1, n2, qs, fs, rfl, hn1, hn2, hql, hfl, hqs, hfs⟩ | hF)
 rotate_left
 ·exact hF.elim
 refine ⟨none, _, rfl, ?_⟩
 refine T.s ?_
 refine T.sub (O' := ([rowI nbm ncm 37 1 (vals qs), rowI fbm fcm 4 1 (bools fs), oI z7 25 [(vI a.vars), (vI 0), (.slice nbm n1 ncm), (.slice fbm n2 fcm)], oI z6 112 [(.pointer (aD bp))], oI z5 29 [(vI 0)], oI z4 25 [(vI 0), (vI 0), nS, nS], oI z3 92 [(.func (.func g) #[] #[])], oI z2 25 (dC b k), oI z1 25 (dC a j)] ++ itms 3 qs)) (Sub.of (List.sublist_append_left _ _)) ?_
 have hor := pr_stop va vb hv hN
 have hol : (order (prodD f a b)).length = N := by rw [hor]; exact hN
 have e1 : nums qs = (renum (prodD f a b)).next := by rw [hqs, ← hol, List.take_length]; exact (renum_rows _).symm
 have e2 : fs = (renum (prodD f a b)).final := by rw [hfs, ← hol, List.take_length]; rfl
 obtain rfl : n1 = (renum (prodD f a b)).next.length := by rw [renum_rows, List.length_map]; omega
 obtain rfl : n2 = (renum (prodD f a b)).final.length := by rw [renum_fins, List.length_map]; omega
 subst e2
 have vD := prod_val (f := f) va.toVal vb.toVal hv
 have vR := renum_fit vD hN8
 refine T.sub (O' := ([rowI nbm ncm 37 1 (vals qs), rowI fbm fcm 4 1 (bools (renum (prodD f a b)).final), oI z7 25 [(vI (renum (prodD f a b)).vars), (vI (renum (prodD f a b)).start), (.slice nbm ((renum (prodD f a b)).next.length) ncm), (.slice fbm ((renum (prodD f a b)).final.length) fcm)], oI z6 112 [(.pointer (aD bp))], oI z5 29 [(vI 0)], oI z4 25 [(vI 0), (vI 0), nS, nS], oI z3 92 [(.func (.func g) #[] #[])], oI z2 25 (dC b k), oI z1 25 (dC a j)] ++ itms 3 qs)) (by exact Sub.rf) ?_
 refine T.rg (TO.q (q_la 2 uT25 rfl inf25 rfl rfl rfl) ?_)
 have hk63 := fun (w1 : World) (hI : Inv w ([rowI nbm ncm 37 1 (vals qs), rowI fbm fcm 4 1 (bools (renum (prodD f a b)).final), oI z7 25 [(vI (renum (prodD f a b)).vars), (vI (renum (prodD f a b)).start), (.slice nbm ((renum (prodD f a b)).next.length) ncm), (.slice fbm ((renum (prodD f a b)).final.length) fcm)], oI z6 112 [(.pointer (aD bp))], oI z5 29 [(vI 0)], oI z4 25 [(vI 0), (vI 0), nS, nS], oI z3 92 [(.func (.func g) #[] #[])], oI z2 25 (dC b k), oI z1 25 (dC a j)] ++ (itms 3 qs)) w1) => (haveI := tbz hI; minKE w1 (renum (prodD f a b)) ⟨nbm, ncm, fbm, fcm, qs⟩ (show At w1 (renum (prodD f a b)) ⟨nbm, ncm, fbm, fcm, qs⟩ from ⟨hI.slOf (mG 0 rfl), e1 ▸ hI.recs (fun q hq => List.mem_append_right _ (List.mem_map_of_mem (f := Rec.itm 3) hq)), hI.slOf (mG 1 rfl)⟩) vR (by rw [renum_rows, List.length_map]; exact Nat.lt_of_le_of_lt hN8 (by decide)) (minD_renum vD))
 refine TO.l rfl (l_call ent34 (CallT.op hk63) rfl ?_)
 clear hk63
 rintro vr O' ⟨N9, rfl, k', rfl, rfl⟩
 refine TO.q (q_extract (vs := _) rfl rfl) (TO.q (q_extract (vs := _) rfl rfl) (TO.l rfl (l_sb (v := (dV (minD (prodD f a b)) k')) (vs := (dC (minD (prodD f a b)) k')) 6 inf25 rfl rfl rfl rfl rfl rfl (by simp [putL]) ?_)))
 refine TO.l rfl (l_sb (v := vI 0) (vs := [(vI 0)]) 5 inf29 rfl rfl rfl rfl rfl rfl (by simp [putL]) ?_)
 refine TO.nl (T.ret (Res.drop ?_))
 refine Res.cell2a (i := 6) (j := 5) Tryz.results68 uT25 rfl inf25 uT29 rfl rfl rfl rfl rfl rfl ?_
 exact ⟨[dI 37 4 3 (minD (prodD f a b)) k'], (by exact Sub.k .z), k', rfl, rfl⟩
end Go.Proofs.YtohkmggbfcnapaaGreatDoor


namespace Go.Proofs.YtohkmggbfcnapaaGreatDoor
open Go.Lx Go.RowKit _root_.Go.Proofs.Tryz
set_option maxRecDepth 20000 in
theorem combineA (w : World) [Tab Tryz.prog w] (a b : DFA) (j k : DK) (ha : At w a j) (hb : At w b k) (haa : a.next.length < 9223372036854775807) (haar : ∀ r ∈ a.next, r.length < 9223372036854775807) (haaf : a.final.length < 9223372036854775807) (hbb : b.next.length < 9223372036854775807) (hbbr : ∀ r ∈ b.next, r.length < 9223372036854775807) (hbbf : b.final.length < 9223372036854775807) (f : Bool → Bool → Bool) (g : Nat) (hf : ∀ (base : World) (x y : Bool), CallV Tryz.prog base (.func (.func g) #[] #[]) [.bool x, .bool y] [] (fun v O' => v = .bool (f x y) ∧ O' = [])) (hN : wrongD a b = 0 → (order (prodD f a b)).length ≤ 4096) :
  PureT Tryz.prog 68 [dV a j, dV b k, .func (.func g) #[] #[]] w fun v N => ∃ k' : DK, v = .tuple #[dV (opV f a b) k', vI (wrongD a b : Int)] ∧ N = [dI 37 4 3 (opV f a b) k'] := by
 by_cases he : wrongD a b = 0
 ·obtain ⟨va, vb, hv⟩ := wrongD_zero.1 he
  rw [opV_ok he, he]
  exact combineW w a b j k ha hb va vb hv f g hf (hN he)
 ·rw [opV_bad he]
  refine CallT.dk (g := fun x => .tuple #[x, vI (wrongD a b : Int)]) ((CallT.addNil 37 1 (CallT.addNil 4 1 (combineBad w a b j k ha hb haa haar haaf hbb hbbr hbbf g he))).mono ?_)
  rintro v N ⟨O2, rfl, O3, rfl, rfl, rfl⟩
  exact ⟨none, 0, none, 0, [], rfl, rfl, rfl⟩
theorem notC0 (w : World) [Tab Tryz.prog w] (a : DFA) (j : DK) (ha : At w a j) (haa : a.next.length < 9223372036854775807) (haar : ∀ r ∈ a.next, r.length < 9223372036854775807) (haaf : a.final.length < 9223372036854775807) (hN : wrongD a a = 0 → (order (prodD notB a a)).length ≤ 4096) :
  PureT Tryz.prog 31 [dV a j] w fun v N => ∃ k' : DK, v = .tuple #[dV (opV notB a a) k', vI (wrongD a a : Int)] ∧ N = [dI 37 4 3 (opV notB a a) k'] := by
 refine CallT.enter func31 rfl ntmps31 rfl ?_
 refine T.s (T.rg (TO.l rfl (l_box (v := (dV a j)) (cs := (dC a j)) rfl rfl (fun bx1 => ?_))))
 refine TO.l rfl (l_alloc inf25 rfl (fun bx2 => ?_))
 refine TO.qa rfl (TO.nl (T.s (T.rg (TO.q (q_la 1 uT25 rfl inf25 rfl rfl rfl) (TO.q (q_la 1 uT25 rfl inf25 rfl rfl rfl) ?_)))))
 have hk6 := fun (w1 : World) (hI : Inv w [oI bx2 25 [(vI 0), (vI 0), nS, nS], oI bx1 25 (dC a j)] w1) => (haveI := tbz hI; combineA w1 a a j j (hI.atB ha) (hI.atB ha) haa haar haaf haa haar haaf notB 69 notFV hN)
 refine TO.l rfl (l_call ent68 (CallT.op hk6) rfl ?_)
 clear hk6
 rintro vr O' ⟨N, rfl, k', rfl, rfl⟩
 refine TO.q (q_extract (vs := _) rfl rfl) (TO.q (q_extract (vs := _) rfl rfl) (TO.l rfl (l_sb (v := (dV (opV notB a a) k')) (vs := (dC (opV notB a a) k')) 1 inf25 rfl rfl rfl rfl rfl rfl (by simp [putL]) ?_)))
 refine TO.qa rfl (TO.nl (T.ret (Res.drop ?_)))
 refine Res.cell1b (vI (wrongD a a : Int)) (i := 1) Tryz.results31 uT25 rfl inf25 rfl rfl rfl rfl ?_
 exact ⟨[dI 37 4 3 (opV notB a a) k'], (by exact Sub.k .z), k', rfl, rfl⟩
theorem notC (w : World) [Tab Tryz.prog w] (a : DFA) (j : DK) (ha : At w a j) (haa : a.next.length < 9223372036854775807) (haar : ∀ r ∈ a.next, r.length < 9223372036854775807) (haaf : a.final.length < 9223372036854775807) :
  PureT Tryz.prog 31 [dV a j] w fun v N => ∃ k' : DK, v = .tuple #[dV (opV notB a a) k', vI (checkD a : Int)] ∧ N = [dI 37 4 3 (opV notB a a) k'] := by
 have h := notC0 w a j ha haa haar haaf (fun hw => by
  have hv := (wrongD_zero.1 hw).1
  exact Nat.le_trans (pr_order_factW hv.toVal hv.toVal rfl hv.toVal rfl (Det.refl a) (Det.refl a)) hv.n4)
 rwa [wrongD_self] at h
end Go.Proofs.YtohkmggbfcnapaaGreatDoor


namespace Go.Lx
open Go.RowKit
section
variable {P : Program} {base : World} {ρ : Env} {O : List Item} {dst : Option Nat} {t : TypeId} {p : String} {af : Array Edge} {g : Option (Nat × Bool)}
theorem q_andNot8 {x y : Operand} {T U : TypeId} {a b : Nat} (hx : ev ρ x = .int .u8 (a : Int)) (hy : ev ρ y = .int .u8 (b : Int)) (ha : a < 256) (hb : b < 256) : QT P base ⟨dst, .binOp .andNot T x y U, t, p, af, g⟩ ρ O (.int .u8 ((a &&& (255 - b) : Nat) : Int)) := fun w _ => by
 have h1 : (a &&& (255 - b)) < 2 ^ IntKind.u8.bits := Nat.lt_of_le_of_lt (Nat.and_le_left (n := a) (m := 255 - b)) ha
 have h2 := UK.u8.wrap h1
 have ha' : a < 2 ^ IntKind.u8.bits := ha
 have hb' : b < 2 ^ IntKind.u8.bits := hb
 have h3 : (BitVec.ofInt IntKind.u8.bits (a : Int) &&& ~~~BitVec.ofInt IntKind.u8.bits (b : Int)).toNat = a &&& (255 - b) := by
  rw [BitVec.toNat_and, BitVec.toNat_not, ofInt_nat ha', ofInt_nat hb']; rfl
 simp only [execOp, hx, hy, eqGuard, binOp, Op.intBits, h3, h2]
 simp
end
end Go.Lx


namespace Go.Proofs.YtohkmggbfcnapaaGreatDoor
open Go.Lx Go.RowKit _root_.Go.Proofs.Tryz
theorem variMk (w : World) [Tab Tryz.prog w] (x v : Nat) :
  PureT Tryz.prog 52 [.int .u8 ((x : Nat) : Int), vI ((v : Nat) : Int)] w fun r N => ∃ xb vb : Nat, r = (.func (.func 87) #[] #[(.pointer (aD vb)), (.pointer (aD xb))]) ∧ N = [oI vb 3 [(vI ((v : Nat) : Int))], oI xb 5 [(.int .u8 ((x : Nat) : Int))]] := by
 refine CallT.enter func52 rfl ntmps52 rfl ?_
 refine T.s (T.rg (TO.l rfl (l_box (v := .int .u8 ((x : Nat) : Int)) (cs := [(.int .u8 ((x : Nat) : Int))]) rfl rfl (fun z1 => ?_))))
 refine TO.l rfl (l_box (v := vI ((v : Nat) : Int)) (cs := [(vI ((v : Nat) : Int))]) rfl rfl (fun z2 => ?_))
 refine TO.qa rfl (TO.nl (T.s (T.rg (TO.q (q_makeFunc) (TO.qa rfl (TO.nl (T.ret ?_)))))))
 refine Res.one (.func (.func 87) #[] #[(.pointer (aD z2)), (.pointer (aD z1))]) Tryz.results52 rfl ?_
 exact ⟨z1, z2, rfl, rfl⟩
theorem variF (base : World) [Tab Tryz.prog base] (xb vb v x : Nat) (hv : v < 6) (hx : x < 64) (yv : Value) (J : Nat → List Lx.Item → Prop) (Q : List Lx.Item → Prop)
  (hy : ∀ (i y : Nat) (O : List Lx.Item), (i = 0 ∧ y = c0 v x ∨ i = 1 ∧ y = c1 v x) → J i O → CallV Tryz.prog base yv [.int .u8 ((y : Nat) : Int)] O (fun r O' => (r = .bool true ∧ J (i + 1) O') ∨ (r = .bool false ∧ Q O')))
  (O : List Lx.Item) (h0 : J 0 O) :
  CallT Tryz.prog base 87 [yv, (.pointer (aD vb)), (.pointer (aD xb))] ([oI vb 3 [(vI ((v : Nat) : Int))], oI xb 5 [(.int .u8 ((x : Nat) : Int))]] ++ O) (fun _ O' => J 2 O' ∨ Q O') := by
 refine CallT.enter func87 rfl ntmps87 rfl ?_
 have hp : 2 ^ v ≤ 2 ^ 5 := Nat.pow_le_pow_right (by decide) (by omega)
 refine T.s (T.rg (TO.q (q_lb 0 uT3 rfl rfl rfl rfl) (TO.q (QT.cast (q_shlU (a := 1) (b := v) .u8 rfl rfl (by simp only [IntKind.bits]; omega) (by simp only [IntKind.bits]; omega)) (v' := .int .u8 ((2 ^ v : Nat) : Int)) (by rw [Nat.one_mul])) (TO.qa rfl (TO.nl (T.s (T.rg (TO.qm rfl (TO.q (q_lb 1 uT5 rfl rfl rfl rfl) (TO.qm rfl (TO.q (QT.cast (q_andNot8 (a := x) (b := 2 ^ v) rfl rfl (by omega) (by omega)) (v' := .int .u8 ((c0 v x : Nat) : Int)) (by rw [c0_and v hv x hx])) ?_)))))))))))
 have hk11 := CallV.under (B := [oI vb 3 [(vI ((v : Nat) : Int))], oI xb 5 [(.int .u8 ((x : Nat) : Int))]]) (O := ([oI vb 3 [(vI ((v : Nat) : Int))], oI xb 5 [(.int .u8 ((x : Nat) : Int))]] ++ O)) (hy 0 _ O (.inl ⟨rfl, rfl⟩) h0) (Sub.ca [])
 refine TO.l rfl (l_callG hk11 rfl rfl ?_)
 clear hk11
 rintro vr O' ⟨A1, rfl, ⟨rfl, hJ1⟩ | ⟨rfl, hQ1⟩⟩
 ·refine TO.nl ?_
  refine T.cond1 rfl ?_
  refine T.rg ?_
  refine TO.sub (O' := ([oI vb 3 [(vI ((v : Nat) : Int))], oI xb 5 [(.int .u8 ((x : Nat) : Int))]] ++ A1)) (Sub.ca []) ?_
  refine TO.qm rfl (TO.q (q_lb 1 uT5 rfl rfl rfl rfl) (TO.qm rfl (TO.q (QT.cast (q_or (a := x) (b := 2 ^ v) .u8 rfl rfl (by simp only [IntKind.bits]; omega) (by simp only [IntKind.bits]; omega)) (v' := .int .u8 ((c1 v x : Nat) : Int)) (by rw [c1_or v hv x hx])) ?_)))
  have hk16 := CallV.under (B := [oI vb 3 [(vI ((v : Nat) : Int))], oI xb 5 [(.int .u8 ((x : Nat) : Int))]]) (O := ([oI vb 3 [(vI ((v : Nat) : Int))], oI xb 5 [(.int .u8 ((x : Nat) : Int))]] ++ A1)) (hy 1 _ A1 (.inr ⟨rfl, rfl⟩) hJ1) (Sub.ca [])
  refine TO.l rfl (l_callG hk16 rfl rfl ?_)
  clear hk16
  rintro vr O' ⟨A2, rfl, ⟨rfl, hJ2⟩ | ⟨rfl, hQ2⟩⟩
  ·refine TO.nl ?_
   refine Res.drop ?_
   refine Res.zero Tryz.results87 ?_
   exact ⟨A2, Sub.ca [oI vb 3 [(vI ((v : Nat) : Int))], oI xb 5 [(.int .u8 ((x : Nat) : Int))]], .inl hJ2⟩
  refine TO.nl (Res.drop ?_)
  refine Res.zero Tryz.results87 ?_
  exact ⟨A2, Sub.ca [oI vb 3 [(vI ((v : Nat) : Int))], oI xb 5 [(.int .u8 ((x : Nat) : Int))]], .inr hQ2⟩
 refine TO.nl (T.cond0 rfl (T.skip (Res.drop ?_)))
 refine Res.zero Tryz.results87 ?_
 exact ⟨A1, Sub.ca [oI vb 3 [(vI ((v : Nat) : Int))], oI xb 5 [(.int .u8 ((x : Nat) : Int))]], .inr hQ1⟩
theorem pCheck (w : World) [Tab Tryz.prog w] (a : DFA) (k : DK) (ha : At w a k) (haa : a.next.length < 9223372036854775807) (haar : ∀ r ∈ a.next, r.length < 9223372036854775807) (haaf : a.final.length < 9223372036854775807) (v : Int) :
  PureT Tryz.prog 48 [dV a k, vI v] w fun r N => r = vI (vE a v : Int) ∧ N = [] := by
 refine CallT.enter func48 rfl ntmps48 rfl ?_
 refine T.s (T.rg (TO.l rfl (l_box (v := (dV a k)) (cs := (dC a k)) rfl rfl (fun bx1 => ?_))))
 refine TO.qa rfl (TO.nl (T.s (T.s (T.rg (TO.q (q_la 0 uT25 rfl inf25 rfl rfl rfl) ?_)))))
 have hk7 := fun (w1 : World) (hI : Inv w [oI bx1 25 (dC a k)] w1) => (haveI := tbz hI; subsetCheck w1 a k.nb k.fb k.nc k.fc (vals k.qs) (hI.dfa ha) haa haar haaf)
 refine TO.l rfl (l_call ent35 (CallT.op hk7) rfl ?_)
 clear hk7
 rintro vr O' ⟨N, rfl, rfl, rfl⟩
 refine TO.qa rfl (TO.nl (T.s (T.rg (TO.qm rfl (TO.q (q_neq rfl rfl) (TO.nl (T.condP rfl (fun hc => ?_) (fun hc => ?_))))))))
 ·have hlt9 : checkD a ≠ 0 := by omega
  refine T.s (T.rg (TO.qm rfl (TO.qa rfl (TO.nl (T.ret (Res.drop ?_))))))
  refine Res.one (vI (checkD a : Int)) Tryz.results48 rfl ?_
  exact ⟨[], Sub.z, by congr 1; unfold vE; split <;> first | omega | (split <;> omega), rfl⟩
 have hge9 : ¬ checkD a ≠ 0 := by omega
 refine T.skip (T.s (T.s (T.rg (TO.qm rfl (TO.q (q_lss rfl rfl) ?_)))))
 by_cases hs13 : v < 0
 ·refine TO.q (QT.toB (q_move rfl) (decide_eq_true hs13)) ?_
  refine TO.pd rfl rfl (TO.pd rfl rfl (TO.pd rfl rfl (TO.pd rfl rfl (TO.q (q_pick1 rfl rfl) (TO.nl ?_)))))
  refine T.cond1 rfl ?_
  refine T.s (T.rg (TO.qa rfl (TO.nl (T.ret (Res.drop ?_)))))
  refine Res.one (vI 7) Tryz.results48 rfl ?_
  exact ⟨[], Sub.z, by congr 1; unfold vE; split <;> first | omega | (split <;> omega), rfl⟩
 refine TO.q (QT.toB (q_move rfl) (decide_eq_false hs13)) (TO.gq rfl rfl (q_move rfl) (TO.gq rfl rfl (q_fa uT25 rfl inf3 rfl rfl) (TO.gq rfl rfl (q_lb 0 uT3 rfl rfl rfl rfl) (TO.gq rfl rfl (q_geq rfl rfl) (TO.q (q_pick0 rfl rfl) (TO.nl (T.condP rfl (fun hc => ?_) (fun hc => ?_))))))))
 ·refine T.s ?_
  refine T.rg (TO.qa rfl (TO.nl (T.ret (Res.drop ?_))))
  refine Res.one (vI 7) Tryz.results48 rfl ?_
  exact ⟨[], Sub.z, by congr 1; unfold vE; split <;> first | omega | (split <;> omega), rfl⟩
 refine T.skip (T.s (T.rg (TO.qa rfl (TO.nl (T.ret (Res.drop ?_))))))
 refine Res.one (vI 0) Tryz.results48 rfl ?_
 exact ⟨[], Sub.z, by congr 1; unfold vE; split <;> first | omega | (split <;> omega), rfl⟩
end Go.Proofs.YtohkmggbfcnapaaGreatDoor


namespace Go.Lx
open Go.RowKit
set_option maxRecDepth 20000
section
variable {P : Program} {base : World} {ρ : Env} {O : List Item} {dst : Option Nat} {t : TypeId} {p : String} {af : Array Edge} {g : Option (Nat × Bool)}
theorem q_shrI {x y : Operand} {T U : TypeId} {k' : IntKind} {a b : Nat} (hx : ev ρ x = .int .i64 (a : Int)) (hy : ev ρ y = .int k' (b : Int)) (hb : b ≤ 64) : QT P base ⟨dst, .binOp .shr T x y U, t, p, af, g⟩ ρ O (.int .i64 ((a >>> b : Nat) : Int)) := fun w _ => by
 have h0 : ¬ (b : Int) < 0 := by omega
 have h1 : min (b : Int).toNat IntKind.i64.bits = b := by rw [Int.toNat_natCast]; exact Nat.min_eq_left hb
 have h2 : (a : Int).fdiv (2 ^ b) = ((a >>> b : Nat) : Int) := by
  rw [Nat.shiftRight_eq_div_pow, Int.fdiv_eq_ediv_of_nonneg _ (by exact Int.le_of_lt (Int.pow_pos (by decide)))]
  rw [Int.natCast_ediv, Int.natCast_pow]; rfl
 simp only [execOp, hx, hy, eqGuard, binOp, Op.shift, h0, if_false, h1, h2]
 simp
theorem q_xor8 {x y : Operand} {T U : TypeId} {a b : Nat} (hx : ev ρ x = .int .u8 (a : Int)) (hy : ev ρ y = .int .u8 (b : Int)) (ha : a < 256) (hb : b < 256) : QT P base ⟨dst, .binOp .xor T x y U, t, p, af, g⟩ ρ O (.int .u8 ((a ^^^ b : Nat) : Int)) := fun w _ => by
 have := UK.u8.wrap (x := a ^^^ b) (Nat.xor_lt_two_pow (n := 8) ha hb)
 simp [execOp, hx, hy, eqGuard, binOp, Op.intBits, IntKind.bits, Nat.mod_eq_of_lt ha, Nat.mod_eq_of_lt hb, this]
 have e : ((BitVec.ofNat 8 a ^^^ BitVec.ofNat 8 b : BitVec 8)).toNat = a ^^^ b := by
  rw [BitVec.toNat_xor, BitVec.toNat_ofNat, BitVec.toNat_ofNat, Nat.mod_eq_of_lt (by simpa using ha), Nat.mod_eq_of_lt (by simpa using hb)]
 exact (congrArg (fun n : Nat => IntKind.u8.wrap (n : Int)) e).trans this
end
def wthN (v x e : Nat) : Nat := if e = 0 then c0 v x else c1 v x
theorem wth_yes : ∀ v, v < 6 → ∀ x, x < 64 → ∀ e, e < 2 → x >>> v % 2 = e → x = wthN v x e := by decide +kernel
theorem wth_no : ∀ v, v < 6 → ∀ x, x < 64 → ∀ e, e < 2 → ¬ x >>> v % 2 = e → x ^^^ 2 ^ v = wthN v x e := by decide +kernel
theorem drp_prog2 : ∀ v, v < 6 → ∀ x, x < 32 → (x &&& (2 ^ v - 1)) ||| ((x &&& (255 - (2 ^ v - 1))) * 2 ^ 1) = drp v x := by decide +kernel
theorem and_one (y p : Nat) : (y >>> p) &&& 1 = if y.testBit p = true then 1 else 0 := by
 rw [Nat.and_one_is_mod, Nat.shiftRight_eq_div_pow, Nat.testBit_eq_decide_div_mod_eq]
 by_cases h : y / 2 ^ p % 2 = 1
 ·simp [h]
 ·simp [h]; omega
theorem imF_step (l : List Nat) (y i : Nat) : imF l y i ||| (((y >>> (l.getD i 0)) &&& 1) * 2 ^ i) = imF l y (i + 1) := by
 rw [and_one, imF]
 split <;> simp
theorem imF_256 (l : List Nat) (y : Nat) {n : Nat} (hn : n ≤ 6) : imF l y n < 256 := Nat.lt_of_lt_of_le (imF_lt l y n) (Nat.le_trans (Nat.pow_le_pow_right (by decide) hn) (by decide))
theorem bit_256 (y p : Nat) {i : Nat} (hi : i < 6) : ((y >>> p) &&& 1) * 2 ^ i < 256 := by
 rw [and_one]
 have : 2 ^ i ≤ 2 ^ 5 := Nat.pow_le_pow_right (by decide) (by omega)
 split <;> omega
end Go.Lx


namespace Go.Proofs.YtohkmggbfcnapaaGreatDoor
open Go.Lx Go.RowKit _root_.Go.Proofs.Tryz
theorem bitC (w : World) [Tab Tryz.prog w] (x v : Nat) (hv : v < 6) (hx : x < 64) :
  PureT Tryz.prog 83 [.int .u8 ((x : Nat) : Int), vI ((v : Nat) : Int)] w fun r N => r = vI ((x >>> v % 2 : Nat) : Int) ∧ N = [] := by
 refine CallT.enter func83 rfl ntmps83 rfl ?_
 refine T.s (T.rg (TO.qa rfl (TO.nl (T.s (T.rg (TO.qm rfl (TO.q (q_conv_id uT5 uT3 rfl (wrap64_id (by omega))) (TO.qm rfl (TO.q (q_conv_id uT3 uT52 rfl (wrapU64 (by omega))) (TO.q (q_shrI (a := x) (b := v) rfl rfl (by omega)) (TO.q (q_remN (a := x >>> v) (b := 2) rfl rfl (by decide)) (TO.qa rfl (TO.nl (T.ret ?_))))))))))))))
 refine Res.one (vI ((x >>> v % 2 : Nat) : Int)) Tryz.results83 rfl ?_
 exact ⟨rfl, rfl⟩
theorem wthC (w : World) [Tab Tryz.prog w] (x v e : Nat) (hv : v < 6) (hx : x < 64) (he : e < 2) :
  PureT Tryz.prog 47 [.int .u8 ((x : Nat) : Int), vI ((v : Nat) : Int), vI ((e : Nat) : Int)] w fun r N => r = .int .u8 ((wthN v x e : Nat) : Int) ∧ N = [] := by
 refine CallT.enter func47 rfl ntmps47 rfl ?_
 have hp : 2 ^ v ≤ 2 ^ 5 := Nat.pow_le_pow_right (by decide) (by omega)
 have hp2 : 2 ^ (v + 1) ≤ 2 ^ 6 := Nat.pow_le_pow_right (by decide) (by omega)
 have hp0 : 0 < 2 ^ v := Nat.pow_pos (by decide)
 have hs1 : x >>> v ≤ x := by rw [Nat.shiftRight_eq_div_pow]; exact Nat.div_le_self _ _
 have hs2 : x >>> (v + 1) ≤ x := by rw [Nat.shiftRight_eq_div_pow]; exact Nat.div_le_self _ _
 refine T.s (T.rg (TO.qa rfl (TO.nl (T.s (T.s (T.rg (TO.qm rfl (TO.qm rfl ?_))))))))
 have hk9 := fun (w1 : World) (hI : Inv w [] w1) => (haveI := tbz hI; bitC w1 x v hv hx)
 refine TO.l rfl (l_call ent83 (CallT.op hk9) rfl ?_)
 clear hk9
 rintro vr O' ⟨N, rfl, rfl, rfl⟩
 refine TO.qm rfl (TO.q (QT.cast (q_eql rfl rfl) (v' := .bool (decide (x >>> v % 2 = e))) (congrArg Value.bool (decide_eq_decide.2 (by omega)))) (TO.nl (T.condP rfl (fun hc => ?_) (fun hc => ?_))))
 ·have hbe : x >>> v % 2 = e := hc
  refine T.s (T.rg (TO.qm rfl (TO.qa rfl (TO.nl (T.ret ?_)))))
  refine Res.one (.int .u8 ((x : Nat) : Int)) Tryz.results47 rfl ?_
  exact ⟨congrArg (fun n : Nat => Value.int .u8 (n : Int)) (wth_yes v hv x hx e he hbe), rfl⟩
 have hbe : ¬ x >>> v % 2 = e := hc
 refine T.skip (T.s (T.rg (TO.qm rfl (TO.qm rfl (TO.q (q_conv_id uT3 uT52 rfl (wrapU64 (by omega))) (TO.q (QT.cast (q_shlU (a := 1) (b := v) .u8 rfl rfl (by simp only [IntKind.bits]; omega) (by simp only [IntKind.bits]; omega)) (v' := .int .u8 ((2 ^ v : Nat) : Int)) (by rw [Nat.one_mul])) (TO.q (q_xor8 (a := x) (b := 2 ^ v) rfl rfl (by omega) (by omega)) (TO.qa rfl (TO.nl (T.ret ?_))))))))))
 refine Res.one (.int .u8 ((x ^^^ 2 ^ v : Nat) : Int)) Tryz.results47 rfl ?_
 exact ⟨congrArg (fun n : Nat => Value.int .u8 (n : Int)) (wth_no v hv x hx e he hbe), rfl⟩
theorem wrongBad (w : World) [Tab Tryz.prog w] (a : DFA) (k : DK) (ha : At w a k) (haa : a.next.length < 9223372036854775807) (haar : ∀ r ∈ a.next, r.length < 9223372036854775807) (haaf : a.final.length < 9223372036854775807) (he : checkD a ≠ 0) (v n : Int) :
  PureT Tryz.prog 41 [dV a k, vI v, vI n] w fun r N => r = vI (checkD a : Int) ∧ N = [] := by
 refine CallT.enter func41 rfl ntmps41 rfl ?_
 refine T.s (T.rg (TO.l rfl (l_box (v := (dV a k)) (cs := (dC a k)) rfl rfl (fun bx1 => ?_))))
 refine TO.qa rfl (TO.nl (T.s (T.rg (TO.q (q_la 0 uT25 rfl inf25 rfl rfl rfl) ?_))))
 have hk9 := fun (w1 : World) (hI : Inv w [oI bx1 25 (dC a k)] w1) => (haveI := tbz hI; refCheck w1 a k.nb k.fb k.nc k.fc (vals k.qs) (hI.dfa ha) haa haar haaf)
 refine TO.l rfl (l_call ent21 (CallT.op hk9) rfl ?_)
 clear hk9
 rintro vr O' ⟨N, rfl, rfl, rfl⟩
 refine TO.qa rfl (TO.nl (T.s (T.s (T.rg (TO.qm rfl (TO.q (QT.toB (q_eql rfl rfl) (decide_eq_false (by omega))) (TO.qm rfl (TO.pd rfl rfl (TO.pd rfl rfl (TO.pd rfl rfl (TO.pd rfl rfl (TO.pd rfl rfl ?_))))))))))))
 refine TO.pd rfl rfl (TO.pd rfl rfl (TO.pd rfl rfl (TO.pd rfl rfl (TO.pd rfl rfl (TO.q (q_pick0 rfl rfl) (TO.nl (T.cond0 rfl ?_)))))))
 refine T.skip (T.s (T.rg (TO.qm rfl (TO.qa rfl (TO.nl (T.ret (Res.drop ?_)))))))
 refine Res.one (vI (checkD a : Int)) Tryz.results41 rfl ?_
 exact ⟨[], Sub.z, rfl, rfl⟩
theorem wrongOk (w : World) [Tab Tryz.prog w] (a : DFA) (k : DK) (ha : At w a k) (hv : Valid a) (v n : Int) (hn : n = 0 ∨ n = 1) :
  PureT Tryz.prog 41 [dV a k, vI v, vI n] w fun r N => r = vI (wrE a v n : Int) ∧ N = [] := by
 refine CallT.enter func41 rfl ntmps41 rfl ?_
 have he := checkD_zero.2 hv
 have h4 := hv.n4
 have hww : letN a ≤ 64 := hv.width
 have hfin := hv.fin
 have hvl := ha.rows.1
 have hsl := start_lt hv.toVal
 have hs0 := hv.s0
 have hs1 := hv.s1
 have hv0 := hv.v0
 have hv6 := hv.v6
 refine T.s (T.rg (TO.l rfl (l_box (v := (dV a k)) (cs := (dC a k)) rfl rfl (fun bx1 => ?_))))
 refine TO.qa rfl (TO.nl (T.s (T.rg (TO.q (q_la 0 uT25 rfl inf25 rfl rfl rfl) ?_))))
 have hk9 := fun (w1 : World) (hI : Inv w [oI bx1 25 (dC a k)] w1) => (haveI := tbz hI; (show PureT _ _ _ _ _ from by
   have h9 := refCheck w1 a k.nb k.fb k.nc k.fc (vals k.qs) (hI.dfa ha) (by omega) hv.bound (by omega)
   rw [he] at h9
   exact h9))
 refine TO.l rfl (l_call ent21 (CallT.op hk9) rfl ?_)
 clear hk9
 rintro vr O' ⟨N, rfl, rfl, rfl⟩
 refine TO.qa rfl (TO.nl (T.s (T.s (T.rg (TO.qm rfl (TO.q (QT.toB (q_eql rfl rfl) (decide_eq_true rfl)) (TO.qm rfl (TO.gq rfl rfl (q_move rfl) (TO.gq rfl rfl (q_lss rfl rfl) ?_)))))))))
 by_cases hs15 : v < 0
 ·refine TO.gq rfl rfl (QT.toB (q_move rfl) (decide_eq_true hs15)) ?_
  refine TO.pd rfl rfl (TO.pd rfl rfl (TO.pd rfl rfl (TO.pd rfl rfl (TO.pd rfl rfl (TO.pd rfl rfl (TO.gq rfl rfl (q_pick1 rfl rfl) (TO.q (q_pick1 rfl rfl) ?_)))))))
  refine TO.nl ?_
  refine T.cond1 rfl ?_
  refine T.rg (TO.qa rfl (TO.nl (T.s (T.rg (TO.qm rfl (TO.qa rfl (TO.nl (T.ret (Res.drop ?_)))))))))
  refine Res.one (vI 7) Tryz.results41 rfl ?_
  exact ⟨[], Sub.z, by congr 1; unfold wrE; rw [if_neg (by omega)]; split <;> omega, rfl⟩
 refine TO.gq rfl rfl (QT.toB (q_move rfl) (decide_eq_false hs15)) (TO.gq rfl rfl (q_move rfl) (TO.gq rfl rfl (q_fa uT25 rfl inf3 rfl rfl) (TO.gq rfl rfl (q_lb 0 uT3 rfl rfl rfl rfl) (TO.gq rfl rfl (q_move rfl) (TO.gq rfl rfl (q_add64 rfl rfl (by omega)) (TO.gq rfl rfl (q_geq rfl rfl) (TO.gq rfl rfl (q_pick0 rfl rfl) ?_)))))))
 refine TO.q (q_pick1 rfl rfl) (TO.nl (T.condP rfl (fun hc => ?_) (fun hc => ?_)))
 ·refine T.rg ?_
  refine TO.qa rfl (TO.nl (T.s (T.rg (TO.qm rfl (TO.qa rfl (TO.nl (T.ret (Res.drop ?_))))))))
  refine Res.one (vI 7) Tryz.results41 rfl ?_
  exact ⟨[], Sub.z, by congr 1; unfold wrE; rw [if_neg (by omega)]; split <;> omega, rfl⟩
 refine T.skip (T.s (T.rg (TO.qm rfl (TO.qa rfl (TO.nl (T.ret (Res.drop ?_)))))))
 refine Res.one (vI 0) Tryz.results41 rfl ?_
 exact ⟨[], Sub.z, by congr 1; unfold wrE; rw [if_neg (by omega)]; split <;> omega, rfl⟩
theorem wrongC (w : World) [Tab Tryz.prog w] (a : DFA) (k : DK) (ha : At w a k) (haa : a.next.length < 9223372036854775807) (haar : ∀ r ∈ a.next, r.length < 9223372036854775807) (haaf : a.final.length < 9223372036854775807) (v n : Int) (hn : n = 0 ∨ n = 1) :
  PureT Tryz.prog 41 [dV a k, vI v, vI n] w fun r N => r = vI (wrE a v n : Int) ∧ N = [] := by
 by_cases he : checkD a ≠ 0
 ·have h := wrongBad w a k ha haa haar haaf he v n
  rwa [show checkD a = wrE a v n by unfold wrE; rw [if_pos he]] at h
 ·exact wrongOk w a k ha (checkD_zero.1 (by omega)) v n hn
end Go.Proofs.YtohkmggbfcnapaaGreatDoor


namespace Go.Lx
open Go.RowKit
theorem ix_first {α : Type} [DecidableEq α] {l : List α} {a : α} {i : Nat} (h : l[i]? = some a) (hn : a ∉ l.take i) : ix a l = i := by
 have h1 := ix_le h
 rcases Nat.lt_or_ge (ix a l) i with h2 | h2
 ·have hm : a ∈ l := List.mem_of_getElem? h
  have h3 := ix_get hm
  exact absurd (List.mem_of_getElem? (i := ix a l) (by rw [List.getElem?_take, if_pos h2]; exact h3)) hn
 ·omega
def fdN (xs : List Int) (rs : List (List Int)) : Int := if xs ∈ rs then (ix xs rs : Int) else -1
theorem fdN_at {xs : List Int} {rs : List (List Int)} {i : Nat} (h : rs[i]? = some xs) (hn : xs ∉ rs.take i) : fdN xs rs = (i : Int) := by
 unfold fdN; rw [if_pos (List.mem_of_getElem? h), ix_first h hn]
theorem fdN_no {xs : List Int} {rs : List (List Int)} {i : Nat} (hi : rs.length ≤ i) (hn : xs ∉ rs.take i) : fdN xs rs = -1 := by
 rw [List.take_of_length_le hi] at hn
 unfold fdN; rw [if_neg hn]
theorem take_no {α : Type} {l : List α} {a : α} {i : Nat} (h : i < l.length) (hn : a ∉ l.take i) (hne : l[i] ≠ a) : a ∉ l.take (i + 1) := by
 rw [List.take_succ_eq_append_getElem h]
 intro hm
 rcases List.mem_append.1 hm with h1 | h1
 ·exact hn h1
 ·exact hne (List.mem_singleton.1 h1).symm
end Go.Lx


namespace Go.Proofs.YtohkmggbfcnapaaGreatDoor
open Go.Lx Go.RowKit _root_.Go.Proofs.Tryz
theorem findC (w : World) [Tab Tryz.prog w] (b sb : Option Addr) (c sc : Nat) (vs : List Value) (rs : List (List Int)) (xs : List Int) (h1 : Sl w b vs) (hr : RowsR w vs rs) (hs : Sl w sb (ints xs)) (hb : rs.length < 9223372036854775807) (hbr : ∀ r ∈ rs, r.length < 9223372036854775807) :
  PureT Tryz.prog 44 [.slice b rs.length c, .slice sb xs.length sc] w fun v N => v = vI (fdN xs rs) ∧ N = [] := by
 refine CallT.enter func44 rfl ntmps44 rfl ?_
 refine T.s (T.rg (TO.qa rfl (TO.nl (T.s (T.s (T.rg (TO.qa rfl (TO.nl (T.block ?_)))))))))
 refine T.loop (fun (i : Nat) ρ O => O = [] ∧ i ≤ rs.length ∧ xs ∉ rs.take i ∧ Heads [(0, (.slice b rs.length c)), (1, (.slice sb xs.length sc)), (5, vI ((i : Nat) : Int))] ρ) (fun i => rs.length - i) 0 ?_ ?_
 ·exact ⟨rfl, Nat.zero_le _, by simp, ⟨rfl, rfl, rfl, trivial⟩⟩
 rintro i ρ O ⟨rfl, hi, hno, hH⟩
 obtain ⟨ρ0, rfl⟩ := hH.elim
 clear hH
 refine T.s (T.s (T.rg (TO.qm rfl (TO.qm rfl (TO.q (q_len uT22 rfl) (TO.q (q_lss rfl rfl) (TO.nl (T.condP rfl (fun hc => ?_) (fun hc => ?_)))))))))
 ·have hlt9 : i < rs.length := by omega
  have hil : i < rs.length := by omega
  obtain ⟨v1, c1, g1, s1⟩ := hr.get hil
  have hvl := hr.1
  refine T.skip (T.s (T.block (T.s (T.rg (TO.qm rfl (TO.qm rfl (TO.q (q_ix (i := i) uT22 inf37 rfl rfl (Sl.o h1) (by omega) (by omega)) (TO.q (q_ld uT37 rfl rfl (Sl.o h1) g1) (TO.qm rfl ?_)))))))))
  have hk17 := fun (w1 : World) (hI : Inv w [] w1) => (haveI := tbz hI; equalInts w1 v1 sb c1 sc rs[i] xs (hI.sl s1) (hI.sl hs) (hbr _ (List.getElem_mem hil)))
  refine TO.l rfl (l_call ent29 (CallT.op hk17) rfl ?_)
  clear hk17
  rintro vr O' ⟨N, rfl, rfl, rfl⟩
  refine TO.nl (T.condP rfl (fun hc => ?_) (fun hc => ?_))
  ·refine T.s ?_
   refine T.rg (TO.qm rfl (TO.qa rfl (TO.nl (T.ret ?_))))
   refine Res.one (vI ((i : Nat) : Int)) Tryz.results44 rfl ?_
   exact ⟨congrArg (Value.int .i64) (fdN_at (by rw [List.getElem?_eq_getElem hil, hc]) hno).symm, rfl⟩
  refine T.skip (T.rg (TO.qm rfl (TO.q (q_addN (a := i) (b := 1) rfl rfl (by omega)) (TO.qa rfl (TO.nl ?_)))))
  exact ⟨i + 1, by omega, rfl, by omega, take_no hil hno hc, ⟨rfl, rfl, rfl, trivial⟩⟩
 have hge9 : ¬ i < rs.length := by omega
 refine T.exit ?_
 refine T.s (T.rg (TO.qa rfl (TO.nl (T.ret ?_))))
 refine Res.one (vI (-1)) Tryz.results44 rfl ?_
 exact ⟨congrArg (Value.int .i64) (fdN_no (by omega) hno).symm, rfl⟩
end Go.Proofs.YtohkmggbfcnapaaGreatDoor


namespace Go.Lx
set_option maxRecDepth 20000
theorem HasL.flipP {n : Int} {N : Nat} {d : DFA} {p : List Nat → Bool} (h : HasL n N d p) : HasL n N (flipD d) (fun w => !p w) :=
 ⟨flip_valid h.valid, h.len, h.vars, fun w hw => by rw [flip_acc h.valid.toVal (h.wd.2 hw), h.acc w hw]⟩
theorem HasL.lt6 {n : Int} {N : Nat} {d : DFA} {p : List Nat → Bool} (h : HasL n N d p) : 0 ≤ n ∧ n ≤ 6 := by
 have h1 := h.valid.v0; have h2 := h.valid.v6; rw [h.vars] at h1 h2; exact ⟨h1, h2⟩
theorem HasL.l64 {n : Int} {N : Nat} {d : DFA} {p : List Nat → Bool} (h : HasL n N d p) {u : List Nat} (hu : WdV n u) : ∀ x ∈ u, x < 64 := fun x hx => by
 have := hu x hx
 have h6 := h.lt6
 have : 2 ^ n.toNat ≤ 2 ^ 6 := Nat.pow_le_pow_right (by decide) (by omega)
 omega
theorem HasL.varI {n : Int} {N : Nat} {d : DFA} {p : List Nat → Bool} (h : HasL n N d p) {v : Nat} (hv : v < n.toNat) {u z : List Nat} (hu : WdV n u) (hz : Vari v u z) : WdV n z := Vari.wd (by have := h.lt6; omega) hv hu hz
theorem vE_of {n : Int} {N : Nat} {d : DFA} {p : List Nat → Bool} (h : HasL n N d p) {v : Int} (h0 : 0 ≤ v) (h1 : v < n) : vE d v = 0 := vE_zero.2 ⟨h.valid, h0, by rw [h.vars]; exact h1⟩
theorem vE_to {n : Int} {N : Nat} {d : DFA} {p : List Nat → Bool} (h : HasL n N d p) {v : Int} (he : vE d v = 0) : 0 ≤ v ∧ v < n ∧ v.toNat < n.toNat ∧ v.toNat < 6 := by
 obtain ⟨_, h1, h2⟩ := vE_zero.1 he
 rw [h.vars] at h2
 have := h.lt6
 exact ⟨h1, h2, by omega, by omega⟩
theorem HasL.nV {n : Int} {N : Nat} {d : DFA} {p : List Nat → Bool} (h : HasL n N d p) : MinL n N (minD (flipD d)) (fun w => !p w) := h.flipP.minim
theorem alE_ok {n : Int} {N : Nat} {d : DFA} {p : List Nat → Bool} (h : HasL n N d p) (v B : Int) : alE d v B = xsE (minD (flipD d)) v B := by unfold alE; rw [if_neg (by rw [checkD_zero.2 h.valid]; decide)]
theorem igV_iff {n : Int} {N : Nat} {d : DFA} {p : List Nat → Bool} (h : HasL n N d p) {v : Int} (he : vE d v = 0) : igV d v = true ↔ IgnP n v.toNat p := by
 unfold igV
 rw [he, decide_eq_true rfl, Bool.true_and]
 exact h.minim.ign (vE_to h he).2.2.1
theorem in_has {n : Int} {N : Nat} {d : DFA} {p : List Nat → Bool} (h : HasL n N d p) {v : Int} (he : inE2 d v = 0) : 0 ≤ v ∧ v ≤ n ∧ n < 6 ∧ MinL (n + 1) N (inV d v) (fun w => p (w.map (cut v.toNat))) := by
 unfold inE2 at he
 rw [checkD_zero.2 h.valid, if_neg (by decide)] at he
 split at he
 ·cases he
 ·rename_i hc
  have h6 := h.lt6
  rw [h.vars] at hc
  have e2 : inE2 d v = 0 := by unfold inE2; rw [checkD_zero.2 h.valid, if_neg (by decide), if_neg (by rw [h.vars]; exact hc)]
  refine ⟨by omega, by omega, by omega, ?_⟩
  unfold inV
  rw [if_pos e2, h.vars]
  exact (h.re (by omega) (by omega) fun x hx => by
   have e : (n + 1).toNat = n.toNat + 1 := by omega
   rw [e] at hx
   exact cut_lt n.toNat (by omega) v.toNat (by omega) x hx).minim
theorem rn_has {n : Int} {N : Nat} {d : DFA} {p : List Nat → Bool} (h : HasL n N d p) {l : List Int} (he : rnE d l = 0) : PermN (natL l) n.toNat ∧ l = (natL l).map (fun q : Nat => (q : Int)) ∧ l.length = n.toNat ∧ MinL n N (rnV d l) (fun w => p (w.map fun y => imF (natL l) y n.toNat)) := by
 obtain ⟨_, hp⟩ := rnE_zero.1 he
 rw [h.vars] at hp
 have h6 := h.lt6
 refine ⟨hp.nat.1, hp.nat.2, hp.1, ?_⟩
 unfold rnV
 rw [if_pos he, h.vars, hp.1]
 exact (h.re (by omega) (by omega) fun x hx => imF_lt _ _ _).minim
def smF (d : DFA) (v : Nat) : Nat → List Nat → Nat → Bool
 | 0, w, _ => accV d w
 | k + 1, w, i => smF d v k w (i + 1) || smF d v k (w.set i (w.getD i 0 ^^^ 2 ^ v)) (i + 1)
theorem flip_c : ∀ v, v < 6 → ∀ x, x < 64 → (x = c0 v x ∧ x ^^^ 2 ^ v = c1 v x ∨ x = c1 v x ∧ x ^^^ 2 ^ v = c0 v x) ∧ x ^^^ 2 ^ v < 64 := by decide +kernel
theorem smF_iff {d : DFA} {v : Nat} (hv : v < 6) : ∀ (k : Nat) (w : List Nat) (i : Nat), (∀ x ∈ w, x < 64) → i + k = w.length → (smF d v k w i = true ↔ ∃ z, Vari v (w.drop i) z ∧ accV d (w.take i ++ z) = true)
 | 0, w, i, hw, hk => by
  rw [smF, List.drop_of_length_le (by omega), List.take_of_length_le (by omega)]
  constructor
  ·intro h; exact ⟨[], trivial, by rw [List.append_nil]; exact h⟩
  ·rintro ⟨z, h1, h2⟩
   cases z with
   | nil => rwa [List.append_nil] at h2
   | cons _ _ => exact h1.elim
 | k + 1, w, i, hw, hk => by
  have hi : i < w.length := by omega
  have hx : w[i] < 64 := hw _ (List.getElem_mem hi)
  obtain ⟨hf, hlt⟩ := flip_c v hv w[i] hx
  have hg : w.getD i 0 = w[i] := by rw [List.getD_eq_getElem?_getD, List.getElem?_eq_getElem hi]; rfl
  have hw2 : ∀ x ∈ w.set i (w[i] ^^^ 2 ^ v), x < 64 := fun x hx => by
   rcases List.mem_or_eq_of_mem_set hx with h | rfl
   ·exact hw x h
   ·exact hlt
  have hd2 : (w.set i (w[i] ^^^ 2 ^ v)).drop (i + 1) = w.drop (i + 1) := by rw [List.drop_set, if_pos (by omega)]
  have ht1 : w.take (i + 1) = w.take i ++ [w[i]] := List.take_succ_eq_append_getElem hi
  have ht2 : (w.set i (w[i] ^^^ 2 ^ v)).take (i + 1) = w.take i ++ [w[i] ^^^ 2 ^ v] := by
   rw [List.take_succ_eq_append_getElem (by rw [List.length_set]; exact hi), List.getElem_set_self, List.take_set_of_le (Nat.le_refl i)]
  rw [smF, Bool.or_eq_true, hg, smF_iff hv k w (i + 1) hw (by omega), smF_iff hv k _ (i + 1) hw2 (by rw [List.length_set]; omega), hd2, ht1, ht2, List.drop_eq_getElem_cons hi]
  constructor
  ·rintro (⟨z, h1, h2⟩ | ⟨z, h1, h2⟩)
   ·refine ⟨w[i] :: z, ⟨by rcases hf with h | h <;> omega, h1⟩, ?_⟩
    rwa [List.append_assoc] at h2
   ·refine ⟨(w[i] ^^^ 2 ^ v) :: z, ⟨by rcases hf with h | h <;> omega, h1⟩, ?_⟩
    rwa [List.append_assoc] at h2
  ·rintro ⟨z, h1, h2⟩
   cases z with
   | nil => exact h1.elim
   | cons y z =>
    by_cases e : y = w[i]
    ·subst e; exact .inl ⟨z, h1.2, by rw [List.append_assoc]; exact h2⟩
    ·have e2 : y = w[i] ^^^ 2 ^ v := by rcases hf with h | h <;> rcases h1.1 with g | g <;> omega
     subst e2; exact .inr ⟨z, h1.2, by rw [List.append_assoc]; exact h2⟩
theorem xs_some {n : Int} {N : Nat} {d x : DFA} {p : List Nat → Bool} (h : HasL n N d p) {v K : Nat} (hv : v < n.toNat) (hx : HasL n K x (exP v p)) {w : List Nat} (hw : runE d w = 0) : runE x w = 0 ∧ accV x w = smF d v w.length w 0 := by
 obtain ⟨_, hlen, hwd⟩ := runE_zero.1 hw
 have hwv : WdV n w := by intro y hy; have := hwd y hy; rw [← h.vars]; exact this
 have e0 : runE x w = 0 := runE_zero.2 ⟨hx.valid, hlen, hx.wd.2 hwv⟩
 refine ⟨e0, ?_⟩
 have hv6 : v < 6 := by have := h.lt6; omega
 rw [accV_zero e0, hx.acc _ hwv, Bool.eq_iff_iff, exP_iff, smF_iff hv6 w.length w 0 (h.l64 hwv) (by omega)]
 constructor
 ·rintro ⟨z, h1, h2⟩
  refine ⟨z, h1, ?_⟩
  have hz := h.varI hv hwv h1
  have hl : z.length = w.length := Vari.len h1
  have ez : runE d z = 0 := runE_zero.2 ⟨h.valid, by omega, h.wd.2 hz⟩
  show accV d z = true
  rw [accV_zero ez, h.acc z hz]; exact h2
 ·rintro ⟨z, h1, h2⟩
  refine ⟨z, h1, ?_⟩
  have hz := h.varI hv hwv h1
  have hl : z.length = w.length := Vari.len h1
  have ez : runE d z = 0 := runE_zero.2 ⟨h.valid, by omega, h.wd.2 hz⟩
  have h3 : accV d z = true := h2
  rw [accV_zero ez, h.acc z hz] at h3; exact h3
end Go.Lx


namespace Go.Lx
open Go.RowKit Go.Sort
section
variable {P : Program} {r : Option Nat} {base : World} {n : Nat} {ρ : Env} {O : List Item} {K : Env → List Item → Prop} {d : Nat} {dst : Option Nat} {t : TypeId} {p : String} {af : Array Edge} {g : Option (Nat × Bool)}
theorem q_idxStr {x y : Operand} {S : TypeId} {bs : ByteArray} {i m : Nat} {kk : IntKind} {b : UInt8} (hu : P.underlying S = some .string) (hx : ev ρ x = .string bs) (hy : ev ρ y = .int kk (i : Int)) (hb : bs[i]? = some b) (hm : b.toNat = m) : QT P base ⟨dst, .index S x y, t, p, af, g⟩ ρ O (.int .u8 (m : Int)) := fun w _ => by
 subst hm
 simp [execOp, hx, hy, Instr.index, asIntOf, run_underlying' hu, hb]
theorem q_and16 {x y : Operand} {T U : TypeId} (hx : ev ρ x = .int .i64 16) (hy : ev ρ y = .int .i64 15) : QT P base ⟨dst, .binOp .and T x y U, t, p, af, g⟩ ρ O (.int .i64 0) := fun w _ => by
 have e : bits BinOp.and IntKind.i64 16 15 = 0 := by decide
 simp [execOp, hx, hy, eqGuard, binOp, Op.intBits]
 decide
theorem q_sliceAF {T E : TypeId} {x y : Operand} {b m l by_ : Nat} {z : Value} (hu : P.underlying T = some (.array m E)) (hi : Inf P E z 1 by_) (hx : ev ρ x = .pointer (some ⟨b, 0, none⟩)) (hy : ev ρ y = .int .i64 (l : Int)) (hh : l < m) :
  QT P base ⟨dst, .slice T x (some y) none none, t, p, af, g⟩ ρ O (.slice (some ⟨b, l, none⟩) (m - l) (m - l)) := fun w hI => by
 have e1 : (l : Int) ≤ (m : Int) := by omega
 have e2 : (0 : Int) ≤ (l : Int) := by omega
 have e3 : l ≤ m := by omega
 have e4 : m - l ≠ 0 := by omega
 simp [execOp, Instr.sliceAt, Instr.sureAddr, hx, hy, run_underlying' hu, run_sizeOf' hi, Instr.sliceBounds, Instr.sliceBound, asIntOf, e1, e2, add_off, hh, e3, e4, Addr.add]
 rw [if_neg (by omega)]; split
 ·rename_i h; subst h; rfl
 ·rfl
theorem l_appendAF {T U E A : TypeId} {b : Option Addr} {m c l ca k o by_ : Nat} {x y : Operand} {z : Value} {cs new : List Value} {arr : Array Value} (i j : Nat)
  (hu : P.underlying T = some (.slice E)) (hxu : P.underlying U = some (.slice E)) (hi : Inf P E z 1 by_) (hz : z.cells.size = 1)
  (hx : ev ρ x = .slice b m c) (hy : ev ρ y = .slice (some ⟨k, o, none⟩) l ca) (hO : O[j]? = some (rowI b c E 1 cs)) (hl : cs.length = m) (hs : new.length = l)
  (hA : O[i]? = some (objI k (.cells arr A (0, 0)))) (hn' : ∀ q (h : q < new.length), arr[o + q]? = some new[q]) (hone : (new.all oneB) = true)
  (hsz : (m + l) * by_ ≤ 70368744177664) (hby : by_ ≤ 1000000) (hsz' : 0 < by_)
  (h : ∀ b' c', K (upd ρ d (.slice b' (m + l) c')) (O.set j (rowI b' c' E 1 (cs ++ new)))) (hn : Nat.blt d n = true := by rfl) :
  LT P r base n ⟨some d, .call ⟨.builtin .append, #[x, y], #[T, U]⟩, t, p, af, g⟩ ρ O K :=
 LT.of_run hn fun w M hI => by
  have hsrc : Src P base (O ++ M) 1 l (.slice (some ⟨k, o, none⟩) l ca) new := ⟨by omega, fun w => by simp [Builtin.lenOf], fun w hI => firstCells_run (fun q hq => ⟨⟨k, o, none⟩, rfl, rfl, by
   have hb : w.heap[k]? = some (.cells arr A (0, 0)) := hI.holds _ (List.mem_of_getElem? (at_app hA))
   simp [World.cell?, hb, hn' q hq]⟩) (by omega) (fun e => by cases e)⟩
  obtain ⟨b', c', w', hr, hI'⟩ := run_append (ty := t) hu hxu (.inl ⟨_, rfl⟩) hi hz (at_app hO) (by simpa using hl) (by decide) hsrc hone hsz hby hsz' hI
  rw [set_app hO] at hI'
  refine ⟨_, w', _, ?_, hI', h b' c'⟩
  simp [execOp, resolve, hx, hy, invoke, builtin, hr]
end
def dgt (k : Nat) : Nat := if k < 10 then 48 + k else 87 + k
def hexF : Nat → Nat → List Nat
 | 0, _ => []
 | f + 1, w => if w < 16 then [dgt w] else hexF f (w / 16) ++ [dgt (w % 16)]
def hexL (w : Nat) : List Nat := hexF 16 w
def digB : ByteArray := ⟨#[48, 49, 50, 51, 52, 53, 54, 55, 56, 57, 97, 98, 99, 100, 101, 102, 103, 104, 105, 106, 107, 108, 109, 110, 111, 112, 113, 114, 115, 116, 117, 118, 119, 120, 121, 122]⟩
theorem digS : ∀ i, i < 16 → ∃ b, digB[i]? = some b ∧ b.toNat = dgt i := by
 intro i hi
 have : ∀ j : Fin 16, (digB[j.val]?).map UInt8.toNat = some (dgt j.val) := by decide +kernel
 have h := this ⟨i, hi⟩
 cases e : digB[i]? with
 | none => simp [e] at h
 | some b => exact ⟨b, rfl, by simpa [e] using h⟩
theorem dgt_inj : ∀ a, a < 16 → ∀ b, b < 16 → dgt a = dgt b → a = b := by decide
theorem dgt_lt : ∀ a, a < 16 → dgt a < 256 ∧ dgt a ≠ 32 := by decide
theorem hexF_ne : ∀ f w, hexF (f + 1) w ≠ [] := fun f w => by unfold hexF; split <;> simp
theorem hexF_len : ∀ f w, (hexF f w).length ≤ f
 | 0, w => by simp [hexF]
 | f + 1, w => by
  unfold hexF; split
  ·simp
  ·have := hexF_len f (w / 16); simp; omega
theorem hexF_lt {f w : Nat} (h : w < 16) : hexF (f + 1) w = [dgt w] := by rw [hexF, if_pos h]
theorem hexF_ge {f w : Nat} (h : ¬ w < 16) : hexF (f + 1) w = hexF f (w / 16) ++ [dgt (w % 16)] := by rw [hexF, if_neg h]
theorem hexF_inj : ∀ f a b, a < 16 ^ f → b < 16 ^ f → hexF f a = hexF f b → a = b
 | 0, a, b, ha, hb, _ => by simp at ha hb; omega
 | 1, a, b, ha, hb, h => by
  have ha : a < 16 := by omega
  have hb : b < 16 := by omega
  unfold hexF at h
  rw [if_pos ha, if_pos hb] at h
  exact dgt_inj a ha b hb (List.cons.inj h).1
 | f + 2, a, b, ha, hb, h => by
  have hne := hexF_ne f
  by_cases h1 : a < 16 <;> by_cases h2 : b < 16
  ·rw [hexF_lt h1, hexF_lt h2] at h
   exact dgt_inj a h1 b h2 (List.cons.inj h).1
  ·rw [hexF_lt h1, hexF_ge h2] at h
   have := congrArg List.length h
   have h3 := List.length_pos_iff.2 (hne (b / 16))
   rw [List.length_append, List.length_singleton, List.length_singleton] at this; omega
  ·rw [hexF_ge h1, hexF_lt h2] at h
   have := congrArg List.length h
   have h3 := List.length_pos_iff.2 (hne (a / 16))
   rw [List.length_append, List.length_singleton, List.length_singleton] at this; omega
  ·rw [hexF_ge h1, hexF_ge h2] at h
   obtain ⟨g1, g2⟩ := List.append_inj' h rfl
   have e1 := hexF_inj (f + 1) (a / 16) (b / 16) (by rw [Nat.pow_succ] at ha; omega) (by rw [Nat.pow_succ] at hb; omega) g1
   have e2 := dgt_inj (a % 16) (by omega) (b % 16) (by omega) (List.cons.inj g2).1
   omega
theorem hexL_inj {a b : Nat} (ha : a < 18446744073709551616) (hb : b < 18446744073709551616) (h : hexL a = hexL b) : a = b := hexF_inj 16 a b (by simpa using ha) (by simpa using hb) h
def HexI (w u : Nat) (ds : List Nat) : Prop := ∃ f, hexF 16 w = hexF f u ++ ds ∧ u < 16 ^ f ∧ f + ds.length = 16 ∧ 0 < f
theorem HexI.zero {w : Nat} (hw : w < 18446744073709551616) : HexI w w [] := ⟨16, by simp, by simpa using hw, rfl, by decide⟩
theorem HexI.step {w u : Nat} {ds : List Nat} (h : HexI w u ds) (hu : 16 ≤ u) : HexI w (u / 16) (dgt (u % 16) :: ds) ∧ ds.length < 15 := by
 obtain ⟨f, h1, h2, h3, h4⟩ := h
 obtain ⟨f', rfl⟩ : ∃ f', f = f' + 1 := ⟨f - 1, by omega⟩
 have hf : 0 < f' := by
  rcases Nat.eq_zero_or_pos f' with e | e
  ·subst e; simp at h2; omega
  ·exact e
 refine ⟨⟨f', ?_, by rw [Nat.pow_succ] at h2; omega, by simp; omega, hf⟩, by omega⟩
 rw [h1, hexF, if_neg (by omega), List.append_assoc]; rfl
theorem HexI.done {w u : Nat} {ds : List Nat} (h : HexI w u ds) (hu : u < 16) : hexL w = dgt u :: ds ∧ ds.length ≤ 15 := by
 obtain ⟨f, h1, h2, h3, h4⟩ := h
 obtain ⟨f', rfl⟩ : ∃ f', f = f' + 1 := ⟨f - 1, by omega⟩
 refine ⟨?_, by omega⟩
 unfold hexL
 rw [h1, hexF, if_pos hu]; rfl
theorem HexI.le {w u : Nat} {ds : List Nat} (h : HexI w u ds) : u < 18446744073709551616 := by
 obtain ⟨f, h1, h2, h3, h4⟩ := h
 have : 16 ^ f ≤ 16 ^ 16 := Nat.pow_le_pow_right (by decide) (by omega)
 omega
def ArrI (cs : List Value) (ds : List Nat) : Prop := cs.length = 65 ∧ ∀ q (h : q < ds.length), cs[65 - ds.length + q]? = some (.int .u8 ((ds[q] : Nat) : Int))
theorem ArrI.put {cs : List Value} {ds : List Nat} {x : Nat} (h : ArrI cs ds) (hl : ds.length ≤ 15) : ArrI (putL cs (65 - ds.length - 1) [.int .u8 (x : Int)]) (x :: ds) := by
 obtain ⟨h1, h2⟩ := h
 have e : putL cs (65 - ds.length - 1) [Value.int .u8 (x : Int)] = cs.set (65 - ds.length - 1) (.int .u8 (x : Int)) := by
  rfl
 rw [e]
 refine ⟨by simp [h1], fun q hq => ?_⟩
 rw [List.length_cons] at hq ⊢
 cases q with
 | zero => rw [Nat.add_zero, show 65 - (ds.length + 1) = 65 - ds.length - 1 by omega, List.getElem?_set_self (by omega)]; rfl
 | succ q =>
  rw [List.getElem?_set_ne (by omega), show 65 - (ds.length + 1) + (q + 1) = 65 - ds.length + q by omega, h2 q (by omega)]
  simp
theorem ArrI.fin {cs : List Value} {ds L : List Nat} {x : Nat} (h : ArrI cs ds) (hl : ds.length ≤ 15) (hL : L = x :: ds) : ∀ q (hq : q < (byts L).length), ((putL cs (65 - ds.length - 1) [.int .u8 (x : Int)]).toArray)[65 - ds.length - 1 + q]? = some (byts L)[q] := by
 subst hL
 intro q hq
 have h9 := (h.put (x := x) hl).2 q (by simpa using hq)
 rw [show 65 - (x :: ds).length + q = 65 - ds.length - 1 + q by simp only [List.length_cons]; omega] at h9
 rw [List.getElem?_toArray, h9]
 refine congrArg some ?_
 show _ = (List.map (fun x : Nat => Value.int .u8 (x : Int)) (x :: ds))[q]
 rw [List.getElem_map]
theorem hexF_256 : ∀ f w, ∀ x ∈ hexF f w, x < 256
 | 0, w, x, h => by simp [hexF] at h
 | f + 1, w, x, h => by
  by_cases hw : w < 16
  ·rw [hexF_lt hw] at h
   have : x = dgt w := by simpa using h
   rw [this]; exact (dgt_lt w hw).1
  ·rw [hexF_ge hw] at h
   rcases List.mem_append.1 h with h | h
   ·exact hexF_256 f _ x h
   ·have : x = dgt (w % 16) := by simpa using h
    rw [this]; exact (dgt_lt _ (by omega)).1
def keyM (m : Nat) : List UInt8 := (hexL m ++ [32]).map UInt8.ofNat
theorem keyM_cells (m : Nat) : (byts [] ++ byts (hexL m)) ++ [Value.int .u8 32] = cells8 (keyM m) := by
 unfold cells8 keyM
 rw [List.map_map, List.map_append]
 refine congrArg (· ++ _) ?_
 refine List.map_congr_left fun x hx => ?_
 have := hexF_256 16 m x hx
 simp [UInt8.toNat_ofNat', Nat.mod_eq_of_lt this]
theorem keyM_len (m : Nat) : (keyM m).length = 0 + (hexL m).length + 1 := by simp [keyM]
theorem keyM_inj {a b : Nat} (ha : a < 18446744073709551616) (hb : b < 18446744073709551616) (h : keyM a = keyM b) : a = b := by
 have h1 : cells8 (keyM a) = cells8 (keyM b) := by rw [h]
 rw [← keyM_cells, ← keyM_cells] at h1
 have h2 := (List.append_inj' h1 rfl).1
 have h3 : byts (hexL a) = byts (hexL b) := h2
 refine hexL_inj ha hb ?_
 have inj : ∀ l m : List Nat, byts l = byts m → l = m := by
  intro l
  induction l with
  | nil => intro m h; cases m with | nil => rfl | cons _ _ => cases h
  | cons x l ih =>
   intro m h
   cases m with
   | nil => cases h
   | cons y m =>
    have e := List.cons.inj h
    have e1 : (x : Int) = (y : Int) := by injection e.1
    rw [ih m e.2, show x = y by omega]
 exact inj _ _ h3
end Go.Lx


namespace Go.Lx
open Go.RowKit
def rwN (d : DFA) (v i w : Nat) : List Int := (List.range (letN d)).map fun x => ((ix (pst d v w x) (psM d v i w (x + 1)) : Nat) : Int)
def rwP (d : DFA) (v i w x : Nat) : List Int := (List.range (letN d)).map fun y => if y < x then ((ix (pst d v w y) (psM d v i w (y + 1)) : Nat) : Int) else 0
theorem rwN_len (d : DFA) (v i w : Nat) : (rwN d v i w).length = letN d := by simp [rwN]
theorem rwP_len (d : DFA) (v i w x : Nat) : (rwP d v i w x).length = letN d := by simp [rwP]
theorem rwP_zero (d : DFA) (v i w : Nat) : List.replicate (letN d) (Value.int .i64 0) = ints (rwP d v i w 0) := by
 apply List.ext_getElem (by simp [rwP])
 intro n h1 h2
 simp [rwP]
theorem rwP_full (d : DFA) (v i w : Nat) : rwP d v i w (letN d) = rwN d v i w := by
 unfold rwP rwN
 exact List.map_congr_left fun y hy => by rw [if_pos (List.mem_range.1 hy)]
theorem rwP_set {d : DFA} {v i w x : Nat} (hx : x < letN d) : (rwP d v i w x).set x ((ix (pst d v w x) (psM d v i w (x + 1)) : Nat) : Int) = rwP d v i w (x + 1) := by
 apply List.ext_getElem (by simp [rwP])
 intro n h1 h2
 rw [List.getElem_set]
 simp only [rwP, List.getElem_map, List.getElem_range]
 by_cases e : x = n
 ·subst e; simp
 ·have e' : n < x + 1 ↔ n < x := by omega
  simp [e, e']
def pwA (d : DFA) (v i : Nat) : Nat := (psN d v i).getD i 0
theorem pwA_get {d : DFA} {v i : Nat} (h : i < (psN d v i).length) : (psN d v i)[i]? = some (pwA d v i) := by
 unfold pwA; rw [List.getD_eq_getElem?_getD, List.getElem?_eq_getElem h]; rfl
theorem psM_pre (d : DFA) (v i w : Nat) {a b : Nat} (h : a ≤ b) : psM d v i w a <+: psM d v i w b := by
 induction h with
 | refl => exact List.prefix_rfl
 | step _ ih => exact ih.trans (by rw [psM_step]; exact add_prefix _ _)
theorem psM_mem (d : DFA) (v i w x : Nat) : pst d v w x ∈ psM d v i w (x + 1) := by rw [psM_step]; exact mem_add.2 (.inr rfl)
theorem psM_gd {d : DFA} (hv : Val d) (hn : d.next.length ≤ 64) {v : Nat} (hvv : v < d.vars.toNat) {i w : Nat} (hw : Gd d w) : ∀ x, x ≤ letN d → ∀ q ∈ psM d v i w x, Gd d q
 | 0, _, q, hq => psN_gd hv hn hvv i q hq
 | x + 1, hx, q, hq => by
  rw [psM_step] at hq
  rcases mem_add.1 hq with h | rfl
  ·exact psM_gd hv hn hvv hw x (by omega) q h
  ·exact hw.step hv hn hvv (by omega)
theorem psM_len (d : DFA) (v i w : Nat) : ∀ x, (psM d v i w x).length ≤ (psN d v i).length + x
 | 0 => Nat.le_refl _
 | x + 1 => by
  have := psM_len d v i w x
  rw [psM_step]; unfold add; split
  ·omega
  ·rw [List.length_append, List.length_singleton]; omega
def pdN (d : DFA) (v i : Nat) : DFA := ⟨d.vars, 0, (List.range i).map fun j => rwN d v j (pwA d v j), (List.range i).map fun j => (elN (pwA d v j)).any (finN d)⟩
theorem pdN_next (d : DFA) (v i : Nat) : (pdN d v (i + 1)).next = (pdN d v i).next ++ [rwN d v i (pwA d v i)] := by simp [pdN, List.range_succ]
theorem pdN_final (d : DFA) (v i : Nat) : (pdN d v (i + 1)).final = (pdN d v i).final ++ [(elN (pwA d v i)).any (finN d)] := by simp [pdN, List.range_succ]
theorem pdN_nl (d : DFA) (v i : Nat) : (pdN d v i).next.length = i := by simp [pdN]
theorem pdN_fl (d : DFA) (v i : Nat) : (pdN d v i).final.length = i := by simp [pdN]
theorem pdN_end {d : DFA} {v i : Nat} (h : (psN d v i).length = i) : pdN d v i = exM d v (psN d v i) := by
 have hlt : ∀ j, j < i → j < (psN d v j).length := fun j hj => by
  rcases Nat.lt_or_ge j (psN d v j).length with h1 | h1
  ·exact h1
  ·have := gq_stop (psuc d v) (2 ^ d.start.toNat) (i := j) h1 i (by omega)
   rw [show gq (psuc d v) (2 ^ d.start.toNat) i = psN d v i from rfl, show gq (psuc d v) (2 ^ d.start.toNat) j = psN d v j from rfl] at this
   rw [this] at h; omega
 have hat : ∀ j (hj : j < i), (psN d v i)[j]'(by omega) = pwA d v j := fun j hj => by
  obtain ⟨r, hr⟩ := gq_pre (psuc d v) (2 ^ d.start.toNat) (i := j) (m := i) (by omega)
  have h1 := pwA_get (hlt j hj)
  have h2 : (psN d v i)[j]? = (psN d v j)[j]? := by
   show (gq (psuc d v) (2 ^ d.start.toNat) i)[j]? = _
   rw [← hr, List.getElem?_append_left (hlt j hj)]
  rw [h1, List.getElem?_eq_getElem (by omega)] at h2
  exact Option.some.inj h2
 unfold pdN exM
 congr 1
 ·apply List.ext_getElem (by simp [h])
  intro j h1 h2
  have hj : j < i := by simpa using h1
  simp only [List.getElem_map, List.getElem_range]
  rw [hat j hj]
  unfold rwN
  refine List.map_congr_left fun x hx => ?_
  have hx := List.mem_range.1 hx
  refine congrArg (fun n : Nat => (n : Int)) (ix_prefix ?_ (psM_mem d v j _ x)).symm
  refine (psM_pre d v j _ (show x + 1 ≤ letN d by omega)).trans ?_
  rw [psM_full (pwA_get (hlt j hj))]
  exact gq_pre (psuc d v) (2 ^ d.start.toNat) (by omega)
 ·apply List.ext_getElem (by simp [h])
  intro j h1 h2
  have hj : j < i := by simpa using h1
  simp only [List.getElem_map, List.getElem_range]
  rw [hat j hj]
theorem keyL_mem {l : List Nat} {a : Nat} (hl : ∀ q ∈ l, q < 18446744073709551616) (ha : a < 18446744073709551616) : keyM a ∈ l.map keyM ↔ a ∈ l := by
 rw [List.mem_map]
 exact ⟨fun ⟨q, hq, e⟩ => keyM_inj (hl q hq) ha e ▸ hq, fun h => ⟨a, h, rfl⟩⟩
theorem keyL_ix {a : Nat} (ha : a < 18446744073709551616) : ∀ {l : List Nat}, (∀ q ∈ l, q < 18446744073709551616) → ix (keyM a) (l.map keyM) = ix a l
 | [], _ => rfl
 | q :: l, hl => by
  have ih := keyL_ix ha (l := l) fun x hx => hl x (List.mem_cons_of_mem _ hx)
  rw [List.map_cons, ix, ix]
  by_cases e : q = a
  ·subst e; simp
  ·have : ¬ keyM a = keyM q := fun h => e (keyM_inj (hl q (by simp)) ha h.symm)
   have e2 : ¬ a = q := fun h => e h.symm
   simp [e2, this, ih]
theorem keyL_look {l : List Nat} {a : Nat} (hl : ∀ q ∈ l, q < 18446744073709551616) (ha : a < 18446744073709551616) : lookL (keyM a) ((l.map keyM).zipIdx) = if a ∈ l then some (ix a l) else none := by
 rw [look_zip, keyL_ix ha hl]
 by_cases h : a ∈ l
 ·rw [if_pos h, if_pos ((keyL_mem hl ha).2 h), Nat.zero_add]
 ·rw [if_neg h, if_neg fun e => h ((keyL_mem hl ha).1 e)]
abbrev keyZ (l : List Nat) : List (List UInt8 × Nat) := (l.map keyM).zipIdx
def lkN (y : Nat) (l : List Nat) : Nat := if y ∈ l then ix y l else 0
theorem keyL_snoc (l : List Nat) (a : Nat) : keyZ (l ++ [a]) = keyZ l ++ [(keyM a, l.length)] := by
 unfold keyZ
 rw [List.map_append, List.zipIdx_append]; simp
theorem keyL_new {l : List Nat} {a : Nat} (hl : ∀ q ∈ l, q < 18446744073709551616) (ha : a < 18446744073709551616) (h : a ∉ l) : keyM a ∉ (keyZ l).map Prod.fst := by
 rw [zipIdx_fst]; exact fun e => h ((keyL_mem hl ha).1 e)
theorem mOf_one (s : Nat) : mOf [s] = 2 ^ s := by simp [mOf]
theorem any_step {α : Type} {l : List α} {j : Nat} {s : α} {f : α → Bool} (h : l[j]? = some s) : (l.take (j + 1)).any f = ((l.take j).any f || f s) := by
 obtain ⟨hj, rfl⟩ := List.getElem?_eq_some_iff.1 h
 rw [List.take_succ_eq_append_getElem hj, List.any_append]; simp
structure SRec where
 b : Option Addr
 c : Nat
 w : Nat
def SRec.val (q : SRec) : Value := .slice q.b 1 1
def SRec.itm (E : TypeId) (q : SRec) : Item := rowI q.b q.c E 1 (uns [q.w])
abbrev svals (qs : List SRec) : List Value := qs.map SRec.val
abbrev sitms (E : TypeId) (qs : List SRec) : List Item := qs.map (SRec.itm E)
theorem svals_at {us : List SRec} {n : Nat} {q : SRec} (h : us[n]? = some q) : (svals us)[n]? = some (.slice q.b 1 1) := by rw [List.getElem?_map, h]; rfl
def setI (ST E : TypeId) (sb : Option Addr) (sc : Nat) (us : List SRec) : Item := packI True (rowI sb sc ST 1 (svals us) :: sitms E us)
theorem setO {base : World} {O : List Item} {ST E : TypeId} {sb : Option Addr} {sc : Nat} {us : List SRec} (h : setI ST E sb sc us ∈ O) : ∀ w, Inv base O w → Sl w sb (svals us) := fun w hI => by
 have h0 := (hI.holds _ h).2 (rowI sb sc ST 1 (svals us)) (by simp)
 exact rowP.sl h0
theorem setQ {base : World} {O : List Item} {ST E : TypeId} {sb : Option Addr} {sc : Nat} {us : List SRec} {n : Nat} {q : SRec} (h : setI ST E sb sc us ∈ O) (hq : us[n]? = some q) : ∀ w, Inv base O w → Sl w q.b (uns [q.w]) := fun w hI => by
 have h0 := (hI.holds _ h).2 (q.itm E) (List.mem_cons_of_mem _ (List.mem_map_of_mem (List.mem_of_getElem? hq)))
 exact rowP.sl h0
theorem setQ_at {us : List SRec} {l : List Nat} (h : us.map SRec.w = l) {n : Nat} {w : Nat} (hw : l[n]? = some w) : ∃ q, us[n]? = some q ∧ q.w = w := by
 rw [← h, List.getElem?_map] at hw
 cases hq : us[n]? with
 | none => rw [hq] at hw; cases hw
 | some q => rw [hq] at hw; exact ⟨q, rfl, Option.some.inj hw⟩
def toL (d : DFA) (v : Nat) (l : List Nat) (x : Nat) : List Nat := l.flatMap fun s => [toN d s (c0 v x), toN d s (c1 v x)]
theorem toL_snoc (d : DFA) (v : Nat) (l : List Nat) (s x : Nat) : toL d v (l ++ [s]) x = toL d v l x ++ [toN d s (c0 v x)] ++ [toN d s (c1 v x)] := by simp [toL]
theorem toL_len (d : DFA) (v : Nat) (l : List Nat) (x : Nat) : (toL d v l x).length = 2 * l.length := by
 induction l with
 | nil => rfl
 | cons a l ih => simp only [toL, List.flatMap_cons, List.length_append, List.length_cons, List.length_nil] at ih ⊢; omega
theorem pst_toL (d : DFA) (v w x : Nat) : mOf (toL d v (elN w) x) = pst d v w x := rfl
def toJ (d : DFA) (v : Nat) (l : List Nat) (s x i : Nat) : List Nat := toL d v l x ++ [toN d s (c0 v x), toN d s (c1 v x)].take i
theorem toJ_zero (d : DFA) (v : Nat) (l : List Nat) (s x : Nat) : toJ d v l s x 0 = toL d v l x := by simp [toJ]
theorem toJ_step {d : DFA} {v : Nat} {l : List Nat} {s x i y : Nat} (h : i = 0 ∧ y = c0 v x ∨ i = 1 ∧ y = c1 v x) : toJ d v l s x i ++ [toN d s y] = toJ d v l s x (i + 1) := by
 rcases h with ⟨rfl, rfl⟩ | ⟨rfl, rfl⟩ <;> simp [toJ]
theorem toJ_two {d : DFA} {v : Nat} {l : List Nat} {s x j : Nat} (h : l[j]? = some s) : toJ d v (l.take j) s x 2 = toL d v (l.take (j + 1)) x := by
 obtain ⟨hj, rfl⟩ := List.getElem?_eq_some_iff.1 h
 rw [List.take_succ_eq_append_getElem hj, toL_snoc]; simp [toJ]
theorem toJ_len {d : DFA} {v : Nat} {l : List Nat} {s x i : Nat} (h : i ≤ 2) : (toJ d v l s x i).length = 2 * l.length + i := by
 unfold toJ; rw [List.length_append, toL_len, List.length_take]; simp; omega
theorem Gd.toL {d : DFA} (hv : Val d) {v w x : Nat} (hvv : v < d.vars.toNat) (h : Gd d w) (hx : x < letN d) (hn : d.next.length ≤ 64) : (∀ q ∈ toL d v (elN w) x, q < 64) ∧ Lx.toL d v (elN w) x ≠ [] := by
 refine ⟨fun q hq => ?_, fun e => ?_⟩
 ·obtain ⟨s, hs, hq⟩ := List.mem_flatMap.1 hq
  simp only [List.mem_cons, List.not_mem_nil, or_false] at hq
  have h0 : c0 v x < letN d := c0_lt hx
  have h1 : c1 v x < letN d := c1_lt (letN6 hv) hvv hx
  rcases hq with rfl | rfl
  ·have := (hv.toN_lt (h.st hs) h0).1; omega
  ·have := (hv.toN_lt (h.st hs) h1).1; omega
 ·have h2 := toL_len d v (elN w) x
  rw [e] at h2
  have := List.length_pos_iff.2 (h.ne hn)
  simp at h2; omega
end Go.Lx


namespace Go.Lx
theorem ign_no {m : DFA} {v s x y : Nat} (hv : v < m.vars.toNat) (h6 : m.vars.toNat ≤ 6) (hs : s < m.next.length) (hx : x < letN m) (hy : y = c0 v x ∨ y = c1 v x) (hne : toN m s y ≠ toN m s x) : ignB m v = false := by
 cases hb : ignB m v with
 | false => rfl
 | true =>
  have hi := ignB_iff.1 hb s hs
  have hx64 : x < 64 := by
   have : 2 ^ m.vars.toNat ≤ 2 ^ 6 := Nat.pow_le_pow_right (by decide) h6
   unfold letN at hx; omega
  rcases hy with rfl | rfl
  ·exact absurd (hi x hx) hne
  ·have h1 := hi _ (c1_lt h6 hv hx)
   rw [(c00 v (by omega) x hx64).2.1, hi x hx] at h1
   exact absurd h1.symm hne
theorem ign_yes {m : DFA} {v : Nat} (h : ∀ s, s < m.next.length → ∀ x, x < letN m → toN m s (c0 v x) = toN m s x) : ignB m v = true := ignB_iff.2 h
theorem igV_bad {d : DFA} {v : Int} (h : vE d v ≠ 0) : igV d v = false := by unfold igV; rw [decide_eq_false h]; rfl
theorem igV_ok {d : DFA} {v : Int} (h : vE d v = 0) : igV d v = ignB (minD d) v.toNat := by unfold igV; rw [decide_eq_true h]; rfl
theorem notV_eq {d : DFA} : opV notB d d = minV (flipD d) := by
 by_cases h : checkD d = 0
 ·have hv := checkD_zero.1 h
  rw [minV_valid (flip_valid hv), opV_ok (wrongD_zero.2 ⟨hv, hv, rfl⟩)]
  refine (opD_ofW hv.toVal hv.toVal rfl (flip_val hv.toVal) rfl fun w hw => ?_).symm
  rw [flip_acc hv.toVal hw]
  cases acc d w <;> rfl
 ·have h2 : checkD (flipD d) ≠ 0 := fun e => h (by
   have hv := checkD_zero.1 e
   exact checkD_zero.2 ⟨⟨hv.v0, hv.v6, hv.n0, by have := hv.fin; simpa [flipD] using this, hv.s0, hv.s1, hv.len, hv.ok⟩, hv.n4⟩)
  rw [opV_bad (by rw [wrongD_self]; exact h)]
  unfold minV; rw [if_neg h2]; rfl
theorem alE_bad {d : DFA} {v B : Int} (h : checkD d ≠ 0) : alE d v B = checkD d ∧ alV d v B = noD := by
 have e : alE d v B = checkD d := by unfold alE; rw [if_pos h]
 exact ⟨e, by unfold alV; rw [if_neg (by rw [e]; exact h)]⟩
theorem alE_val {d : DFA} (hv : Valid d) {v B : Int} : alE d v B = xsE (minD (flipD d)) v B := by unfold alE; rw [if_neg (by rw [checkD_zero.2 hv]; decide)]
theorem xsV_valid {d : DFA} (hn : d.next.length ≤ 64) {v B : Int} (he : xsE d v B = 0) : Valid (xsV d v B) ∧ (xsV d v B).next.length ≤ 4096 := by
 obtain ⟨h1, h2, h3, h4⟩ := xsE_zero he
 obtain ⟨hv, _, _⟩ := vE_zero.1 h1
 have hm := MinL.xsV (HasL.of hv (Nat.le_refl _)) hn he
 exact ⟨hm.valid, hm.valid.n4⟩
theorem drE_bad {d : DFA} {v : Int} (h : vE d v ≠ 0) : drE d v = vE d v ∧ drV d v = noD := by
 have e : drE d v = vE d v := by unfold drE; rw [if_pos h]
 exact ⟨e, by unfold drV; rw [if_neg (by rw [e]; exact h)]⟩
theorem drE_no {d : DFA} {v : Int} (h : vE d v = 0) (hi : igV d v = false) : drE d v = 7 ∧ drV d v = noD := by
 have e : drE d v = 7 := by unfold drE; rw [if_neg (by omega), hi]; rfl
 exact ⟨e, by unfold drV; rw [if_neg (by omega)]⟩
theorem drE_ok {d : DFA} {v : Int} (h : vE d v = 0) (hi : igV d v = true) : drE d v = 0 ∧ drV d v = minD (reD d (d.vars - 1) (drp v.toNat)) := by
 have e : drE d v = 0 := by unfold drE; rw [if_neg (by omega), hi]; rfl
 exact ⟨e, by unfold drV; rw [if_pos e]⟩
theorem sortZ_len (l : List Int) : (sortZ l).length = l.length := List.length_mergeSort l
theorem upTo_at {n i : Nat} (h : i < n) : (upTo n)[i]? = some (i : Int) := by unfold upTo; rw [List.getElem?_map, List.getElem?_range h]; rfl
theorem sort_ne {l : List Int} {i : Nat} {x : Int} (hi : i < l.length) (h : (sortZ l)[i]? = some x) (hx : x ≠ (i : Int)) : sortZ l ≠ upTo l.length := fun e => by
 rw [e, upTo_at hi] at h
 exact hx (Option.some.inj h).symm
theorem sort_eq {l : List Int} (h : ∀ j, j < l.length → (sortZ l)[j]? = some (j : Int)) : sortZ l = upTo l.length := by
 apply List.ext_getElem?
 intro j
 by_cases hj : j < l.length
 ·rw [h j hj, upTo_at hj]
 ·rw [List.getElem?_eq_none (by rw [sortZ_len]; omega), List.getElem?_eq_none (by simp [upTo]; omega)]
theorem rn_no {d : DFA} (hv : Valid d) {l : List Int} (h : sortZ l ≠ upTo l.length ∨ (l.length : Int) ≠ d.vars) : rnE d l = 7 ∧ rnV d l = noD := by
 have hp : permB l d.vars = false := by
  cases hb : permB l d.vars with
  | false => rfl
  | true =>
   unfold permB at hb
   rw [Bool.and_eq_true, decide_eq_true_eq, decide_eq_true_eq] at hb
   rcases h with h | h
   ·exact absurd hb.2 h
   ·exact absurd hb.1 h
 have e : rnE d l = 7 := by unfold rnE; rw [checkD_zero.2 hv, if_neg (by decide), hp]; rfl
 exact ⟨e, by unfold rnV; rw [if_neg (by omega)]⟩
theorem rn_yes {d : DFA} (hv : Valid d) {l : List Int} (h : sortZ l = upTo l.length) (h2 : (l.length : Int) = d.vars) : rnE d l = 0 ∧ rnV d l = minD (reD d d.vars fun y => imF (natL l) y l.length) ∧ PermN (natL l) l.length ∧ ints l = intN (natL l) := by
 have hp : permB l d.vars = true := by unfold permB; rw [decide_eq_true h2, decide_eq_true h]; rfl
 have e : rnE d l = 0 := by unfold rnE; rw [checkD_zero.2 hv, if_neg (by decide), if_pos hp]
 have hz := (sort_iff.1 h).nat
 refine ⟨e, by unfold rnV; rw [if_pos e], hz.1, ?_⟩
 conv => lhs; rw [hz.2]
 simp [List.map_map]
theorem rn_bad {d : DFA} {l : List Int} (h : checkD d ≠ 0) : rnE d l = checkD d ∧ rnV d l = noD := by
 have e : rnE d l = checkD d := by unfold rnE; rw [if_pos h]
 exact ⟨e, by unfold rnV; rw [if_neg (by rw [e]; exact h)]⟩
theorem natL_len (l : List Int) : (natL l).length = l.length := by simp [natL]
end Go.Lx


namespace Go.Lx
def zL (l : List Nat) : List Int := l.map fun q : Nat => (q : Int)
theorem ints_zL (l : List Nat) : ints (zL l) = intN l := by simp [zL, List.map_map]
theorem zL_len (l : List Nat) : (zL l).length = l.length := by simp [zL]
theorem zL_mem {l : List Nat} {q : Nat} : (q : Int) ∈ zL l ↔ q ∈ l := by
 unfold zL; rw [List.mem_map]
 exact ⟨fun ⟨x, hx, e⟩ => by rw [show q = x by omega]; exact hx, fun h => ⟨q, h, rfl⟩⟩
theorem zL_inj : ∀ {l m : List Nat}, zL l = zL m → l = m
 | [], [], _ => rfl
 | [], _ :: _, h => by simp [zL] at h
 | _ :: _, [], h => by simp [zL] at h
 | a :: l, b :: m, h => by
  have h' := List.cons.inj h
  have h1 : (a : Int) = (b : Int) := h'.1
  rw [zL_inj (l := l) (m := m) h'.2, show a = b by omega]
theorem zL_at {l : List Nat} {i s : Nat} (h : l[i]? = some s) : (ints (zL l))[i]? = some (.int .i64 (s : Int)) := by rw [ints_zL]; exact intN_at h
abbrev elZ (w : Nat) : List Int := zL (elN w)
theorem elZ_inj {w u : Nat} (hw : w < 2 ^ 64) (hu : u < 2 ^ 64) (h : elZ w = elZ u) : w = u := elN_inj hw hu (zL_inj h)
theorem elZ_len (w : Nat) : (elZ w).length ≤ 64 := by rw [zL_len]; exact elN_len w
def hitB (a : DFA) (v x q s : Nat) : Bool := decide (toN a s (c0 v x) = q ∨ toN a s (c1 v x) = q)
def stB (a : DFA) (v x W q i : Nat) : Bool := ((elN W).take i).any (hitB a v x q)
def loF (Y q : Nat) : List Nat := (List.range q).filter (Y.testBit ·)
def stL (a : DFA) (v x W q i : Nat) : List Nat := loF (pst a v W x) q ++ if stB a v x W q i = true then [q] else []
theorem loF_lt {Y q y : Nat} (h : y ∈ loF Y q) : y < q := List.mem_range.1 (List.mem_filter.1 h).1
theorem loF_len (Y q : Nat) : (loF Y q).length ≤ q := by
 have := List.length_filter_le (Y.testBit ·) (List.range q)
 rw [List.length_range] at this; exact this
theorem stL_zero (a : DFA) (v x W q : Nat) : stL a v x W q 0 = loF (pst a v W x) q := by simp [stL, stB]
theorem stL_len (a : DFA) (v x W q i : Nat) : (stL a v x W q i).length ≤ q + 1 := by
 have := loF_len (pst a v W x) q
 unfold stL; rw [List.length_append]; split <;> simp <;> omega
theorem stL_mem {a : DFA} {v x W q i : Nat} : q ∈ stL a v x W q i ↔ stB a v x W q i = true := by
 unfold stL; rw [List.mem_append]
 constructor
 ·rintro (h | h)
  ·exact absurd (loF_lt h) (by omega)
  ·split at h
   ·assumption
   ·cases h
 ·intro h; right; rw [if_pos h]; simp
theorem stB_step {a : DFA} {v x W q i s : Nat} (h : (elN W)[i]? = some s) : stB a v x W q (i + 1) = (stB a v x W q i || hitB a v x q s) := any_step h
theorem stL_put {a : DFA} {v x W q i s : Nat} (h : (elN W)[i]? = some s) (hh : toN a s (c0 v x) = q ∨ toN a s (c1 v x) = q) (hn : q ∉ stL a v x W q i) : stL a v x W q (i + 1) = stL a v x W q i ++ [q] := by
 have h1 : stB a v x W q i = false := by
  cases hb : stB a v x W q i with
  | false => rfl
  | true => exact absurd (stL_mem.2 hb) hn
 have h2 : stB a v x W q (i + 1) = true := by rw [stB_step h, h1]; unfold hitB; rw [decide_eq_true hh]; rfl
 unfold stL
 rw [h1, h2]; simp
theorem stL_old {a : DFA} {v x W q i s : Nat} (h : (elN W)[i]? = some s) (hn : q ∈ stL a v x W q i ∨ ¬ (toN a s (c0 v x) = q ∨ toN a s (c1 v x) = q)) : stL a v x W q (i + 1) = stL a v x W q i := by
 have e : stB a v x W q (i + 1) = stB a v x W q i := by
  rw [stB_step h]
  rcases hn with hn | hn
  ·rw [stL_mem.1 hn]; rfl
  ·unfold hitB; rw [decide_eq_false hn, Bool.or_false]
 unfold stL; rw [e]
theorem stL_full (a : DFA) (v x W q : Nat) : stL a v x W q (elN W).length = loF (pst a v W x) (q + 1) := by
 have e : stB a v x W q (elN W).length = (pst a v W x).testBit q := by
  unfold stB
  rw [List.take_of_length_le (Nat.le_refl _), Bool.eq_iff_iff, List.any_eq_true, mem_pst]
  constructor
  ·rintro ⟨s, hs, h⟩
   exact ⟨s, hs, by rcases of_decide_eq_true h with h | h <;> simp [h]⟩
  ·rintro ⟨s, hs, h⟩
   exact ⟨s, hs, decide_eq_true (by rcases h with h | h <;> simp [h])⟩
 unfold stL loF
 rw [e, List.range_succ, List.filter_append]
 congr 1
 cases hb : (pst a v W x).testBit q <;> simp [hb]
theorem loF_full {Y n : Nat} (h : Y < 2 ^ n) (hn : n ≤ 64) : loF Y n = elN Y := by
 have e : elN Y = (List.range (n + (64 - n))).filter (Y.testBit ·) := by unfold elN; congr 2; omega
 rw [e, List.range_add, List.filter_append]
 have h2 : ((List.range (64 - n)).map (n + ·)).filter (Y.testBit ·) = [] := by
  rw [List.filter_eq_nil_iff]
  intro q hq
  obtain ⟨y, _, rfl⟩ := List.mem_map.1 hq
  rw [Nat.testBit_lt_two_pow (Nat.lt_of_lt_of_le h (Nat.pow_le_pow_right (by decide) (by omega)))]
  decide
 rw [h2, List.append_nil]; rfl
theorem fd_mem {l : List Nat} {y : Nat} (hl : ∀ q ∈ l, q < 2 ^ 64) (hy : y < 2 ^ 64) : elZ y ∈ l.map elZ ↔ y ∈ l := by
 rw [List.mem_map]
 exact ⟨fun ⟨q, hq, e⟩ => elZ_inj (hl q hq) hy e ▸ hq, fun h => ⟨y, h, rfl⟩⟩
theorem fd_ix {y : Nat} (hy : y < 2 ^ 64) : ∀ {l : List Nat}, (∀ q ∈ l, q < 2 ^ 64) → ix (elZ y) (l.map elZ) = ix y l
 | [], _ => rfl
 | q :: l, hl => by
  have ih := fd_ix hy (l := l) fun x hx => hl x (List.mem_cons_of_mem _ hx)
  rw [List.map_cons, ix, ix]
  by_cases e : q = y
  ·subst e; simp
  ·have h1 : ¬ elZ y = elZ q := fun h => e (elZ_inj (hl q (by simp)) hy h.symm)
   have h2 : ¬ y = q := fun h => e h.symm
   simp only [if_neg h1, if_neg h2, ih]
theorem fd_yes {l : List Nat} {y : Nat} (hl : ∀ q ∈ l, q < 2 ^ 64) (hy : y < 2 ^ 64) (h : y ∈ l) : fdN (elZ y) (l.map elZ) = ((ix y l : Nat) : Int) := by
 unfold fdN; rw [if_pos ((fd_mem hl hy).2 h), fd_ix hy hl]
theorem fd_no {l : List Nat} {y : Nat} (hl : ∀ q ∈ l, q < 2 ^ 64) (hy : y < 2 ^ 64) (h : y ∉ l) : fdN (elZ y) (l.map elZ) = -1 := by
 unfold fdN; rw [if_neg fun e => h ((fd_mem hl hy).1 e)]
theorem elN_two : ∀ s, s < 64 → elN (2 ^ s) = [s] := by decide +kernel
def rwX (d : DFA) (v i W x : Nat) : List Int := (List.range x).map fun y => ((ix (pst d v W y) (psM d v i W (y + 1)) : Nat) : Int)
theorem rwX_len (d : DFA) (v i W x : Nat) : (rwX d v i W x).length = x := by simp [rwX]
theorem rwX_snoc (d : DFA) (v i W x : Nat) : rwX d v i W (x + 1) = rwX d v i W x ++ [((ix (pst d v W x) (psM d v i W (x + 1)) : Nat) : Int)] := by simp [rwX, List.range_succ]
theorem rwX_full (d : DFA) (v i W : Nat) : rwX d v i W (letN d) = rwN d v i W := rfl
theorem psM_at {d : DFA} {v i W x : Nat} (h : (psN d v i)[i]? = some W) : (psM d v i W x)[i]? = some W := by
 obtain ⟨r, hr⟩ := psM_pre d v i W (Nat.zero_le x)
 have hl : i < (psN d v i).length := (List.getElem?_eq_some_iff.1 h).1
 rw [← hr, List.getElem?_append_left (by exact hl)]; exact h
def rsI (II I : TypeId) (sb : Option Addr) (sc : Nat) (us : List Rec) : Item := packI True (rowI sb sc II 1 (vals us) :: itms I us)
theorem rsO {base : World} {O : List Item} {II I : TypeId} {sb : Option Addr} {sc : Nat} {us : List Rec} (h : rsI II I sb sc us ∈ O) : ∀ w, Inv base O w → Sl w sb (vals us) := fun w hI => by
 have h0 := (hI.holds _ h).2 (rowI sb sc II 1 (vals us)) (by simp)
 exact rowP.sl h0
theorem rsQ {base : World} {O : List Item} {II I : TypeId} {sb : Option Addr} {sc : Nat} {us : List Rec} {n : Nat} {q : Rec} {xs : List Int} (h : rsI II I sb sc us ∈ O) (hq : us[n]? = some q) (hx : q.xs = xs) : ∀ w, Inv base O w → Sl w q.b (ints xs) := fun w hI => by
 subst hx
 have h0 := (hI.holds _ h).2 (q.itm I) (List.mem_cons_of_mem _ (List.mem_map_of_mem (List.mem_of_getElem? hq)))
 exact rowP.sl h0
theorem rsR {base : World} {O : List Item} {II I : TypeId} {sb : Option Addr} {sc : Nat} {us : List Rec} (h : rsI II I sb sc us ∈ O) : ∀ w, Inv base O w → RowsR w (vals us) (nums us) := fun w hI => by
 refine ⟨by simp, fun i x hx => ?_⟩
 rw [List.getElem?_map] at hx
 obtain ⟨q, hq, rfl⟩ := Option.map_eq_some_iff.1 hx
 exact ⟨q.b, q.c, by rw [List.getElem?_map, hq]; rfl, rsQ h hq rfl w hI⟩
theorem rs_at {us : List Rec} {l : List Nat} (h : nums us = l.map elZ) {n W : Nat} (hw : l[n]? = some W) : ∃ q, us[n]? = some q ∧ q.xs = elZ W := by
 have h2 : (nums us)[n]? = some (elZ W) := by rw [h, List.getElem?_map, hw]; rfl
 rw [List.getElem?_map] at h2
 cases hq : us[n]? with
 | none => rw [hq] at h2; cases h2
 | some q => rw [hq] at h2; exact ⟨q, rfl, Option.some.inj h2⟩
theorem rs_val {us : List Rec} {n : Nat} {q : Rec} {xs : List Int} (h : us[n]? = some q) (hx : q.xs = xs) : (vals us)[n]? = some (.slice q.b xs.length q.c) := by subst hx; exact rvals_at h
end Go.Lx


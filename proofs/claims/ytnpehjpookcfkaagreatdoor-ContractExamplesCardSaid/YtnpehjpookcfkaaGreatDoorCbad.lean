/- Contracts of functions of the program (R17, Over, P8, R41, Cbad): what each call answers and that it leaves memory as it was. Conditions: those each theorem names. -/
import Derived.Test.YtnpehjpookcfkaaGreatDoorCoreK
import Derived.Test.YtnpehjpookcfkaaGreatDoorAll
import Derived.Test.YtnpehjpookcfkaaGreatDoorCmb
import Derived.Test.YtnpehjpookcfkaaGreatDoorC2
import Derived.Test.YtnpehjpookcfkaaGreatDoorBol7
set_option linter.unusedSectionVars false
set_option linter.unusedSimpArgs false
set_option linter.unusedVariables false
set_option linter.unnecessarySimpa false
set_option maxHeartbeats 8000000
set_option maxRecDepth 20000
namespace Go.Proofs.YtnpehjpookcfkaaGreatDoor
open Go.Lx Go.RowKit _root_.Go.Proofs.Tryz
theorem combR (w : World) [Tab Tryz.prog w] (f : Bool → Bool → Bool) (op : Nat) (hop : (op = 10 ∧ f = andB) ∨ (op = 11 ∧ f = orB)) (a b : DFA) (j k : DK) (ha : At w a j) (hb : At w b k) (va : Valid a) (vb : Valid b) (hv : a.vars = b.vars) (hN : (order (prodD f a b)).length ≤ 4096) {M : DFA} (hM : opD f a b = M) :
  PureT Tryz.prog 77 [dV a j, dV b k, .int .u8 (op : Int)] w fun v N => ∃ k' : DK, v = .tuple #[dV M k', .int .i64 0] ∧ N = [dI 48 4 3 M k'] := by
 refine CallT.enter func77 rfl ntmps77 rfl ?_
 have hop9 : op = 10 ∨ op = 11 := hop.elim (fun h => .inl h.1) (fun h => .inr h.1)
 have h4 : a.next.length * b.next.length ≤ 4096 * 4096 := Nat.mul_le_mul va.n4 vb.n4
 have ha1 := ha.rows.1
 have hb1 := hb.rows.1
 have hsa : a.start = ((a.start.toNat : Nat) : Int) := (Int.toNat_of_nonneg va.s0).symm
 have hsb : b.start = ((b.start.toNat : Nat) : Int) := (Int.toNat_of_nonneg vb.s0).symm
 have hla := start_lt va.toVal
 have hlb := start_lt vb.toVal
 have hc0 : (a.start.toNat * b.next.length + b.start.toNat) < a.next.length * b.next.length := pr_lt hla hlb
 have hpd := pr_div (s := a.start.toNat) hlb
 have hww : letN a ≤ 64 := va.width
 have hafin := va.fin
 have hbfin := vb.fin
 have vR := renum_fit (prod_val (f := f) va.toVal vb.toVal hv) hN
 have hst1 : putL (List.replicate (a.next.length * b.next.length) (.int .i64 0)) (a.start.toNat * b.next.length + b.start.toNat) [.int .i64 1] = ints (nmL (a.next.length * b.next.length) [(a.start.toNat * b.next.length + b.start.toNat)]) := by
  rw [← nmL_zero]
  show _ = ints (nmL (a.next.length * b.next.length) ([] ++ [(a.start.toNat * b.next.length + b.start.toNat)]))
  rw [← nmL_add hc0 (by simp)]
  simp [putL]
 refine T.s (T.rg (TO.l rfl (l_box (v := (dV a j)) (cs := (dC a j)) rfl rfl (fun z1 => ?_))))
 refine TO.l rfl (l_box (v := (dV b k)) (cs := (dC b k)) rfl rfl (fun z2 => ?_))
 refine TO.l rfl (l_alloc inf25 rfl (fun z3 => ?_))
 refine TO.qa rfl (TO.nl (T.s (T.rg (TO.q (q_fa uT25 rfl inf22 rfl rfl) (TO.q (q_lb 2 uT22 rfl rfl rfl rfl) (TO.q (q_len uT22 rfl) (TO.q (q_fa uT25 rfl inf22 rfl rfl) (TO.q (q_lb 1 uT22 rfl rfl rfl rfl) (TO.q (q_len uT22 rfl) (TO.q (q_mulN (a := a.next.length) (b := b.next.length) rfl rfl (by omega)) (TO.l rfl (l_makeSlice (m := a.next.length * b.next.length) uT48 inf3 rfl rfl (by omega) (by omega) (fun z4 => ?_)))))))))))))
 refine TO.qa rfl (TO.nl (T.s (T.rg (TO.q (q_fa uT25 rfl inf3 rfl rfl) (TO.q (q_lb 3 uT3 rfl rfl rfl rfl) (TO.q (q_fa uT25 rfl inf3 rfl rfl) (TO.q (q_lb 2 uT3 rfl rfl rfl rfl) (TO.q (q_buildA (cs := [(.int .i64 a.start), (.int .i64 b.start)]) uT123 inf3 inf123 (by kernel_rfl)) (TO.l rfl (l_buildSlice (m := 1) (parts := [(0, _)]) (cs := [(.int .i64 a.start), (.int .i64 b.start)]) uT124 inf123 (by decide) (by kernel_rfl) rfl (fun z5 => ?_)))))))))))
 refine TO.qa rfl (TO.nl (T.s (T.rg (TO.qm rfl (TO.q (q_fa uT25 rfl inf3 rfl rfl) (TO.q (QT.cast (q_lb 4 uT3 rfl rfl rfl rfl) (v' := .int .i64 ((a.start.toNat : Nat) : Int)) (by rw [← hsa])) (TO.q (q_fa uT25 rfl inf22 rfl rfl) (TO.q (q_lb 3 uT22 rfl rfl rfl rfl) (TO.q (q_len uT22 rfl) (TO.q (q_mulN (a := a.start.toNat) (b := b.next.length) rfl rfl (by omega)) (TO.q (q_fa uT25 rfl inf3 rfl rfl) (TO.q (QT.cast (q_lb 3 uT3 rfl rfl rfl rfl) (v' := .int .i64 ((b.start.toNat : Nat) : Int)) (by rw [← hsb])) (TO.q (q_addN (a := (a.start.toNat * b.next.length)) (b := b.start.toNat) rfl rfl (by omega)) (TO.q (q_ix (i := ((a.start.toNat * b.next.length) + b.start.toNat)) uT48 inf3 rfl rfl (rowO (mG 1 rfl)) hc0 (by rw [List.length_replicate]; exact hc0)) (TO.l rfl (l_st (j := ((a.start.toNat * b.next.length) + b.start.toNat)) (v := .int .i64 1) (vs := [(.int .i64 1)]) (cs := List.replicate (a.next.length * b.next.length) (.int .i64 0)) 1 inf3 rfl rfl rfl rfl rfl (by simp) rfl (by rw [List.length_replicate]; simp; omega) ?_))))))))))))))))
 refine TO.sub (O' := [rowI (some ⟨z5, 0, none⟩) 1 123 2 [(.int .i64 a.start), (.int .i64 b.start)], rowI (some ⟨z4, 0, none⟩) (a.next.length * b.next.length) 3 1 (ints (nmL (a.next.length * b.next.length) [(a.start.toNat * b.next.length + b.start.toNat)])), oI z3 25 [(.int .i64 0), (.int .i64 0), nS, nS], oI z2 25 (dC b k), oI z1 25 (dC a j)]) (by rw [show putL (List.replicate (a.next.length * b.next.length) (.int .i64 0)) ((a.start.toNat * b.next.length) + b.start.toNat) [(.int .i64 1)] = ints (nmL (a.next.length * b.next.length) [(a.start.toNat * b.next.length + b.start.toNat)]) from hst1]; exact Sub.of (List.Sublist.refl _)) ?_
 refine TO.nl ?_
 refine T.reset [rowI (some ⟨z5, 0, none⟩) 1 123 2 [(.int .i64 a.start), (.int .i64 b.start)], rowI (some ⟨z4, 0, none⟩) (a.next.length * b.next.length) 3 1 (ints (nmL (a.next.length * b.next.length) [(a.start.toNat * b.next.length + b.start.toNat)])), oI z3 25 [(.int .i64 0), (.int .i64 0), nS, nS], oI z2 25 (dC b k), oI z1 25 (dC a j)] [(0, (dV a j)), (1, (dV b k)), (2, .int .u8 (op : Int)), (3, (.pointer (some ⟨z1, 0, none⟩))), (4, (.pointer (some ⟨z2, 0, none⟩))), (6, (.pointer (some ⟨z3, 0, none⟩))), (7, .int .i64 0), (8, (.slice (some ⟨z4, 0, none⟩) (a.next.length * b.next.length) (a.next.length * b.next.length))), (9, (.slice (some ⟨z5, 0, none⟩) 1 1))] rfl (.of rfl) (fun ρ0 => ?_)
 refine T.s (T.rg (TO.q (q_fa uT25 rfl inf3 rfl rfl) (TO.q (q_lb 4 uT3 rfl rfl rfl rfl) (TO.q (q_build (cs := [(.int .i64 a.vars), (.int .i64 0), nS, nS]) plan25 inf25 (by kernel_rfl)) (TO.l rfl (l_alloc inf25 rfl (fun z6 => ?_)))))))
 refine TO.l rfl (l_sb (v := (.agg #[(.int .i64 a.vars), (.int .i64 0), nS, nS])) (vs := [(.int .i64 a.vars), (.int .i64 0), nS, nS]) 0 inf25 rfl rfl rfl rfl rfl rfl (by simp [putL]) ?_)
 refine TO.nl (T.s (T.s (T.nilRow 4 1 ?_)))
 refine T.nilRow 48 1 ?_
 refine T.sub (O' := [oI z6 25 [(.int .i64 a.vars), (.int .i64 0), nS, nS], rowI none 0 48 1 (vals []), rowI none 0 4 1 (bools []), rowI (some ⟨z4, 0, none⟩) (a.next.length * b.next.length) 3 1 (ints (nmL (a.next.length * b.next.length) [(a.start.toNat * b.next.length + b.start.toNat)])), rowI (some ⟨z5, 0, none⟩) 1 123 2 (prs b.next.length [(a.start.toNat * b.next.length + b.start.toNat)]), oI z3 25 [(.int .i64 0), (.int .i64 0), nS, nS], oI z2 25 (dC b k), oI z1 25 (dC a j)]) (by rw [show prs b.next.length [(a.start.toNat * b.next.length + b.start.toNat)] = [(.int .i64 a.start), (.int .i64 b.start)] from by simp [prs, unC, un, hpd.1, hpd.2, ← hsa, ← hsb]]; exact Sub.pull [rowI none 0 48 1 [], rowI none 0 4 1 []] _ (.k (.k (.pull [rowI (some ⟨z5, 0, none⟩) 1 123 2 [(.int .i64 a.start), (.int .i64 b.start)]] _ (.k (.k (.k (.k .z)))))))) ?_
 refine T.rg (TO.qa rfl (TO.nl (T.block ?_)))
 have hb0 : bfsN (prodD f a b) 0 = [(a.start.toNat * b.next.length + b.start.toNat)] := by show [(prodD f a b).start.toNat] = _; rw [show (prodD f a b).start.toNat = (a.start.toNat * b.next.length + b.start.toNat) from Int.toNat_natCast _]
 refine T.loopS (fun (i : Nat) ρ O => ∃ (nb fb : Option Addr) (nc fc : Nat) (qs : List Rec) (fs : List Bool) (pb : Option Addr) (pc : Nat), O = ([oI z6 25 [(.int .i64 a.vars), (.int .i64 0), (.slice nb i nc), (.slice fb i fc)], rowI nb nc 48 1 (vals qs), rowI fb fc 4 1 (bools fs), rowI (some ⟨z4, 0, none⟩) (a.next.length * b.next.length) 3 1 (ints (nmL (a.next.length * b.next.length) (bfsN (prodD f a b) i))), rowI pb pc 123 2 (prs b.next.length (bfsN (prodD f a b) i)), oI z3 25 [(.int .i64 0), (.int .i64 0), nS, nS], oI z2 25 (dC b k), oI z1 25 (dC a j)] ++ (itms 3 qs)) ∧ i ≤ (bfsN (prodD f a b) i).length ∧ qs.length = i ∧ fs.length = i ∧ nums qs = ((order (prodD f a b)).take i).map (rnR (prodD f a b)) ∧ fs = ((order (prodD f a b)).take i).map (finN (prodD f a b)) ∧ Heads [(0, (dV a j)), (1, (dV b k)), (2, .int .u8 (op : Int)), (3, (.pointer (some ⟨z1, 0, none⟩))), (4, (.pointer (some ⟨z2, 0, none⟩))), (6, (.pointer (some ⟨z3, 0, none⟩))), (8, (.slice (some ⟨z4, 0, none⟩) (a.next.length * b.next.length) (a.next.length * b.next.length))), (9, (.slice pb ((bfsN (prodD f a b) i).length) pc)), (10, (.pointer (some ⟨z6, 0, none⟩))), (11, .int .i64 ((i : Nat) : Int))] ρ) (fun i => a.next.length * b.next.length - i) 0 ?_ ?_
 ·exact ⟨none, none, 0, 0, [], [], _, _, by rw [hb0]; rfl, Nat.zero_le _, rfl, rfl, by simp, by simp, ⟨rfl, rfl, rfl, rfl, rfl, rfl, rfl, (congrArg (fun n9 => Value.slice _ n9 _) (by rw [hb0]; rfl)), rfl, rfl, trivial⟩⟩
 rintro i ρ O ⟨nb, fb, nc, fc, qs, fs, pb, pc, rfl, hile, hql, hfl, hqs, hfs, hH⟩
 obtain ⟨ρ0, rfl⟩ := hH.elim
 clear hH
 have hbl := pr_bfs_len (f := f) va.toVal vb.toVal hv i
 refine T.s (T.s (T.rg (TO.qm rfl (TO.qm rfl (TO.q (q_len uT124 rfl) (TO.q (q_lss rfl rfl) (TO.nl (T.condP rfl (fun hc => ?_) (fun hc => ?_)))))))))
 ·have hlt51 : i < (bfsN (prodD f a b) i).length := by omega
  obtain ⟨o, hq⟩ : ∃ o, (bfsN (prodD f a b) i)[i]? = some o := ⟨_, List.getElem?_eq_getElem hlt51⟩
  have ho := (pr_bfs_ok (f := f) va.toVal vb.toVal hv i).2 o (List.mem_of_getElem? hq)
  obtain ⟨hs, ht⟩ := pr_split ho
  obtain ⟨v1, c1, g1, s1⟩ := ha.rows.get hs
  obtain ⟨v2, c2, g2, s2⟩ := hb.rows.get ht
  have hi1 : i + 1 ≤ (prodD f a b).next.length := by rw [prod_len]; omega
  have hPf : finN (prodD f a b) o = f (finN a (o / b.next.length)) (finN b (o % b.next.length)) := by
   have h9 := prod_fin (f := f) (a := a) (b := b) hs ht
   rw [Nat.div_add_mod'] at h9; exact h9
  refine T.skip (T.s (T.block (T.s ?_)))
  refine T.draws _ [(0, 0), (1, 0), (2, 0), (3, 0), (4, 0), (5, 0), (6, 0), (7, 0), (8, 0), (9, 0), (10, 0), (11, 0)] mixed (drawF_ok (by kernel_rfl)) (Sub.of (List.Sublist.refl _)) (fun _ _ _ h => h) ?_
  refine DO.q rfl (q_move rfl) (DO.q rfl (q_move rfl) (DO.q rfl (q_ixK (i := i) uT124 inf123 rfl rfl (rowO (mG 4 rfl)) hlt51 (by rw [prs_len]; omega)) (DO.q rfl (q_ixArrEl (i := 0) uT123 inf3 rfl rfl (by decide) (rowO (mG 4 rfl)) (by rw [prs_len]; omega)) (DO.q rfl (q_ld uT3 rfl rfl (rowO (mG 4 rfl)) (prs_c0 hq)) (DO.q rfl (q_move rfl) (DO.q rfl (q_move rfl) (DO.q rfl (q_ixK (i := i) uT124 inf123 rfl rfl (rowO (mG 4 rfl)) hlt51 (by rw [prs_len]; omega)) (DO.q rfl (q_ixArrEl (i := 1) uT123 inf3 rfl rfl (by decide) (rowO (mG 4 rfl)) (by rw [prs_len]; omega)) (DO.q rfl (q_ld uT3 rfl rfl (rowO (mG 4 rfl)) (prs_c1 hq)) (DO.q rfl (q_assign rfl) (DO.q rfl (q_assign rfl) ?_)))))))))))
  refine DO.done ?_
  refine T.s (T.rg (TO.qa rfl (TO.nl (T.s (T.s (T.rg (TO.qa rfl (TO.nl (T.block (T.nilRow 3 1 ?_))))))))))
  refine T.sub (O' := ([rowI (some ⟨z4, 0, none⟩) (a.next.length * b.next.length) 3 1 (ints (nmL (a.next.length * b.next.length) (bfsN (prodD f a b) i))), rowI pb pc 123 2 (prs b.next.length (bfsN (prodD f a b) i)), rowI none 0 3 1 (ints ((rnR (prodD f a b) o).take 0)), oI z6 25 [(.int .i64 a.vars), (.int .i64 0), (.slice nb i nc), (.slice fb i fc)], rowI nb nc 48 1 (vals qs), rowI fb fc 4 1 (bools fs), oI z3 25 [(.int .i64 0), (.int .i64 0), nS, nS], oI z2 25 (dC b k), oI z1 25 (dC a j)] ++ itms 3 qs)) (by exact Sub.pull [rowI none 0 3 1 [], oI z6 25 [(.int .i64 a.vars), (.int .i64 0), (.slice nb i nc), (.slice fb i fc)], rowI nb nc 48 1 (vals qs), rowI fb fc 4 1 (bools fs)] _ (.pull [rowI none 0 3 1 [], oI z6 25 [(.int .i64 a.vars), (.int .i64 0), (.slice nb i nc), (.slice fb i fc)], rowI nb nc 48 1 (vals qs), rowI fb fc 4 1 (bools fs)] _ (.k (.k (.k (.k (.k (.k (.k .rf))))))))) ?_
  refine T.loopS (fun (x : Nat) ρ O => ∃ (pb2 : Option Addr) (pc2 : Nat) (rb : Option Addr) (rc : Nat), O = ([rowI (some ⟨z4, 0, none⟩) (a.next.length * b.next.length) 3 1 (ints (nmL (a.next.length * b.next.length) (bfsM (prodD f a b) i o x))), rowI pb2 pc2 123 2 (prs b.next.length (bfsM (prodD f a b) i o x)), rowI rb rc 3 1 (ints ((rnR (prodD f a b) o).take x)), oI z6 25 [(.int .i64 a.vars), (.int .i64 0), (.slice nb i nc), (.slice fb i fc)], rowI nb nc 48 1 (vals qs), rowI fb fc 4 1 (bools fs), oI z3 25 [(.int .i64 0), (.int .i64 0), nS, nS], oI z2 25 (dC b k), oI z1 25 (dC a j)] ++ (itms 3 qs)) ∧ x ≤ letN a ∧ Heads [(0, (dV a j)), (1, (dV b k)), (2, .int .u8 (op : Int)), (3, (.pointer (some ⟨z1, 0, none⟩))), (4, (.pointer (some ⟨z2, 0, none⟩))), (6, (.pointer (some ⟨z3, 0, none⟩))), (8, (.slice (some ⟨z4, 0, none⟩) (a.next.length * b.next.length) (a.next.length * b.next.length))), (9, (.slice pb2 ((bfsM (prodD f a b) i o x).length) pc2)), (10, (.pointer (some ⟨z6, 0, none⟩))), (11, .int .i64 ((i : Nat) : Int)), (12, .int .i64 ((o / b.next.length : Nat) : Int)), (13, .int .i64 ((o % b.next.length : Nat) : Int)), (14, (.slice rb x rc)), (15, .int .i64 ((x : Nat) : Int))] ρ) (fun x => letN a - x) 0 ?_ ?_
  ·exact ⟨pb, pc, none, 0, rfl, Nat.zero_le _, (.of rfl)⟩
  rintro x ρ O ⟨pb2, pc2, rb, rc, rfl, hx, hH⟩
  obtain ⟨ρ0, rfl⟩ := hH.elim
  clear hH
  have hml := pr_bfsM_len (f := f) va.toVal vb.toVal hv (i := i) ho hx
  have hrl : (rnR (prodD f a b) o).length = letN a := rnR_len (prodD f a b) o
  refine T.s (T.s (T.rg (TO.qm rfl (TO.q (q_fa uT25 rfl inf3 rfl rfl) (TO.q (q_lb 8 uT3 rfl rfl rfl rfl) (TO.q (QT.cast (q_shl1 (v := a.vars.toNat) rfl (by show Value.int _ a.vars = _; rw [Int.toNat_of_nonneg va.v0]) (by have := va.v6; omega)) (v' := .int .i64 ((letN a : Nat) : Int)) rfl) (TO.q (q_lss rfl rfl) (TO.nl (T.condP rfl (fun hc => ?_) (fun hc => ?_))))))))))
  ·have hlt68 : x < letN a := by omega
   have hxb : x < 2 ^ b.vars.toNat := by rw [← hv]; exact hlt68
   obtain ⟨t1, _, x1, d1⟩ := va.toN_lt hs hlt68
   obtain ⟨t2, _, x2, d2⟩ := vb.toN_lt ht hxb
   have hst := (pr_toN_lt (f := f) va.toVal vb.toVal hv ho hlt68).1
   have hcl := (pr_toN_lt (f := f) va.toVal vb.toVal hv ho hlt68).2
   have hcl2 : toN a (o / b.next.length) x * b.next.length + toN b (o % b.next.length) x < a.next.length * b.next.length := by rw [← hst]; exact hcl
   have hdm := pr_div (s := toN a (o / b.next.length) x) t2
   rw [← hst] at hdm
   have hx1 : (ints a.next[o / b.next.length])[x]? = some (.int .i64 ((toN a (o / b.next.length) x : Nat) : Int)) := by rw [ints_get x1, d1]
   have hx2 : (ints b.next[o % b.next.length])[x]? = some (.int .i64 ((toN b (o % b.next.length) x : Nat) : Int)) := by rw [ints_get x2, d2]
   have hrw : ints ((rnR (prodD f a b) o).take (x + 1)) = ints ((rnR (prodD f a b) o).take x) ++ [.int .i64 (((ix (toN (prodD f a b) o x) (order (prodD f a b))) : Nat) : Int)] := by
    have hxr : x < (rnR (prodD f a b) o).length := by rw [hrl]; exact hlt68
    have h9 := rnR_at (d := (prodD f a b)) (o := o) hlt68
    rw [List.getElem?_eq_getElem hxr] at h9
    rw [List.take_succ_eq_append_getElem hxr, Option.some.inj h9]
    exact List.map_append
   refine T.skip (T.s (T.block (T.s ?_)))
   refine T.draws _ [(0, 0), (1, 0), (2, 0), (3, 0), (4, 0), (5, 0), (6, 0), (7, 0), (8, 0), (9, 0), (10, 0), (11, 0), (12, 0), (13, 0), (14, 0), (15, 0), (16, 0), (17, 0)] mixed (drawF_ok (by kernel_rfl)) (Sub.of (List.Sublist.refl _)) (fun _ _ _ h => h) ?_
   refine DO.q rfl (q_fa uT25 rfl inf22 rfl rfl) (DO.q rfl (q_lb 8 uT22 rfl rfl rfl rfl) (DO.q rfl (q_move rfl) (DO.q rfl (q_ix (i := (o / b.next.length)) uT22 inf48 rfl rfl (Sl.o ha.outer) hs (ha1 ▸ hs)) (DO.q rfl (q_ld uT48 rfl rfl (Sl.o ha.outer) g1) (DO.q rfl (q_move rfl) (DO.q rfl (q_ix (i := x) uT48 inf3 rfl rfl (Sl.o s1) x1 (by rw [List.length_map]; exact x1)) (DO.q rfl (q_ld uT3 rfl rfl (Sl.o s1) hx1) (DO.q rfl (q_fa uT25 rfl inf22 rfl rfl) (DO.q rfl (q_lb 7 uT22 rfl rfl rfl rfl) (DO.q rfl (q_move rfl) (DO.q rfl (q_ix (i := (o % b.next.length)) uT22 inf48 rfl rfl (Sl.o hb.outer) ht (hb1 ▸ ht)) (DO.q rfl (q_ld uT48 rfl rfl (Sl.o hb.outer) g2) (DO.q rfl (q_move rfl) (DO.q rfl (q_ix (i := x) uT48 inf3 rfl rfl (Sl.o s2) x2 (by rw [List.length_map]; exact x2)) (DO.q rfl (q_ld uT3 rfl rfl (Sl.o s2) hx2) (DO.q rfl (q_assign rfl) (DO.q rfl (q_assign rfl) ?_)))))))))))))))))
   refine DO.done ?_
   refine T.reset ([rowI (some ⟨z4, 0, none⟩) (a.next.length * b.next.length) 3 1 (ints (nmL (a.next.length * b.next.length) (bfsM (prodD f a b) i o x))), rowI pb2 pc2 123 2 (prs b.next.length (bfsM (prodD f a b) i o x)), rowI rb rc 3 1 (ints ((rnR (prodD f a b) o).take x)), oI z6 25 [(.int .i64 a.vars), (.int .i64 0), (.slice nb i nc), (.slice fb i fc)], rowI nb nc 48 1 (vals qs), rowI fb fc 4 1 (bools fs), oI z3 25 [(.int .i64 0), (.int .i64 0), nS, nS], oI z2 25 (dC b k), oI z1 25 (dC a j)] ++ (itms 3 qs)) [(0, (dV a j)), (1, (dV b k)), (2, .int .u8 (op : Int)), (3, (.pointer (some ⟨z1, 0, none⟩))), (4, (.pointer (some ⟨z2, 0, none⟩))), (6, (.pointer (some ⟨z3, 0, none⟩))), (8, (.slice (some ⟨z4, 0, none⟩) (a.next.length * b.next.length) (a.next.length * b.next.length))), (9, (.slice pb2 ((bfsM (prodD f a b) i o x).length) pc2)), (10, (.pointer (some ⟨z6, 0, none⟩))), (11, .int .i64 ((i : Nat) : Int)), (12, .int .i64 ((o / b.next.length : Nat) : Int)), (13, .int .i64 ((o % b.next.length : Nat) : Int)), (14, (.slice rb x rc)), (15, .int .i64 ((x : Nat) : Int)), (16, .int .i64 ((toN a (o / b.next.length) x : Nat) : Int)), (17, .int .i64 ((toN b (o % b.next.length) x : Nat) : Int))] rfl (.of rfl) (fun ρ0 => ?_)
   refine T.s (T.s (T.rg (TO.qm rfl (TO.qm rfl (TO.q (q_fa uT25 rfl inf22 rfl rfl) (TO.q (q_lb 7 uT22 rfl rfl rfl rfl) (TO.q (q_len uT22 rfl) (TO.q (q_mulN (a := (toN a (o / b.next.length) x)) (b := b.next.length) rfl rfl (by omega)) (TO.qm rfl (TO.q (QT.cast (q_addN (a := toN a (o / b.next.length) x * b.next.length) (b := toN b (o % b.next.length) x) rfl rfl (by omega)) (v' := .int .i64 (((toN (prodD f a b) o x) : Nat) : Int)) (by rw [hst])) (TO.q (q_ix (i := (toN (prodD f a b) o x)) uT48 inf3 rfl rfl (rowO (mG 0 rfl)) hcl (by rw [List.length_map, nmL_len]; exact hcl)) (TO.q (q_ld uT3 rfl rfl (rowO (mG 0 rfl)) (nmL_at hcl)) (TO.q (q_eql rfl rfl) (TO.nl (T.condP rfl (fun hc => ?_) (fun hc => ?_))))))))))))))))
   ·have hnew : (toN (prodD f a b) o x) ∉ (bfsM (prodD f a b) i o x) := nmV_zero.1 hc
    obtain ⟨hix, hbm⟩ := visit_new hq hlt68 hi1 hnew
    have hml2 := pr_bfsM_len (f := f) va.toVal vb.toVal hv (i := i) (x := x + 1) ho (Nat.succ_le_of_lt hlt68)
    rw [hbm, List.length_append, List.length_singleton] at hml2
    have hpr : prs b.next.length (bfsM (prodD f a b) i o (x + 1)) = prs b.next.length (bfsM (prodD f a b) i o x) ++ [.int .i64 ((toN a (o / b.next.length) x : Nat) : Int), .int .i64 ((toN b (o % b.next.length) x : Nat) : Int)] := by rw [hbm, prs_snoc]; simp [unC, un, hdm.1, hdm.2]
    have hval : (ints (nmL (a.next.length * b.next.length) ((bfsM (prodD f a b) i o x) ++ [(toN (prodD f a b) o x)])))[(toN (prodD f a b) o x)]? = some (.int .i64 (((ix (toN (prodD f a b) o x) (order (prodD f a b))) + 1 : Nat) : Int)) := by
     rw [nmL_at hcl, nmV_in (by simp), ← hbm, visit_old hq (x := x + 1) (Nat.succ_le_of_lt hlt68) hi1 (by rw [hbm]; simp)]
    refine T.s (T.rg (TO.qm rfl (TO.qm rfl (TO.qm rfl (TO.q (q_buildA (cs := [.int .i64 ((toN a (o / b.next.length) x : Nat) : Int), .int .i64 ((toN b (o % b.next.length) x : Nat) : Int)]) uT123 inf3 inf123 (by kernel_rfl)) (TO.l rfl (l_buildSlice (m := 1) (parts := [(0, _)]) (cs := [.int .i64 ((toN a (o / b.next.length) x : Nat) : Int), .int .i64 ((toN b (o % b.next.length) x : Nat) : Int)]) uT124 inf123 (by decide) (by kernel_rfl) rfl (fun z7 => ?_))))))))
    refine TO.l rfl (l_append 2 uT124 uT124 inf123 rfl rfl rfl rfl (by rw [prs_len]) (by decide) (Src.row (j := 0) rfl (by simp)) (by simp [oneB]) (by omega) (by decide) (by decide) (fun z8 zc9 => ?_))
    refine TO.qa rfl (TO.nl (T.rg (TO.qm rfl (TO.qm rfl (TO.q (q_fa uT25 rfl inf22 rfl rfl) (TO.q (q_lb 8 uT22 rfl rfl rfl rfl) (TO.q (q_len uT22 rfl) (TO.q (q_mulN (a := (toN a (o / b.next.length) x)) (b := b.next.length) rfl rfl (by omega)) (TO.qm rfl (TO.q (QT.cast (q_addN (a := toN a (o / b.next.length) x * b.next.length) (b := toN b (o % b.next.length) x) rfl rfl (by omega)) (v' := .int .i64 (((toN (prodD f a b) o x) : Nat) : Int)) (by rw [hst])) (TO.qm rfl (TO.q (q_len uT124 rfl) (TO.q (q_ix (i := (toN (prodD f a b) o x)) uT48 inf3 rfl rfl (rowO (mG 1 rfl)) hcl (by rw [List.length_map, nmL_len]; exact hcl)) (TO.l rfl (l_st (j := (toN (prodD f a b) o x)) (v := .int .i64 (((bfsM (prodD f a b) i o x).length) + 1 : Int)) (vs := [(.int .i64 (((bfsM (prodD f a b) i o x).length) + 1 : Int))]) (cs := ints (nmL (a.next.length * b.next.length) (bfsM (prodD f a b) i o x))) 1 inf3 rfl rfl rfl rfl rfl (by simp) rfl (by rw [List.length_map, nmL_len]; simp; omega) ?_)))))))))))))))
    refine TO.sub (O' := ([rowI (some ⟨z7, 0, none⟩) 1 123 2 [.int .i64 ((toN a (o / b.next.length) x : Nat) : Int), .int .i64 ((toN b (o % b.next.length) x : Nat) : Int)], rowI (some ⟨z4, 0, none⟩) (a.next.length * b.next.length) 3 1 (ints (nmL (a.next.length * b.next.length) ((bfsM (prodD f a b) i o x) ++ [(toN (prodD f a b) o x)]))), rowI z8 zc9 123 2 ((prs b.next.length (bfsM (prodD f a b) i o x)) ++ [.int .i64 ((toN a (o / b.next.length) x : Nat) : Int), .int .i64 ((toN b (o % b.next.length) x : Nat) : Int)]), rowI rb rc 3 1 (ints ((rnR (prodD f a b) o).take x)), oI z6 25 [(.int .i64 a.vars), (.int .i64 0), (.slice nb i nc), (.slice fb i fc)], rowI nb nc 48 1 (vals qs), rowI fb fc 4 1 (bools fs), oI z3 25 [(.int .i64 0), (.int .i64 0), nS, nS], oI z2 25 (dC b k), oI z1 25 (dC a j)] ++ (itms 3 qs))) (by rw [show putL (ints (nmL (a.next.length * b.next.length) (bfsM (prodD f a b) i o x))) (toN (prodD f a b) o x) [(.int .i64 (((bfsM (prodD f a b) i o x).length) + 1 : Int))] = ints (nmL (a.next.length * b.next.length) ((bfsM (prodD f a b) i o x) ++ [(toN (prodD f a b) o x)])) from (by rw [← nmL_add hcl hnew]; simp [putL])]; exact Sub.of (List.Sublist.refl _)) ?_
    refine TO.nl (T.rg (TO.qm rfl (TO.qm rfl (TO.qm rfl (TO.q (q_fa uT25 rfl inf22 rfl rfl) (TO.q (q_lb 8 uT22 rfl rfl rfl rfl) (TO.q (q_len uT22 rfl) (TO.q (q_mulN (a := (toN a (o / b.next.length) x)) (b := b.next.length) rfl rfl (by omega)) (TO.qm rfl (TO.q (QT.cast (q_addN (a := toN a (o / b.next.length) x * b.next.length) (b := toN b (o % b.next.length) x) rfl rfl (by omega)) (v' := .int .i64 (((toN (prodD f a b) o x) : Nat) : Int)) (by rw [hst])) (TO.q (q_ix (i := (toN (prodD f a b) o x)) uT48 inf3 rfl rfl (rowO (mG 1 rfl)) hcl (by rw [List.length_map, nmL_len]; exact hcl)) (TO.q (q_ld uT3 rfl rfl (rowO (mG 1 rfl)) hval) ?_))))))))))))
    have hixb : (ix (toN (prodD f a b) o x) (order (prodD f a b))) < a.next.length * b.next.length := by
     have h9 := ix_lt (x := (toN (prodD f a b) o x)) (ks := bfsM (prodD f a b) i o (x + 1)) (by first | (rw [hbm]; simp; done) | (rw [hbm]; exact hold))
     rw [visit_old hq (x := x + 1) (Nat.succ_le_of_lt hlt68) hi1 (by first | (rw [hbm]; simp; done) | (rw [hbm]; exact hold))] at h9
     have h8 := pr_bfsM_len (f := f) va.toVal vb.toVal hv (i := i) (x := x + 1) ho (Nat.succ_le_of_lt hlt68)
     omega
    refine TO.q (QT.cast (q_subN (a := (ix (toN (prodD f a b) o x) (order (prodD f a b))) + 1) (b := 1) rfl rfl (by omega) (by have := hixb; omega)) (v' := .int .i64 (((ix (toN (prodD f a b) o x) (order (prodD f a b))) : Nat) : Int)) rfl) (TO.l rfl (l_build1 (v := .int .i64 (((ix (toN (prodD f a b) o x) (order (prodD f a b))) : Nat) : Int)) uT48 inf3 rfl rfl rfl (fun z10 => ?_)))
    refine TO.l rfl (l_append 4 uT48 uT48 inf3 rfl rfl rfl rfl (by rw [List.length_map, List.length_take, hrl]; omega) (by decide) (Src.row (j := 0) rfl (by simp)) (by simp [oneB]) (by omega) (by decide) (by decide) (fun z11 zc12 => ?_))
    refine TO.qa rfl (TO.nl (T.rg (TO.qm rfl (TO.q (q_addN (a := x) (b := 1) rfl rfl (by omega)) (TO.qa rfl (TO.nl ?_))))))
    exact ⟨x + 1, by omega, ([rowI (some ⟨z4, 0, none⟩) (a.next.length * b.next.length) 3 1 (ints (nmL (a.next.length * b.next.length) ((bfsM (prodD f a b) i o x) ++ [(toN (prodD f a b) o x)]))), rowI z8 zc9 123 2 ((prs b.next.length (bfsM (prodD f a b) i o x)) ++ [.int .i64 ((toN a (o / b.next.length) x : Nat) : Int), .int .i64 ((toN b (o % b.next.length) x : Nat) : Int)]), rowI z11 zc12 3 1 ((ints ((rnR (prodD f a b) o).take x)) ++ [.int .i64 (((ix (toN (prodD f a b) o x) (order (prodD f a b))) : Nat) : Int)]), oI z6 25 [(.int .i64 a.vars), (.int .i64 0), (.slice nb i nc), (.slice fb i fc)], rowI nb nc 48 1 (vals qs), rowI fb fc 4 1 (bools fs), oI z3 25 [(.int .i64 0), (.int .i64 0), nS, nS], oI z2 25 (dC b k), oI z1 25 (dC a j)] ++ (itms 3 qs)), (by exact Sub.d (.d (.k (.k (.k (.k (.k (.k (.k (.k (.k .rf))))))))))), z8, zc9, z11, zc12, by rw [hpr, hrw, hbm], by omega, ⟨rfl, rfl, rfl, rfl, rfl, rfl, rfl, (congrArg (fun n9 => Value.slice _ n9 _) (by rw [hbm]; simp)), rfl, rfl, rfl, rfl, rfl, rfl, trivial⟩⟩
   have hold : (toN (prodD f a b) o x) ∈ (bfsM (prodD f a b) i o x) := Classical.not_not.1 fun h9 => hc (nmV_zero.2 h9)
   have hbm := visit_same hold
   have hval : (ints (nmL (a.next.length * b.next.length) (bfsM (prodD f a b) i o x)))[(toN (prodD f a b) o x)]? = some (.int .i64 (((ix (toN (prodD f a b) o x) (order (prodD f a b))) + 1 : Nat) : Int)) := by
    rw [nmL_at hcl, nmV_in hold, visit_old hq (Nat.le_of_lt hlt68) hi1 hold]
   refine T.skip (T.rg (TO.qm rfl (TO.qm rfl (TO.qm rfl (TO.q (q_fa uT25 rfl inf22 rfl rfl) (TO.q (q_lb 7 uT22 rfl rfl rfl rfl) (TO.q (q_len uT22 rfl) (TO.q (q_mulN (a := (toN a (o / b.next.length) x)) (b := b.next.length) rfl rfl (by omega)) (TO.qm rfl (TO.q (QT.cast (q_addN (a := toN a (o / b.next.length) x * b.next.length) (b := toN b (o % b.next.length) x) rfl rfl (by omega)) (v' := .int .i64 (((toN (prodD f a b) o x) : Nat) : Int)) (by rw [hst])) (TO.q (q_ix (i := (toN (prodD f a b) o x)) uT48 inf3 rfl rfl (rowO (mG 0 rfl)) hcl (by rw [List.length_map, nmL_len]; exact hcl)) (TO.q (q_ld uT3 rfl rfl (rowO (mG 0 rfl)) hval) ?_))))))))))))
   have hixb : (ix (toN (prodD f a b) o x) (order (prodD f a b))) < a.next.length * b.next.length := by
    have h9 := ix_lt (x := (toN (prodD f a b) o x)) (ks := bfsM (prodD f a b) i o (x + 1)) (by first | (rw [hbm]; simp; done) | (rw [hbm]; exact hold))
    rw [visit_old hq (x := x + 1) (Nat.succ_le_of_lt hlt68) hi1 (by first | (rw [hbm]; simp; done) | (rw [hbm]; exact hold))] at h9
    have h8 := pr_bfsM_len (f := f) va.toVal vb.toVal hv (i := i) (x := x + 1) ho (Nat.succ_le_of_lt hlt68)
    omega
   refine TO.q (QT.cast (q_subN (a := (ix (toN (prodD f a b) o x) (order (prodD f a b))) + 1) (b := 1) rfl rfl (by omega) (by have := hixb; omega)) (v' := .int .i64 (((ix (toN (prodD f a b) o x) (order (prodD f a b))) : Nat) : Int)) rfl) (TO.l rfl (l_build1 (v := .int .i64 (((ix (toN (prodD f a b) o x) (order (prodD f a b))) : Nat) : Int)) uT48 inf3 rfl rfl rfl (fun z13 => ?_)))
   refine TO.l rfl (l_append 3 uT48 uT48 inf3 rfl rfl rfl rfl (by rw [List.length_map, List.length_take, hrl]; omega) (by decide) (Src.row (j := 0) rfl (by simp)) (by simp [oneB]) (by omega) (by decide) (by decide) (fun z14 zc15 => ?_))
   refine TO.qa rfl (TO.nl (T.rg (TO.qm rfl (TO.q (q_addN (a := x) (b := 1) rfl rfl (by omega)) (TO.qa rfl (TO.nl ?_))))))
   exact ⟨x + 1, by omega, ([rowI (some ⟨z4, 0, none⟩) (a.next.length * b.next.length) 3 1 (ints (nmL (a.next.length * b.next.length) (bfsM (prodD f a b) i o x))), rowI pb2 pc2 123 2 (prs b.next.length (bfsM (prodD f a b) i o x)), rowI z14 zc15 3 1 ((ints ((rnR (prodD f a b) o).take x)) ++ [.int .i64 (((ix (toN (prodD f a b) o x) (order (prodD f a b))) : Nat) : Int)]), oI z6 25 [(.int .i64 a.vars), (.int .i64 0), (.slice nb i nc), (.slice fb i fc)], rowI nb nc 48 1 (vals qs), rowI fb fc 4 1 (bools fs), oI z3 25 [(.int .i64 0), (.int .i64 0), nS, nS], oI z2 25 (dC b k), oI z1 25 (dC a j)] ++ (itms 3 qs)), (by exact Sub.d (.k (.k (.k (.k (.k (.k (.k (.k (.k .rf)))))))))), pb2, pc2, z14, zc15, by rw [hrw, hbm], by omega, ⟨rfl, rfl, rfl, rfl, rfl, rfl, rfl, (congrArg (fun n9 => Value.slice _ n9 _) (by rw [hbm])), rfl, rfl, rfl, rfl, rfl, rfl, trivial⟩⟩
  have hge68 : ¬ x < letN a := by omega
  refine T.exit ?_
  refine T.s (T.s ?_)
  have hxe : x = letN a := by omega
  have e1 : (bfsM (prodD f a b) i o x) = bfsN (prodD f a b) (i + 1) := by rw [hxe]; exact bfsM_full hq
  have hle9 : i + 1 ≤ (bfsM (prodD f a b) i o x).length := by
   rw [e1]
   have h9 := pr_bfs_len (f := f) va.toVal vb.toVal hv (i + 1)
   have h8 := (bfsN_prefix (prodD f a b) i (i + 1) (by omega)).length_le
   omega
  have hb4 : (bfsM (prodD f a b) i o x).length ≤ 4096 := by rw [e1]; exact Nat.le_trans (bfsN_prefix (prodD f a b) (i + 1) (prodD f a b).next.length hi1).length_le hN
  refine T.rg (TO.qm rfl (TO.q (q_len uT124 rfl) (TO.q (QT.toB (q_gtr rfl rfl) (decide_eq_false (by omega))) (TO.nl (T.cond0 rfl (T.skip (T.s (T.rg (TO.q (q_fa uT25 rfl inf22 rfl rfl) (TO.q (q_lb 3 uT22 rfl rfl rfl rfl) (TO.qm rfl (TO.l rfl (l_build1 (v := (.slice rb x rc)) uT22 inf48 rfl rfl rfl (fun z16 => ?_))))))))))))))
  refine TO.l rfl (l_append 5 uT22 uT22 inf48 rfl rfl rfl rfl (by rw [List.length_map] <;> omega) (by decide) (Src.row (j := 0) rfl (by simp)) (by simp [oneB]) (by omega) (by decide) (by decide) (fun z17 zc18 => ?_))
  refine TO.q (q_fa uT25 rfl inf22 rfl rfl) (TO.l rfl (l_sb (v := (.slice z17 (i + 1) zc18)) (vs := [(.slice z17 (i + 1) zc18)]) 4 inf22 rfl rfl rfl rfl rfl rfl (by simp [putL]) ?_))
  refine TO.nl ?_
  have htk : (rnR (prodD f a b) o).take x = rnR (prodD f a b) o := List.take_of_length_le (by rw [hrl]; omega)
  have hvq : vals (qs ++ [⟨rb, rc, rnR (prodD f a b) o⟩]) = (vals qs) ++ [(.slice rb x rc)] := by simp [Rec.val, hrl, hxe]
  refine T.sub (O' := ([oI z6 25 [(.int .i64 a.vars), (.int .i64 0), (.slice z17 (i + 1) zc18), (.slice fb i fc)], rowI z17 zc18 48 1 ((vals qs) ++ [(.slice rb x rc)]), rowI fb fc 4 1 (bools fs), rowI (some ⟨z4, 0, none⟩) (a.next.length * b.next.length) 3 1 (ints (nmL (a.next.length * b.next.length) (bfsM (prodD f a b) i o x))), rowI pb2 pc2 123 2 (prs b.next.length (bfsM (prodD f a b) i o x)), oI z3 25 [(.int .i64 0), (.int .i64 0), nS, nS], oI z2 25 (dC b k), oI z1 25 (dC a j), rowI rb rc 3 1 (ints (rnR (prodD f a b) o))] ++ itms 3 qs)) (by rw [show ints (rnR (prodD f a b) o) = ints ((rnR (prodD f a b) o).take x) by rw [htk]]; exact Sub.d (.pull [rowI (some ⟨z4, 0, none⟩) (a.next.length * b.next.length) 3 1 (ints (nmL (a.next.length * b.next.length) (bfsM (prodD f a b) i o x))), rowI pb2 pc2 123 2 (prs b.next.length (bfsM (prodD f a b) i o x)), rowI rb rc 3 1 (ints ((rnR (prodD f a b) o).take x))] _ (.pull [rowI (some ⟨z4, 0, none⟩) (a.next.length * b.next.length) 3 1 (ints (nmL (a.next.length * b.next.length) (bfsM (prodD f a b) i o x))), rowI pb2 pc2 123 2 (prs b.next.length (bfsM (prodD f a b) i o x)), rowI rb rc 3 1 (ints ((rnR (prodD f a b) o).take x))] _ (.pull [rowI (some ⟨z4, 0, none⟩) (a.next.length * b.next.length) 3 1 (ints (nmL (a.next.length * b.next.length) (bfsM (prodD f a b) i o x))), rowI pb2 pc2 123 2 (prs b.next.length (bfsM (prodD f a b) i o x)), rowI rb rc 3 1 (ints ((rnR (prodD f a b) o).take x))] _ (.k (.k (.pull [rowI rb rc 3 1 (ints ((rnR (prodD f a b) o).take x))] _ (.pull [rowI rb rc 3 1 (ints ((rnR (prodD f a b) o).take x))] _ (.pull [rowI rb rc 3 1 (ints ((rnR (prodD f a b) o).take x))] _ (.k .rf)))))))))) ?_
  refine T.sub (O' := ([oI z6 25 [(.int .i64 a.vars), (.int .i64 0), (.slice z17 (i + 1) zc18), (.slice fb i fc)], rowI z17 zc18 48 1 (vals (qs ++ [⟨rb, rc, rnR (prodD f a b) o⟩])), rowI fb fc 4 1 (bools fs), rowI (some ⟨z4, 0, none⟩) (a.next.length * b.next.length) 3 1 (ints (nmL (a.next.length * b.next.length) (bfsM (prodD f a b) i o x))), rowI pb2 pc2 123 2 (prs b.next.length (bfsM (prodD f a b) i o x)), oI z3 25 [(.int .i64 0), (.int .i64 0), nS, nS], oI z2 25 (dC b k), oI z1 25 (dC a j)] ++ itms 3 (qs ++ [⟨rb, rc, rnR (prodD f a b) o⟩]))) (by rw [hvq]; exact Sub.foldN [oI z6 25 [(.int .i64 a.vars), (.int .i64 0), (.slice z17 (i + 1) zc18), (.slice fb i fc)], rowI z17 zc18 48 1 ((vals qs) ++ [(.slice rb x rc)]), rowI fb fc 4 1 (bools fs), rowI (some ⟨z4, 0, none⟩) (a.next.length * b.next.length) 3 1 (ints (nmL (a.next.length * b.next.length) (bfsM (prodD f a b) i o x))), rowI pb2 pc2 123 2 (prs b.next.length (bfsM (prodD f a b) i o x)), oI z3 25 [(.int .i64 0), (.int .i64 0), nS, nS], oI z2 25 (dC b k), oI z1 25 (dC a j)] (rowI rb rc 3 1 (ints (rnR (prodD f a b) o))) (itms 3 qs) _ (itms_snoc 3 qs ⟨rb, rc, rnR (prodD f a b) o⟩)) ?_
  refine T.s ?_
  refine T.draws _ [(0, 0), (1, 0), (2, 0), (3, 0), (4, 0), (5, 0), (6, 0), (7, 0), (8, 0), (9, 0), (10, 0), (11, 0)] mixed (drawF_ok (by kernel_rfl)) (Sub.of (List.Sublist.refl _)) (fun _ _ _ h => h) ?_
  refine DO.q rfl (q_fa uT25 rfl inf23 rfl rfl) (DO.q rfl (q_lb 7 uT23 rfl rfl rfl rfl) (DO.q rfl (q_move rfl) (DO.q rfl (q_ix (i := (o / b.next.length)) uT23 inf4 rfl rfl (Sl.o ha.final) (by omega) (by rw [List.length_map] <;> omega)) ?_)))
  refine DO.q rfl (q_ld uT4 rfl rfl (Sl.o ha.final) (show (bools a.final)[o / b.next.length]? = some (.bool (finN a (o / b.next.length))) by rw [bools_get (show o / b.next.length < a.final.length by omega)]; unfold finN; rw [List.getD_eq_getElem?_getD, List.getElem?_eq_getElem (show o / b.next.length < a.final.length by omega)]; rfl)) (DO.q rfl (q_fa uT25 rfl inf23 rfl rfl) (DO.q rfl (q_lb 6 uT23 rfl rfl rfl rfl) (DO.q rfl (q_move rfl) ?_)))
  refine DO.q rfl (q_ix (i := (o % b.next.length)) uT23 inf4 rfl rfl (Sl.o hb.final) (by omega) (by rw [List.length_map] <;> omega)) (DO.q rfl (q_ld uT4 rfl rfl (Sl.o hb.final) (show (bools b.final)[o % b.next.length]? = some (.bool (finN b (o % b.next.length))) by rw [bools_get (show o % b.next.length < b.final.length by omega)]; unfold finN; rw [List.getD_eq_getElem?_getD, List.getElem?_eq_getElem (show o % b.next.length < b.final.length by omega)]; rfl)) (DO.q rfl (q_assign rfl) (DO.q rfl (q_assign rfl) ?_)))
  refine DO.done ?_
  refine T.cut1 (fun ρ O => ∃ (fb2 : Option Addr) (fc2 : Nat), O = ([oI z6 25 [(.int .i64 a.vars), (.int .i64 0), (.slice z17 (i + 1) zc18), (.slice fb2 (i + 1) fc2)], rowI z17 zc18 48 1 (vals (qs ++ [⟨rb, rc, rnR (prodD f a b) o⟩])), rowI fb2 fc2 4 1 (bools (fs ++ [finN (prodD f a b) o])), rowI (some ⟨z4, 0, none⟩) (a.next.length * b.next.length) 3 1 (ints (nmL (a.next.length * b.next.length) (bfsM (prodD f a b) i o x))), rowI pb2 pc2 123 2 (prs b.next.length (bfsM (prodD f a b) i o x)), oI z3 25 [(.int .i64 0), (.int .i64 0), nS, nS], oI z2 25 (dC b k), oI z1 25 (dC a j)] ++ (itms 3 (qs ++ [⟨rb, rc, rnR (prodD f a b) o⟩]))) ∧ Heads [(0, (dV a j)), (1, (dV b k)), (2, .int .u8 (op : Int)), (3, (.pointer (some ⟨z1, 0, none⟩))), (4, (.pointer (some ⟨z2, 0, none⟩))), (6, (.pointer (some ⟨z3, 0, none⟩))), (8, (.slice (some ⟨z4, 0, none⟩) (a.next.length * b.next.length) (a.next.length * b.next.length))), (9, (.slice pb2 ((bfsM (prodD f a b) i o x).length) pc2)), (10, (.pointer (some ⟨z6, 0, none⟩))), (11, .int .i64 ((i : Nat) : Int)), (12, .int .i64 ((o / b.next.length : Nat) : Int)), (13, .int .i64 ((o % b.next.length : Nat) : Int)), (14, (.slice rb x rc)), (15, .int .i64 ((x : Nat) : Int)), (18, .bool (finN a (o / b.next.length))), (19, .bool (finN b (o % b.next.length)))] ρ) ?_ ?_
  ·refine T.rg ?_
   refine TO.q (q_fa uT25 rfl inf23 rfl rfl) (TO.q (q_lb 0 uT23 rfl rfl rfl rfl) (TO.qm rfl (TO.q (q_eql rfl rfl) ?_)))
   by_cases hs153 : (op : Int) = 10
   ·refine TO.q (QT.toB (q_move rfl) (decide_eq_true hs153)) ?_
    refine TO.gq rfl rfl (q_move rfl) (TO.q (q_pick1 rfl rfl) ?_)
    by_cases hs156 : (finN a (o / b.next.length)) = true
    ·refine TO.q (QT.toB (q_move rfl) (hs156)) ?_
     refine TO.gq rfl rfl (q_move rfl) (TO.q (q_pick1 rfl rfl) ?_)
     by_cases hs159 : (finN b (o % b.next.length)) = true
     ·refine TO.q (QT.toB (q_move rfl) (hs159)) ?_
      refine TO.pd rfl rfl (TO.pd rfl rfl (TO.pd rfl rfl (TO.pd rfl rfl (TO.pd rfl rfl (TO.pd rfl rfl (TO.pd rfl rfl (TO.pd rfl rfl ?_)))))))
      refine TO.q (q_pick1 rfl rfl) (TO.qm rfl (TO.pd rfl rfl (TO.pd rfl rfl (TO.pd rfl rfl (TO.pd rfl rfl (TO.pd rfl rfl (TO.pd rfl rfl (TO.pd rfl rfl ?_))))))))
      refine TO.q (q_pick1 rfl rfl) (TO.l rfl (l_build1 (v := .bool true) uT23 inf4 rfl rfl rfl (fun z19 => ?_)))
      refine TO.l rfl (l_append 3 uT23 uT23 inf4 rfl rfl rfl rfl (by rw [List.length_map] <;> omega) (by decide) (Src.row (j := 0) rfl (by simp)) (by simp [oneB]) (by omega) (by decide) (by decide) (fun z20 zc21 => ?_))
      refine TO.q (q_fa uT25 rfl inf23 rfl rfl) (TO.l rfl (l_sb (v := (.slice z20 (i + 1) zc21)) (vs := [(.slice z20 (i + 1) zc21)]) 1 inf23 rfl rfl rfl rfl rfl rfl (by simp [putL]) ?_))
      have hvo : finN (prodD f a b) o = true := by
       rw [hPf]; rcases hop with ⟨ho8, rfl⟩ | ⟨ho8, rfl⟩ <;> first | (exfalso; omega) | skip
       all_goals (cases h91 : finN a (o / b.next.length) <;> cases h92 : finN b (o % b.next.length) <;> first | rfl | contradiction | exact (tf h91 ‹_›).elim | exact (tf h92 ‹_›).elim)
      have hbq : bools (fs ++ [finN (prodD f a b) o]) = bools fs ++ [.bool true] := by rw [hvo]; simp
      refine TO.sub (O' := ([oI z6 25 [(.int .i64 a.vars), (.int .i64 0), (.slice z17 (i + 1) zc18), (.slice z20 (i + 1) zc21)], rowI z17 zc18 48 1 (vals (qs ++ [⟨rb, rc, rnR (prodD f a b) o⟩])), rowI z20 zc21 4 1 (bools (fs ++ [finN (prodD f a b) o])), rowI (some ⟨z4, 0, none⟩) (a.next.length * b.next.length) 3 1 (ints (nmL (a.next.length * b.next.length) (bfsM (prodD f a b) i o x))), rowI pb2 pc2 123 2 (prs b.next.length (bfsM (prodD f a b) i o x)), oI z3 25 [(.int .i64 0), (.int .i64 0), nS, nS], oI z2 25 (dC b k), oI z1 25 (dC a j)] ++ itms 3 (qs ++ [⟨rb, rc, rnR (prodD f a b) o⟩]))) (by rw [hbq]; exact Sub.d (.k (.k (.k (.k (.k (.k (.k (.k .rf))))))))) ?_
      refine TO.nl ?_
      exact ⟨z20, zc21, rfl, (.of rfl)⟩
     refine TO.q (QT.toB (q_move rfl) (Bool.eq_false_iff.2 hs159)) (TO.gq rfl rfl (q_move rfl) (TO.gq rfl rfl (q_eql rfl rfl) ?_))
     by_cases hs162 : (op : Int) = 11
     ·refine TO.gq rfl rfl (QT.toB (q_move rfl) (decide_eq_true hs162)) ?_
      refine TO.gq rfl rfl (q_move rfl) ?_
      by_cases hs164 : (finN a (o / b.next.length)) = true
      ·refine TO.gq rfl rfl (QT.toB (q_move rfl) (hs164)) ?_
       refine TO.pd rfl rfl (TO.gq rfl rfl (q_pick1 rfl rfl) (TO.gq rfl rfl (q_pick1 rfl rfl) (TO.q (q_pick0 rfl rfl) (TO.qm rfl (TO.pd rfl rfl (TO.pd rfl rfl (TO.pd rfl rfl (TO.pd rfl rfl ?_))))))))
       refine TO.pd rfl rfl (TO.pd rfl rfl (TO.pd rfl rfl (TO.q (q_pick1 rfl rfl) (TO.l rfl (l_build1 (v := .bool true) uT23 inf4 rfl rfl rfl (fun z22 => ?_))))))
       refine TO.l rfl (l_append 3 uT23 uT23 inf4 rfl rfl rfl rfl (by rw [List.length_map] <;> omega) (by decide) (Src.row (j := 0) rfl (by simp)) (by simp [oneB]) (by omega) (by decide) (by decide) (fun z23 zc24 => ?_))
       refine TO.q (q_fa uT25 rfl inf23 rfl rfl) (TO.l rfl (l_sb (v := (.slice z23 (i + 1) zc24)) (vs := [(.slice z23 (i + 1) zc24)]) 1 inf23 rfl rfl rfl rfl rfl rfl (by simp [putL]) ?_))
       have hvo : finN (prodD f a b) o = true := by
        rw [hPf]; rcases hop with ⟨ho8, rfl⟩ | ⟨ho8, rfl⟩ <;> first | (exfalso; omega) | skip
        all_goals (cases h91 : finN a (o / b.next.length) <;> cases h92 : finN b (o % b.next.length) <;> first | rfl | contradiction | exact (tf h91 ‹_›).elim | exact (tf h92 ‹_›).elim)
       have hbq : bools (fs ++ [finN (prodD f a b) o]) = bools fs ++ [.bool true] := by rw [hvo]; simp
       refine TO.sub (O' := ([oI z6 25 [(.int .i64 a.vars), (.int .i64 0), (.slice z17 (i + 1) zc18), (.slice z23 (i + 1) zc24)], rowI z17 zc18 48 1 (vals (qs ++ [⟨rb, rc, rnR (prodD f a b) o⟩])), rowI z23 zc24 4 1 (bools (fs ++ [finN (prodD f a b) o])), rowI (some ⟨z4, 0, none⟩) (a.next.length * b.next.length) 3 1 (ints (nmL (a.next.length * b.next.length) (bfsM (prodD f a b) i o x))), rowI pb2 pc2 123 2 (prs b.next.length (bfsM (prodD f a b) i o x)), oI z3 25 [(.int .i64 0), (.int .i64 0), nS, nS], oI z2 25 (dC b k), oI z1 25 (dC a j)] ++ itms 3 (qs ++ [⟨rb, rc, rnR (prodD f a b) o⟩]))) (by rw [hbq]; exact Sub.d (.k (.k (.k (.k (.k (.k (.k (.k .rf))))))))) ?_
       refine TO.nl ?_
       exact ⟨z23, zc24, rfl, (.of rfl)⟩
      refine TO.gq rfl rfl (QT.toB (q_move rfl) (Bool.eq_false_iff.2 hs164)) (TO.gq rfl rfl (q_move rfl) (TO.gq rfl rfl (q_pick0 rfl rfl) (TO.gq rfl rfl (q_pick1 rfl rfl) (TO.q (q_pick0 rfl rfl) ?_))))
      by_cases hs169 : (finN b (o % b.next.length)) = true
      ·refine TO.q (QT.toB (q_move rfl) (hs169)) ?_
       refine TO.pd rfl rfl (TO.pd rfl rfl (TO.pd rfl rfl (TO.pd rfl rfl (TO.pd rfl rfl (TO.pd rfl rfl (TO.pd rfl rfl (TO.q (q_pick1 rfl rfl) (TO.l rfl (l_build1 (v := .bool true) uT23 inf4 rfl rfl rfl (fun z25 => ?_))))))))))
       refine TO.l rfl (l_append 3 uT23 uT23 inf4 rfl rfl rfl rfl (by rw [List.length_map] <;> omega) (by decide) (Src.row (j := 0) rfl (by simp)) (by simp [oneB]) (by omega) (by decide) (by decide) (fun z26 zc27 => ?_))
       refine TO.q (q_fa uT25 rfl inf23 rfl rfl) (TO.l rfl (l_sb (v := (.slice z26 (i + 1) zc27)) (vs := [(.slice z26 (i + 1) zc27)]) 1 inf23 rfl rfl rfl rfl rfl rfl (by simp [putL]) ?_))
       have hvo : finN (prodD f a b) o = true := by
        rw [hPf]; rcases hop with ⟨ho8, rfl⟩ | ⟨ho8, rfl⟩ <;> first | (exfalso; omega) | skip
        all_goals (cases h91 : finN a (o / b.next.length) <;> cases h92 : finN b (o % b.next.length) <;> first | rfl | contradiction | exact (tf h91 ‹_›).elim | exact (tf h92 ‹_›).elim)
       have hbq : bools (fs ++ [finN (prodD f a b) o]) = bools fs ++ [.bool true] := by rw [hvo]; simp
       refine TO.sub (O' := ([oI z6 25 [(.int .i64 a.vars), (.int .i64 0), (.slice z17 (i + 1) zc18), (.slice z26 (i + 1) zc27)], rowI z17 zc18 48 1 (vals (qs ++ [⟨rb, rc, rnR (prodD f a b) o⟩])), rowI z26 zc27 4 1 (bools (fs ++ [finN (prodD f a b) o])), rowI (some ⟨z4, 0, none⟩) (a.next.length * b.next.length) 3 1 (ints (nmL (a.next.length * b.next.length) (bfsM (prodD f a b) i o x))), rowI pb2 pc2 123 2 (prs b.next.length (bfsM (prodD f a b) i o x)), oI z3 25 [(.int .i64 0), (.int .i64 0), nS, nS], oI z2 25 (dC b k), oI z1 25 (dC a j)] ++ itms 3 (qs ++ [⟨rb, rc, rnR (prodD f a b) o⟩]))) (by rw [hbq]; exact Sub.d (.k (.k (.k (.k (.k (.k (.k (.k .rf))))))))) ?_
       refine TO.nl ?_
       exact ⟨z26, zc27, rfl, (.of rfl)⟩
      refine TO.q (QT.toB (q_move rfl) (Bool.eq_false_iff.2 hs169)) (TO.gq rfl rfl (q_move rfl) (TO.gq rfl rfl (QT.toB (q_eql rfl rfl) (decide_eq_false (by omega))) (TO.gq rfl rfl (q_move rfl) (TO.pd rfl rfl (TO.pd rfl rfl (TO.pd rfl rfl (TO.gq rfl rfl (q_pick0 rfl rfl) ?_)))))))
      refine TO.q (q_pick0 rfl rfl) (TO.l rfl (l_build1 (v := .bool false) uT23 inf4 rfl rfl rfl (fun z28 => ?_)))
      refine TO.l rfl (l_append 3 uT23 uT23 inf4 rfl rfl rfl rfl (by rw [List.length_map] <;> omega) (by decide) (Src.row (j := 0) rfl (by simp)) (by simp [oneB]) (by omega) (by decide) (by decide) (fun z29 zc30 => ?_))
      refine TO.q (q_fa uT25 rfl inf23 rfl rfl) (TO.l rfl (l_sb (v := (.slice z29 (i + 1) zc30)) (vs := [(.slice z29 (i + 1) zc30)]) 1 inf23 rfl rfl rfl rfl rfl rfl (by simp [putL]) ?_))
      have hvo : finN (prodD f a b) o = false := by
       rw [hPf]; rcases hop with ⟨ho8, rfl⟩ | ⟨ho8, rfl⟩ <;> first | (exfalso; omega) | skip
       all_goals (cases h91 : finN a (o / b.next.length) <;> cases h92 : finN b (o % b.next.length) <;> first | rfl | contradiction | exact (tf h91 ‹_›).elim | exact (tf h92 ‹_›).elim)
      have hbq : bools (fs ++ [finN (prodD f a b) o]) = bools fs ++ [.bool false] := by rw [hvo]; simp
      refine TO.sub (O' := ([oI z6 25 [(.int .i64 a.vars), (.int .i64 0), (.slice z17 (i + 1) zc18), (.slice z29 (i + 1) zc30)], rowI z17 zc18 48 1 (vals (qs ++ [⟨rb, rc, rnR (prodD f a b) o⟩])), rowI z29 zc30 4 1 (bools (fs ++ [finN (prodD f a b) o])), rowI (some ⟨z4, 0, none⟩) (a.next.length * b.next.length) 3 1 (ints (nmL (a.next.length * b.next.length) (bfsM (prodD f a b) i o x))), rowI pb2 pc2 123 2 (prs b.next.length (bfsM (prodD f a b) i o x)), oI z3 25 [(.int .i64 0), (.int .i64 0), nS, nS], oI z2 25 (dC b k), oI z1 25 (dC a j)] ++ itms 3 (qs ++ [⟨rb, rc, rnR (prodD f a b) o⟩]))) (by rw [hbq]; exact Sub.d (.k (.k (.k (.k (.k (.k (.k (.k .rf))))))))) ?_
      refine TO.nl ?_
      exact ⟨z29, zc30, rfl, (.of rfl)⟩
     refine TO.gq rfl rfl (QT.toB (q_move rfl) (decide_eq_false hs162)) (TO.pd rfl rfl (TO.pd rfl rfl (TO.pd rfl rfl (TO.pd rfl rfl (TO.gq rfl rfl (q_pick0 rfl rfl) (TO.q (q_pick0 rfl rfl) (TO.qm rfl (TO.gq rfl rfl (q_move rfl) ?_))))))))
     refine TO.gq rfl rfl (QT.toB (q_eql rfl rfl) (decide_eq_false (by omega))) (TO.gq rfl rfl (q_move rfl) (TO.pd rfl rfl (TO.pd rfl rfl (TO.pd rfl rfl (TO.gq rfl rfl (q_pick0 rfl rfl) (TO.q (q_pick0 rfl rfl) (TO.l rfl (l_build1 (v := .bool false) uT23 inf4 rfl rfl rfl (fun z31 => ?_)))))))))
     refine TO.l rfl (l_append 3 uT23 uT23 inf4 rfl rfl rfl rfl (by rw [List.length_map] <;> omega) (by decide) (Src.row (j := 0) rfl (by simp)) (by simp [oneB]) (by omega) (by decide) (by decide) (fun z32 zc33 => ?_))
     refine TO.q (q_fa uT25 rfl inf23 rfl rfl) (TO.l rfl (l_sb (v := (.slice z32 (i + 1) zc33)) (vs := [(.slice z32 (i + 1) zc33)]) 1 inf23 rfl rfl rfl rfl rfl rfl (by simp [putL]) ?_))
     have hvo : finN (prodD f a b) o = false := by
      rw [hPf]; rcases hop with ⟨ho8, rfl⟩ | ⟨ho8, rfl⟩ <;> first | (exfalso; omega) | skip
      all_goals (cases h91 : finN a (o / b.next.length) <;> cases h92 : finN b (o % b.next.length) <;> first | rfl | contradiction | exact (tf h91 ‹_›).elim | exact (tf h92 ‹_›).elim)
     have hbq : bools (fs ++ [finN (prodD f a b) o]) = bools fs ++ [.bool false] := by rw [hvo]; simp
     refine TO.sub (O' := ([oI z6 25 [(.int .i64 a.vars), (.int .i64 0), (.slice z17 (i + 1) zc18), (.slice z32 (i + 1) zc33)], rowI z17 zc18 48 1 (vals (qs ++ [⟨rb, rc, rnR (prodD f a b) o⟩])), rowI z32 zc33 4 1 (bools (fs ++ [finN (prodD f a b) o])), rowI (some ⟨z4, 0, none⟩) (a.next.length * b.next.length) 3 1 (ints (nmL (a.next.length * b.next.length) (bfsM (prodD f a b) i o x))), rowI pb2 pc2 123 2 (prs b.next.length (bfsM (prodD f a b) i o x)), oI z3 25 [(.int .i64 0), (.int .i64 0), nS, nS], oI z2 25 (dC b k), oI z1 25 (dC a j)] ++ itms 3 (qs ++ [⟨rb, rc, rnR (prodD f a b) o⟩]))) (by rw [hbq]; exact Sub.d (.k (.k (.k (.k (.k (.k (.k (.k .rf))))))))) ?_
     refine TO.nl ?_
     exact ⟨z32, zc33, rfl, (.of rfl)⟩
    refine TO.q (QT.toB (q_move rfl) (Bool.eq_false_iff.2 hs156)) (TO.pd rfl rfl (TO.q (q_pick0 rfl rfl) (TO.qm rfl (TO.gq rfl rfl (q_move rfl) (TO.gq rfl rfl (q_eql rfl rfl) ?_)))))
    by_cases hs162 : (op : Int) = 11
    ·refine TO.gq rfl rfl (QT.toB (q_move rfl) (decide_eq_true hs162)) ?_
     refine TO.gq rfl rfl (q_move rfl) ?_
     by_cases hs164 : (finN a (o / b.next.length)) = true
     ·refine TO.gq rfl rfl (QT.toB (q_move rfl) (hs164)) ?_
      refine TO.pd rfl rfl (TO.gq rfl rfl (q_pick1 rfl rfl) (TO.gq rfl rfl (q_pick1 rfl rfl) (TO.q (q_pick0 rfl rfl) (TO.qm rfl (TO.pd rfl rfl (TO.pd rfl rfl (TO.pd rfl rfl (TO.pd rfl rfl ?_))))))))
      refine TO.pd rfl rfl (TO.pd rfl rfl (TO.pd rfl rfl (TO.q (q_pick1 rfl rfl) (TO.l rfl (l_build1 (v := .bool true) uT23 inf4 rfl rfl rfl (fun z34 => ?_))))))
      refine TO.l rfl (l_append 3 uT23 uT23 inf4 rfl rfl rfl rfl (by rw [List.length_map] <;> omega) (by decide) (Src.row (j := 0) rfl (by simp)) (by simp [oneB]) (by omega) (by decide) (by decide) (fun z35 zc36 => ?_))
      refine TO.q (q_fa uT25 rfl inf23 rfl rfl) (TO.l rfl (l_sb (v := (.slice z35 (i + 1) zc36)) (vs := [(.slice z35 (i + 1) zc36)]) 1 inf23 rfl rfl rfl rfl rfl rfl (by simp [putL]) ?_))
      have hvo : finN (prodD f a b) o = true := by
       rw [hPf]; rcases hop with ⟨ho8, rfl⟩ | ⟨ho8, rfl⟩ <;> first | (exfalso; omega) | skip
       all_goals (cases h91 : finN a (o / b.next.length) <;> cases h92 : finN b (o % b.next.length) <;> first | rfl | contradiction | exact (tf h91 ‹_›).elim | exact (tf h92 ‹_›).elim)
      have hbq : bools (fs ++ [finN (prodD f a b) o]) = bools fs ++ [.bool true] := by rw [hvo]; simp
      refine TO.sub (O' := ([oI z6 25 [(.int .i64 a.vars), (.int .i64 0), (.slice z17 (i + 1) zc18), (.slice z35 (i + 1) zc36)], rowI z17 zc18 48 1 (vals (qs ++ [⟨rb, rc, rnR (prodD f a b) o⟩])), rowI z35 zc36 4 1 (bools (fs ++ [finN (prodD f a b) o])), rowI (some ⟨z4, 0, none⟩) (a.next.length * b.next.length) 3 1 (ints (nmL (a.next.length * b.next.length) (bfsM (prodD f a b) i o x))), rowI pb2 pc2 123 2 (prs b.next.length (bfsM (prodD f a b) i o x)), oI z3 25 [(.int .i64 0), (.int .i64 0), nS, nS], oI z2 25 (dC b k), oI z1 25 (dC a j)] ++ itms 3 (qs ++ [⟨rb, rc, rnR (prodD f a b) o⟩]))) (by rw [hbq]; exact Sub.d (.k (.k (.k (.k (.k (.k (.k (.k .rf))))))))) ?_
      refine TO.nl ?_
      exact ⟨z35, zc36, rfl, (.of rfl)⟩
     refine TO.gq rfl rfl (QT.toB (q_move rfl) (Bool.eq_false_iff.2 hs164)) (TO.gq rfl rfl (q_move rfl) (TO.gq rfl rfl (q_pick0 rfl rfl) (TO.gq rfl rfl (q_pick1 rfl rfl) (TO.q (q_pick0 rfl rfl) ?_))))
     by_cases hs169 : (finN b (o % b.next.length)) = true
     ·refine TO.q (QT.toB (q_move rfl) (hs169)) ?_
      refine TO.pd rfl rfl (TO.pd rfl rfl (TO.pd rfl rfl (TO.pd rfl rfl (TO.pd rfl rfl (TO.pd rfl rfl (TO.pd rfl rfl (TO.q (q_pick1 rfl rfl) (TO.l rfl (l_build1 (v := .bool true) uT23 inf4 rfl rfl rfl (fun z37 => ?_))))))))))
      refine TO.l rfl (l_append 3 uT23 uT23 inf4 rfl rfl rfl rfl (by rw [List.length_map] <;> omega) (by decide) (Src.row (j := 0) rfl (by simp)) (by simp [oneB]) (by omega) (by decide) (by decide) (fun z38 zc39 => ?_))
      refine TO.q (q_fa uT25 rfl inf23 rfl rfl) (TO.l rfl (l_sb (v := (.slice z38 (i + 1) zc39)) (vs := [(.slice z38 (i + 1) zc39)]) 1 inf23 rfl rfl rfl rfl rfl rfl (by simp [putL]) ?_))
      have hvo : finN (prodD f a b) o = true := by
       rw [hPf]; rcases hop with ⟨ho8, rfl⟩ | ⟨ho8, rfl⟩ <;> first | (exfalso; omega) | skip
       all_goals (cases h91 : finN a (o / b.next.length) <;> cases h92 : finN b (o % b.next.length) <;> first | rfl | contradiction | exact (tf h91 ‹_›).elim | exact (tf h92 ‹_›).elim)
      have hbq : bools (fs ++ [finN (prodD f a b) o]) = bools fs ++ [.bool true] := by rw [hvo]; simp
      refine TO.sub (O' := ([oI z6 25 [(.int .i64 a.vars), (.int .i64 0), (.slice z17 (i + 1) zc18), (.slice z38 (i + 1) zc39)], rowI z17 zc18 48 1 (vals (qs ++ [⟨rb, rc, rnR (prodD f a b) o⟩])), rowI z38 zc39 4 1 (bools (fs ++ [finN (prodD f a b) o])), rowI (some ⟨z4, 0, none⟩) (a.next.length * b.next.length) 3 1 (ints (nmL (a.next.length * b.next.length) (bfsM (prodD f a b) i o x))), rowI pb2 pc2 123 2 (prs b.next.length (bfsM (prodD f a b) i o x)), oI z3 25 [(.int .i64 0), (.int .i64 0), nS, nS], oI z2 25 (dC b k), oI z1 25 (dC a j)] ++ itms 3 (qs ++ [⟨rb, rc, rnR (prodD f a b) o⟩]))) (by rw [hbq]; exact Sub.d (.k (.k (.k (.k (.k (.k (.k (.k .rf))))))))) ?_
      refine TO.nl ?_
      exact ⟨z38, zc39, rfl, (.of rfl)⟩
     refine TO.q (QT.toB (q_move rfl) (Bool.eq_false_iff.2 hs169)) (TO.gq rfl rfl (q_move rfl) (TO.gq rfl rfl (QT.toB (q_eql rfl rfl) (decide_eq_false (by omega))) (TO.gq rfl rfl (q_move rfl) (TO.pd rfl rfl (TO.pd rfl rfl (TO.pd rfl rfl (TO.gq rfl rfl (q_pick0 rfl rfl) ?_)))))))
     refine TO.q (q_pick0 rfl rfl) (TO.l rfl (l_build1 (v := .bool false) uT23 inf4 rfl rfl rfl (fun z40 => ?_)))
     refine TO.l rfl (l_append 3 uT23 uT23 inf4 rfl rfl rfl rfl (by rw [List.length_map] <;> omega) (by decide) (Src.row (j := 0) rfl (by simp)) (by simp [oneB]) (by omega) (by decide) (by decide) (fun z41 zc42 => ?_))
     refine TO.q (q_fa uT25 rfl inf23 rfl rfl) (TO.l rfl (l_sb (v := (.slice z41 (i + 1) zc42)) (vs := [(.slice z41 (i + 1) zc42)]) 1 inf23 rfl rfl rfl rfl rfl rfl (by simp [putL]) ?_))
     have hvo : finN (prodD f a b) o = false := by
      rw [hPf]; rcases hop with ⟨ho8, rfl⟩ | ⟨ho8, rfl⟩ <;> first | (exfalso; omega) | skip
      all_goals (cases h91 : finN a (o / b.next.length) <;> cases h92 : finN b (o % b.next.length) <;> first | rfl | contradiction | exact (tf h91 ‹_›).elim | exact (tf h92 ‹_›).elim)
     have hbq : bools (fs ++ [finN (prodD f a b) o]) = bools fs ++ [.bool false] := by rw [hvo]; simp
     refine TO.sub (O' := ([oI z6 25 [(.int .i64 a.vars), (.int .i64 0), (.slice z17 (i + 1) zc18), (.slice z41 (i + 1) zc42)], rowI z17 zc18 48 1 (vals (qs ++ [⟨rb, rc, rnR (prodD f a b) o⟩])), rowI z41 zc42 4 1 (bools (fs ++ [finN (prodD f a b) o])), rowI (some ⟨z4, 0, none⟩) (a.next.length * b.next.length) 3 1 (ints (nmL (a.next.length * b.next.length) (bfsM (prodD f a b) i o x))), rowI pb2 pc2 123 2 (prs b.next.length (bfsM (prodD f a b) i o x)), oI z3 25 [(.int .i64 0), (.int .i64 0), nS, nS], oI z2 25 (dC b k), oI z1 25 (dC a j)] ++ itms 3 (qs ++ [⟨rb, rc, rnR (prodD f a b) o⟩]))) (by rw [hbq]; exact Sub.d (.k (.k (.k (.k (.k (.k (.k (.k .rf))))))))) ?_
     refine TO.nl ?_
     exact ⟨z41, zc42, rfl, (.of rfl)⟩
    refine TO.gq rfl rfl (QT.toB (q_move rfl) (decide_eq_false hs162)) (TO.pd rfl rfl (TO.pd rfl rfl (TO.pd rfl rfl (TO.pd rfl rfl (TO.gq rfl rfl (q_pick0 rfl rfl) (TO.q (q_pick0 rfl rfl) (TO.qm rfl (TO.gq rfl rfl (q_move rfl) ?_))))))))
    refine TO.gq rfl rfl (QT.toB (q_eql rfl rfl) (decide_eq_false (by omega))) (TO.gq rfl rfl (q_move rfl) (TO.pd rfl rfl (TO.pd rfl rfl (TO.pd rfl rfl (TO.gq rfl rfl (q_pick0 rfl rfl) (TO.q (q_pick0 rfl rfl) (TO.l rfl (l_build1 (v := .bool false) uT23 inf4 rfl rfl rfl (fun z43 => ?_)))))))))
    refine TO.l rfl (l_append 3 uT23 uT23 inf4 rfl rfl rfl rfl (by rw [List.length_map] <;> omega) (by decide) (Src.row (j := 0) rfl (by simp)) (by simp [oneB]) (by omega) (by decide) (by decide) (fun z44 zc45 => ?_))
    refine TO.q (q_fa uT25 rfl inf23 rfl rfl) (TO.l rfl (l_sb (v := (.slice z44 (i + 1) zc45)) (vs := [(.slice z44 (i + 1) zc45)]) 1 inf23 rfl rfl rfl rfl rfl rfl (by simp [putL]) ?_))
    have hvo : finN (prodD f a b) o = false := by
     rw [hPf]; rcases hop with ⟨ho8, rfl⟩ | ⟨ho8, rfl⟩ <;> first | (exfalso; omega) | skip
     all_goals (cases h91 : finN a (o / b.next.length) <;> cases h92 : finN b (o % b.next.length) <;> first | rfl | contradiction | exact (tf h91 ‹_›).elim | exact (tf h92 ‹_›).elim)
    have hbq : bools (fs ++ [finN (prodD f a b) o]) = bools fs ++ [.bool false] := by rw [hvo]; simp
    refine TO.sub (O' := ([oI z6 25 [(.int .i64 a.vars), (.int .i64 0), (.slice z17 (i + 1) zc18), (.slice z44 (i + 1) zc45)], rowI z17 zc18 48 1 (vals (qs ++ [⟨rb, rc, rnR (prodD f a b) o⟩])), rowI z44 zc45 4 1 (bools (fs ++ [finN (prodD f a b) o])), rowI (some ⟨z4, 0, none⟩) (a.next.length * b.next.length) 3 1 (ints (nmL (a.next.length * b.next.length) (bfsM (prodD f a b) i o x))), rowI pb2 pc2 123 2 (prs b.next.length (bfsM (prodD f a b) i o x)), oI z3 25 [(.int .i64 0), (.int .i64 0), nS, nS], oI z2 25 (dC b k), oI z1 25 (dC a j)] ++ itms 3 (qs ++ [⟨rb, rc, rnR (prodD f a b) o⟩]))) (by rw [hbq]; exact Sub.d (.k (.k (.k (.k (.k (.k (.k (.k .rf))))))))) ?_
    refine TO.nl ?_
    exact ⟨z44, zc45, rfl, (.of rfl)⟩
   refine TO.q (QT.toB (q_move rfl) (decide_eq_false hs153)) (TO.pd rfl rfl (TO.q (q_pick0 rfl rfl) (TO.qm rfl (TO.pd rfl rfl (TO.q (q_pick0 rfl rfl) (TO.qm rfl (TO.gq rfl rfl (q_move rfl) (TO.gq rfl rfl (q_eql rfl rfl) ?_))))))))
   by_cases hs162 : (op : Int) = 11
   ·refine TO.gq rfl rfl (QT.toB (q_move rfl) (decide_eq_true hs162)) ?_
    refine TO.gq rfl rfl (q_move rfl) ?_
    by_cases hs164 : (finN a (o / b.next.length)) = true
    ·refine TO.gq rfl rfl (QT.toB (q_move rfl) (hs164)) ?_
     refine TO.pd rfl rfl (TO.gq rfl rfl (q_pick1 rfl rfl) (TO.gq rfl rfl (q_pick1 rfl rfl) (TO.q (q_pick0 rfl rfl) (TO.qm rfl (TO.pd rfl rfl (TO.pd rfl rfl (TO.pd rfl rfl (TO.pd rfl rfl ?_))))))))
     refine TO.pd rfl rfl (TO.pd rfl rfl (TO.pd rfl rfl (TO.q (q_pick1 rfl rfl) (TO.l rfl (l_build1 (v := .bool true) uT23 inf4 rfl rfl rfl (fun z46 => ?_))))))
     refine TO.l rfl (l_append 3 uT23 uT23 inf4 rfl rfl rfl rfl (by rw [List.length_map] <;> omega) (by decide) (Src.row (j := 0) rfl (by simp)) (by simp [oneB]) (by omega) (by decide) (by decide) (fun z47 zc48 => ?_))
     refine TO.q (q_fa uT25 rfl inf23 rfl rfl) (TO.l rfl (l_sb (v := (.slice z47 (i + 1) zc48)) (vs := [(.slice z47 (i + 1) zc48)]) 1 inf23 rfl rfl rfl rfl rfl rfl (by simp [putL]) ?_))
     have hvo : finN (prodD f a b) o = true := by
      rw [hPf]; rcases hop with ⟨ho8, rfl⟩ | ⟨ho8, rfl⟩ <;> first | (exfalso; omega) | skip
      all_goals (cases h91 : finN a (o / b.next.length) <;> cases h92 : finN b (o % b.next.length) <;> first | rfl | contradiction | exact (tf h91 ‹_›).elim | exact (tf h92 ‹_›).elim)
     have hbq : bools (fs ++ [finN (prodD f a b) o]) = bools fs ++ [.bool true] := by rw [hvo]; simp
     refine TO.sub (O' := ([oI z6 25 [(.int .i64 a.vars), (.int .i64 0), (.slice z17 (i + 1) zc18), (.slice z47 (i + 1) zc48)], rowI z17 zc18 48 1 (vals (qs ++ [⟨rb, rc, rnR (prodD f a b) o⟩])), rowI z47 zc48 4 1 (bools (fs ++ [finN (prodD f a b) o])), rowI (some ⟨z4, 0, none⟩) (a.next.length * b.next.length) 3 1 (ints (nmL (a.next.length * b.next.length) (bfsM (prodD f a b) i o x))), rowI pb2 pc2 123 2 (prs b.next.length (bfsM (prodD f a b) i o x)), oI z3 25 [(.int .i64 0), (.int .i64 0), nS, nS], oI z2 25 (dC b k), oI z1 25 (dC a j)] ++ itms 3 (qs ++ [⟨rb, rc, rnR (prodD f a b) o⟩]))) (by rw [hbq]; exact Sub.d (.k (.k (.k (.k (.k (.k (.k (.k .rf))))))))) ?_
     refine TO.nl ?_
     exact ⟨z47, zc48, rfl, (.of rfl)⟩
    refine TO.gq rfl rfl (QT.toB (q_move rfl) (Bool.eq_false_iff.2 hs164)) (TO.gq rfl rfl (q_move rfl) (TO.gq rfl rfl (q_pick0 rfl rfl) (TO.gq rfl rfl (q_pick1 rfl rfl) (TO.q (q_pick0 rfl rfl) ?_))))
    by_cases hs169 : (finN b (o % b.next.length)) = true
    ·refine TO.q (QT.toB (q_move rfl) (hs169)) ?_
     refine TO.pd rfl rfl (TO.pd rfl rfl (TO.pd rfl rfl (TO.pd rfl rfl (TO.pd rfl rfl (TO.pd rfl rfl (TO.pd rfl rfl (TO.q (q_pick1 rfl rfl) (TO.l rfl (l_build1 (v := .bool true) uT23 inf4 rfl rfl rfl (fun z49 => ?_))))))))))
     refine TO.l rfl (l_append 3 uT23 uT23 inf4 rfl rfl rfl rfl (by rw [List.length_map] <;> omega) (by decide) (Src.row (j := 0) rfl (by simp)) (by simp [oneB]) (by omega) (by decide) (by decide) (fun z50 zc51 => ?_))
     refine TO.q (q_fa uT25 rfl inf23 rfl rfl) (TO.l rfl (l_sb (v := (.slice z50 (i + 1) zc51)) (vs := [(.slice z50 (i + 1) zc51)]) 1 inf23 rfl rfl rfl rfl rfl rfl (by simp [putL]) ?_))
     have hvo : finN (prodD f a b) o = true := by
      rw [hPf]; rcases hop with ⟨ho8, rfl⟩ | ⟨ho8, rfl⟩ <;> first | (exfalso; omega) | skip
      all_goals (cases h91 : finN a (o / b.next.length) <;> cases h92 : finN b (o % b.next.length) <;> first | rfl | contradiction | exact (tf h91 ‹_›).elim | exact (tf h92 ‹_›).elim)
     have hbq : bools (fs ++ [finN (prodD f a b) o]) = bools fs ++ [.bool true] := by rw [hvo]; simp
     refine TO.sub (O' := ([oI z6 25 [(.int .i64 a.vars), (.int .i64 0), (.slice z17 (i + 1) zc18), (.slice z50 (i + 1) zc51)], rowI z17 zc18 48 1 (vals (qs ++ [⟨rb, rc, rnR (prodD f a b) o⟩])), rowI z50 zc51 4 1 (bools (fs ++ [finN (prodD f a b) o])), rowI (some ⟨z4, 0, none⟩) (a.next.length * b.next.length) 3 1 (ints (nmL (a.next.length * b.next.length) (bfsM (prodD f a b) i o x))), rowI pb2 pc2 123 2 (prs b.next.length (bfsM (prodD f a b) i o x)), oI z3 25 [(.int .i64 0), (.int .i64 0), nS, nS], oI z2 25 (dC b k), oI z1 25 (dC a j)] ++ itms 3 (qs ++ [⟨rb, rc, rnR (prodD f a b) o⟩]))) (by rw [hbq]; exact Sub.d (.k (.k (.k (.k (.k (.k (.k (.k .rf))))))))) ?_
     refine TO.nl ?_
     exact ⟨z50, zc51, rfl, (.of rfl)⟩
    refine TO.q (QT.toB (q_move rfl) (Bool.eq_false_iff.2 hs169)) (TO.gq rfl rfl (q_move rfl) (TO.gq rfl rfl (QT.toB (q_eql rfl rfl) (decide_eq_false (by omega))) (TO.gq rfl rfl (q_move rfl) (TO.pd rfl rfl (TO.pd rfl rfl (TO.pd rfl rfl (TO.gq rfl rfl (q_pick0 rfl rfl) ?_)))))))
    refine TO.q (q_pick0 rfl rfl) (TO.l rfl (l_build1 (v := .bool false) uT23 inf4 rfl rfl rfl (fun z52 => ?_)))
    refine TO.l rfl (l_append 3 uT23 uT23 inf4 rfl rfl rfl rfl (by rw [List.length_map] <;> omega) (by decide) (Src.row (j := 0) rfl (by simp)) (by simp [oneB]) (by omega) (by decide) (by decide) (fun z53 zc54 => ?_))
    refine TO.q (q_fa uT25 rfl inf23 rfl rfl) (TO.l rfl (l_sb (v := (.slice z53 (i + 1) zc54)) (vs := [(.slice z53 (i + 1) zc54)]) 1 inf23 rfl rfl rfl rfl rfl rfl (by simp [putL]) ?_))
    have hvo : finN (prodD f a b) o = false := by
     rw [hPf]; rcases hop with ⟨ho8, rfl⟩ | ⟨ho8, rfl⟩ <;> first | (exfalso; omega) | skip
     all_goals (cases h91 : finN a (o / b.next.length) <;> cases h92 : finN b (o % b.next.length) <;> first | rfl | contradiction | exact (tf h91 ‹_›).elim | exact (tf h92 ‹_›).elim)
    have hbq : bools (fs ++ [finN (prodD f a b) o]) = bools fs ++ [.bool false] := by rw [hvo]; simp
    refine TO.sub (O' := ([oI z6 25 [(.int .i64 a.vars), (.int .i64 0), (.slice z17 (i + 1) zc18), (.slice z53 (i + 1) zc54)], rowI z17 zc18 48 1 (vals (qs ++ [⟨rb, rc, rnR (prodD f a b) o⟩])), rowI z53 zc54 4 1 (bools (fs ++ [finN (prodD f a b) o])), rowI (some ⟨z4, 0, none⟩) (a.next.length * b.next.length) 3 1 (ints (nmL (a.next.length * b.next.length) (bfsM (prodD f a b) i o x))), rowI pb2 pc2 123 2 (prs b.next.length (bfsM (prodD f a b) i o x)), oI z3 25 [(.int .i64 0), (.int .i64 0), nS, nS], oI z2 25 (dC b k), oI z1 25 (dC a j)] ++ itms 3 (qs ++ [⟨rb, rc, rnR (prodD f a b) o⟩]))) (by rw [hbq]; exact Sub.d (.k (.k (.k (.k (.k (.k (.k (.k .rf))))))))) ?_
    refine TO.nl ?_
    exact ⟨z53, zc54, rfl, (.of rfl)⟩
   refine TO.gq rfl rfl (QT.toB (q_move rfl) (decide_eq_false hs162)) (TO.pd rfl rfl (TO.pd rfl rfl (TO.pd rfl rfl (TO.pd rfl rfl (TO.gq rfl rfl (q_pick0 rfl rfl) (TO.q (q_pick0 rfl rfl) (TO.qm rfl (TO.gq rfl rfl (q_move rfl) ?_))))))))
   refine TO.gq rfl rfl (QT.toB (q_eql rfl rfl) (decide_eq_false (by omega))) (TO.gq rfl rfl (q_move rfl) (TO.pd rfl rfl (TO.pd rfl rfl (TO.pd rfl rfl (TO.gq rfl rfl (q_pick0 rfl rfl) (TO.q (q_pick0 rfl rfl) (TO.l rfl (l_build1 (v := .bool false) uT23 inf4 rfl rfl rfl (fun z55 => ?_)))))))))
   refine TO.l rfl (l_append 3 uT23 uT23 inf4 rfl rfl rfl rfl (by rw [List.length_map] <;> omega) (by decide) (Src.row (j := 0) rfl (by simp)) (by simp [oneB]) (by omega) (by decide) (by decide) (fun z56 zc57 => ?_))
   refine TO.q (q_fa uT25 rfl inf23 rfl rfl) (TO.l rfl (l_sb (v := (.slice z56 (i + 1) zc57)) (vs := [(.slice z56 (i + 1) zc57)]) 1 inf23 rfl rfl rfl rfl rfl rfl (by simp [putL]) ?_))
   have hvo : finN (prodD f a b) o = false := by
    rw [hPf]; rcases hop with ⟨ho8, rfl⟩ | ⟨ho8, rfl⟩ <;> first | (exfalso; omega) | skip
    all_goals (cases h91 : finN a (o / b.next.length) <;> cases h92 : finN b (o % b.next.length) <;> first | rfl | contradiction | exact (tf h91 ‹_›).elim | exact (tf h92 ‹_›).elim)
   have hbq : bools (fs ++ [finN (prodD f a b) o]) = bools fs ++ [.bool false] := by rw [hvo]; simp
   refine TO.sub (O' := ([oI z6 25 [(.int .i64 a.vars), (.int .i64 0), (.slice z17 (i + 1) zc18), (.slice z56 (i + 1) zc57)], rowI z17 zc18 48 1 (vals (qs ++ [⟨rb, rc, rnR (prodD f a b) o⟩])), rowI z56 zc57 4 1 (bools (fs ++ [finN (prodD f a b) o])), rowI (some ⟨z4, 0, none⟩) (a.next.length * b.next.length) 3 1 (ints (nmL (a.next.length * b.next.length) (bfsM (prodD f a b) i o x))), rowI pb2 pc2 123 2 (prs b.next.length (bfsM (prodD f a b) i o x)), oI z3 25 [(.int .i64 0), (.int .i64 0), nS, nS], oI z2 25 (dC b k), oI z1 25 (dC a j)] ++ itms 3 (qs ++ [⟨rb, rc, rnR (prodD f a b) o⟩]))) (by rw [hbq]; exact Sub.d (.k (.k (.k (.k (.k (.k (.k (.k .rf))))))))) ?_
   refine TO.nl ?_
   exact ⟨z56, zc57, rfl, (.of rfl)⟩
  rintro ρ O ⟨fb2, fc2, rfl, hH⟩
  obtain ⟨ρ0, rfl⟩ := hH.elim
  clear hH
  refine T.rg (TO.qm rfl (TO.q (q_addN (a := i) (b := 1) rfl rfl (by omega)) (TO.qa rfl (TO.nl ?_))))
  have hoa := bfs_at hq (by rw [prod_len]; omega)
  exact ⟨i + 1, by omega, ([oI z6 25 [(.int .i64 a.vars), (.int .i64 0), (.slice z17 (i + 1) zc18), (.slice fb2 (i + 1) fc2)], rowI z17 zc18 48 1 (vals (qs ++ [⟨rb, rc, rnR (prodD f a b) o⟩])), rowI fb2 fc2 4 1 (bools (fs ++ [finN (prodD f a b) o])), rowI (some ⟨z4, 0, none⟩) (a.next.length * b.next.length) 3 1 (ints (nmL (a.next.length * b.next.length) (bfsM (prodD f a b) i o x))), rowI pb2 pc2 123 2 (prs b.next.length (bfsM (prodD f a b) i o x)), oI z3 25 [(.int .i64 0), (.int .i64 0), nS, nS], oI z2 25 (dC b k), oI z1 25 (dC a j)] ++ (itms 3 (qs ++ [⟨rb, rc, rnR (prodD f a b) o⟩]))), (by exact Sub.rf), z17, fb2, zc18, fc2, qs ++ [⟨rb, rc, rnR (prodD f a b) o⟩], fs ++ [finN (prodD f a b) o], pb2, pc2, by rw [← e1], by rw [← e1]; exact hle9, by simp [hql], by simp [hfl], by rw [take_at hoa, List.map_append, ← hqs]; exact List.map_append, by rw [take_at hoa, List.map_append, ← hfs]; rfl, ⟨rfl, rfl, rfl, rfl, rfl, rfl, rfl, (congrArg (fun n9 => Value.slice _ n9 _) (by rw [← e1])), rfl, rfl, trivial⟩⟩
 have hge51 : ¬ i < (bfsN (prodD f a b) i).length := by omega
 refine T.exit ?_
 refine T.s ?_
 have hN9 : (bfsN (prodD f a b) i).length = i := by omega
 have hor := pr_stop va vb hv hN9
 have hol : (order (prodD f a b)).length = i := by rw [hor]; exact hN9
 obtain ⟨W, hW⟩ : ∃ W, W = renum (prodD f a b) := ⟨_, rfl⟩
 have e1 : nums qs = W.next := by rw [hW, hqs, ← hol, List.take_length]; exact (renum_rows _).symm
 have e2 : fs = W.final := by rw [hW, hfs, ← hol, List.take_length]; rfl
 have e3 : W.vars = a.vars := by rw [hW]; rfl
 have e4 : W.start = 0 := by rw [hW]; rfl
 have e5 : W.next.length = i := by rw [← e1, ← hql]; simp
 have e6 : W.final.length = i := by rw [← e2]; exact hfl
 have vW : Valid W := by rw [hW]; exact vR
 have hMW : minD W = M := by rw [hW, comb_eq va.toVal vb.toVal hv]; exact hM
 subst e2
 obtain ⟨z9, hz9⟩ : ∃ z : DK, z = ⟨nb, nc, fb, fc, qs⟩ := ⟨_, rfl⟩
 refine T.sub (O' := ([rowI nb nc 48 1 (vals qs), rowI fb fc 4 1 (bools W.final), oI z6 25 [(.int .i64 a.vars), (.int .i64 0), (.slice nb W.next.length nc), (.slice fb W.final.length fc)], oI z3 25 [(.int .i64 0), (.int .i64 0), nS, nS]] ++ itms 3 qs)) (by rw [e5, e6]; exact Sub.pull [oI z6 25 [(.int .i64 a.vars), (.int .i64 0), (.slice nb i nc), (.slice fb i fc)]] _ (.pull [oI z6 25 [(.int .i64 a.vars), (.int .i64 0), (.slice nb i nc), (.slice fb i fc)]] _ (.k (.d (.d (.k (.d (.d .rf)))))))) ?_
 refine T.sub (O' := (([rowI nb nc 48 1 (vals qs), rowI fb fc 4 1 (bools W.final)] ++ itms 3 qs) ++ [oI z6 25 [(.int .i64 a.vars), (.int .i64 0), (.slice nb W.next.length nc), (.slice fb W.final.length fc)], oI z3 25 [(.int .i64 0), (.int .i64 0), nS, nS]])) (by exact Sub.swap3 [rowI nb nc 48 1 (vals qs), rowI fb fc 4 1 (bools W.final)] (itms 3 qs) [oI z6 25 [(.int .i64 a.vars), (.int .i64 0), (.slice nb W.next.length nc), (.slice fb W.final.length fc)], oI z3 25 [(.int .i64 0), (.int .i64 0), nS, nS]]) ?_
 refine T.pack (φ := nums qs = W.next) e1 ?_
 refine T.sub (O' := [dI 48 4 3 W z9, oI z6 25 (dC W z9), oI z3 25 [(.int .i64 0), (.int .i64 0), nS, nS]]) (by subst hz9; unfold dC dfaCells; rw [e3, e4]; exact Sub.rf) ?_
 refine T.rg (TO.q (q_la 1 uT25 rfl inf25 rfl rfl rfl) (TO.l rfl (l_call ent41 (CallT.op fun w1 hI => (haveI := tbz hI; rMinKE w1 W z9 (hI.at (k := z9) (mG 0 rfl)) vW (Nat.lt_of_le_of_lt vW.n4 (by decide)) hMW)) rfl ?_)))
 rintro vr O' ⟨N, rfl, k', rfl, rfl⟩
 refine TO.q (q_extract (vs := _) rfl rfl) (TO.q (q_extract (vs := _) rfl rfl) (TO.l rfl (l_sb (v := (dV M k')) (vs := (dC M k')) 3 inf25 rfl rfl rfl rfl rfl rfl (by simp [putL]) ?_)))
 refine TO.qa rfl (TO.nl (T.ret (Res.drop ?_)))
 refine Res.cell1b (.int .i64 0) (i := 3) Tryz.results77 uT25 rfl inf25 rfl rfl rfl rfl ?_
 exact ⟨[dI 48 4 3 M k'], (by exact Sub.k .z), k', rfl, rfl⟩
theorem andBR (w : World) [Tab Tryz.prog w] (a b : DFA) (j k : DK) (ha : At w a j) (hb : At w b k) (va : Valid a) (vb : Valid b) (hv : a.vars = b.vars) (hN : (order (prodD andB a b)).length ≤ 4096) {M : DFA} (hM : opD andB a b = M) :
  PureT Tryz.prog 77 [dV a j, dV b k, .int .u8 10] w fun v N => ∃ k' : DK, v = .tuple #[dV M k', .int .i64 0] ∧ N = [dI 48 4 3 M k'] :=
 combR w andB 10 (.inl ⟨rfl, rfl⟩) a b j k ha hb va vb hv hN hM
theorem orBR (w : World) [Tab Tryz.prog w] (a b : DFA) (j k : DK) (ha : At w a j) (hb : At w b k) (va : Valid a) (vb : Valid b) (hv : a.vars = b.vars) (hN : (order (prodD orB a b)).length ≤ 4096) {M : DFA} (hM : opD orB a b = M) :
  PureT Tryz.prog 77 [dV a j, dV b k, .int .u8 11] w fun v N => ∃ k' : DK, v = .tuple #[dV M k', .int .i64 0] ∧ N = [dI 48 4 3 M k'] :=
 combR w orB 11 (.inr ⟨rfl, rfl⟩) a b j k ha hb va vb hv hN hM
end Go.Proofs.YtnpehjpookcfkaaGreatDoor


namespace Go.Proofs.YtnpehjpookcfkaaGreatDoor
open Go.Lx Go.RowKit _root_.Go.Proofs.Tryz
theorem overInts (base : World) (b : Option Addr) (c c' : Nat) (xs : List Int) (hb : xs.length < 9223372036854775807) :
  CallT Tryz.prog base 99 [.slice b xs.length c'] [rowI b c 3 1 (ints xs)] (fun _ O' => O' = []) := by
 refine CallT.enter func99 rfl ntmps99 rfl ?_
 refine T.s (T.rg (TO.qa rfl (TO.nl (T.block ?_))))
 refine T.loop (fun (k : Nat) ρ O => ∃ (ys : List Int), O = [rowI b c 3 1 (ints ys)] ∧ k ≤ xs.length ∧ ys.length = xs.length ∧ Heads [(0, (.slice b xs.length c')), (2, vI (k : Int))] ρ) (fun k => xs.length - k) 0 ?_ ?_
 ·exact ⟨xs, rfl, Nat.zero_le _, rfl, ⟨rfl, rfl, trivial⟩⟩
 rintro k ρ O ⟨ys, rfl, hk, hyl, hH⟩
 obtain ⟨ρ0, rfl⟩ := hH.elim
 clear hH
 refine T.s (T.s (T.rg (TO.qm rfl (TO.qm rfl (TO.q (q_len underlying48 rfl) (TO.q (q_lss rfl rfl) (TO.nl (T.condP rfl (fun hc => ?_) (fun hc => ?_)))))))))
 ·have hlt6 : k < xs.length := by omega
  have hlt : k < ys.length := by omega
  refine T.skip (T.s (T.block (T.rg (TO.qm rfl (TO.qm rfl (TO.q (q_ix (i := k) underlying48 inf3 rfl rfl (rowO (mG 0 rfl))) (TO.l rfl (l_st (j := k) (v := vI (-77)) (vs := [(vI (-77))]) (cs := ints ys) 0 inf3 rfl rfl rfl rfl rfl (by simp) rfl (by first | (simp; omega) | (simp_all; omega)) ?_))))))))
  refine TO.sub (O' := [rowI b c 3 1 (ints (ys.set k (-77)))]) (by rw [show putL (ints ys) k [(vI (-77))] = ints (ys.set k (-77)) from by simp [putL]]; exact Sub.of (List.Sublist.refl _)) ?_
  refine TO.nl (T.rg (TO.qm rfl (TO.q (q_inc rfl rfl (by omega)) (TO.qa rfl (TO.nl ?_)))))
  exact ⟨k + 1, by omega, ys.set k (-77), rfl, by omega, by simp [hyl], ⟨rfl, rfl, trivial⟩⟩
 have hge6 : ¬ k < xs.length := by omega
 refine T.exit ?_
 refine Res.drop ?_
 refine Res.zero Tryz.results99 ?_
 exact ⟨[], Sub.of (List.nil_sublist _), rfl⟩
theorem overBytes (base : World) (b : Option Addr) (c c' : Nat) (xs : List Nat) (hb : xs.length < 9223372036854775807) :
  CallT Tryz.prog base 18 [.slice b xs.length c'] [rowI b c 5 1 (byts xs)] (fun _ O' => O' = []) := by
 refine CallT.enter func18 rfl ntmps18 rfl ?_
 refine T.s (T.rg (TO.qa rfl (TO.nl (T.block ?_))))
 refine T.loop (fun (k : Nat) ρ O => ∃ (ys : List Nat), O = [rowI b c 5 1 (byts ys)] ∧ k ≤ xs.length ∧ ys.length = xs.length ∧ Heads [(0, (.slice b xs.length c')), (2, vI (k : Int))] ρ) (fun k => xs.length - k) 0 ?_ ?_
 ·exact ⟨xs, rfl, Nat.zero_le _, rfl, ⟨rfl, rfl, trivial⟩⟩
 rintro k ρ O ⟨ys, rfl, hk, hyl, hH⟩
 obtain ⟨ρ0, rfl⟩ := hH.elim
 clear hH
 refine T.s (T.s (T.rg (TO.qm rfl (TO.qm rfl (TO.q (q_len underlying34 rfl) (TO.q (q_lss rfl rfl) (TO.nl (T.condP rfl (fun hc => ?_) (fun hc => ?_)))))))))
 ·have hlt6 : k < xs.length := by omega
  have hlt : k < ys.length := by omega
  refine T.skip (T.s (T.block (T.rg (TO.qm rfl (TO.qm rfl (TO.q (q_ix (i := k) underlying34 inf5 rfl rfl (rowO (mG 0 rfl))) (TO.l rfl (l_st (j := k) (v := .int .u8 201) (vs := [(.int .u8 201)]) (cs := byts ys) 0 inf5 rfl rfl rfl rfl rfl (by simp) rfl (by first | (simp; omega) | (simp_all; omega)) ?_))))))))
  refine TO.sub (O' := [rowI b c 5 1 (byts (ys.set k 201))]) (by rw [show putL (byts ys) k [(.int .u8 201)] = byts (ys.set k 201) from by simp [putL]]; exact Sub.of (List.Sublist.refl _)) ?_
  refine TO.nl (T.rg (TO.qm rfl (TO.q (q_inc rfl rfl (by omega)) (TO.qa rfl (TO.nl ?_)))))
  exact ⟨k + 1, by omega, ys.set k 201, rfl, by omega, by simp [hyl], ⟨rfl, rfl, trivial⟩⟩
 have hge6 : ¬ k < xs.length := by omega
 refine T.exit ?_
 refine Res.drop ?_
 refine Res.zero Tryz.results18 ?_
 exact ⟨[], Sub.of (List.nil_sublist _), rfl⟩
theorem overBools (base : World) (b : Option Addr) (c c' : Nat) (xs : List Bool) (hb : xs.length < 9223372036854775807) :
  CallT Tryz.prog base 80 [.slice b xs.length c'] [rowI b c 4 1 (bools xs)] (fun _ O' => O' = []) := by
 refine CallT.enter func80 rfl ntmps80 rfl ?_
 refine T.s (T.rg (TO.qa rfl (TO.nl (T.block ?_))))
 refine T.loop (fun (k : Nat) ρ O => ∃ (ys : List Bool), O = [rowI b c 4 1 (bools ys)] ∧ k ≤ xs.length ∧ ys.length = xs.length ∧ Heads [(0, (.slice b xs.length c')), (2, vI (k : Int))] ρ) (fun k => xs.length - k) 0 ?_ ?_
 ·exact ⟨xs, rfl, Nat.zero_le _, rfl, ⟨rfl, rfl, trivial⟩⟩
 rintro k ρ O ⟨ys, rfl, hk, hyl, hH⟩
 obtain ⟨ρ0, rfl⟩ := hH.elim
 clear hH
 refine T.s (T.s (T.rg (TO.qm rfl (TO.qm rfl (TO.q (q_len underlying23 rfl) (TO.q (q_lss rfl rfl) (TO.nl (T.condP rfl (fun hc => ?_) (fun hc => ?_)))))))))
 ·have hlt6 : k < xs.length := by omega
  have hlt : k < ys.length := by omega
  refine T.skip (T.s (T.block (T.rg (TO.qm rfl (TO.qm rfl (TO.qm rfl (TO.qm rfl (TO.q (q_ix (i := k) underlying23 inf4 rfl rfl (rowO (mG 0 rfl))) (TO.q (q_ld underlying4 rfl rfl (rowO (mG 0 rfl)) bools_get) (TO.q (q_not rfl) (TO.q (q_ix (i := k) underlying23 inf4 rfl rfl (rowO (mG 0 rfl))) (TO.l rfl (l_st (j := k) (v := .bool (!ys[k])) (vs := [(.bool (!ys[k]))]) (cs := bools ys) 0 inf4 rfl rfl rfl rfl rfl (by simp) rfl (by first | (simp; omega) | (simp_all; omega)) ?_)))))))))))))
  refine TO.sub (O' := [rowI b c 4 1 (bools (ys.set k (!ys[k])))]) (by rw [show putL (bools ys) k [(.bool (!ys[k]))] = bools (ys.set k (!ys[k])) from by simp [putL]]; exact Sub.of (List.Sublist.refl _)) ?_
  refine TO.nl (T.rg (TO.qm rfl (TO.q (q_inc rfl rfl (by omega)) (TO.qa rfl (TO.nl ?_)))))
  exact ⟨k + 1, by omega, ys.set k (!ys[k]), rfl, by omega, by simp [hyl], ⟨rfl, rfl, trivial⟩⟩
 have hge6 : ¬ k < xs.length := by omega
 refine T.exit ?_
 refine Res.drop ?_
 refine Res.zero Tryz.results80 ?_
 exact ⟨[], Sub.of (List.nil_sublist _), rfl⟩
theorem overRows (base : World) (b : Option Addr) (c c' : Nat) (qs : List Rec) (hb : qs.length < 9223372036854775807) (hbr : ∀ q ∈ qs, q.xs.length < 9223372036854775807) :
  CallT Tryz.prog base 79 [.slice b qs.length c'] (rowI b c 48 1 (vals qs) :: itms 3 qs) (fun _ O' => O' = []) := by
 refine CallT.enter func79 rfl ntmps79 rfl ?_
 refine T.s (T.rg (TO.qa rfl (TO.nl (T.block ?_))))
 refine T.loop (fun (k : Nat) ρ O => O = ([rowI b c 48 1 (vals qs)] ++ (itms 3 (qs.drop k))) ∧ k ≤ qs.length ∧ Heads [(0, (.slice b qs.length c')), (2, vI (k : Int))] ρ) (fun k => qs.length - k) 0 ?_ ?_
 ·exact ⟨rfl, Nat.zero_le _, ⟨rfl, rfl, trivial⟩⟩
 rintro k ρ O ⟨rfl, hk, hH⟩
 obtain ⟨ρ0, rfl⟩ := hH.elim
 clear hH
 refine T.s (T.s (T.rg (TO.qm rfl (TO.qm rfl (TO.q (q_len underlying22 rfl) (TO.q (q_lss rfl rfl) (TO.nl (T.condP rfl (fun hc => ?_) (fun hc => ?_)))))))))
 ·have hlt6 : k < qs.length := by omega
  have hlt : k < qs.length := by omega
  have hit : itms 3 (qs.drop k) = rowI qs[k].b qs[k].c 3 1 (ints qs[k].xs) :: itms 3 (qs.drop (k + 1)) := by rw [List.drop_eq_getElem_cons hlt]; rfl
  refine T.skip (T.s (T.block (T.rg (TO.qm rfl (TO.qm rfl (TO.q (q_ix (i := k) underlying22 inf48 rfl rfl (rowO (mG 0 rfl))) (TO.q (q_ld underlying48 rfl rfl (rowO (mG 0 rfl)) (show (vals qs)[k]? = some (.slice qs[k].b qs[k].xs.length qs[k].c) by simp [hlt, Rec.val])) ?_)))))))
  have hk13 := CallT.under (B := rowI b c 48 1 (vals qs) :: itms 3 (qs.drop (k + 1))) (O := ([rowI b c 48 1 (vals qs)] ++ (itms 3 (qs.drop k)))) (overInts base qs[k].b qs[k].c qs[k].c qs[k].xs (hbr _ (List.getElem_mem hlt))) (by rw [hit]; exact Sub.ca [])
  refine TO.l rfl (l_call ent99 hk13 rfl ?_)
  clear hk13
  rintro v O' ⟨A1, rfl, rfl⟩
  refine TO.nl (T.rg (TO.qm rfl (TO.q (q_inc rfl rfl (by omega)) (TO.qa rfl (TO.nl ?_)))))
  exact ⟨k + 1, by omega, rfl, by omega, ⟨rfl, rfl, trivial⟩⟩
 have hge6 : ¬ k < qs.length := by omega
 refine T.exit ?_
 refine Res.drop ?_
 refine Res.zero Tryz.results79 ?_
 exact ⟨[], Sub.of (List.nil_sublist _), rfl⟩
theorem overDFA (base : World) (d : DFA) (nb fb : Option Addr) (nc fc n1 f1 : Nat) (qs : List Rec) (hq : nums qs = d.next) (hb : d.next.length < 9223372036854775807) (hbr : ∀ r ∈ d.next, r.length < 9223372036854775807) (hbf : d.final.length < 9223372036854775807) :
  CallT Tryz.prog base 51 [.agg (dfaCells d nb nc fb fc).toArray] ([rowI nb n1 48 1 (vals qs), rowI fb f1 4 1 (bools d.final)] ++ itms 3 qs) (fun _ O' => O' = []) := by
 refine CallT.enter func51 rfl ntmps51 rfl ?_
 have hql : qs.length = d.next.length := by rw [← hq]; simp
 have hqr : ∀ q ∈ qs, q.xs.length < 9223372036854775807 := fun q h => hbr _ (by rw [← hq]; exact List.mem_map_of_mem h)
 refine T.s (T.rg (TO.l rfl (l_box (v := (.agg #[(vI d.vars), (vI d.start), (.slice nb d.next.length nc), (.slice fb d.final.length fc)])) (cs := [(vI d.vars), (vI d.start), (.slice nb d.next.length nc), (.slice fb d.final.length fc)]) rfl rfl (fun b1 => ?_))))
 refine TO.nl (T.s (T.rg (TO.q (q_fa underlying25 rfl inf22 rfl rfl) (TO.q (q_lb 0 underlying22 rfl rfl rfl rfl) ?_))))
 have hk4 := CallT.under (B := [oI b1 25 [(vI d.vars), (vI d.start), (.slice nb d.next.length nc), (.slice fb d.final.length fc)], rowI fb f1 4 1 (bools d.final)]) (O := ([oI b1 25 [(vI d.vars), (vI d.start), (.slice nb d.next.length nc), (.slice fb d.final.length fc)], rowI nb n1 48 1 (vals qs), rowI fb f1 4 1 (bools d.final)] ++ (itms 3 qs))) (hql ▸ overRows base nb n1 nc qs (by omega) hqr) (Sub.ca [])
 refine TO.l rfl (l_call ent79 hk4 rfl ?_)
 clear hk4
 rintro v O' ⟨A1, rfl, rfl⟩
 refine TO.nl (T.rg (TO.q (q_fa underlying25 rfl inf23 rfl rfl) (TO.q (q_lb 0 underlying23 rfl rfl rfl rfl) ?_)))
 have hk7 := CallT.under (B := [oI b1 25 [(vI d.vars), (vI d.start), (.slice nb d.next.length nc), (.slice fb d.final.length fc)]]) (O := [oI b1 25 [(vI d.vars), (vI d.start), (.slice nb d.next.length nc), (.slice fb d.final.length fc)], rowI fb f1 4 1 (bools d.final)]) (overBools base fb f1 fc d.final hbf) (Sub.ca [])
 refine TO.l rfl (l_call ent80 hk7 rfl ?_)
 clear hk7
 rintro v O' ⟨A1, rfl, rfl⟩
 refine TO.nl (Res.drop ?_)
 refine Res.zero Tryz.results51 ?_
 exact ⟨[], Sub.of (List.nil_sublist _), rfl⟩
end Go.Proofs.YtnpehjpookcfkaaGreatDoor


namespace Go.Proofs.YtnpehjpookcfkaaGreatDoor
open Go.Lx Go.RowKit _root_.Go.Proofs.Tryz
theorem copyK (w : World) [Tab Tryz.prog w] (d : DFA) (k : DK) (h : At w d k) (hb : d.next.length * 24 ≤ 70368744177664) (hbr : ∀ r ∈ d.next, r.length * 8 ≤ 70368744177664) (hbf : d.final.length * 1 ≤ 70368744177664) :
  PureT Tryz.prog 32 [dV d k] w fun v N => ∃ k' : DK, v = dV d k' ∧ N = [dI 48 4 3 d k'] := CallT.dk (g := id) (copyDFA w d k.nb k.fb k.nc k.fc (vals k.qs) h hb hbr hbf)
theorem overK (base : World) [Tab Tryz.prog base] (d : DFA) (k : DK) (hb : d.next.length < 9223372036854775807) (hbr : ∀ r ∈ d.next, r.length < 9223372036854775807) (hbf : d.final.length < 9223372036854775807) :
  CallT Tryz.prog base 51 [dV d k] [dI 48 4 3 d k] (fun _ O' => O' = []) :=
 CallT.packO (M := []) fun hq => by rw [List.append_nil]; exact overDFA base d k.nb k.fb k.nc k.fc k.nc k.fc k.qs hq hb hbr hbf
theorem refNotOk (w : World) [Tab Tryz.prog w] (a : DFA) (j : DK) (ha : At w a j) (haa : a.next.length < 9223372036854775807) (haar : ∀ r ∈ a.next, r.length < 9223372036854775807) (haaf : a.final.length < 9223372036854775807) (va : Valid a) :
  PureT Tryz.prog 85 [dV a j] w fun v N => ∃ k' : DK, v = .tuple #[dV (opV notB a a) k', vI (checkD a : Int)] ∧ N = [dI 48 4 3 (opV notB a a) k'] := by
 refine CallT.enter func85 rfl ntmps85 rfl ?_
 have he := checkD_zero.2 va
 have hfin := va.fin
 refine T.s (T.rg (TO.l rfl (l_box (v := (dV a j)) (cs := (dC a j)) rfl rfl (fun z1 => ?_))))
 refine TO.l rfl (l_alloc inf25 rfl (fun z2 => ?_))
 refine TO.qa rfl (TO.nl (T.s (T.rg (TO.q (q_la 1 uT25 rfl inf25 rfl rfl rfl) (TO.l rfl (l_call ent34 (CallT.op fun w1 hI => (haveI := tbz hI; refCheck w1 a j.nb j.fb j.nc j.fc (vals j.qs) (hI.dfa ha) haa haar haaf)) rfl ?_))))))
 rintro vr O' ⟨N, rfl, rfl, rfl⟩
 rw [he]
 refine TO.qa rfl (TO.nl (T.s (T.s (T.rg (TO.qm rfl (TO.q (q_neq rfl rfl) (TO.nl (T.cond0 rfl (T.skip (T.s (T.rg (TO.q (q_la 1 uT25 rfl inf25 rfl rfl rfl) (TO.l rfl (l_call ent32 (CallT.op fun w1 hI => (haveI := tbz hI; copyK w1 a j (hI.atB ha) (by have := va.n4; omega) (fun r hr => by have := va.len r hr; have := va.width; omega) (by have := va.fin; have := va.n4; omega))) rfl ?_))))))))))))))
 rintro vr O' ⟨N, rfl, k1, rfl, rfl⟩
 refine TO.l rfl (l_alloc inf25 rfl (fun z3 => ?_))
 refine TO.l rfl (l_sb (v := (dV a k1)) (vs := (dC a k1)) 0 inf25 rfl rfl rfl rfl rfl rfl (by simp [putL]) ?_)
 refine TO.nl (T.s (T.s (T.rg (TO.qa rfl (TO.nl (T.block ?_))))))
 refine T.sub (O' := [dI 48 4 3 a k1, oI z3 25 (dC a k1), oI z2 25 [(vI 0), (vI 0), nS, nS], oI z1 25 (dC a j)]) (by exact Sub.pull [oI z3 25 (dC a k1)] _ (.k (.k (.k .z)))) ?_
 refine T.unpack (fun hqs => ?_)
 refine T.sub (O' := ([rowI k1.nb k1.nc 48 1 (vals k1.qs), rowI k1.fb k1.fc 4 1 (bools a.final), oI z3 25 (dC a k1), oI z2 25 [(vI 0), (vI 0), nS, nS], oI z1 25 (dC a j)] ++ itms 3 k1.qs)) (by exact Sub.swap3 [rowI k1.nb k1.nc 48 1 (vals k1.qs), rowI k1.fb k1.fc 4 1 (bools a.final)] _ (itms 3 k1.qs)) ?_
 refine T.loop (fun (s : Nat) ρ O => ∃ (fs : List Bool), O = ([rowI k1.nb k1.nc 48 1 (vals k1.qs), rowI k1.fb k1.fc 4 1 (bools fs), oI z3 25 (dC a k1), oI z2 25 [(vI 0), (vI 0), nS, nS], oI z1 25 (dC a j)] ++ (itms 3 k1.qs)) ∧ s ≤ a.final.length ∧ fs.length = a.final.length ∧ (∀ i, fs[i]? = if i < s then a.final[i]?.map (!·) else a.final[i]?) ∧ Heads [(0, (dV a j)), (1, (.pointer (aD z1))), (2, (.pointer (aD z2))), (3, vI 0), (4, vI ((0 : Nat) : Int)), (5, (.pointer (aD z3))), (6, vI ((s : Nat) : Int))] ρ) (fun s => a.final.length - s) 0 ?_ ?_
 ·exact ⟨a.final, rfl, Nat.zero_le _, rfl, fun i => by simp, (.of rfl)⟩
 rintro s ρ O ⟨fs, rfl, hs, hfl, hfs, hH⟩
 obtain ⟨ρ0, rfl⟩ := hH.elim
 clear hH
 refine T.s (T.s (T.rg (TO.qm rfl (TO.q (q_fa uT25 rfl inf23 rfl rfl) (TO.q (q_lb 2 uT23 rfl rfl rfl rfl) (TO.q (q_len uT23 rfl) (TO.q (q_lss rfl rfl) (TO.nl (T.condP rfl (fun hc => ?_) (fun hc => ?_))))))))))
 ·have hlt19 : s < a.final.length := by omega
  refine T.skip (T.s (T.block ?_))
  refine T.draws [rowI k1.nb k1.nc 48 1 (vals k1.qs), rowI k1.fb k1.fc 4 1 (bools fs), oI z3 25 (dC a k1), oI z2 25 [(vI 0), (vI 0), nS, nS], oI z1 25 (dC a j)] [(0, 0), (1, 0), (2, 0), (3, 0), (4, 0), (5, 0), (6, 0), (7, 0), (8, 0), (9, 0), (10, 2)] mixed (by kernel_rfl) (by exact Sub.k (.k (.k (.k (.k .z))))) (fun _ _ _ h => h) ?_
  refine DO.q rfl (q_fa uT25 rfl inf23 rfl rfl) (DO.q rfl (q_lb 2 uT23 rfl rfl rfl rfl) (DO.q rfl (q_move rfl) (DO.q rfl (q_fa uT25 rfl inf23 rfl rfl) ?_)))
  refine DO.q rfl (q_lb 2 uT23 rfl rfl rfl rfl) (DO.q rfl (q_move rfl) (DO.q rfl (q_ix (i := s) uT23 inf4 rfl rfl (rowO (mG 1 rfl)) hlt19 (by rw [List.length_map]; omega)) (DO.q rfl (q_ld uT4 rfl rfl (rowO (mG 1 rfl)) (show (bools fs)[s]? = some (.bool a.final[s]) by rw [List.getElem?_map, hfs s, if_neg (by omega), List.getElem?_eq_getElem hlt19]; rfl)) ?_)))
  refine DO.q rfl (q_not rfl) (DO.q rfl (q_ix (i := s) uT23 inf4 rfl rfl (rowO (mG 1 rfl)) hlt19 (by rw [List.length_map]; omega)) ?_)
  refine DO.last rfl rfl (l_st (j := s) (v := .bool (!a.final[s])) (vs := [(.bool (!a.final[s]))]) (cs := bools fs) 1 inf4 rfl rfl rfl rfl rfl (by simp) rfl (by first | (simp; omega) | (simp_all; omega)) ?_)
  refine DO.sub (O' := ([rowI k1.nb k1.nc 48 1 (vals k1.qs), rowI k1.fb k1.fc 4 1 (bools (fs.set s (!a.final[s]))), oI z3 25 (dC a k1), oI z2 25 [(vI 0), (vI 0), nS, nS], oI z1 25 (dC a j)] ++ (itms 3 k1.qs))) (by rw [show putL (bools fs) s [(.bool (!a.final[s]))] = bools (fs.set s (!a.final[s])) from by simp [putL]]; exact Sub.of (List.Sublist.refl _)) ?_
  refine DO.done ?_
  refine T.rg (TO.qm rfl (TO.q (q_addN (a := s) (b := 1) rfl rfl (by omega)) (TO.qa rfl (TO.nl ?_))))
  refine ⟨s + 1, by omega, fs.set s (!a.final[s]), rfl, by omega, by simp [hfl], fun i => ?_, (.of rfl)⟩
  by_cases e : i = s
  ·subst e; rw [List.getElem?_set_self (by omega), if_pos (by omega), List.getElem?_eq_getElem hlt19]; rfl
  ·rw [List.getElem?_set_ne (fun h => e h.symm), hfs i]
   by_cases e2 : i < s
   ·rw [if_pos e2, if_pos (by omega)]
   ·rw [if_neg e2, if_neg (by omega)]
 have hge19 : ¬ s < a.final.length := by omega
 refine T.exit ?_
 refine T.s ?_
 have hfe : fs = a.final.map (!·) := by
  apply List.ext_getElem?
  intro i
  rw [hfs i, List.getElem?_map]
  by_cases e2 : i < s
  ·rw [if_pos e2]
  ·rw [if_neg e2, List.getElem?_eq_none (by omega)]; rfl
 obtain ⟨W, hW⟩ : ∃ W, W = flipD a := ⟨_, rfl⟩
 have e2 : fs = W.final := by rw [hW, hfe]; rfl
 have hqW : nums k1.qs = W.next := by rw [hW, hqs]; rfl
 subst e2
 have vW : Valid W := hW ▸ flip_valid va
 obtain ⟨M, hM⟩ : ∃ M, minD W = M := ⟨_, rfl⟩
 have hM2 : opD notB a a = M := by rw [← hM, hW]; exact (notD_flipW va).symm
 have hfl2 : W.final.length = a.final.length := hfl
 refine T.sub (O' := (([rowI k1.nb k1.nc 48 1 (vals k1.qs), rowI k1.fb k1.fc 4 1 (bools W.final)] ++ itms 3 k1.qs) ++ [oI z3 25 (dC a k1), oI z2 25 [(vI 0), (vI 0), nS, nS], oI z1 25 (dC a j)])) (by exact Sub.swap3 [rowI k1.nb k1.nc 48 1 (vals k1.qs), rowI k1.fb k1.fc 4 1 (bools W.final)] (itms 3 k1.qs) [oI z3 25 (dC a k1), oI z2 25 [(vI 0), (vI 0), nS, nS], oI z1 25 (dC a j)]) ?_
 refine T.pack (φ := nums k1.qs = W.next) hqW ?_
 refine T.sub (O' := [dI 48 4 3 W k1, oI z3 25 (dC W k1), oI z2 25 [(vI 0), (vI 0), nS, nS], oI z1 25 (dC a j)]) (by rw [show dC W k1 = dC a k1 by subst hW; simp [flipD]]; exact Sub.rf) ?_
 refine T.rg (TO.q (q_la 1 uT25 rfl inf25 rfl rfl rfl) (TO.l rfl (l_call ent41 (CallT.op fun w1 hI => (haveI := tbz hI; rMinKE w1 W k1 (hI.at (k := k1) (mG 0 rfl)) vW (by rw [hW]; show a.next.length < 10000; have := va.n4; omega) hM)) rfl ?_)))
 rintro vr O' ⟨N, rfl, k', rfl, rfl⟩
 refine TO.q (q_extract (vs := _) rfl rfl) (TO.q (q_extract (vs := _) rfl rfl) (TO.l rfl (l_sb (v := (dV M k')) (vs := (dC M k')) 3 inf25 rfl rfl rfl rfl rfl rfl (by simp [putL]) ?_)))
 refine TO.qa rfl (TO.nl (T.ret (Res.drop ?_)))
 refine Res.cell1b (vI 0) (i := 3) Tryz.results85 uT25 rfl inf25 rfl rfl rfl rfl ?_
 rw [opV_ok (by rw [wrongD_self]; exact he), hM2]
 exact ⟨[dI 48 4 3 M k'], (by exact Sub.k .z), k', rfl, rfl⟩
end Go.Proofs.YtnpehjpookcfkaaGreatDoor


namespace Go.Proofs.YtnpehjpookcfkaaGreatDoor
open Go.Lx Go.RowKit _root_.Go.Proofs.Tryz
theorem rConCheck (w : World) [Tab Tryz.prog w] (a g : DFA) (j k : DK) (ha : At w a j) (hg : At w g k) (ba : a.next.length < 9223372036854775807 ∧ (∀ r ∈ a.next, r.length < 9223372036854775807) ∧ a.final.length < 9223372036854775807) (bg : g.next.length < 9223372036854775807 ∧ (∀ r ∈ g.next, r.length < 9223372036854775807) ∧ g.final.length < 9223372036854775807) :
  PureT Tryz.prog 9 [cV a g j k] w fun v N => v = vI (cE a g : Int) ∧ N = [] := by
 refine CallT.enter func9 rfl ntmps9 rfl ?_
 refine T.s (T.rg (TO.l rfl (l_box (v := (cV a g j k)) (cs := (cC a g j k)) rfl rfl (fun bx1 => ?_))))
 refine TO.qa rfl (TO.nl (T.s (T.s (T.rg (TO.q (q_fa uT27 rfl inf25 rfl rfl) (TO.q (q_load_part 0 (vs := (dC a j)) uT25 rfl inf25 rfl rfl rfl rfl) (TO.l rfl (l_call ent34 (CallT.op fun w1 hI => (haveI := tbz hI; refCheck w1 a j.nb j.fb j.nc j.fc (vals j.qs) (hI.dfa ha) ba.1 ba.2.1 ba.2.2)) rfl ?_))))))))
 rintro vr O' ⟨N, rfl, rfl, rfl⟩
 refine TO.qa rfl (TO.nl (T.s (T.rg (TO.qm rfl (TO.q (q_neq rfl rfl) (TO.nl (T.condP rfl (fun hc => ?_) (fun hc => ?_))))))))
 ·have hlt9 : checkD a ≠ 0 := by omega
  refine T.s (T.rg (TO.qm rfl (TO.qa rfl (TO.nl (T.ret (Res.drop ?_))))))
  refine Res.one (vI (checkD a : Int)) Tryz.results9 rfl ?_
  exact ⟨[], Sub.z, by rw [cE_first (by omega)], rfl⟩
 have hge9 : ¬ checkD a ≠ 0 := by omega
 refine T.skip (T.s (T.s (T.rg (TO.q (q_fa uT27 rfl inf25 rfl rfl) (TO.q (q_load_part 0 (vs := (dC g k)) uT25 rfl inf25 rfl rfl rfl rfl) (TO.l rfl (l_call ent34 (CallT.op fun w1 hI => (haveI := tbz hI; refCheck w1 g k.nb k.fb k.nc k.fc (vals k.qs) (hI.dfa hg) bg.1 bg.2.1 bg.2.2)) rfl ?_)))))))
 rintro vr O' ⟨N, rfl, rfl, rfl⟩
 refine TO.qa rfl (TO.nl (T.s (T.rg (TO.qm rfl (TO.q (q_neq rfl rfl) (TO.nl (T.condP rfl (fun hc => ?_) (fun hc => ?_))))))))
 ·have hlt15 : checkD g ≠ 0 := by omega
  refine T.s (T.rg (TO.qm rfl (TO.qa rfl (TO.nl (T.ret (Res.drop ?_))))))
  refine Res.one (vI (checkD g : Int)) Tryz.results9 rfl ?_
  exact ⟨[], Sub.z, by rw [cE_second (by omega) (by omega)], rfl⟩
 have hge15 : ¬ checkD g ≠ 0 := by omega
 refine T.skip (T.s (T.s (T.rg (TO.q (q_fa uT27 rfl inf25 rfl rfl) (TO.q (q_fa uT25 rfl inf3 rfl rfl) (TO.q (q_lb 0 uT3 rfl rfl rfl rfl) (TO.q (q_fa uT27 rfl inf25 rfl rfl) (TO.q (q_fa uT25 rfl inf3 rfl rfl) (TO.q (q_lb 0 uT3 rfl rfl rfl rfl) (TO.q (q_neq rfl rfl) (TO.nl (T.condP rfl (fun hc => ?_) (fun hc => ?_)))))))))))))
 ·refine T.s ?_
  refine T.rg (TO.qa rfl (TO.nl (T.ret (Res.drop ?_))))
  refine Res.one (vI 7) Tryz.results9 rfl ?_
  exact ⟨[], Sub.z, by rw [cE_vars (by omega) (by omega) hc]; rfl, rfl⟩
 refine T.skip (T.s (T.rg (TO.qa rfl (TO.nl (T.ret (Res.drop ?_))))))
 refine Res.one (vI 0) Tryz.results9 rfl ?_
 exact ⟨[], Sub.z, by rw [cE_ok (by omega) (by omega) (Classical.not_not.1 hc)]; rfl, rfl⟩
theorem rBoth (w : World) [Tab Tryz.prog w] (a g b h : DFA) (j k j2 k2 : DK) (ha : At w a j) (hg : At w g k) (hb : At w b j2) (hh : At w h k2) (ba : a.next.length < 9223372036854775807 ∧ (∀ r ∈ a.next, r.length < 9223372036854775807) ∧ a.final.length < 9223372036854775807) (bg : g.next.length < 9223372036854775807 ∧ (∀ r ∈ g.next, r.length < 9223372036854775807) ∧ g.final.length < 9223372036854775807) (bb : b.next.length < 9223372036854775807 ∧ (∀ r ∈ b.next, r.length < 9223372036854775807) ∧ b.final.length < 9223372036854775807) (bh : h.next.length < 9223372036854775807 ∧ (∀ r ∈ h.next, r.length < 9223372036854775807) ∧ h.final.length < 9223372036854775807) :
  PureT Tryz.prog 55 [cV a g j k, cV b h j2 k2] w fun v N => v = vI (bE a g b h : Int) ∧ N = [] := by
 refine CallT.enter func55 rfl ntmps55 rfl ?_
 refine T.s (T.rg (TO.l rfl (l_box (v := (cV a g j k)) (cs := (cC a g j k)) rfl rfl (fun bx1 => ?_))))
 refine TO.l rfl (l_box (v := (cV b h j2 k2)) (cs := (cC b h j2 k2)) rfl rfl (fun bx2 => ?_))
 refine TO.qa rfl (TO.nl (T.s (T.s (T.rg (TO.q (q_la 1 uT27 rfl inf27 rfl rfl rfl) (TO.l rfl (l_call ent9 (CallT.op fun w1 hI => (haveI := tbz hI; rConCheck w1 a g j k (hI.atB ha) (hI.atB hg) ba bg)) rfl ?_)))))))
 rintro vr O' ⟨N, rfl, rfl, rfl⟩
 refine TO.qa rfl (TO.nl (T.s (T.rg (TO.qm rfl (TO.q (q_neq rfl rfl) (TO.nl (T.condP rfl (fun hc => ?_) (fun hc => ?_))))))))
 ·have hlt10 : cE a g ≠ 0 := by omega
  refine T.s (T.rg (TO.qm rfl (TO.qa rfl (TO.nl (T.ret (Res.drop ?_))))))
  refine Res.one (vI (cE a g : Int)) Tryz.results55 rfl ?_
  exact ⟨[], Sub.z, by unfold bE; rw [if_pos (by omega)], rfl⟩
 have hge10 : ¬ cE a g ≠ 0 := by omega
 refine T.skip (T.s (T.s (T.rg (TO.q (q_la 0 uT27 rfl inf27 rfl rfl rfl) (TO.l rfl (l_call ent9 (CallT.op fun w1 hI => (haveI := tbz hI; rConCheck w1 b h j2 k2 (hI.atB hb) (hI.atB hh) bb bh)) rfl ?_))))))
 rintro vr O' ⟨N, rfl, rfl, rfl⟩
 refine TO.qa rfl (TO.nl (T.s (T.rg (TO.qm rfl (TO.q (q_neq rfl rfl) (TO.nl (T.condP rfl (fun hc => ?_) (fun hc => ?_))))))))
 ·have hlt15 : cE b h ≠ 0 := by omega
  refine T.s (T.rg (TO.qm rfl (TO.qa rfl (TO.nl (T.ret (Res.drop ?_))))))
  refine Res.one (vI (cE b h : Int)) Tryz.results55 rfl ?_
  exact ⟨[], Sub.z, by unfold bE; rw [if_neg (by omega), if_pos (by omega)], rfl⟩
 have hge15 : ¬ cE b h ≠ 0 := by omega
 refine T.skip (T.s (T.s (T.rg (TO.q (q_fa uT27 rfl inf25 rfl rfl) (TO.q (q_fa uT25 rfl inf3 rfl rfl) (TO.q (q_lb 1 uT3 rfl rfl rfl rfl) (TO.q (q_fa uT27 rfl inf25 rfl rfl) (TO.q (q_fa uT25 rfl inf3 rfl rfl) (TO.q (q_lb 0 uT3 rfl rfl rfl rfl) (TO.q (q_neq rfl rfl) (TO.nl (T.condP rfl (fun hc => ?_) (fun hc => ?_)))))))))))))
 ·refine T.s ?_
  refine T.rg (TO.qa rfl (TO.nl (T.ret (Res.drop ?_))))
  refine Res.one (vI 7) Tryz.results55 rfl ?_
  exact ⟨[], Sub.z, by unfold bE; rw [if_neg (by omega), if_neg (by omega), if_pos hc]; rfl, rfl⟩
 refine T.skip (T.s (T.rg (TO.qa rfl (TO.nl (T.ret (Res.drop ?_))))))
 refine Res.one (vI 0) Tryz.results55 rfl ?_
 exact ⟨[], Sub.z, by unfold bE; rw [if_neg (by omega), if_neg (by omega), if_neg (fun h => hc h)]; rfl, rfl⟩
theorem rNotE (w : World) [Tab Tryz.prog w] (a : DFA) (j : DK) (ha : At w a j) (va : Valid a) {M : DFA} (hM : notD a = M) :
  PureT Tryz.prog 85 [dV a j] w fun v N => ∃ k' : DK, v = .tuple #[dV M k', vI 0] ∧ N = [dI 48 4 3 M k'] := by
 have h := refNotOk w a j ha (by have := va.n4; omega) va.bound (by have := va.fin; have := va.n4; omega) va
 rw [opV_ok (by rw [wrongD_self]; exact checkD_zero.2 va), checkD_zero.2 va, show opD notB a a = M from hM] at h
 exact h
theorem rKeep (base : World) [Tab Tryz.prog base] (L : List Lx.Item) (sb : Nat) (a : DFA) (j : DK) :
  CallT Tryz.prog base 76 [.pointer (aD sb), dV a j, vI 0] ([oI sb 65 [(vI 0)]] ++ L) (fun v O' => v = dV a j ∧ O' = [oI sb 65 [(vI 0)]] ++ L) := by
 refine CallT.enter func76 rfl ntmps76 rfl ?_
 refine T.s (T.rg (TO.l rfl (l_box (v := (dV a j)) (cs := (dC a j)) rfl rfl (fun y1 => ?_))))
 refine TO.l rfl (l_alloc inf25 rfl (fun y2 => ?_))
 refine TO.nl (T.s (T.s (T.rg (TO.qm rfl (TO.q (q_nilCheck rfl) (TO.q (q_fa uT65 rfl inf30 rfl rfl) (TO.q (q_lb 2 uT30 rfl rfl rfl rfl) (TO.q (QT.toB (q_eql rfl rfl) (decide_eq_true rfl)) (TO.nl ?_)))))))))
 refine T.cond1 rfl ?_
 refine T.rg (TO.qm rfl (TO.qm rfl (TO.q (q_nilCheck rfl) (TO.q (q_fa uT65 rfl inf30 rfl rfl) (TO.l rfl (l_sb (v := vI 0) (vs := [(vI 0)]) 2 inf30 rfl rfl rfl rfl rfl rfl (by simp [putL]) ?_))))))
 refine TO.nl (T.s (T.rg (TO.q (q_la 1 uT25 rfl inf25 rfl rfl rfl) (TO.l rfl (l_sb (v := (dV a j)) (vs := (dC a j)) 0 inf25 rfl rfl rfl rfl rfl rfl (by simp [putL]) ?_)))))
 refine TO.nl (T.ret (Res.drop ?_))
 refine Res.cell1 (i := 0) Tryz.results76 uT25 rfl inf25 rfl rfl rfl ?_
 exact ⟨[oI sb 65 [(vI 0)]] ++ L, (Sub.pickR [2] [oI y2 25 (dC a j), oI y1 25 (dC a j), oI sb 65 [(vI 0)]] L rfl rfl), rfl, rfl⟩
theorem randM (base : World) [Tab Tryz.prog base] (L : List Lx.Item) (sb : Nat) {z a b : DFA} {p q : List Nat → Bool} (hz : Valid z) (ha : InL z a p) (hb : InL z b q) (j k : DK) (ha9 : ∀ w1, Inv base L w1 → At w1 a j) (hb9 : ∀ w1, Inv base L w1 → At w1 b k) {M : DFA} (hM : opD andB a b = M) :
  CallT Tryz.prog base 48 [.pointer (aD sb), dV a j, dV b k] ([oI sb 65 [(vI 0)]] ++ L) (fun v O' => ∃ k' : DK, v = dV M k' ∧ O' = [dI 48 4 3 M k', oI sb 65 [(vI 0)]] ++ L) := by
 refine CallT.enter func48 rfl ntmps48 rfl ?_
 refine T.s (T.rg (TO.l rfl (l_box (v := (dV a j)) (cs := (dC a j)) rfl rfl (fun y1 => ?_))))
 refine TO.l rfl (l_box (v := (dV b k)) (cs := (dC b k)) rfl rfl (fun y2 => ?_))
 refine TO.l rfl (l_alloc inf25 rfl (fun y3 => ?_))
 refine TO.nl (T.s (T.s (T.rg (TO.qm rfl (TO.q (q_nilCheck rfl) (TO.q (q_fa uT65 rfl inf30 rfl rfl) (TO.q (q_lb 3 uT30 rfl rfl rfl rfl) (TO.q (QT.toB (q_neq rfl rfl) (decide_eq_false (fun h => h rfl))) (TO.nl (T.cond0 rfl (T.skip (T.s (T.rg (TO.qm rfl (TO.q (q_la 2 uT25 rfl inf25 rfl rfl rfl) (TO.q (q_la 1 uT25 rfl inf25 rfl rfl rfl) (TO.l rfl (l_call ent77 (CallT.op fun w1 hI => (haveI := tbz hI; andBR w1 a b j k (ha9 w1 (hI.subp (Sub.appL [oI y3 25 [(vI 0), (vI 0), nS, nS], oI y2 25 (dC b k), oI y1 25 (dC a j), oI sb 65 [(vI 0)]] Sub.rf))) (hb9 w1 (hI.subp (Sub.appL [oI y3 25 [(vI 0), (vI 0), nS, nS], oI y2 25 (dC b k), oI y1 25 (dC a j), oI sb 65 [(vI 0)]] Sub.rf))) ha.has.valid hb.has.valid (by rw [ha.has.vars, hb.has.vars]) (InL.ord hz ha hb) hM)) rfl ?_))))))))))))))))))
 rintro vr O' ⟨N, rfl, k', rfl, rfl⟩
 refine TO.q (q_extract (vs := _) rfl rfl) (TO.q (q_extract (vs := _) rfl rfl) ?_)
 have hk19 := CallT.under (A := [oI sb 65 [(vI 0)]] ++ L) (B := [dI 48 4 3 M k', oI y3 25 [(vI 0), (vI 0), nS, nS], oI y2 25 (dC b k), oI y1 25 (dC a j)]) (O := ([dI 48 4 3 M k', oI y3 25 [(vI 0), (vI 0), nS, nS], oI y2 25 (dC b k), oI y1 25 (dC a j), oI sb 65 [(vI 0)]] ++ L)) (rKeep base L sb M k') (Sub.tr (Sub.swap3 [oI sb 65 [(vI 0)]] L [dI 48 4 3 M k', oI y3 25 [(vI 0), (vI 0), nS, nS], oI y2 25 (dC b k), oI y1 25 (dC a j)]) (by exact Sub.pull [dI 48 4 3 M k', oI y3 25 [(vI 0), (vI 0), nS, nS], oI y2 25 (dC b k), oI y1 25 (dC a j)] _ (.k (.k (.k (.k .rf))))))
 refine TO.l rfl (l_call ent76 hk19 rfl ?_)
 clear hk19
 rintro vr O' ⟨A1, rfl, rfl, rfl⟩
 refine TO.sub (O' := ([oI sb 65 [(vI 0)], dI 48 4 3 M k', oI y3 25 [(vI 0), (vI 0), nS, nS], oI y2 25 (dC b k), oI y1 25 (dC a j)] ++ L)) (by exact Sub.swap3 [oI sb 65 [(vI 0)]] _ L) ?_
 refine TO.l rfl (l_sb (v := (dV M k')) (vs := (dC M k')) 2 inf25 rfl rfl rfl rfl rfl rfl (by simp [putL]) ?_)
 refine TO.nl (T.ret (Res.drop ?_))
 refine Res.cell1 (i := 2) Tryz.results48 uT25 rfl inf25 rfl rfl rfl ?_
 exact ⟨[dI 48 4 3 M k', oI sb 65 [(vI 0)]] ++ L, (Sub.pickR [1, 0] [oI sb 65 [(vI 0)], dI 48 4 3 M k', oI y3 25 (dC M k'), oI y2 25 (dC b k), oI y1 25 (dC a j)] L rfl rfl), k', rfl, rfl⟩
theorem rorM (base : World) [Tab Tryz.prog base] (L : List Lx.Item) (sb : Nat) {z a b : DFA} {p q : List Nat → Bool} (hz : Valid z) (ha : InL z a p) (hb : InL z b q) (j k : DK) (ha9 : ∀ w1, Inv base L w1 → At w1 a j) (hb9 : ∀ w1, Inv base L w1 → At w1 b k) {M : DFA} (hM : opD orB a b = M) :
  CallT Tryz.prog base 56 [.pointer (aD sb), dV a j, dV b k] ([oI sb 65 [(vI 0)]] ++ L) (fun v O' => ∃ k' : DK, v = dV M k' ∧ O' = [dI 48 4 3 M k', oI sb 65 [(vI 0)]] ++ L) := by
 refine CallT.enter func56 rfl ntmps56 rfl ?_
 refine T.s (T.rg (TO.l rfl (l_box (v := (dV a j)) (cs := (dC a j)) rfl rfl (fun y1 => ?_))))
 refine TO.l rfl (l_box (v := (dV b k)) (cs := (dC b k)) rfl rfl (fun y2 => ?_))
 refine TO.l rfl (l_alloc inf25 rfl (fun y3 => ?_))
 refine TO.nl (T.s (T.s (T.rg (TO.qm rfl (TO.q (q_nilCheck rfl) (TO.q (q_fa uT65 rfl inf30 rfl rfl) (TO.q (q_lb 3 uT30 rfl rfl rfl rfl) (TO.q (QT.toB (q_neq rfl rfl) (decide_eq_false (fun h => h rfl))) (TO.nl (T.cond0 rfl (T.skip (T.s (T.rg (TO.qm rfl (TO.q (q_la 2 uT25 rfl inf25 rfl rfl rfl) (TO.q (q_la 1 uT25 rfl inf25 rfl rfl rfl) (TO.l rfl (l_call ent77 (CallT.op fun w1 hI => (haveI := tbz hI; orBR w1 a b j k (ha9 w1 (hI.subp (Sub.appL [oI y3 25 [(vI 0), (vI 0), nS, nS], oI y2 25 (dC b k), oI y1 25 (dC a j), oI sb 65 [(vI 0)]] Sub.rf))) (hb9 w1 (hI.subp (Sub.appL [oI y3 25 [(vI 0), (vI 0), nS, nS], oI y2 25 (dC b k), oI y1 25 (dC a j), oI sb 65 [(vI 0)]] Sub.rf))) ha.has.valid hb.has.valid (by rw [ha.has.vars, hb.has.vars]) (InL.ord hz ha hb) hM)) rfl ?_))))))))))))))))))
 rintro vr O' ⟨N, rfl, k', rfl, rfl⟩
 refine TO.q (q_extract (vs := _) rfl rfl) (TO.q (q_extract (vs := _) rfl rfl) ?_)
 have hk19 := CallT.under (A := [oI sb 65 [(vI 0)]] ++ L) (B := [dI 48 4 3 M k', oI y3 25 [(vI 0), (vI 0), nS, nS], oI y2 25 (dC b k), oI y1 25 (dC a j)]) (O := ([dI 48 4 3 M k', oI y3 25 [(vI 0), (vI 0), nS, nS], oI y2 25 (dC b k), oI y1 25 (dC a j), oI sb 65 [(vI 0)]] ++ L)) (rKeep base L sb M k') (Sub.tr (Sub.swap3 [oI sb 65 [(vI 0)]] L [dI 48 4 3 M k', oI y3 25 [(vI 0), (vI 0), nS, nS], oI y2 25 (dC b k), oI y1 25 (dC a j)]) (by exact Sub.pull [dI 48 4 3 M k', oI y3 25 [(vI 0), (vI 0), nS, nS], oI y2 25 (dC b k), oI y1 25 (dC a j)] _ (.k (.k (.k (.k .rf))))))
 refine TO.l rfl (l_call ent76 hk19 rfl ?_)
 clear hk19
 rintro vr O' ⟨A1, rfl, rfl, rfl⟩
 refine TO.sub (O' := ([oI sb 65 [(vI 0)], dI 48 4 3 M k', oI y3 25 [(vI 0), (vI 0), nS, nS], oI y2 25 (dC b k), oI y1 25 (dC a j)] ++ L)) (by exact Sub.swap3 [oI sb 65 [(vI 0)]] _ L) ?_
 refine TO.l rfl (l_sb (v := (dV M k')) (vs := (dC M k')) 2 inf25 rfl rfl rfl rfl rfl rfl (by simp [putL]) ?_)
 refine TO.nl (T.ret (Res.drop ?_))
 refine Res.cell1 (i := 2) Tryz.results56 uT25 rfl inf25 rfl rfl rfl ?_
 exact ⟨[dI 48 4 3 M k', oI sb 65 [(vI 0)]] ++ L, (Sub.pickR [1, 0] [oI sb 65 [(vI 0)], dI 48 4 3 M k', oI y3 25 (dC M k'), oI y2 25 (dC b k), oI y1 25 (dC a j)] L rfl rfl), k', rfl, rfl⟩
theorem rnotM (base : World) [Tab Tryz.prog base] (L : List Lx.Item) (sb : Nat) {a : DFA} (ha : Valid a) (j : DK) (ha9 : ∀ w1, Inv base L w1 → At w1 a j) {M : DFA} (hM : notD a = M) :
  CallT Tryz.prog base 58 [.pointer (aD sb), dV a j] ([oI sb 65 [(vI 0)]] ++ L) (fun v O' => ∃ k' : DK, v = dV M k' ∧ O' = [dI 48 4 3 M k', oI sb 65 [(vI 0)]] ++ L) := by
 refine CallT.enter func58 rfl ntmps58 rfl ?_
 refine T.s (T.rg (TO.l rfl (l_box (v := (dV a j)) (cs := (dC a j)) rfl rfl (fun y1 => ?_))))
 refine TO.l rfl (l_alloc inf25 rfl (fun y2 => ?_))
 refine TO.nl (T.s (T.s (T.rg (TO.qm rfl (TO.q (q_nilCheck rfl) (TO.q (q_fa uT65 rfl inf30 rfl rfl) (TO.q (q_lb 2 uT30 rfl rfl rfl rfl) (TO.q (QT.toB (q_neq rfl rfl) (decide_eq_false (fun h => h rfl))) (TO.nl (T.cond0 rfl (T.skip (T.s (T.rg (TO.qm rfl (TO.q (q_la 1 uT25 rfl inf25 rfl rfl rfl) (TO.l rfl (l_call ent85 (CallT.op fun w1 hI => (haveI := tbz hI; rNotE w1 a j (ha9 w1 (hI.subp (Sub.appL [oI y2 25 [(vI 0), (vI 0), nS, nS], oI y1 25 (dC a j), oI sb 65 [(vI 0)]] Sub.rf))) ha hM)) rfl ?_)))))))))))))))))
 rintro vr O' ⟨N, rfl, k', rfl, rfl⟩
 refine TO.q (q_extract (vs := _) rfl rfl) (TO.q (q_extract (vs := _) rfl rfl) ?_)
 have hk16 := CallT.under (A := [oI sb 65 [(vI 0)]] ++ L) (B := [dI 48 4 3 M k', oI y2 25 [(vI 0), (vI 0), nS, nS], oI y1 25 (dC a j)]) (O := ([dI 48 4 3 M k', oI y2 25 [(vI 0), (vI 0), nS, nS], oI y1 25 (dC a j), oI sb 65 [(vI 0)]] ++ L)) (rKeep base L sb M k') (Sub.tr (Sub.swap3 [oI sb 65 [(vI 0)]] L [dI 48 4 3 M k', oI y2 25 [(vI 0), (vI 0), nS, nS], oI y1 25 (dC a j)]) (by exact Sub.pull [dI 48 4 3 M k', oI y2 25 [(vI 0), (vI 0), nS, nS], oI y1 25 (dC a j)] _ (.k (.k (.k .rf)))))
 refine TO.l rfl (l_call ent76 hk16 rfl ?_)
 clear hk16
 rintro vr O' ⟨A1, rfl, rfl, rfl⟩
 refine TO.sub (O' := ([oI sb 65 [(vI 0)], dI 48 4 3 M k', oI y2 25 [(vI 0), (vI 0), nS, nS], oI y1 25 (dC a j)] ++ L)) (by exact Sub.swap3 [oI sb 65 [(vI 0)]] _ L) ?_
 refine TO.l rfl (l_sb (v := (dV M k')) (vs := (dC M k')) 2 inf25 rfl rfl rfl rfl rfl rfl (by simp [putL]) ?_)
 refine TO.nl (T.ret (Res.drop ?_))
 refine Res.cell1 (i := 2) Tryz.results58 uT25 rfl inf25 rfl rfl rfl ?_
 exact ⟨[dI 48 4 3 M k', oI sb 65 [(vI 0)]] ++ L, (Sub.pickR [1, 0] [oI sb 65 [(vI 0)], dI 48 4 3 M k', oI y2 25 (dC M k'), oI y1 25 (dC a j)] L rfl rfl), k', rfl, rfl⟩
theorem rminusM (base : World) [Tab Tryz.prog base] (L : List Lx.Item) (sb : Nat) {z a b : DFA} {p q : List Nat → Bool} (hz : Valid z) (ha : InL z a p) (hb : InL z b q) (j k : DK) (ha9 : ∀ w1, Inv base L w1 → At w1 a j) (hb9 : ∀ w1, Inv base L w1 → At w1 b k) {M : DFA} (hM : opD minusB a b = M) :
  CallT Tryz.prog base 47 [.pointer (aD sb), dV a j, dV b k] ([oI sb 65 [(vI 0)]] ++ L) (fun v O' => ∃ k' : DK, v = dV M k' ∧ O' = [dI 48 4 3 M k', oI sb 65 [(vI 0)]] ++ L) := by
 refine CallT.enter func47 rfl ntmps47 rfl ?_
 have hbb := hb.bds
 have hb4 := hb.has.valid.n4
 have hbf := hb.has.valid.fin
 refine T.s (T.rg (TO.l rfl (l_box (v := (dV a j)) (cs := (dC a j)) rfl rfl (fun y1 => ?_))))
 refine TO.l rfl (l_box (v := (dV b k)) (cs := (dC b k)) rfl rfl (fun y2 => ?_))
 refine TO.l rfl (l_alloc inf25 rfl (fun y3 => ?_))
 refine TO.nl (T.s (T.s (T.rg (TO.qm rfl (TO.q (q_nilCheck rfl) (TO.q (q_fa uT65 rfl inf30 rfl rfl) (TO.q (q_lb 3 uT30 rfl rfl rfl rfl) (TO.q (QT.toB (q_neq rfl rfl) (decide_eq_false (fun h => h rfl))) (TO.nl (T.cond0 rfl (T.skip (T.s (T.rg (TO.q (q_la 1 uT25 rfl inf25 rfl rfl rfl) (TO.l rfl (l_alloc inf25 rfl (fun y4 => ?_)))))))))))))))))
 refine TO.l rfl (l_sb (v := (dV b k)) (vs := (dC b k)) 0 inf25 rfl rfl rfl rfl rfl rfl (by simp [putL]) ?_)
 refine TO.nl (T.s (T.rg (TO.q (q_fa uT25 rfl inf23 rfl rfl) (TO.l rfl (l_sb (v := nS) (vs := [nS]) 0 inf23 rfl rfl rfl rfl rfl rfl (by simp [putL]) ?_)))))
 refine TO.nl (T.s (T.s (T.rg (TO.qa rfl (TO.nl (T.block (T.nilRow 4 1 ?_)))))))
 refine T.sub (O' := ([rowI none 0 4 1 (bools ((b.final.take 0).map (!·))), oI y4 25 [(vI b.vars), (vI b.start), (.slice k.nb b.next.length k.nc), nS], oI y3 25 [(vI 0), (vI 0), nS, nS], oI y2 25 (dC b k), oI y1 25 (dC a j), oI sb 65 [(vI 0)]] ++ L)) (by exact Sub.rf) ?_
 refine T.loopS (fun (s : Nat) ρ O => ∃ (fb : Option Addr) (fc : Nat), O = ([rowI fb fc 4 1 (bools ((b.final.take s).map (!·))), oI y4 25 [(vI b.vars), (vI b.start), (.slice k.nb b.next.length k.nc), (.slice fb s fc)], oI y3 25 [(vI 0), (vI 0), nS, nS], oI y2 25 (dC b k), oI y1 25 (dC a j), oI sb 65 [(vI 0)]] ++ L) ∧ s ≤ b.final.length ∧ Heads [(0, (.pointer (aD sb))), (1, (dV a j)), (2, (dV b k)), (4, (.pointer (aD y1))), (5, (.pointer (aD y2))), (6, (.pointer (aD y3))), (7, (.pointer (aD y4))), (8, vI ((s : Nat) : Int))] ρ) (fun s => b.final.length - s) 0 ?_ ?_
 ·exact ⟨none, 0, rfl, Nat.zero_le _, (.of rfl)⟩
 rintro s ρ O ⟨fb, fc, rfl, hs, hH⟩
 obtain ⟨ρ0, rfl⟩ := hH.elim
 clear hH
 refine T.s (T.s (T.rg (TO.qm rfl (TO.q (q_fa uT25 rfl inf23 rfl rfl) (TO.q (q_lb 3 uT23 rfl rfl rfl rfl) (TO.q (q_len uT23 rfl) (TO.q (q_lss rfl rfl) (TO.nl (T.condP rfl (fun hc => ?_) (fun hc => ?_))))))))))
 ·have hlt21 : s < b.final.length := by omega
  refine T.skip (T.s (T.block ?_))
  refine T.draws _ [(0, 0), (1, 0), (2, 0), (3, 0), (4, 0), (5, 0), (6, 0), (7, 0), (8, 1), (9, 2), (10, 2), (11, 2)] mixed (drawF_ok (by kernel_rfl)) (Sub.of (List.Sublist.refl _)) (fun _ _ _ h => h) ?_
  refine DO.q rfl (q_fa uT25 rfl inf23 rfl rfl) (DO.q rfl (q_lb 1 uT23 rfl rfl rfl rfl) (DO.q rfl (q_fa uT25 rfl inf23 rfl rfl) (DO.q rfl (q_lb 3 uT23 rfl rfl rfl rfl) (DO.q rfl (q_move rfl) (DO.q rfl (q_ix (i := s) uT23 inf4 rfl rfl (fun w1 (hI : Inv base _ w1) => haveI := tbz hI; (hb9 w1 (hI.subp (Sub.appL _ Sub.rf))).final) hlt21 (by rw [List.length_map]; exact hlt21)) (DO.q rfl (q_ld uT4 rfl rfl (fun w1 (hI : Inv base _ w1) => haveI := tbz hI; (hb9 w1 (hI.subp (Sub.appL _ Sub.rf))).final) (bools_get hlt21)) (DO.q rfl (q_not rfl) ?_)))))))
  refine DO.loud rfl rfl (l_build1 (v := .bool (!b.final[s])) uT23 inf4 rfl rfl rfl (fun y5 => ⟨by exact Sub.d (.k (.k (.k (.k (.k (.k .rf)))))), ?_⟩))
  refine DO.last rfl rfl (l_append 1 uT23 uT23 inf4 rfl rfl rfl rfl (by rw [List.length_map, List.length_map, List.length_take]; omega) (by decide) (Src.row (j := 0) rfl (by simp)) (by simp [oneB]) (by omega) (by decide) (by decide) (fun y6 yc7 => ?_))
  refine DO.last rfl rfl (LT.oq rfl rfl (q_fa uT25 rfl inf23 rfl rfl) ?_)
  refine DO.last rfl rfl (l_sb (v := (.slice y6 (s + 1) yc7)) (vs := [(.slice y6 (s + 1) yc7)]) 2 inf23 rfl rfl rfl rfl rfl rfl (by simp [putL]) ?_)
  refine DO.done ?_
  refine T.rg (TO.qm rfl (TO.q (q_addN (a := s) (b := 1) rfl rfl (by omega)) (TO.qa rfl (TO.nl ?_))))
  have hst : bools ((b.final.take (s + 1)).map (!·)) = bools ((b.final.take s).map (!·)) ++ [.bool (!b.final[s])] := by rw [List.take_succ_eq_append_getElem hlt21, List.map_append]; exact List.map_append
  exact ⟨s + 1, by omega, ([rowI y6 yc7 4 1 ((bools ((b.final.take s).map (!·))) ++ [.bool (!b.final[s])]), oI y4 25 [(vI b.vars), (vI b.start), (.slice k.nb b.next.length k.nc), (.slice y6 (s + 1) yc7)], oI y3 25 [(vI 0), (vI 0), nS, nS], oI y2 25 (dC b k), oI y1 25 (dC a j), oI sb 65 [(vI 0)]] ++ L), (by exact Sub.d (.k (.k (.k (.k (.k (.k .rf))))))), y6, yc7, by rw [hst], by omega, (.of rfl)⟩
 have hge21 : ¬ s < b.final.length := by omega
 refine T.exit ?_
 refine T.s ?_
 have hse : s = b.final.length := by omega
 obtain ⟨W, hW⟩ : ∃ W, W = flipD b := ⟨_, rfl⟩
 have e2 : (b.final.take s).map (!·) = W.final := by rw [hW, hse, List.take_length]; rfl
 have e3 : W.vars = b.vars := by rw [hW]; rfl
 have e4 : W.start = b.start := by rw [hW]; rfl
 have e5 : W.next = b.next := by rw [hW]; rfl
 have e6 : W.final.length = s := by rw [← e2]; simp; omega
 have hWI : InL z W (fun w => !q w) := by rw [hW]; exact hb.flip
 have hMW : opD andB a W = M := by rw [hW, minus_flip hz ha hb]; exact hM
 obtain ⟨z9, hz9⟩ : ∃ z : DK, z = ⟨k.nb, k.nc, fb, fc, k.qs⟩ := ⟨_, rfl⟩
 have hAW : ∀ w1, Inv base ([rowI fb fc 4 1 (bools W.final)] ++ L) w1 → At w1 W z9 := fun w1 hI => by
  have h1 := hb9 w1 (hI.subp (Sub.appL _ Sub.rf))
  subst hz9
  exact ⟨h1.outer, by rw [e5]; exact h1.rows, hI.slOf (List.mem_append_left _ (List.mem_cons_self ..))⟩
 refine T.sub (O' := ([rowI fb fc 4 1 (bools W.final), oI y4 25 (dC W z9), oI y3 25 [(vI 0), (vI 0), nS, nS], oI y2 25 (dC b k), oI y1 25 (dC a j), oI sb 65 [(vI 0)]] ++ L)) (by subst hz9; unfold dC dfaCells; rw [e3, e4, e5, e6, ← e2]; exact Sub.rf) ?_
 refine T.rg (TO.qm rfl (TO.q (q_la 4 uT25 rfl inf25 rfl rfl rfl) (TO.q (q_la 1 uT25 rfl inf25 rfl rfl rfl) ?_)))
 have hk38 := CallT.under (A := [oI sb 65 [(vI 0)], rowI fb fc 4 1 (bools W.final)] ++ L) (B := [oI y4 25 (dC W z9), oI y3 25 [(vI 0), (vI 0), nS, nS], oI y2 25 (dC b k), oI y1 25 (dC a j)]) (O := ([rowI fb fc 4 1 (bools W.final), oI y4 25 (dC W z9), oI y3 25 [(vI 0), (vI 0), nS, nS], oI y2 25 (dC b k), oI y1 25 (dC a j), oI sb 65 [(vI 0)]] ++ L)) (randM base ([rowI fb fc 4 1 (bools W.final)] ++ L) sb hz ha hWI j z9 (fun w1 hI => haveI := tbz hI; ha9 w1 (hI.subp (Sub.appL _ Sub.rf))) hAW hMW) (Sub.tr (Sub.swap3 [oI sb 65 [(vI 0)], rowI fb fc 4 1 (bools W.final)] L [oI y4 25 (dC W z9), oI y3 25 [(vI 0), (vI 0), nS, nS], oI y2 25 (dC b k), oI y1 25 (dC a j)]) (by exact Sub.pull [rowI fb fc 4 1 (bools W.final), oI y4 25 (dC W z9), oI y3 25 [(vI 0), (vI 0), nS, nS], oI y2 25 (dC b k), oI y1 25 (dC a j)] _ (.k (.k (.k (.k (.k .rf)))))))
 refine TO.l rfl (l_call ent48 hk38 rfl ?_)
 clear hk38
 rintro vr O' ⟨A1, rfl, k', rfl, rfl⟩
 refine TO.sub (O' := ([dI 48 4 3 M k', oI sb 65 [(vI 0)], rowI fb fc 4 1 (bools W.final), oI y4 25 (dC W z9), oI y3 25 [(vI 0), (vI 0), nS, nS], oI y2 25 (dC b k), oI y1 25 (dC a j)] ++ L)) (by exact Sub.swap3 [dI 48 4 3 M k', oI sb 65 [(vI 0)], rowI fb fc 4 1 (bools W.final)] _ L) ?_
 refine TO.l rfl (l_sb (v := (dV M k')) (vs := (dC M k')) 4 inf25 rfl rfl rfl rfl rfl rfl (by simp [putL]) ?_)
 refine TO.nl (T.ret (Res.drop ?_))
 refine Res.cell1 (i := 4) Tryz.results47 uT25 rfl inf25 rfl rfl rfl ?_
 exact ⟨[dI 48 4 3 M k', oI sb 65 [(vI 0)]] ++ L, (Sub.pickR [0, 0] [dI 48 4 3 M k', oI sb 65 [(vI 0)], rowI fb fc 4 1 (bools W.final), oI y4 25 (dC W z9), oI y3 25 (dC M k'), oI y2 25 (dC b k), oI y1 25 (dC a j)] L rfl rfl), k', rfl, rfl⟩
end Go.Proofs.YtnpehjpookcfkaaGreatDoor


namespace Go.Proofs.YtnpehjpookcfkaaGreatDoor
open Go.Lx Go.RowKit _root_.Go.Proofs.Tryz
theorem doBad (base : World) [Tab Tryz.prog base] (sb : Nat) (e : Nat) (he : e ≠ 0) (c d : DFA) (m n : DK) (fv : Value) (a b : DFA) (j k : DK) :
  CallT Tryz.prog base 37 [.pointer (aD sb), fv, dV a j, dV b k] [oI sb 59 (bC (vI (e : Int)) c d m n)] (fun v O' => v = dV noD k00 ∧ O' = [oI sb 59 (bC (vI (e : Int)) c d m n)]) := by
 refine CallT.enter func37 rfl ntmps37 rfl ?_
 refine T.s (T.rg (TO.l rfl (l_box (v := (dV a j)) (cs := (dC a j)) rfl rfl (fun y1 => ?_))))
 refine TO.l rfl (l_box (v := (dV b k)) (cs := (dC b k)) rfl rfl (fun y2 => ?_))
 refine TO.l rfl (l_alloc inf25 rfl (fun y3 => ?_))
 refine TO.nl (T.s (T.s (T.rg (TO.qm rfl (TO.q (q_nilCheck rfl) (TO.q (q_fa uT57 rfl inf30 rfl rfl) (TO.q (q_lb 3 uT30 rfl rfl rfl rfl) (TO.q (QT.toB (q_neq rfl rfl) (decide_eq_true (by omega))) (TO.nl ?_)))))))))
 refine T.cond1 rfl ?_
 refine T.s (T.rg (TO.q (q_build plan25 inf25 rfl) (TO.l rfl (l_sb (v := (.agg #[(vI 0), (vI 0), nS, nS])) (vs := [(vI 0), (vI 0), nS, nS]) 0 inf25 rfl rfl rfl rfl rfl rfl (by simp [putL]) ?_))))
 refine TO.nl (T.ret (Res.drop ?_))
 refine Res.cell1 (i := 0) Tryz.results37 uT25 rfl inf25 rfl rfl rfl ?_
 exact ⟨[oI sb 59 (bC (vI (e : Int)) c d m n)], (Sub.pick [3] rfl), rfl, rfl⟩
theorem notBad (base : World) [Tab Tryz.prog base] (sb : Nat) (e : Nat) (he : e ≠ 0) (c d : DFA) (m n : DK) (a : DFA) (j : DK) :
  CallT Tryz.prog base 57 [.pointer (aD sb), dV a j] [oI sb 59 (bC (vI (e : Int)) c d m n)] (fun v O' => v = dV noD k00 ∧ O' = [oI sb 59 (bC (vI (e : Int)) c d m n)]) := by
 refine CallT.enter func57 rfl ntmps57 rfl ?_
 refine T.s (T.rg (TO.l rfl (l_box (v := (dV a j)) (cs := (dC a j)) rfl rfl (fun y1 => ?_))))
 refine TO.l rfl (l_alloc inf25 rfl (fun y2 => ?_))
 refine TO.nl (T.s (T.rg (TO.qm rfl (TO.q (q_la 1 uT25 rfl inf25 rfl rfl rfl) (TO.q (q_la 1 uT25 rfl inf25 rfl rfl rfl) (TO.l rfl (l_call ent37 (CallT.un [2] (doBad base sb e he c d m n (.func (.func 83) #[] #[]) a a j j)) rfl ?_)))))))
 rintro vr O' ⟨A1, rfl, rfl, rfl⟩
 refine TO.l rfl (l_sb (v := (dV noD k00)) (vs := (dC noD k00)) 1 inf25 rfl rfl rfl rfl rfl rfl (by simp [putL]) ?_)
 refine TO.nl (T.ret (Res.drop ?_))
 refine Res.cell1 (i := 1) Tryz.results57 uT25 rfl inf25 rfl rfl rfl ?_
 exact ⟨[oI sb 59 (bC (vI (e : Int)) c d m n)], (Sub.pick [0] rfl), rfl, rfl⟩
theorem satBadM (base : World) [Tab Tryz.prog base] (sb : Nat) (e : Nat) (he : e ≠ 0) (c d : DFA) (m n : DK) (a g : DFA) (j k : DK) :
  CallT Tryz.prog base 65 [.pointer (aD sb), cV a g j k] [oI sb 59 (bC (vI (e : Int)) c d m n)] (fun v O' => v = dV noD k00 ∧ O' = [oI sb 59 (bC (vI (e : Int)) c d m n)]) := by
 refine CallT.enter func65 rfl ntmps65 rfl ?_
 refine T.s (T.rg (TO.l rfl (l_box (v := (cV a g j k)) (cs := (cC a g j k)) rfl rfl (fun y1 => ?_))))
 refine TO.l rfl (l_alloc inf25 rfl (fun y2 => ?_))
 refine TO.nl (T.s (T.rg (TO.qm rfl (TO.q (q_fa uT27 rfl inf25 rfl rfl) (TO.q (q_load_part 1 (vs := (dC a j)) uT25 rfl inf25 rfl rfl rfl rfl) (TO.l rfl (l_call ent57 (CallT.un [2] (notBad base sb e he c d m n a j)) rfl ?_)))))))
 rintro vr O' ⟨A1, rfl, rfl, rfl⟩
 refine TO.l rfl (l_alloc inf25 rfl (fun y3 => ?_))
 refine TO.l rfl (l_sb (v := (dV noD k00)) (vs := (dC noD k00)) 0 inf25 rfl rfl rfl rfl rfl rfl (by simp [putL]) ?_)
 refine TO.nl (T.s (T.rg (TO.qm rfl (TO.q (q_fa uT27 rfl inf25 rfl rfl) (TO.q (q_load_part 3 (vs := (dC g k)) uT25 rfl inf25 rfl rfl rfl rfl) (TO.q (q_la 0 uT25 rfl inf25 rfl rfl rfl) (TO.l rfl (l_call ent37 (CallT.un [1] (doBad base sb e he c d m n (.func (.func 54) #[] #[]) g noD k k00)) rfl ?_))))))))
 rintro vr O' ⟨A1, rfl, rfl, rfl⟩
 refine TO.l rfl (l_sb (v := (dV noD k00)) (vs := (dC noD k00)) 2 inf25 rfl rfl rfl rfl rfl rfl (by simp [putL]) ?_)
 refine TO.nl (T.ret (Res.drop ?_))
 refine Res.cell1 (i := 2) Tryz.results65 uT25 rfl inf25 rfl rfl rfl ?_
 exact ⟨[oI sb 59 (bC (vI (e : Int)) c d m n)], (Sub.pick [0] rfl), rfl, rfl⟩
theorem ansBad (base : World) [Tab Tryz.prog base] (sb : Nat) (e : Nat) (he : e ≠ 0) (c d : DFA) (m n : DK) (a : DFA) (j : DK) :
  CallT Tryz.prog base 44 [.pointer (aD sb), dV a j] [oI sb 59 (bC (vI (e : Int)) c d m n)] (fun v O' => v = .tuple #[nS, .bool false, vI (e : Int)] ∧ O' = [oI sb 59 (bC (vI (e : Int)) c d m n)]) := by
 refine CallT.enter func44 rfl ntmps44 rfl ?_
 refine T.s (T.rg (TO.l rfl (l_box (v := (dV a j)) (cs := (dC a j)) rfl rfl (fun y1 => ?_))))
 refine TO.qa rfl (TO.qa rfl (TO.qa rfl (TO.nl (T.s (T.s (T.rg (TO.qm rfl (TO.q (q_nilCheck rfl) (TO.q (q_fa uT57 rfl inf30 rfl rfl) (TO.q (q_lb 1 uT30 rfl rfl rfl rfl) (TO.q (QT.toB (q_neq rfl rfl) (decide_eq_true (by omega))) (TO.nl ?_))))))))))))
 refine T.cond1 rfl ?_
 refine T.s ?_
 refine T.draws _ [(0, 0), (1, 0), (2, 0), (3, 0), (4, 0), (5, 0), (6, 0)] mixed (by kernel_rfl) (Sub.of (List.Sublist.refl _)) (fun _ _ _ h => h) ?_
 refine DO.q rfl (q_move rfl) (DO.q rfl (q_nilCheck rfl) (DO.q rfl (q_fa uT57 rfl inf30 rfl rfl) (DO.q rfl (q_lb 1 uT30 rfl rfl rfl rfl) (DO.q rfl (q_assign rfl) (DO.q rfl (q_assign rfl) (DO.q rfl (q_assign rfl) ?_))))))
 refine DO.done ?_
 refine T.ret (Res.drop ?_)
 refine Res.three nS (.bool false) (vI (e : Int)) Tryz.results44 rfl rfl rfl ?_
 exact ⟨[oI sb 59 (bC (vI (e : Int)) c d m n)], (Sub.pick [1] rfl), rfl, rfl⟩
theorem builtBad (base : World) [Tab Tryz.prog base] (sb : Nat) (e : Nat) (he : e ≠ 0) (c d : DFA) (m n : DK) (a g : DFA) (j k : DK) :
  CallT Tryz.prog base 36 [.pointer (aD sb), dV a j, dV g k] [oI sb 59 (bC (vI (e : Int)) c d m n)] (fun v O' => v = .tuple #[cV noD noD k00 k00, vI (e : Int)] ∧ O' = [oI sb 59 (bC (vI (e : Int)) c d m n)]) := by
 refine CallT.enter func36 rfl ntmps36 rfl ?_
 refine T.s (T.rg (TO.l rfl (l_box (v := (dV a j)) (cs := (dC a j)) rfl rfl (fun y1 => ?_))))
 refine TO.l rfl (l_box (v := (dV g k)) (cs := (dC g k)) rfl rfl (fun y2 => ?_))
 refine TO.l rfl (l_alloc inf27 rfl (fun y3 => ?_))
 refine TO.qa rfl (TO.nl (T.s (T.s (T.rg (TO.qm rfl (TO.q (q_nilCheck rfl) (TO.q (q_fa uT59 rfl inf57 rfl rfl) (TO.q (q_fa uT57 rfl inf30 rfl rfl) (TO.q (q_lb 3 uT30 rfl rfl rfl rfl) (TO.q (QT.toB (q_neq rfl rfl) (decide_eq_true (by omega))) (TO.nl ?_)))))))))))
 refine T.cond1 rfl ?_
 refine T.s ?_
 refine T.draws _ [(0, 0), (1, 0), (2, 0), (3, 0), (4, 0), (5, 0), (6, 1), (7, 0)] mixed (by kernel_rfl) (Sub.of (List.Sublist.refl _)) (fun _ _ _ h => h) ?_
 refine DO.q rfl (q_build plan27 inf27 rfl) (DO.q rfl (q_move rfl) (DO.q rfl (q_nilCheck rfl) (DO.q rfl (q_fa uT59 rfl inf57 rfl rfl) (DO.q rfl (q_fa uT57 rfl inf30 rfl rfl) (DO.q rfl (q_lb 3 uT30 rfl rfl rfl rfl) ?_)))))
 refine DO.loud rfl rfl (l_sb (v := (.agg #[(vI 0), (vI 0), nS, nS, (vI 0), (vI 0), nS, nS])) (vs := [(vI 0), (vI 0), nS, nS, (vI 0), (vI 0), nS, nS]) 0 inf27 rfl rfl rfl rfl rfl rfl (by simp [putL]) ⟨by exact Sub.rf, ?_⟩)
 refine DO.q rfl (q_assign rfl) ?_
 refine DO.done ?_
 refine T.ret (Res.drop ?_)
 refine Res.cell1b (vI (e : Int)) (i := 0) Tryz.results36 uT27 rfl inf27 rfl rfl rfl rfl ?_
 exact ⟨[oI sb 59 (bC (vI (e : Int)) c d m n)], (Sub.pick [3] rfl), rfl, rfl⟩
theorem startBad (w : World) [Tab Tryz.prog w] (a1 g1 a2 g2 : DFA) (j1 k1 j2 k2 : DK) (hj1 : At w a1 j1) (hk1 : At w g1 k1) (hj2 : At w a2 j2) (hk2 : At w g2 k2) (ba1 : a1.next.length < 9223372036854775807 ∧ (∀ r ∈ a1.next, r.length < 9223372036854775807) ∧ a1.final.length < 9223372036854775807) (bg1 : g1.next.length < 9223372036854775807 ∧ (∀ r ∈ g1.next, r.length < 9223372036854775807) ∧ g1.final.length < 9223372036854775807) (ba2 : a2.next.length < 9223372036854775807 ∧ (∀ r ∈ a2.next, r.length < 9223372036854775807) ∧ a2.final.length < 9223372036854775807) (bg2 : g2.next.length < 9223372036854775807 ∧ (∀ r ∈ g2.next, r.length < 9223372036854775807) ∧ g2.final.length < 9223372036854775807) {e : Nat} (hE : bE a1 g1 a2 g2 = e) (he : e ≠ 0) :
  PureT Tryz.prog 35 [cV a1 g1 j1 k1, cV a2 g2 j2 k2] w fun v N => ∃ bp : Nat, v = .pointer (aD bp) ∧ N = [oI bp 59 (bC (vI (e : Int)) noD noD k00 k00)] := by
 refine CallT.enter func35 rfl ntmps35 rfl ?_
 refine T.s (T.rg (TO.l rfl (l_box (v := (cV a1 g1 j1 k1)) (cs := (cC a1 g1 j1 k1)) rfl rfl (fun y1 => ?_))))
 refine TO.l rfl (l_box (v := (cV a2 g2 j2 k2)) (cs := (cC a2 g2 j2 k2)) rfl rfl (fun y2 => ?_))
 refine TO.qa rfl (TO.nl (T.s (T.rg (TO.q (q_build plan59 inf59 rfl) (TO.l rfl (l_box (v := (.agg #[(vI 0), (vI 0), (vI 0), nS, nS, (vI 0), (vI 0), nS, nS])) (cs := [(vI 0), (vI 0), (vI 0), nS, nS, (vI 0), (vI 0), nS, nS]) rfl rfl (fun y3 => ?_)))))))
 refine TO.qa rfl (TO.nl (T.s (T.s (T.rg (TO.q (q_la 2 uT27 rfl inf27 rfl rfl rfl) (TO.q (q_la 1 uT27 rfl inf27 rfl rfl rfl) (TO.q (q_buildA (cs := [(vI a1.vars), (vI a1.start), (.slice j1.nb a1.next.length j1.nc), (.slice j1.fb a1.final.length j1.fc), (vI g1.vars), (vI g1.start), (.slice k1.nb g1.next.length k1.nc), (.slice k1.fb g1.final.length k1.fc), (vI a2.vars), (vI a2.start), (.slice j2.nb a2.next.length j2.nc), (.slice j2.fb a2.final.length j2.fc), (vI g2.vars), (vI g2.start), (.slice k2.nb g2.next.length k2.nc), (.slice k2.fb g2.final.length k2.fc)]) uT81 inf27 inf81 (by kernel_rfl)) (TO.qm rfl (TO.nl (T.block ?_))))))))))
 refine T.rounds 3 (T.round ?_)
 refine T.s (T.rg (TO.q (QT.toB (q_lss rfl rfl) (b' := true) rfl) (TO.nl (T.s ?_))))
 refine T.cond1 rfl ?_
 refine T.skip (T.s (T.block (T.s (T.rg (TO.q (q_indexA (i := 0) (vs := (cC a1 g1 j1 k1)) uT81 uT27 rfl inf27 rfl rfl (by decide) rfl) (TO.l rfl (l_alloc inf27 rfl (fun y4 => ?_))))))))
 refine TO.l rfl (l_sb (v := (cV a1 g1 j1 k1)) (vs := (cC a1 g1 j1 k1)) 0 inf27 rfl rfl rfl rfl rfl rfl (by simp [putL]) ?_)
 refine TO.nl (T.s (T.rg (TO.qm rfl (TO.q (q_nilCheck rfl) (TO.q (q_fa uT59 rfl inf57 rfl rfl) (TO.q (q_fa uT57 rfl inf30 rfl rfl) (TO.q (q_lb 1 uT30 rfl rfl rfl rfl) (TO.q (q_eql rfl rfl) (TO.nl ?_)))))))))
 refine T.cond1 (congrArg Value.bool (decide_eq_true rfl)) ?_
 refine T.rg (TO.qm rfl (TO.q (q_la 0 uT27 rfl inf27 rfl rfl rfl) (TO.l rfl (l_call ent8 (CallT.op fun w1 hI => (haveI := tbz hI; conCheck w1 a1 g1 j1 k1 (hI.atB hj1) (hI.atB hk1) ba1 bg1)) rfl ?_))))
 rintro vr O' ⟨N, rfl, rfl, rfl⟩
 refine TO.q (q_nilCheck rfl) (TO.q (q_fa uT59 rfl inf57 rfl rfl) (TO.q (q_fa uT57 rfl inf30 rfl rfl) (TO.l rfl (l_sb (v := vI (cE a1 g1 : Int)) (vs := [(vI (cE a1 g1 : Int))]) 1 inf30 rfl rfl rfl rfl rfl rfl (by simp [putL]) ?_))))
 refine TO.nl (T.rg (TO.q (QT.cast (q_add64 rfl rfl (by omega)) (v' := vI 1) rfl) (TO.qm rfl (TO.nl ?_))))
 refine Rnd.reset [oI y4 27 (cC a1 g1 j1 k1), oI y3 59 [(vI (cE a1 g1 : Int)), (vI 0), (vI 0), nS, nS, (vI 0), (vI 0), nS, nS], oI y2 27 (cC a2 g2 j2 k2), oI y1 27 (cC a1 g1 j1 k1)] [(0, (cV a1 g1 j1 k1)), (1, (cV a2 g2 j2 k2)), (2, (.pointer (aD y1))), (3, (.pointer (aD y2))), (4, .pointer none), (5, (.pointer (aD y3))), (7, (.pointer (aD y4))), (9, (.agg #[(vI 0), (vI 0), (vI 0), nS, nS, (vI 0), (vI 0), nS, nS])), (10, (.pointer (aD y3))), (11, (cV a1 g1 j1 k1)), (12, (cV a2 g2 j2 k2)), (13, (.agg #[(vI a1.vars), (vI a1.start), (.slice j1.nb a1.next.length j1.nc), (.slice j1.fb a1.final.length j1.fc), (vI g1.vars), (vI g1.start), (.slice k1.nb g1.next.length k1.nc), (.slice k1.fb g1.final.length k1.fc), (vI a2.vars), (vI a2.start), (.slice j2.nb a2.next.length j2.nc), (.slice j2.fb a2.final.length j2.fc), (vI g2.vars), (vI g2.start), (.slice k2.nb g2.next.length k2.nc), (.slice k2.fb g2.final.length k2.fc)])), (14, vI 1)] rfl (.of rfl) (fun ρ0 => ?_)
 refine T.round ?_
 refine T.s (T.rg (TO.q (QT.toB (q_lss rfl rfl) (b' := true) rfl) (TO.nl (T.s ?_))))
 refine T.cond1 rfl ?_
 refine T.skip (T.s (T.block (T.s (T.rg (TO.q (q_indexA (i := 1) (vs := (cC a2 g2 j2 k2)) uT81 uT27 rfl inf27 rfl rfl (by decide) rfl) (TO.l rfl (l_alloc inf27 rfl (fun y5 => ?_))))))))
 refine TO.l rfl (l_sb (v := (cV a2 g2 j2 k2)) (vs := (cC a2 g2 j2 k2)) 0 inf27 rfl rfl rfl rfl rfl rfl (by simp [putL]) ?_)
 refine TO.nl (T.s (T.rg (TO.qm rfl (TO.q (q_nilCheck rfl) (TO.q (q_fa uT59 rfl inf57 rfl rfl) (TO.q (q_fa uT57 rfl inf30 rfl rfl) (TO.q (q_lb 2 uT30 rfl rfl rfl rfl) (TO.q (q_eql rfl rfl) (TO.nl (T.condP rfl (fun hc => ?_) (fun hc => ?_)))))))))))
 ·have hlt22 : cE a1 g1 = 0 := by omega
  refine T.rg (TO.qm rfl (TO.q (q_la 0 uT27 rfl inf27 rfl rfl rfl) (TO.l rfl (l_call ent8 (CallT.op fun w1 hI => (haveI := tbz hI; conCheck w1 a2 g2 j2 k2 (hI.atB hj2) (hI.atB hk2) ba2 bg2)) rfl ?_))))
  rintro vr O' ⟨N, rfl, rfl, rfl⟩
  refine TO.q (q_nilCheck rfl) (TO.q (q_fa uT59 rfl inf57 rfl rfl) (TO.q (q_fa uT57 rfl inf30 rfl rfl) (TO.l rfl (l_sb (v := vI (cE a2 g2 : Int)) (vs := [(vI (cE a2 g2 : Int))]) 2 inf30 rfl rfl rfl rfl rfl rfl (by simp [putL]) ?_))))
  refine TO.nl (T.rg (TO.q (QT.cast (q_add64 rfl rfl (by omega)) (v' := vI 2) rfl) (TO.qm rfl (TO.nl ?_))))
  refine Rnd.reset [oI y5 27 (cC a2 g2 j2 k2), oI y4 27 (cC a1 g1 j1 k1), oI y3 59 [(vI (cE a2 g2 : Int)), (vI 0), (vI 0), nS, nS, (vI 0), (vI 0), nS, nS], oI y2 27 (cC a2 g2 j2 k2), oI y1 27 (cC a1 g1 j1 k1)] [(0, (cV a1 g1 j1 k1)), (1, (cV a2 g2 j2 k2)), (2, (.pointer (aD y1))), (3, (.pointer (aD y2))), (4, .pointer none), (5, (.pointer (aD y3))), (7, (.pointer (aD y5))), (9, (.agg #[(vI 0), (vI 0), (vI 0), nS, nS, (vI 0), (vI 0), nS, nS])), (10, (.pointer (aD y3))), (11, (cV a1 g1 j1 k1)), (12, (cV a2 g2 j2 k2)), (13, (.agg #[(vI a1.vars), (vI a1.start), (.slice j1.nb a1.next.length j1.nc), (.slice j1.fb a1.final.length j1.fc), (vI g1.vars), (vI g1.start), (.slice k1.nb g1.next.length k1.nc), (.slice k1.fb g1.final.length k1.fc), (vI a2.vars), (vI a2.start), (.slice j2.nb a2.next.length j2.nc), (.slice j2.fb a2.final.length j2.fc), (vI g2.vars), (vI g2.start), (.slice k2.nb g2.next.length k2.nc), (.slice k2.fb g2.final.length k2.fc)])), (14, vI 2)] rfl (.of rfl) (fun ρ0 => ?_)
  refine T.round ?_
  refine T.s (T.rg (TO.q (QT.toB (q_lss rfl rfl) (b' := false) rfl) (TO.nl (T.s (T.cond0 rfl ?_)))))
  refine T.exit ?_
  refine T.s (T.s (T.rg (TO.qm rfl (TO.q (q_nilCheck rfl) (TO.q (q_fa uT59 rfl inf57 rfl rfl) (TO.q (q_fa uT57 rfl inf30 rfl rfl) (TO.q (q_lb 2 uT30 rfl rfl rfl rfl) (TO.q (q_eql rfl rfl) ?_))))))))
  by_cases hs36 : (cE a2 g2 : Int) = 0
  ·refine TO.q (QT.toB (q_move rfl) (decide_eq_true hs36)) ?_
   refine TO.gq rfl rfl (q_fa uT27 rfl inf25 rfl rfl) (TO.gq rfl rfl (q_fa uT25 rfl inf3 rfl rfl) (TO.gq rfl rfl (q_lb 4 uT3 rfl rfl rfl rfl) (TO.gq rfl rfl (q_fa uT27 rfl inf25 rfl rfl) (TO.gq rfl rfl (q_fa uT25 rfl inf3 rfl rfl) (TO.gq rfl rfl (q_lb 3 uT3 rfl rfl rfl rfl) (TO.gq rfl rfl (q_neq rfl rfl) (TO.q (q_pick1 rfl rfl) ?_)))))))
   refine TO.nl (T.condP rfl (fun hc => ?_) (fun hc => ?_))
   ·refine T.rg ?_
    refine TO.qm rfl (TO.q (q_nilCheck rfl) (TO.q (q_fa uT59 rfl inf57 rfl rfl) (TO.q (q_fa uT57 rfl inf30 rfl rfl) (TO.l rfl (l_sb (v := vI 7) (vs := [(vI 7)]) 2 inf30 rfl rfl rfl rfl rfl rfl (by simp [putL]) ?_)))))
    refine TO.nl (T.s (T.rg (TO.qm rfl (TO.q (q_nilCheck rfl) (TO.q (q_fa uT59 rfl inf57 rfl rfl) (TO.q (q_makeFunc) (TO.qa rfl (TO.nl (T.s (T.rg (TO.qm rfl (TO.qm rfl (TO.q (q_la 4 uT27 rfl inf27 rfl rfl rfl) ?_)))))))))))))
    have hk56 := CallV.under (A := [oI y3 59 (bC (vI 7) noD noD k00 k00)]) (B := [oI y5 27 (cC a2 g2 j2 k2), oI y4 27 (cC a1 g1 j1 k1), oI y2 27 (cC a2 g2 j2 k2), oI y1 27 (cC a1 g1 j1 k1)]) (O := [oI y5 27 (cC a2 g2 j2 k2), oI y4 27 (cC a1 g1 j1 k1), oI y3 59 [(vI 7), (vI 0), (vI 0), nS, nS, (vI 0), (vI 0), nS, nS], oI y2 27 (cC a2 g2 j2 k2), oI y1 27 (cC a1 g1 j1 k1)]) (CallV.of_fn (first := [(.pointer (aD y3))]) (args := [cV a1 g1 j1 k1]) (caps := []) ent65 (satBadM w y3 (7) (by decide) noD noD k00 k00 a1 g1 j1 k1)) (by exact Sub.pull [oI y5 27 (cC a2 g2 j2 k2), oI y4 27 (cC a1 g1 j1 k1)] _ (.k (.k (.k (.k .z)))))
    refine TO.l rfl (l_callG hk56 rfl rfl ?_)
    clear hk56
    rintro vr O' ⟨A1, rfl, rfl, rfl⟩
    refine TO.q (q_nilCheck rfl) (TO.q (q_fa uT59 rfl inf25 rfl rfl) (TO.l rfl (l_sb (v := (dV noD k00)) (vs := (dC noD k00)) 0 inf25 rfl rfl rfl rfl rfl rfl (by simp [putL]) ?_)))
    refine TO.nl (T.s (T.rg (TO.qm rfl (TO.qm rfl (TO.q (q_la 3 uT27 rfl inf27 rfl rfl rfl) ?_)))))
    have hk62 := CallV.under (A := [oI y3 59 (bC (vI 7) noD noD k00 k00)]) (B := [oI y5 27 (cC a2 g2 j2 k2), oI y4 27 (cC a1 g1 j1 k1), oI y2 27 (cC a2 g2 j2 k2), oI y1 27 (cC a1 g1 j1 k1)]) (O := [oI y3 59 (bC (vI 7) noD noD k00 k00), oI y5 27 (cC a2 g2 j2 k2), oI y4 27 (cC a1 g1 j1 k1), oI y2 27 (cC a2 g2 j2 k2), oI y1 27 (cC a1 g1 j1 k1)]) (CallV.of_fn (first := [(.pointer (aD y3))]) (args := [cV a2 g2 j2 k2]) (caps := []) ent65 (satBadM w y3 (7) (by decide) noD noD k00 k00 a2 g2 j2 k2)) (by exact Sub.rf)
    refine TO.l rfl (l_callG hk62 rfl rfl ?_)
    clear hk62
    rintro vr O' ⟨A1, rfl, rfl, rfl⟩
    refine TO.q (q_nilCheck rfl) (TO.q (q_fa uT59 rfl inf25 rfl rfl) (TO.l rfl (l_sb (v := (dV noD k00)) (vs := (dC noD k00)) 0 inf25 rfl rfl rfl rfl rfl rfl (by simp [putL]) ?_)))
    refine TO.nl (T.s (T.rg (TO.qm rfl (TO.qa rfl (TO.nl (T.ret (Res.drop ?_)))))))
    refine Res.one (.pointer (aD y3)) Tryz.results35 rfl ?_
    have h9 : e = 7 := by rw [← hE]; unfold bE; rw [if_neg (by omega), if_neg (by omega), if_pos (by assumption)]
    subst hE
    exact ⟨[oI y3 59 (bC (vI 7) noD noD k00 k00)], (Sub.pick [0] rfl), _, rfl, by rw [h9] <;> rfl⟩
   exact absurd (show e = 0 by rw [← hE]; unfold bE; rw [if_neg (by omega), if_neg (by omega), if_neg hc]) he
  refine TO.q (QT.toB (q_move rfl) (decide_eq_false hs36)) (TO.pd rfl rfl (TO.pd rfl rfl (TO.pd rfl rfl (TO.pd rfl rfl (TO.pd rfl rfl (TO.pd rfl rfl (TO.pd rfl rfl ?_)))))))
  refine TO.q (q_pick0 rfl rfl) (TO.nl (T.cond0 rfl (T.skip (T.s (T.rg (TO.qm rfl (TO.q (q_nilCheck rfl) (TO.q (q_fa uT59 rfl inf57 rfl rfl) (TO.q (q_makeFunc) (TO.qa rfl (TO.nl (T.s (T.rg (TO.qm rfl (TO.qm rfl (TO.q (q_la 4 uT27 rfl inf27 rfl rfl rfl) ?_))))))))))))))))
  have hk56 := CallV.under (A := [oI y3 59 (bC (vI (cE a2 g2 : Int)) noD noD k00 k00)]) (B := [oI y5 27 (cC a2 g2 j2 k2), oI y4 27 (cC a1 g1 j1 k1), oI y2 27 (cC a2 g2 j2 k2), oI y1 27 (cC a1 g1 j1 k1)]) (O := [oI y5 27 (cC a2 g2 j2 k2), oI y4 27 (cC a1 g1 j1 k1), oI y3 59 [(vI (cE a2 g2 : Int)), (vI 0), (vI 0), nS, nS, (vI 0), (vI 0), nS, nS], oI y2 27 (cC a2 g2 j2 k2), oI y1 27 (cC a1 g1 j1 k1)]) (CallV.of_fn (first := [(.pointer (aD y3))]) (args := [cV a1 g1 j1 k1]) (caps := []) ent65 (satBadM w y3 (cE a2 g2) (by omega) noD noD k00 k00 a1 g1 j1 k1)) (by exact Sub.pull [oI y5 27 (cC a2 g2 j2 k2), oI y4 27 (cC a1 g1 j1 k1)] _ (.k (.k (.k (.k .z)))))
  refine TO.l rfl (l_callG hk56 rfl rfl ?_)
  clear hk56
  rintro vr O' ⟨A1, rfl, rfl, rfl⟩
  refine TO.q (q_nilCheck rfl) (TO.q (q_fa uT59 rfl inf25 rfl rfl) (TO.l rfl (l_sb (v := (dV noD k00)) (vs := (dC noD k00)) 0 inf25 rfl rfl rfl rfl rfl rfl (by simp [putL]) ?_)))
  refine TO.nl (T.s (T.rg (TO.qm rfl (TO.qm rfl (TO.q (q_la 3 uT27 rfl inf27 rfl rfl rfl) ?_)))))
  have hk62 := CallV.under (A := [oI y3 59 (bC (vI (cE a2 g2 : Int)) noD noD k00 k00)]) (B := [oI y5 27 (cC a2 g2 j2 k2), oI y4 27 (cC a1 g1 j1 k1), oI y2 27 (cC a2 g2 j2 k2), oI y1 27 (cC a1 g1 j1 k1)]) (O := [oI y3 59 (bC (vI (cE a2 g2 : Int)) noD noD k00 k00), oI y5 27 (cC a2 g2 j2 k2), oI y4 27 (cC a1 g1 j1 k1), oI y2 27 (cC a2 g2 j2 k2), oI y1 27 (cC a1 g1 j1 k1)]) (CallV.of_fn (first := [(.pointer (aD y3))]) (args := [cV a2 g2 j2 k2]) (caps := []) ent65 (satBadM w y3 (cE a2 g2) (by omega) noD noD k00 k00 a2 g2 j2 k2)) (by exact Sub.rf)
  refine TO.l rfl (l_callG hk62 rfl rfl ?_)
  clear hk62
  rintro vr O' ⟨A1, rfl, rfl, rfl⟩
  refine TO.q (q_nilCheck rfl) (TO.q (q_fa uT59 rfl inf25 rfl rfl) (TO.l rfl (l_sb (v := (dV noD k00)) (vs := (dC noD k00)) 0 inf25 rfl rfl rfl rfl rfl rfl (by simp [putL]) ?_)))
  refine TO.nl (T.s (T.rg (TO.qm rfl (TO.qa rfl (TO.nl (T.ret (Res.drop ?_)))))))
  refine Res.one (.pointer (aD y3)) Tryz.results35 rfl ?_
  have h9 : e = cE a2 g2 := by rw [← hE]; unfold bE; rw [if_neg (by omega), if_pos (by omega)]
  subst hE
  exact ⟨[oI y3 59 (bC (vI (cE a2 g2 : Int)) noD noD k00 k00)], (Sub.pick [0] rfl), _, rfl, by rw [h9] <;> rfl⟩
 have hge22 : ¬ cE a1 g1 = 0 := by omega
 refine T.skip (T.rg (TO.q (QT.cast (q_add64 rfl rfl (by omega)) (v' := vI 2) rfl) (TO.qm rfl (TO.nl ?_))))
 refine Rnd.reset [oI y5 27 (cC a2 g2 j2 k2), oI y4 27 (cC a1 g1 j1 k1), oI y3 59 [(vI (cE a1 g1 : Int)), (vI 0), (vI 0), nS, nS, (vI 0), (vI 0), nS, nS], oI y2 27 (cC a2 g2 j2 k2), oI y1 27 (cC a1 g1 j1 k1)] [(0, (cV a1 g1 j1 k1)), (1, (cV a2 g2 j2 k2)), (2, (.pointer (aD y1))), (3, (.pointer (aD y2))), (4, .pointer none), (5, (.pointer (aD y3))), (7, (.pointer (aD y5))), (9, (.agg #[(vI 0), (vI 0), (vI 0), nS, nS, (vI 0), (vI 0), nS, nS])), (10, (.pointer (aD y3))), (11, (cV a1 g1 j1 k1)), (12, (cV a2 g2 j2 k2)), (13, (.agg #[(vI a1.vars), (vI a1.start), (.slice j1.nb a1.next.length j1.nc), (.slice j1.fb a1.final.length j1.fc), (vI g1.vars), (vI g1.start), (.slice k1.nb g1.next.length k1.nc), (.slice k1.fb g1.final.length k1.fc), (vI a2.vars), (vI a2.start), (.slice j2.nb a2.next.length j2.nc), (.slice j2.fb a2.final.length j2.fc), (vI g2.vars), (vI g2.start), (.slice k2.nb g2.next.length k2.nc), (.slice k2.fb g2.final.length k2.fc)])), (14, vI 2)] rfl (.of rfl) (fun ρ0 => ?_)
 refine T.round ?_
 refine T.s (T.rg (TO.q (QT.toB (q_lss rfl rfl) (b' := false) rfl) (TO.nl (T.s (T.cond0 rfl ?_)))))
 refine T.exit ?_
 refine T.s (T.s (T.rg (TO.qm rfl (TO.q (q_nilCheck rfl) (TO.q (q_fa uT59 rfl inf57 rfl rfl) (TO.q (q_fa uT57 rfl inf30 rfl rfl) (TO.q (q_lb 2 uT30 rfl rfl rfl rfl) (TO.q (q_eql rfl rfl) ?_))))))))
 by_cases hs36 : (cE a1 g1 : Int) = 0
 ·refine TO.q (QT.toB (q_move rfl) (decide_eq_true hs36)) ?_
  refine TO.gq rfl rfl (q_fa uT27 rfl inf25 rfl rfl) (TO.gq rfl rfl (q_fa uT25 rfl inf3 rfl rfl) (TO.gq rfl rfl (q_lb 4 uT3 rfl rfl rfl rfl) (TO.gq rfl rfl (q_fa uT27 rfl inf25 rfl rfl) (TO.gq rfl rfl (q_fa uT25 rfl inf3 rfl rfl) (TO.gq rfl rfl (q_lb 3 uT3 rfl rfl rfl rfl) (TO.gq rfl rfl (q_neq rfl rfl) (TO.q (q_pick1 rfl rfl) ?_)))))))
  refine TO.nl (T.condP rfl (fun hc => ?_) (fun hc => ?_))
  ·refine T.rg ?_
   refine TO.qm rfl (TO.q (q_nilCheck rfl) (TO.q (q_fa uT59 rfl inf57 rfl rfl) (TO.q (q_fa uT57 rfl inf30 rfl rfl) (TO.l rfl (l_sb (v := vI 7) (vs := [(vI 7)]) 2 inf30 rfl rfl rfl rfl rfl rfl (by simp [putL]) ?_)))))
   refine TO.nl (T.s (T.rg (TO.qm rfl (TO.q (q_nilCheck rfl) (TO.q (q_fa uT59 rfl inf57 rfl rfl) (TO.q (q_makeFunc) (TO.qa rfl (TO.nl (T.s (T.rg (TO.qm rfl (TO.qm rfl (TO.q (q_la 4 uT27 rfl inf27 rfl rfl rfl) ?_)))))))))))))
   have hk56 := CallV.under (A := [oI y3 59 (bC (vI 7) noD noD k00 k00)]) (B := [oI y5 27 (cC a2 g2 j2 k2), oI y4 27 (cC a1 g1 j1 k1), oI y2 27 (cC a2 g2 j2 k2), oI y1 27 (cC a1 g1 j1 k1)]) (O := [oI y5 27 (cC a2 g2 j2 k2), oI y4 27 (cC a1 g1 j1 k1), oI y3 59 [(vI 7), (vI 0), (vI 0), nS, nS, (vI 0), (vI 0), nS, nS], oI y2 27 (cC a2 g2 j2 k2), oI y1 27 (cC a1 g1 j1 k1)]) (CallV.of_fn (first := [(.pointer (aD y3))]) (args := [cV a1 g1 j1 k1]) (caps := []) ent65 (satBadM w y3 (7) (by decide) noD noD k00 k00 a1 g1 j1 k1)) (by exact Sub.pull [oI y5 27 (cC a2 g2 j2 k2), oI y4 27 (cC a1 g1 j1 k1)] _ (.k (.k (.k (.k .z)))))
   refine TO.l rfl (l_callG hk56 rfl rfl ?_)
   clear hk56
   rintro vr O' ⟨A1, rfl, rfl, rfl⟩
   refine TO.q (q_nilCheck rfl) (TO.q (q_fa uT59 rfl inf25 rfl rfl) (TO.l rfl (l_sb (v := (dV noD k00)) (vs := (dC noD k00)) 0 inf25 rfl rfl rfl rfl rfl rfl (by simp [putL]) ?_)))
   refine TO.nl (T.s (T.rg (TO.qm rfl (TO.qm rfl (TO.q (q_la 3 uT27 rfl inf27 rfl rfl rfl) ?_)))))
   have hk62 := CallV.under (A := [oI y3 59 (bC (vI 7) noD noD k00 k00)]) (B := [oI y5 27 (cC a2 g2 j2 k2), oI y4 27 (cC a1 g1 j1 k1), oI y2 27 (cC a2 g2 j2 k2), oI y1 27 (cC a1 g1 j1 k1)]) (O := [oI y3 59 (bC (vI 7) noD noD k00 k00), oI y5 27 (cC a2 g2 j2 k2), oI y4 27 (cC a1 g1 j1 k1), oI y2 27 (cC a2 g2 j2 k2), oI y1 27 (cC a1 g1 j1 k1)]) (CallV.of_fn (first := [(.pointer (aD y3))]) (args := [cV a2 g2 j2 k2]) (caps := []) ent65 (satBadM w y3 (7) (by decide) noD noD k00 k00 a2 g2 j2 k2)) (by exact Sub.rf)
   refine TO.l rfl (l_callG hk62 rfl rfl ?_)
   clear hk62
   rintro vr O' ⟨A1, rfl, rfl, rfl⟩
   refine TO.q (q_nilCheck rfl) (TO.q (q_fa uT59 rfl inf25 rfl rfl) (TO.l rfl (l_sb (v := (dV noD k00)) (vs := (dC noD k00)) 0 inf25 rfl rfl rfl rfl rfl rfl (by simp [putL]) ?_)))
   refine TO.nl (T.s (T.rg (TO.qm rfl (TO.qa rfl (TO.nl (T.ret (Res.drop ?_)))))))
   refine Res.one (.pointer (aD y3)) Tryz.results35 rfl ?_
   have h9 : e = 7 := by rw [← hE]; unfold bE; rw [if_neg (by omega), if_neg (by omega), if_pos (by assumption)]
   subst hE
   exact ⟨[oI y3 59 (bC (vI 7) noD noD k00 k00)], (Sub.pick [0] rfl), _, rfl, by rw [h9] <;> rfl⟩
  exact absurd (show e = 0 by rw [← hE]; unfold bE; rw [if_neg (by omega), if_neg (by omega), if_neg hc]) he
 refine TO.q (QT.toB (q_move rfl) (decide_eq_false hs36)) (TO.pd rfl rfl (TO.pd rfl rfl (TO.pd rfl rfl (TO.pd rfl rfl (TO.pd rfl rfl (TO.pd rfl rfl (TO.pd rfl rfl ?_)))))))
 refine TO.q (q_pick0 rfl rfl) (TO.nl (T.cond0 rfl (T.skip (T.s (T.rg (TO.qm rfl (TO.q (q_nilCheck rfl) (TO.q (q_fa uT59 rfl inf57 rfl rfl) (TO.q (q_makeFunc) (TO.qa rfl (TO.nl (T.s (T.rg (TO.qm rfl (TO.qm rfl (TO.q (q_la 4 uT27 rfl inf27 rfl rfl rfl) ?_))))))))))))))))
 have hk56 := CallV.under (A := [oI y3 59 (bC (vI (cE a1 g1 : Int)) noD noD k00 k00)]) (B := [oI y5 27 (cC a2 g2 j2 k2), oI y4 27 (cC a1 g1 j1 k1), oI y2 27 (cC a2 g2 j2 k2), oI y1 27 (cC a1 g1 j1 k1)]) (O := [oI y5 27 (cC a2 g2 j2 k2), oI y4 27 (cC a1 g1 j1 k1), oI y3 59 [(vI (cE a1 g1 : Int)), (vI 0), (vI 0), nS, nS, (vI 0), (vI 0), nS, nS], oI y2 27 (cC a2 g2 j2 k2), oI y1 27 (cC a1 g1 j1 k1)]) (CallV.of_fn (first := [(.pointer (aD y3))]) (args := [cV a1 g1 j1 k1]) (caps := []) ent65 (satBadM w y3 (cE a1 g1) (by omega) noD noD k00 k00 a1 g1 j1 k1)) (by exact Sub.pull [oI y5 27 (cC a2 g2 j2 k2), oI y4 27 (cC a1 g1 j1 k1)] _ (.k (.k (.k (.k .z)))))
 refine TO.l rfl (l_callG hk56 rfl rfl ?_)
 clear hk56
 rintro vr O' ⟨A1, rfl, rfl, rfl⟩
 refine TO.q (q_nilCheck rfl) (TO.q (q_fa uT59 rfl inf25 rfl rfl) (TO.l rfl (l_sb (v := (dV noD k00)) (vs := (dC noD k00)) 0 inf25 rfl rfl rfl rfl rfl rfl (by simp [putL]) ?_)))
 refine TO.nl (T.s (T.rg (TO.qm rfl (TO.qm rfl (TO.q (q_la 3 uT27 rfl inf27 rfl rfl rfl) ?_)))))
 have hk62 := CallV.under (A := [oI y3 59 (bC (vI (cE a1 g1 : Int)) noD noD k00 k00)]) (B := [oI y5 27 (cC a2 g2 j2 k2), oI y4 27 (cC a1 g1 j1 k1), oI y2 27 (cC a2 g2 j2 k2), oI y1 27 (cC a1 g1 j1 k1)]) (O := [oI y3 59 (bC (vI (cE a1 g1 : Int)) noD noD k00 k00), oI y5 27 (cC a2 g2 j2 k2), oI y4 27 (cC a1 g1 j1 k1), oI y2 27 (cC a2 g2 j2 k2), oI y1 27 (cC a1 g1 j1 k1)]) (CallV.of_fn (first := [(.pointer (aD y3))]) (args := [cV a2 g2 j2 k2]) (caps := []) ent65 (satBadM w y3 (cE a1 g1) (by omega) noD noD k00 k00 a2 g2 j2 k2)) (by exact Sub.rf)
 refine TO.l rfl (l_callG hk62 rfl rfl ?_)
 clear hk62
 rintro vr O' ⟨A1, rfl, rfl, rfl⟩
 refine TO.q (q_nilCheck rfl) (TO.q (q_fa uT59 rfl inf25 rfl rfl) (TO.l rfl (l_sb (v := (dV noD k00)) (vs := (dC noD k00)) 0 inf25 rfl rfl rfl rfl rfl rfl (by simp [putL]) ?_)))
 refine TO.nl (T.s (T.rg (TO.qm rfl (TO.qa rfl (TO.nl (T.ret (Res.drop ?_)))))))
 refine Res.one (.pointer (aD y3)) Tryz.results35 rfl ?_
 have h9 : e = cE a1 g1 := by rw [← hE]; unfold bE; rw [if_pos (by omega)]
 subst hE
 exact ⟨[oI y3 59 (bC (vI (cE a1 g1 : Int)) noD noD k00 k00)], (Sub.pick [0] rfl), _, rfl, by rw [h9] <;> rfl⟩
theorem refBad (w : World) [Tab Tryz.prog w] (a b c d : DFA) (j1 j2 j3 j4 : DK) (hj1 : At w a j1) (hj2 : At w b j2) (hj3 : At w c j3) (hj4 : At w d j4) (ba : a.next.length < 9223372036854775807 ∧ (∀ r ∈ a.next, r.length < 9223372036854775807) ∧ a.final.length < 9223372036854775807) (bb : b.next.length < 9223372036854775807 ∧ (∀ r ∈ b.next, r.length < 9223372036854775807) ∧ b.final.length < 9223372036854775807) (bc : c.next.length < 9223372036854775807 ∧ (∀ r ∈ c.next, r.length < 9223372036854775807) ∧ c.final.length < 9223372036854775807) (bd : d.next.length < 9223372036854775807 ∧ (∀ r ∈ d.next, r.length < 9223372036854775807) ∧ d.final.length < 9223372036854775807) {e : Nat} (hE : bE a b c d = e) (he : e ≠ 0) :
  PureT Tryz.prog 20 [cV a b j1 j2, cV c d j3 j4] w fun v N => v = .tuple #[nS, .bool false, vI (e : Int)] ∧ N = [] := by
 refine CallT.enter func20 rfl ntmps20 rfl ?_
 refine T.s (T.rg (TO.l rfl (l_box (v := (cV a b j1 j2)) (cs := (cC a b j1 j2)) rfl rfl (fun y1 => ?_))))
 refine TO.l rfl (l_box (v := (cV c d j3 j4)) (cs := (cC c d j3 j4)) rfl rfl (fun y2 => ?_))
 refine TO.qa rfl (TO.qa rfl (TO.qa rfl (TO.nl (T.s (T.rg (TO.q (q_la 1 uT27 rfl inf27 rfl rfl rfl) (TO.q (q_la 0 uT27 rfl inf27 rfl rfl rfl) (TO.l rfl (l_call ent35 (CallT.op fun w1 hI => (haveI := tbz hI; startBad w1 a b c d j1 j2 j3 j4 (hI.atB hj1) (hI.atB hj2) (hI.atB hj3) (hI.atB hj4) ba bb bc bd hE he)) rfl ?_)))))))))
 rintro vr O' ⟨N, rfl, bp, rfl, rfl⟩
 refine TO.qa rfl (TO.nl ?_)
 refine T.cut (fun ρ O => ∃ (b8 : Nat), O = [oI b8 25 (dC noD k00), oI bp 59 (bC (vI (e : Int)) noD noD k00 k00), oI y2 27 (cC c d j3 j4), oI y1 27 (cC a b j1 j2)] ∧ Heads [(0, (cV a b j1 j2)), (1, (cV c d j3 j4)), (2, (.pointer (aD y1))), (3, (.pointer (aD y2))), (4, nS), (5, .bool false), (6, vI 0), (7, (.pointer (aD bp))), (8, (.pointer (aD b8)))] ρ) ?_ ?_
 ·refine T.treeT [oI bp 59 (bC (vI (e : Int)) noD noD k00 k00), oI y2 27 (cC c d j3 j4), oI y1 27 (cC a b j1 j2)] [9] 10 mixed rfl (by exact Sub.rf) (fun _ _ _ h => h) ?_
  refine RO.quietTT 0 rfl (by kernel_rfl) (q_move rfl) ?_
  refine RO.quietTT 1 rfl (by kernel_rfl) (q_nilCheck rfl) ?_
  refine RO.quietTT 2 rfl (by kernel_rfl) (q_fa uT59 rfl inf57 rfl rfl) ?_
  refine RO.quietTT 3 rfl (by kernel_rfl) (q_fa uT27 rfl inf25 rfl rfl) ?_
  refine RO.quietTT 4 rfl (by kernel_rfl) (q_load_part 1 (vs := (dC c j3)) uT25 rfl inf25 rfl rfl rfl rfl) ?_
  refine RO.quietTT 5 rfl (by kernel_rfl) (q_fa uT27 rfl inf25 rfl rfl) ?_
  refine RO.quietTT 6 rfl (by kernel_rfl) (q_load_part 2 (vs := (dC a j1)) uT25 rfl inf25 rfl rfl rfl rfl) ?_
  have hk20 := CallT.under (A := [oI bp 59 (bC (vI (e : Int)) noD noD k00 k00)]) (B := [oI y2 27 (cC c d j3 j4), oI y1 27 (cC a b j1 j2)]) (O := [oI bp 59 (bC (vI (e : Int)) noD noD k00 k00), oI y2 27 (cC c d j3 j4), oI y1 27 (cC a b j1 j2)]) (doBad w bp e he noD noD k00 k00 (.func (.func 45) #[] #[]) c a j3 j1) (by exact Sub.rf)
  refine RO.forkT [7, 8] (by kernel_rfl) rfl ⟨⟨_, rfl, rfl, l_call ent37 hk20 rfl ?_⟩, ⟨_, rfl, rfl, l_alloc inf25 rfl (fun b8 => ⟨.inr (by exact Sub.d (.k (.k (.k .z)))), ?_⟩)⟩, trivial⟩ (by kernel_rfl)
  ·clear hk20
   rintro vr O' ⟨A1, rfl, rfl, rfl⟩
   refine ⟨.inr (by exact Sub.rf), ?_⟩
   refine RO.forkT [8] (by kernel_rfl) rfl ⟨⟨_, rfl, rfl, l_alloc inf25 rfl (fun b8 => ⟨.inr (by exact Sub.d (.k (.k (.k .z)))), ?_⟩)⟩, trivial⟩ (by kernel_rfl)
   refine RO.forkT [9] (by kernel_rfl) rfl ⟨⟨_, rfl, rfl, l_sb (v := (dV noD k00)) (vs := (dC noD k00)) 0 inf25 rfl rfl rfl rfl rfl rfl (by simp [putL]) ⟨.inl (by decide), ?_⟩⟩, trivial⟩ (by kernel_rfl)
   exact RO.fin (by kernel_rfl) ⟨b8, rfl, (.of rfl)⟩ (Sub.pick [0, 0, 0, 0] rfl)
  refine RO.forkT [7] (by kernel_rfl) rfl ⟨⟨_, rfl, rfl, l_call ent37 (CallT.un [1] (doBad w bp e he noD noD k00 k00 (.func (.func 45) #[] #[]) c a j3 j1)) rfl ?_⟩, trivial⟩ (by kernel_rfl)
  rintro vr O' ⟨A1, rfl, rfl, rfl⟩
  refine ⟨.inr (by exact Sub.k (.d (.k (.k .z)))), ?_⟩
  refine RO.forkT [9] (by kernel_rfl) rfl ⟨⟨_, rfl, rfl, l_sb (v := (dV noD k00)) (vs := (dC noD k00)) 1 inf25 rfl rfl rfl rfl rfl rfl (by simp [putL]) ⟨.inl (by decide), ?_⟩⟩, trivial⟩ (by kernel_rfl)
  exact RO.fin (by kernel_rfl) ⟨b8, rfl, (.of rfl)⟩ (Sub.pick [1, 0, 0, 0] rfl)
 rintro ρ O ⟨b8, rfl, hH⟩
 obtain ⟨ρ0, rfl⟩ := hH.elim
 clear hH
 refine T.cut (fun ρ O => ∃ (b9 : Nat), O = [oI b9 25 (dC noD k00), oI b8 25 (dC noD k00), oI bp 59 (bC (vI (e : Int)) noD noD k00 k00), oI y2 27 (cC c d j3 j4), oI y1 27 (cC a b j1 j2)] ∧ Heads [(0, (cV a b j1 j2)), (1, (cV c d j3 j4)), (2, (.pointer (aD y1))), (3, (.pointer (aD y2))), (4, nS), (5, .bool false), (6, vI 0), (7, (.pointer (aD bp))), (8, (.pointer (aD b8))), (9, (.pointer (aD b9)))] ρ) ?_ ?_
 ·refine T.treeT [oI b8 25 (dC noD k00), oI bp 59 (bC (vI (e : Int)) noD noD k00 k00), oI y2 27 (cC c d j3 j4), oI y1 27 (cC a b j1 j2)] [13] 14 mixed rfl (by exact Sub.rf) (fun _ _ _ h => h) ?_
  refine RO.quietTT 0 rfl (by kernel_rfl) (q_move rfl) ?_
  refine RO.quietTT 1 rfl (by kernel_rfl) (q_nilCheck rfl) ?_
  refine RO.quietTT 2 rfl (by kernel_rfl) (q_fa uT59 rfl inf57 rfl rfl) ?_
  refine RO.quietTT 3 rfl (by kernel_rfl) (q_move rfl) ?_
  refine RO.quietTT 4 rfl (by kernel_rfl) (q_nilCheck rfl) ?_
  refine RO.quietTT 5 rfl (by kernel_rfl) (q_fa uT59 rfl inf25 rfl rfl) ?_
  refine RO.quietTT 6 rfl (by kernel_rfl) (q_load_part 1 (vs := (dC noD k00)) uT25 rfl inf25 rfl rfl rfl rfl) ?_
  refine RO.quietTT 7 rfl (by kernel_rfl) (q_move rfl) ?_
  refine RO.quietTT 8 rfl (by kernel_rfl) (q_nilCheck rfl) ?_
  refine RO.quietTT 9 rfl (by kernel_rfl) (q_fa uT59 rfl inf25 rfl rfl) ?_
  refine RO.quietTT 10 rfl (by kernel_rfl) (q_load_part 1 (vs := (dC noD k00)) uT25 rfl inf25 rfl rfl rfl rfl) ?_
  have hk32 := CallT.under (A := [oI bp 59 (bC (vI (e : Int)) noD noD k00 k00)]) (B := [oI b8 25 (dC noD k00), oI y2 27 (cC c d j3 j4), oI y1 27 (cC a b j1 j2)]) (O := [oI b8 25 (dC noD k00), oI bp 59 (bC (vI (e : Int)) noD noD k00 k00), oI y2 27 (cC c d j3 j4), oI y1 27 (cC a b j1 j2)]) (doBad w bp e he noD noD k00 k00 (.func (.func 45) #[] #[]) noD noD k00 k00) (by exact Sub.pull [oI b8 25 (dC noD k00)] _ (.k (.k (.k .z))))
  refine RO.forkT [11, 12] (by kernel_rfl) rfl ⟨⟨_, rfl, rfl, l_call ent37 hk32 rfl ?_⟩, ⟨_, rfl, rfl, l_alloc inf25 rfl (fun b9 => ⟨.inr (by exact Sub.d (.k (.k (.k (.k .z))))), ?_⟩)⟩, trivial⟩ (by kernel_rfl)
  ·clear hk32
   rintro vr O' ⟨A1, rfl, rfl, rfl⟩
   refine ⟨.inr (by exact Sub.pull [oI bp 59 (bC (vI (e : Int)) noD noD k00 k00)] _ (.k (.k (.k .z)))), ?_⟩
   refine RO.forkT [12] (by kernel_rfl) rfl ⟨⟨_, rfl, rfl, l_alloc inf25 rfl (fun b9 => ⟨.inr (by exact Sub.d (.pull [oI bp 59 (bC (vI (e : Int)) noD noD k00 k00)] _ (.k (.k (.k .z))))), ?_⟩)⟩, trivial⟩ (by kernel_rfl)
   refine RO.forkT [13] (by kernel_rfl) rfl ⟨⟨_, rfl, rfl, l_sb (v := (dV noD k00)) (vs := (dC noD k00)) 0 inf25 rfl rfl rfl rfl rfl rfl (by simp [putL]) ⟨.inl (by decide), ?_⟩⟩, trivial⟩ (by kernel_rfl)
   exact RO.fin (by kernel_rfl) ⟨b9, rfl, (.of rfl)⟩ (Sub.pick [0, 1, 0, 0, 0] rfl)
  refine RO.forkT [11] (by kernel_rfl) rfl ⟨⟨_, rfl, rfl, l_call ent37 (CallT.un [2] (doBad w bp e he noD noD k00 k00 (.func (.func 45) #[] #[]) noD noD k00 k00)) rfl ?_⟩, trivial⟩ (by kernel_rfl)
  rintro vr O' ⟨A1, rfl, rfl, rfl⟩
  refine ⟨.inr (by exact Sub.pull [oI bp 59 (bC (vI (e : Int)) noD noD k00 k00), oI b9 25 [(vI 0), (vI 0), nS, nS]] _ (.k (.d (.k (.k .z))))), ?_⟩
  refine RO.forkT [13] (by kernel_rfl) rfl ⟨⟨_, rfl, rfl, l_sb (v := (dV noD k00)) (vs := (dC noD k00)) 1 inf25 rfl rfl rfl rfl rfl rfl (by simp [putL]) ⟨.inl (by decide), ?_⟩⟩, trivial⟩ (by kernel_rfl)
  exact RO.fin (by kernel_rfl) ⟨b9, rfl, (.of rfl)⟩ (Sub.pick [1, 1, 0, 0, 0] rfl)
 rintro ρ O ⟨b9, rfl, hH⟩
 obtain ⟨ρ0, rfl⟩ := hH.elim
 clear hH
 refine T.s ?_
 refine T.draws [oI b9 25 (dC noD k00), oI b8 25 (dC noD k00), oI bp 59 (bC (vI (e : Int)) noD noD k00 k00), oI y2 27 (cC c d j3 j4), oI y1 27 (cC a b j1 j2)] [(0, 0), (1, 0), (2, 0), (3, 0), (4, 0), (5, 0), (6, 0), (7, 0), (8, 1), (9, 1), (10, 0), (11, 0), (12, 0), (13, 0), (14, 0), (15, 0)] mixed (drawF_ok (by kernel_rfl)) (by exact Sub.rf) (fun _ _ _ h => h) ?_
 refine DO.q rfl (q_move rfl) (DO.q rfl (q_nilCheck rfl) (DO.q rfl (q_fa uT59 rfl inf57 rfl rfl) (DO.q rfl (q_move rfl) (DO.q rfl (q_nilCheck rfl) (DO.q rfl (q_fa uT59 rfl inf57 rfl rfl) (DO.q rfl (q_la 1 uT25 rfl inf25 rfl rfl rfl) (DO.q rfl (q_la 0 uT25 rfl inf25 rfl rfl rfl) ?_)))))))
 refine DO.loud rfl rfl (l_call ent37 (CallT.un [2] (doBad w bp e he noD noD k00 k00 (.func (.func 54) #[] #[]) noD noD k00 k00)) rfl ?_)
 rintro vr O' ⟨A1, rfl, rfl, rfl⟩
 refine ⟨by exact Sub.pull [oI bp 59 (bC (vI (e : Int)) noD noD k00 k00)] _ (.pull [oI bp 59 (bC (vI (e : Int)) noD noD k00 k00)] _ (.k (.k (.k .z)))), ?_⟩
 refine DO.loud rfl rfl (l_call ent44 (CallT.un [0] (ansBad w bp e he noD noD k00 k00 noD k00)) rfl ?_)
 rintro vr O' ⟨A1, rfl, rfl, rfl⟩
 refine ⟨by exact Sub.pull [oI bp 59 (bC (vI (e : Int)) noD noD k00 k00)] _ (.pull [oI bp 59 (bC (vI (e : Int)) noD noD k00 k00)] _ (.k (.k (.k .z)))), ?_⟩
 refine DO.q rfl (q_extract (vs := _) rfl rfl) (DO.q rfl (q_extract (vs := _) rfl rfl) (DO.q rfl (q_extract (vs := _) rfl rfl) (DO.q rfl (q_assign rfl) (DO.q rfl (q_assign rfl) (DO.q rfl (q_assign rfl) ?_)))))
 refine DO.done ?_
 refine T.ret (Res.drop ?_)
 refine Res.three nS (.bool false) (vI (e : Int)) Tryz.results20 rfl rfl rfl ?_
 exact ⟨[], Sub.z, rfl, rfl⟩
theorem meetBad (w : World) [Tab Tryz.prog w] (a b c d : DFA) (j1 j2 j3 j4 : DK) (hj1 : At w a j1) (hj2 : At w b j2) (hj3 : At w c j3) (hj4 : At w d j4) (ba : a.next.length < 9223372036854775807 ∧ (∀ r ∈ a.next, r.length < 9223372036854775807) ∧ a.final.length < 9223372036854775807) (bb : b.next.length < 9223372036854775807 ∧ (∀ r ∈ b.next, r.length < 9223372036854775807) ∧ b.final.length < 9223372036854775807) (bc : c.next.length < 9223372036854775807 ∧ (∀ r ∈ c.next, r.length < 9223372036854775807) ∧ c.final.length < 9223372036854775807) (bd : d.next.length < 9223372036854775807 ∧ (∀ r ∈ d.next, r.length < 9223372036854775807) ∧ d.final.length < 9223372036854775807) {e : Nat} (hE : bE a b c d = e) (he : e ≠ 0) :
  PureT Tryz.prog 22 [cV a b j1 j2, cV c d j3 j4] w fun v N => v = .tuple #[cV noD noD k00 k00, vI (e : Int)] ∧ N = [] := by
 refine CallT.enter func22 rfl ntmps22 rfl ?_
 refine T.s (T.rg (TO.l rfl (l_box (v := (cV a b j1 j2)) (cs := (cC a b j1 j2)) rfl rfl (fun y1 => ?_))))
 refine TO.l rfl (l_box (v := (cV c d j3 j4)) (cs := (cC c d j3 j4)) rfl rfl (fun y2 => ?_))
 refine TO.l rfl (l_alloc inf27 rfl (fun y3 => ?_))
 refine TO.qa rfl (TO.nl (T.s (T.rg (TO.q (q_la 2 uT27 rfl inf27 rfl rfl rfl) (TO.q (q_la 1 uT27 rfl inf27 rfl rfl rfl) (TO.l rfl (l_call ent35 (CallT.op fun w1 hI => (haveI := tbz hI; startBad w1 a b c d j1 j2 j3 j4 (hI.atB hj1) (hI.atB hj2) (hI.atB hj3) (hI.atB hj4) ba bb bc bd hE he)) rfl ?_)))))))
 rintro vr O' ⟨N, rfl, bp, rfl, rfl⟩
 refine TO.qa rfl (TO.nl ?_)
 refine T.cut (fun ρ O => ∃ (b7 : Nat), O = [oI b7 25 (dC noD k00), oI bp 59 (bC (vI (e : Int)) noD noD k00 k00), oI y3 27 [(vI 0), (vI 0), nS, nS, (vI 0), (vI 0), nS, nS], oI y2 27 (cC c d j3 j4), oI y1 27 (cC a b j1 j2)] ∧ Heads [(0, (cV a b j1 j2)), (1, (cV c d j3 j4)), (2, (.pointer (aD y1))), (3, (.pointer (aD y2))), (4, (.pointer (aD y3))), (5, vI 0), (6, (.pointer (aD bp))), (7, (.pointer (aD b7)))] ρ) ?_ ?_
 ·refine T.treeT [oI bp 59 (bC (vI (e : Int)) noD noD k00 k00), oI y3 27 [(vI 0), (vI 0), nS, nS, (vI 0), (vI 0), nS, nS], oI y2 27 (cC c d j3 j4), oI y1 27 (cC a b j1 j2)] [13] 14 mixed rfl (by exact Sub.rf) (fun _ _ _ h => h) ?_
  refine RO.quietTT 0 rfl (by kernel_rfl) (q_move rfl) ?_
  refine RO.quietTT 1 rfl (by kernel_rfl) (q_nilCheck rfl) ?_
  refine RO.quietTT 2 rfl (by kernel_rfl) (q_fa uT59 rfl inf57 rfl rfl) ?_
  refine RO.quietTT 3 rfl (by kernel_rfl) (q_move rfl) ?_
  refine RO.quietTT 4 rfl (by kernel_rfl) (q_nilCheck rfl) ?_
  refine RO.quietTT 5 rfl (by kernel_rfl) (q_fa uT59 rfl inf25 rfl rfl) ?_
  refine RO.quietTT 6 rfl (by kernel_rfl) (q_load_part 0 (vs := (dC noD k00)) uT25 rfl inf25 rfl rfl rfl rfl) ?_
  refine RO.quietTT 7 rfl (by kernel_rfl) (q_move rfl) ?_
  refine RO.quietTT 8 rfl (by kernel_rfl) (q_nilCheck rfl) ?_
  refine RO.quietTT 9 rfl (by kernel_rfl) (q_fa uT59 rfl inf25 rfl rfl) ?_
  refine RO.quietTT 10 rfl (by kernel_rfl) (q_load_part 0 (vs := (dC noD k00)) uT25 rfl inf25 rfl rfl rfl rfl) ?_
  have hk22 := CallT.under (A := [oI bp 59 (bC (vI (e : Int)) noD noD k00 k00)]) (B := [oI y3 27 [(vI 0), (vI 0), nS, nS, (vI 0), (vI 0), nS, nS], oI y2 27 (cC c d j3 j4), oI y1 27 (cC a b j1 j2)]) (O := [oI bp 59 (bC (vI (e : Int)) noD noD k00 k00), oI y3 27 [(vI 0), (vI 0), nS, nS, (vI 0), (vI 0), nS, nS], oI y2 27 (cC c d j3 j4), oI y1 27 (cC a b j1 j2)]) (doBad w bp e he noD noD k00 k00 (.func (.func 43) #[] #[]) noD noD k00 k00) (by exact Sub.rf)
  refine RO.forkT [11, 12] (by kernel_rfl) rfl ⟨⟨_, rfl, rfl, l_call ent37 hk22 rfl ?_⟩, ⟨_, rfl, rfl, l_alloc inf25 rfl (fun b7 => ⟨.inr (by exact Sub.d (.k (.k (.k (.k .z))))), ?_⟩)⟩, trivial⟩ (by kernel_rfl)
  ·clear hk22
   rintro vr O' ⟨A1, rfl, rfl, rfl⟩
   refine ⟨.inr (by exact Sub.rf), ?_⟩
   refine RO.forkT [12] (by kernel_rfl) rfl ⟨⟨_, rfl, rfl, l_alloc inf25 rfl (fun b7 => ⟨.inr (by exact Sub.d (.k (.k (.k (.k .z))))), ?_⟩)⟩, trivial⟩ (by kernel_rfl)
   refine RO.forkT [13] (by kernel_rfl) rfl ⟨⟨_, rfl, rfl, l_sb (v := (dV noD k00)) (vs := (dC noD k00)) 0 inf25 rfl rfl rfl rfl rfl rfl (by simp [putL]) ⟨.inl (by decide), ?_⟩⟩, trivial⟩ (by kernel_rfl)
   exact RO.fin (by kernel_rfl) ⟨b7, rfl, (.of rfl)⟩ (Sub.pick [0, 0, 0, 0, 0] rfl)
  refine RO.forkT [11] (by kernel_rfl) rfl ⟨⟨_, rfl, rfl, l_call ent37 (CallT.un [1] (doBad w bp e he noD noD k00 k00 (.func (.func 43) #[] #[]) noD noD k00 k00)) rfl ?_⟩, trivial⟩ (by kernel_rfl)
  rintro vr O' ⟨A1, rfl, rfl, rfl⟩
  refine ⟨.inr (by exact Sub.k (.d (.k (.k (.k .z))))), ?_⟩
  refine RO.forkT [13] (by kernel_rfl) rfl ⟨⟨_, rfl, rfl, l_sb (v := (dV noD k00)) (vs := (dC noD k00)) 1 inf25 rfl rfl rfl rfl rfl rfl (by simp [putL]) ⟨.inl (by decide), ?_⟩⟩, trivial⟩ (by kernel_rfl)
  exact RO.fin (by kernel_rfl) ⟨b7, rfl, (.of rfl)⟩ (Sub.pick [1, 0, 0, 0, 0] rfl)
 rintro ρ O ⟨b7, rfl, hH⟩
 obtain ⟨ρ0, rfl⟩ := hH.elim
 clear hH
 refine T.s ?_
 refine T.draws [oI b7 25 (dC noD k00), oI bp 59 (bC (vI (e : Int)) noD noD k00 k00), oI y3 27 [(vI 0), (vI 0), nS, nS, (vI 0), (vI 0), nS, nS], oI y2 27 (cC c d j3 j4), oI y1 27 (cC a b j1 j2)] [(0, 0), (1, 0), (2, 0), (3, 0), (4, 0), (5, 0), (6, 0), (7, 0), (9, 0), (8, 1), (10, 1), (11, 0), (12, 0), (13, 2), (14, 2)] mixed (drawF_ok (by kernel_rfl)) (by exact Sub.rf) (fun _ _ _ h => h) ?_
 refine DO.q rfl (q_move rfl) (DO.q rfl (q_move rfl) (DO.q rfl (q_nilCheck rfl) (DO.q rfl (q_fa uT59 rfl inf57 rfl rfl) (DO.q rfl (q_fa uT27 rfl inf25 rfl rfl) (DO.q rfl (q_load_part 4 (vs := (dC a j1)) uT25 rfl inf25 rfl rfl rfl rfl) (DO.q rfl (q_fa uT27 rfl inf25 rfl rfl) (DO.q rfl (q_load_part 3 (vs := (dC c j3)) uT25 rfl inf25 rfl rfl rfl rfl) (DO.q rfl (q_la 0 uT25 rfl inf25 rfl rfl rfl) ?_))))))))
 refine DO.loud rfl rfl (l_call ent37 (CallT.un [1] (doBad w bp e he noD noD k00 k00 (.func (.func 54) #[] #[]) a c j1 j3)) rfl ?_)
 rintro vr O' ⟨A1, rfl, rfl, rfl⟩
 refine ⟨by exact Sub.pull [oI bp 59 (bC (vI (e : Int)) noD noD k00 k00)] _ (.k (.k (.k (.k .z)))), ?_⟩
 refine DO.loud rfl rfl (l_call ent36 (CallT.un [0] (builtBad w bp e he noD noD k00 k00 noD noD k00 k00)) rfl ?_)
 rintro vr O' ⟨A1, rfl, rfl, rfl⟩
 refine ⟨by exact Sub.pull [oI bp 59 (bC (vI (e : Int)) noD noD k00 k00)] _ (.k (.k (.k (.k .z)))), ?_⟩
 refine DO.q rfl (q_extract (vs := _) rfl rfl) (DO.q rfl (q_extract (vs := _) rfl rfl) ?_)
 refine DO.last rfl rfl (l_sb (v := (cV noD noD k00 k00)) (vs := (cC noD noD k00 k00)) 2 inf27 rfl rfl rfl rfl rfl rfl (by simp [putL]) ?_)
 refine DO.last rfl rfl (LT.oq rfl rfl (q_assign rfl) ?_)
 refine DO.done ?_
 refine T.ret (Res.drop ?_)
 refine Res.cell1b (vI (e : Int)) (i := 2) Tryz.results22 uT27 rfl inf27 rfl rfl rfl rfl ?_
 exact ⟨[], Sub.z, rfl, rfl⟩
theorem joinBad (w : World) [Tab Tryz.prog w] (a b c d : DFA) (j1 j2 j3 j4 : DK) (hj1 : At w a j1) (hj2 : At w b j2) (hj3 : At w c j3) (hj4 : At w d j4) (ba : a.next.length < 9223372036854775807 ∧ (∀ r ∈ a.next, r.length < 9223372036854775807) ∧ a.final.length < 9223372036854775807) (bb : b.next.length < 9223372036854775807 ∧ (∀ r ∈ b.next, r.length < 9223372036854775807) ∧ b.final.length < 9223372036854775807) (bc : c.next.length < 9223372036854775807 ∧ (∀ r ∈ c.next, r.length < 9223372036854775807) ∧ c.final.length < 9223372036854775807) (bd : d.next.length < 9223372036854775807 ∧ (∀ r ∈ d.next, r.length < 9223372036854775807) ∧ d.final.length < 9223372036854775807) {e : Nat} (hE : bE a b c d = e) (he : e ≠ 0) :
  PureT Tryz.prog 24 [cV a b j1 j2, cV c d j3 j4] w fun v N => v = .tuple #[cV noD noD k00 k00, vI (e : Int)] ∧ N = [] := by
 refine CallT.enter func24 rfl ntmps24 rfl ?_
 refine T.s (T.rg (TO.l rfl (l_box (v := (cV a b j1 j2)) (cs := (cC a b j1 j2)) rfl rfl (fun y1 => ?_))))
 refine TO.l rfl (l_box (v := (cV c d j3 j4)) (cs := (cC c d j3 j4)) rfl rfl (fun y2 => ?_))
 refine TO.l rfl (l_alloc inf27 rfl (fun y3 => ?_))
 refine TO.qa rfl (TO.nl (T.s (T.rg (TO.q (q_la 2 uT27 rfl inf27 rfl rfl rfl) (TO.q (q_la 1 uT27 rfl inf27 rfl rfl rfl) (TO.l rfl (l_call ent35 (CallT.op fun w1 hI => (haveI := tbz hI; startBad w1 a b c d j1 j2 j3 j4 (hI.atB hj1) (hI.atB hj2) (hI.atB hj3) (hI.atB hj4) ba bb bc bd hE he)) rfl ?_)))))))
 rintro vr O' ⟨N, rfl, bp, rfl, rfl⟩
 refine TO.qa rfl (TO.nl ?_)
 refine T.cut (fun ρ O => ∃ (b7 : Nat), O = [oI b7 25 (dC noD k00), oI bp 59 (bC (vI (e : Int)) noD noD k00 k00), oI y3 27 [(vI 0), (vI 0), nS, nS, (vI 0), (vI 0), nS, nS], oI y2 27 (cC c d j3 j4), oI y1 27 (cC a b j1 j2)] ∧ Heads [(0, (cV a b j1 j2)), (1, (cV c d j3 j4)), (2, (.pointer (aD y1))), (3, (.pointer (aD y2))), (4, (.pointer (aD y3))), (5, vI 0), (6, (.pointer (aD bp))), (7, (.pointer (aD b7)))] ρ) ?_ ?_
 ·refine T.treeT [oI bp 59 (bC (vI (e : Int)) noD noD k00 k00), oI y3 27 [(vI 0), (vI 0), nS, nS, (vI 0), (vI 0), nS, nS], oI y2 27 (cC c d j3 j4), oI y1 27 (cC a b j1 j2)] [13] 14 mixed rfl (by exact Sub.rf) (fun _ _ _ h => h) ?_
  refine RO.quietTT 0 rfl (by kernel_rfl) (q_move rfl) ?_
  refine RO.quietTT 1 rfl (by kernel_rfl) (q_nilCheck rfl) ?_
  refine RO.quietTT 2 rfl (by kernel_rfl) (q_fa uT59 rfl inf57 rfl rfl) ?_
  refine RO.quietTT 3 rfl (by kernel_rfl) (q_move rfl) ?_
  refine RO.quietTT 4 rfl (by kernel_rfl) (q_nilCheck rfl) ?_
  refine RO.quietTT 5 rfl (by kernel_rfl) (q_fa uT59 rfl inf25 rfl rfl) ?_
  refine RO.quietTT 6 rfl (by kernel_rfl) (q_load_part 0 (vs := (dC noD k00)) uT25 rfl inf25 rfl rfl rfl rfl) ?_
  refine RO.quietTT 7 rfl (by kernel_rfl) (q_move rfl) ?_
  refine RO.quietTT 8 rfl (by kernel_rfl) (q_nilCheck rfl) ?_
  refine RO.quietTT 9 rfl (by kernel_rfl) (q_fa uT59 rfl inf25 rfl rfl) ?_
  refine RO.quietTT 10 rfl (by kernel_rfl) (q_load_part 0 (vs := (dC noD k00)) uT25 rfl inf25 rfl rfl rfl rfl) ?_
  have hk22 := CallT.under (A := [oI bp 59 (bC (vI (e : Int)) noD noD k00 k00)]) (B := [oI y3 27 [(vI 0), (vI 0), nS, nS, (vI 0), (vI 0), nS, nS], oI y2 27 (cC c d j3 j4), oI y1 27 (cC a b j1 j2)]) (O := [oI bp 59 (bC (vI (e : Int)) noD noD k00 k00), oI y3 27 [(vI 0), (vI 0), nS, nS, (vI 0), (vI 0), nS, nS], oI y2 27 (cC c d j3 j4), oI y1 27 (cC a b j1 j2)]) (doBad w bp e he noD noD k00 k00 (.func (.func 54) #[] #[]) noD noD k00 k00) (by exact Sub.rf)
  refine RO.forkT [11, 12] (by kernel_rfl) rfl ⟨⟨_, rfl, rfl, l_call ent37 hk22 rfl ?_⟩, ⟨_, rfl, rfl, l_alloc inf25 rfl (fun b7 => ⟨.inr (by exact Sub.d (.k (.k (.k (.k .z))))), ?_⟩)⟩, trivial⟩ (by kernel_rfl)
  ·clear hk22
   rintro vr O' ⟨A1, rfl, rfl, rfl⟩
   refine ⟨.inr (by exact Sub.rf), ?_⟩
   refine RO.forkT [12] (by kernel_rfl) rfl ⟨⟨_, rfl, rfl, l_alloc inf25 rfl (fun b7 => ⟨.inr (by exact Sub.d (.k (.k (.k (.k .z))))), ?_⟩)⟩, trivial⟩ (by kernel_rfl)
   refine RO.forkT [13] (by kernel_rfl) rfl ⟨⟨_, rfl, rfl, l_sb (v := (dV noD k00)) (vs := (dC noD k00)) 0 inf25 rfl rfl rfl rfl rfl rfl (by simp [putL]) ⟨.inl (by decide), ?_⟩⟩, trivial⟩ (by kernel_rfl)
   exact RO.fin (by kernel_rfl) ⟨b7, rfl, (.of rfl)⟩ (Sub.pick [0, 0, 0, 0, 0] rfl)
  refine RO.forkT [11] (by kernel_rfl) rfl ⟨⟨_, rfl, rfl, l_call ent37 (CallT.un [1] (doBad w bp e he noD noD k00 k00 (.func (.func 54) #[] #[]) noD noD k00 k00)) rfl ?_⟩, trivial⟩ (by kernel_rfl)
  rintro vr O' ⟨A1, rfl, rfl, rfl⟩
  refine ⟨.inr (by exact Sub.k (.d (.k (.k (.k .z))))), ?_⟩
  refine RO.forkT [13] (by kernel_rfl) rfl ⟨⟨_, rfl, rfl, l_sb (v := (dV noD k00)) (vs := (dC noD k00)) 1 inf25 rfl rfl rfl rfl rfl rfl (by simp [putL]) ⟨.inl (by decide), ?_⟩⟩, trivial⟩ (by kernel_rfl)
  exact RO.fin (by kernel_rfl) ⟨b7, rfl, (.of rfl)⟩ (Sub.pick [1, 0, 0, 0, 0] rfl)
 rintro ρ O ⟨b7, rfl, hH⟩
 obtain ⟨ρ0, rfl⟩ := hH.elim
 clear hH
 refine T.s ?_
 refine T.draws [oI b7 25 (dC noD k00), oI bp 59 (bC (vI (e : Int)) noD noD k00 k00), oI y3 27 [(vI 0), (vI 0), nS, nS, (vI 0), (vI 0), nS, nS], oI y2 27 (cC c d j3 j4), oI y1 27 (cC a b j1 j2)] [(0, 0), (1, 0), (2, 0), (3, 0), (4, 0), (5, 0), (6, 0), (7, 0), (9, 0), (8, 1), (10, 1), (11, 0), (12, 0), (13, 2), (14, 2)] mixed (drawF_ok (by kernel_rfl)) (by exact Sub.rf) (fun _ _ _ h => h) ?_
 refine DO.q rfl (q_move rfl) (DO.q rfl (q_move rfl) (DO.q rfl (q_nilCheck rfl) (DO.q rfl (q_fa uT59 rfl inf57 rfl rfl) (DO.q rfl (q_fa uT27 rfl inf25 rfl rfl) (DO.q rfl (q_load_part 4 (vs := (dC a j1)) uT25 rfl inf25 rfl rfl rfl rfl) (DO.q rfl (q_fa uT27 rfl inf25 rfl rfl) (DO.q rfl (q_load_part 3 (vs := (dC c j3)) uT25 rfl inf25 rfl rfl rfl rfl) (DO.q rfl (q_la 0 uT25 rfl inf25 rfl rfl rfl) ?_))))))))
 refine DO.loud rfl rfl (l_call ent37 (CallT.un [1] (doBad w bp e he noD noD k00 k00 (.func (.func 43) #[] #[]) a c j1 j3)) rfl ?_)
 rintro vr O' ⟨A1, rfl, rfl, rfl⟩
 refine ⟨by exact Sub.pull [oI bp 59 (bC (vI (e : Int)) noD noD k00 k00)] _ (.k (.k (.k (.k .z)))), ?_⟩
 refine DO.loud rfl rfl (l_call ent36 (CallT.un [0] (builtBad w bp e he noD noD k00 k00 noD noD k00 k00)) rfl ?_)
 rintro vr O' ⟨A1, rfl, rfl, rfl⟩
 refine ⟨by exact Sub.pull [oI bp 59 (bC (vI (e : Int)) noD noD k00 k00)] _ (.k (.k (.k (.k .z)))), ?_⟩
 refine DO.q rfl (q_extract (vs := _) rfl rfl) (DO.q rfl (q_extract (vs := _) rfl rfl) ?_)
 refine DO.last rfl rfl (l_sb (v := (cV noD noD k00 k00)) (vs := (cC noD noD k00 k00)) 2 inf27 rfl rfl rfl rfl rfl rfl (by simp [putL]) ?_)
 refine DO.last rfl rfl (LT.oq rfl rfl (q_assign rfl) ?_)
 refine DO.done ?_
 refine T.ret (Res.drop ?_)
 refine Res.cell1b (vI (e : Int)) (i := 2) Tryz.results24 uT27 rfl inf27 rfl rfl rfl rfl ?_
 exact ⟨[], Sub.z, rfl, rfl⟩
theorem compBad (w : World) [Tab Tryz.prog w] (a b c d : DFA) (j1 j2 j3 j4 : DK) (hj1 : At w a j1) (hj2 : At w b j2) (hj3 : At w c j3) (hj4 : At w d j4) (ba : a.next.length < 9223372036854775807 ∧ (∀ r ∈ a.next, r.length < 9223372036854775807) ∧ a.final.length < 9223372036854775807) (bb : b.next.length < 9223372036854775807 ∧ (∀ r ∈ b.next, r.length < 9223372036854775807) ∧ b.final.length < 9223372036854775807) (bc : c.next.length < 9223372036854775807 ∧ (∀ r ∈ c.next, r.length < 9223372036854775807) ∧ c.final.length < 9223372036854775807) (bd : d.next.length < 9223372036854775807 ∧ (∀ r ∈ d.next, r.length < 9223372036854775807) ∧ d.final.length < 9223372036854775807) {e : Nat} (hE : bE a b c d = e) (he : e ≠ 0) :
  PureT Tryz.prog 26 [cV a b j1 j2, cV c d j3 j4] w fun v N => v = .tuple #[cV noD noD k00 k00, vI (e : Int)] ∧ N = [] := by
 refine CallT.enter func26 rfl ntmps26 rfl ?_
 refine T.s (T.rg (TO.l rfl (l_box (v := (cV a b j1 j2)) (cs := (cC a b j1 j2)) rfl rfl (fun y1 => ?_))))
 refine TO.l rfl (l_box (v := (cV c d j3 j4)) (cs := (cC c d j3 j4)) rfl rfl (fun y2 => ?_))
 refine TO.l rfl (l_alloc inf27 rfl (fun y3 => ?_))
 refine TO.qa rfl (TO.nl (T.s (T.rg (TO.q (q_la 2 uT27 rfl inf27 rfl rfl rfl) (TO.q (q_la 1 uT27 rfl inf27 rfl rfl rfl) (TO.l rfl (l_call ent35 (CallT.op fun w1 hI => (haveI := tbz hI; startBad w1 a b c d j1 j2 j3 j4 (hI.atB hj1) (hI.atB hj2) (hI.atB hj3) (hI.atB hj4) ba bb bc bd hE he)) rfl ?_)))))))
 rintro vr O' ⟨N, rfl, bp, rfl, rfl⟩
 refine TO.qa rfl (TO.nl ?_)
 refine T.cut (fun ρ O => ∃ (b7 : Nat), O = [oI b7 25 (dC noD k00), oI bp 59 (bC (vI (e : Int)) noD noD k00 k00), oI y3 27 [(vI 0), (vI 0), nS, nS, (vI 0), (vI 0), nS, nS], oI y2 27 (cC c d j3 j4), oI y1 27 (cC a b j1 j2)] ∧ Heads [(0, (cV a b j1 j2)), (1, (cV c d j3 j4)), (2, (.pointer (aD y1))), (3, (.pointer (aD y2))), (4, (.pointer (aD y3))), (5, vI 0), (6, (.pointer (aD bp))), (7, (.pointer (aD b7)))] ρ) ?_ ?_
 ·refine T.treeT [oI bp 59 (bC (vI (e : Int)) noD noD k00 k00), oI y3 27 [(vI 0), (vI 0), nS, nS, (vI 0), (vI 0), nS, nS], oI y2 27 (cC c d j3 j4), oI y1 27 (cC a b j1 j2)] [13] 14 mixed rfl (by exact Sub.rf) (fun _ _ _ h => h) ?_
  refine RO.quietTT 0 rfl (by kernel_rfl) (q_move rfl) ?_
  refine RO.quietTT 1 rfl (by kernel_rfl) (q_nilCheck rfl) ?_
  refine RO.quietTT 2 rfl (by kernel_rfl) (q_fa uT59 rfl inf57 rfl rfl) ?_
  refine RO.quietTT 3 rfl (by kernel_rfl) (q_move rfl) ?_
  refine RO.quietTT 4 rfl (by kernel_rfl) (q_nilCheck rfl) ?_
  refine RO.quietTT 5 rfl (by kernel_rfl) (q_fa uT59 rfl inf25 rfl rfl) ?_
  refine RO.quietTT 6 rfl (by kernel_rfl) (q_load_part 0 (vs := (dC noD k00)) uT25 rfl inf25 rfl rfl rfl rfl) ?_
  refine RO.quietTT 7 rfl (by kernel_rfl) (q_move rfl) ?_
  refine RO.quietTT 8 rfl (by kernel_rfl) (q_nilCheck rfl) ?_
  refine RO.quietTT 9 rfl (by kernel_rfl) (q_fa uT59 rfl inf25 rfl rfl) ?_
  refine RO.quietTT 10 rfl (by kernel_rfl) (q_load_part 0 (vs := (dC noD k00)) uT25 rfl inf25 rfl rfl rfl rfl) ?_
  have hk24 := CallT.under (A := [oI bp 59 (bC (vI (e : Int)) noD noD k00 k00)]) (B := [oI y3 27 [(vI 0), (vI 0), nS, nS, (vI 0), (vI 0), nS, nS], oI y2 27 (cC c d j3 j4), oI y1 27 (cC a b j1 j2)]) (O := [oI bp 59 (bC (vI (e : Int)) noD noD k00 k00), oI y3 27 [(vI 0), (vI 0), nS, nS, (vI 0), (vI 0), nS, nS], oI y2 27 (cC c d j3 j4), oI y1 27 (cC a b j1 j2)]) (doBad w bp e he noD noD k00 k00 (.func (.func 43) #[] #[]) noD noD k00 k00) (by exact Sub.rf)
  refine RO.forkT [11, 12] (by kernel_rfl) rfl ⟨⟨_, rfl, rfl, l_call ent37 hk24 rfl ?_⟩, ⟨_, rfl, rfl, l_alloc inf25 rfl (fun b7 => ⟨.inr (by exact Sub.d (.k (.k (.k (.k .z))))), ?_⟩)⟩, trivial⟩ (by kernel_rfl)
  ·clear hk24
   rintro vr O' ⟨A1, rfl, rfl, rfl⟩
   refine ⟨.inr (by exact Sub.rf), ?_⟩
   refine RO.forkT [12] (by kernel_rfl) rfl ⟨⟨_, rfl, rfl, l_alloc inf25 rfl (fun b7 => ⟨.inr (by exact Sub.d (.k (.k (.k (.k .z))))), ?_⟩)⟩, trivial⟩ (by kernel_rfl)
   refine RO.forkT [13] (by kernel_rfl) rfl ⟨⟨_, rfl, rfl, l_sb (v := (dV noD k00)) (vs := (dC noD k00)) 0 inf25 rfl rfl rfl rfl rfl rfl (by simp [putL]) ⟨.inl (by decide), ?_⟩⟩, trivial⟩ (by kernel_rfl)
   exact RO.fin (by kernel_rfl) ⟨b7, rfl, (.of rfl)⟩ (Sub.pick [0, 0, 0, 0, 0] rfl)
  refine RO.forkT [11] (by kernel_rfl) rfl ⟨⟨_, rfl, rfl, l_call ent37 (CallT.un [1] (doBad w bp e he noD noD k00 k00 (.func (.func 43) #[] #[]) noD noD k00 k00)) rfl ?_⟩, trivial⟩ (by kernel_rfl)
  rintro vr O' ⟨A1, rfl, rfl, rfl⟩
  refine ⟨.inr (by exact Sub.k (.d (.k (.k (.k .z))))), ?_⟩
  refine RO.forkT [13] (by kernel_rfl) rfl ⟨⟨_, rfl, rfl, l_sb (v := (dV noD k00)) (vs := (dC noD k00)) 1 inf25 rfl rfl rfl rfl rfl rfl (by simp [putL]) ⟨.inl (by decide), ?_⟩⟩, trivial⟩ (by kernel_rfl)
  exact RO.fin (by kernel_rfl) ⟨b7, rfl, (.of rfl)⟩ (Sub.pick [1, 0, 0, 0, 0] rfl)
 rintro ρ O ⟨b7, rfl, hH⟩
 obtain ⟨ρ0, rfl⟩ := hH.elim
 clear hH
 refine T.cut (fun ρ O => ∃ (b8 : Nat), O = [oI b8 25 (dC noD k00), oI b7 25 (dC noD k00), oI bp 59 (bC (vI (e : Int)) noD noD k00 k00), oI y3 27 [(vI 0), (vI 0), nS, nS, (vI 0), (vI 0), nS, nS], oI y2 27 (cC c d j3 j4), oI y1 27 (cC a b j1 j2)] ∧ Heads [(0, (cV a b j1 j2)), (1, (cV c d j3 j4)), (2, (.pointer (aD y1))), (3, (.pointer (aD y2))), (4, (.pointer (aD y3))), (5, vI 0), (6, (.pointer (aD bp))), (7, (.pointer (aD b7))), (8, (.pointer (aD b8)))] ρ) ?_ ?_
 ·refine T.treeT [oI b7 25 (dC noD k00), oI bp 59 (bC (vI (e : Int)) noD noD k00 k00), oI y3 27 [(vI 0), (vI 0), nS, nS, (vI 0), (vI 0), nS, nS], oI y2 27 (cC c d j3 j4), oI y1 27 (cC a b j1 j2)] [9] 10 mixed rfl (by exact Sub.rf) (fun _ _ _ h => h) ?_
  refine RO.quietTT 0 rfl (by kernel_rfl) (q_move rfl) ?_
  refine RO.quietTT 1 rfl (by kernel_rfl) (q_nilCheck rfl) ?_
  refine RO.quietTT 2 rfl (by kernel_rfl) (q_fa uT59 rfl inf57 rfl rfl) ?_
  refine RO.quietTT 3 rfl (by kernel_rfl) (q_fa uT27 rfl inf25 rfl rfl) ?_
  refine RO.quietTT 4 rfl (by kernel_rfl) (q_load_part 4 (vs := (dC a j1)) uT25 rfl inf25 rfl rfl rfl rfl) ?_
  refine RO.quietTT 5 rfl (by kernel_rfl) (q_fa uT27 rfl inf25 rfl rfl) ?_
  refine RO.quietTT 6 rfl (by kernel_rfl) (q_load_part 3 (vs := (dC c j3)) uT25 rfl inf25 rfl rfl rfl rfl) ?_
  have hk32 := CallT.under (A := [oI bp 59 (bC (vI (e : Int)) noD noD k00 k00)]) (B := [oI b7 25 (dC noD k00), oI y3 27 [(vI 0), (vI 0), nS, nS, (vI 0), (vI 0), nS, nS], oI y2 27 (cC c d j3 j4), oI y1 27 (cC a b j1 j2)]) (O := [oI b7 25 (dC noD k00), oI bp 59 (bC (vI (e : Int)) noD noD k00 k00), oI y3 27 [(vI 0), (vI 0), nS, nS, (vI 0), (vI 0), nS, nS], oI y2 27 (cC c d j3 j4), oI y1 27 (cC a b j1 j2)]) (doBad w bp e he noD noD k00 k00 (.func (.func 43) #[] #[]) a c j1 j3) (by exact Sub.pull [oI b7 25 (dC noD k00)] _ (.k (.k (.k (.k .z)))))
  refine RO.forkT [7, 8] (by kernel_rfl) rfl ⟨⟨_, rfl, rfl, l_call ent37 hk32 rfl ?_⟩, ⟨_, rfl, rfl, l_alloc inf25 rfl (fun b8 => ⟨.inr (by exact Sub.d (.k (.k (.k (.k (.k .z)))))), ?_⟩)⟩, trivial⟩ (by kernel_rfl)
  ·clear hk32
   rintro vr O' ⟨A1, rfl, rfl, rfl⟩
   refine ⟨.inr (by exact Sub.pull [oI bp 59 (bC (vI (e : Int)) noD noD k00 k00)] _ (.k (.k (.k (.k .z))))), ?_⟩
   refine RO.forkT [8] (by kernel_rfl) rfl ⟨⟨_, rfl, rfl, l_alloc inf25 rfl (fun b8 => ⟨.inr (by exact Sub.d (.pull [oI bp 59 (bC (vI (e : Int)) noD noD k00 k00)] _ (.k (.k (.k (.k .z)))))), ?_⟩)⟩, trivial⟩ (by kernel_rfl)
   refine RO.forkT [9] (by kernel_rfl) rfl ⟨⟨_, rfl, rfl, l_sb (v := (dV noD k00)) (vs := (dC noD k00)) 0 inf25 rfl rfl rfl rfl rfl rfl (by simp [putL]) ⟨.inl (by decide), ?_⟩⟩, trivial⟩ (by kernel_rfl)
   exact RO.fin (by kernel_rfl) ⟨b8, rfl, (.of rfl)⟩ (Sub.pick [0, 1, 0, 0, 0, 0] rfl)
  refine RO.forkT [7] (by kernel_rfl) rfl ⟨⟨_, rfl, rfl, l_call ent37 (CallT.un [2] (doBad w bp e he noD noD k00 k00 (.func (.func 43) #[] #[]) a c j1 j3)) rfl ?_⟩, trivial⟩ (by kernel_rfl)
  rintro vr O' ⟨A1, rfl, rfl, rfl⟩
  refine ⟨.inr (by exact Sub.pull [oI bp 59 (bC (vI (e : Int)) noD noD k00 k00), oI b8 25 [(vI 0), (vI 0), nS, nS]] _ (.k (.d (.k (.k (.k .z)))))), ?_⟩
  refine RO.forkT [9] (by kernel_rfl) rfl ⟨⟨_, rfl, rfl, l_sb (v := (dV noD k00)) (vs := (dC noD k00)) 1 inf25 rfl rfl rfl rfl rfl rfl (by simp [putL]) ⟨.inl (by decide), ?_⟩⟩, trivial⟩ (by kernel_rfl)
  exact RO.fin (by kernel_rfl) ⟨b8, rfl, (.of rfl)⟩ (Sub.pick [1, 1, 0, 0, 0, 0] rfl)
 rintro ρ O ⟨b8, rfl, hH⟩
 obtain ⟨ρ0, rfl⟩ := hH.elim
 clear hH
 refine T.cut (fun ρ O => ∃ (b9 : Nat), O = [oI b9 25 (dC noD k00), oI b8 25 (dC noD k00), oI b7 25 (dC noD k00), oI bp 59 (bC (vI (e : Int)) noD noD k00 k00), oI y3 27 [(vI 0), (vI 0), nS, nS, (vI 0), (vI 0), nS, nS], oI y2 27 (cC c d j3 j4), oI y1 27 (cC a b j1 j2)] ∧ Heads [(0, (cV a b j1 j2)), (1, (cV c d j3 j4)), (2, (.pointer (aD y1))), (3, (.pointer (aD y2))), (4, (.pointer (aD y3))), (5, vI 0), (6, (.pointer (aD bp))), (7, (.pointer (aD b7))), (8, (.pointer (aD b8))), (9, (.pointer (aD b9)))] ρ) ?_ ?_
 ·refine T.treeT [oI b8 25 (dC noD k00), oI b7 25 (dC noD k00), oI bp 59 (bC (vI (e : Int)) noD noD k00 k00), oI y3 27 [(vI 0), (vI 0), nS, nS, (vI 0), (vI 0), nS, nS], oI y2 27 (cC c d j3 j4), oI y1 27 (cC a b j1 j2)] [6] 7 mixed rfl (by exact Sub.rf) (fun _ _ _ h => h) ?_
  refine RO.quietTT 0 rfl (by kernel_rfl) (q_move rfl) ?_
  refine RO.quietTT 1 rfl (by kernel_rfl) (q_nilCheck rfl) ?_
  refine RO.quietTT 2 rfl (by kernel_rfl) (q_fa uT59 rfl inf57 rfl rfl) ?_
  refine RO.quietTT 3 rfl (by kernel_rfl) (q_la 1 uT25 rfl inf25 rfl rfl rfl) ?_
  have hk37 := CallT.under (A := [oI bp 59 (bC (vI (e : Int)) noD noD k00 k00)]) (B := [oI b8 25 (dC noD k00), oI b7 25 (dC noD k00), oI y3 27 [(vI 0), (vI 0), nS, nS, (vI 0), (vI 0), nS, nS], oI y2 27 (cC c d j3 j4), oI y1 27 (cC a b j1 j2)]) (O := [oI b8 25 (dC noD k00), oI b7 25 (dC noD k00), oI bp 59 (bC (vI (e : Int)) noD noD k00 k00), oI y3 27 [(vI 0), (vI 0), nS, nS, (vI 0), (vI 0), nS, nS], oI y2 27 (cC c d j3 j4), oI y1 27 (cC a b j1 j2)]) (notBad w bp e he noD noD k00 k00 noD k00) (by exact Sub.pull [oI b8 25 (dC noD k00), oI b7 25 (dC noD k00)] _ (.k (.k (.k (.k (.k .z))))))
  refine RO.forkT [4, 5] (by kernel_rfl) rfl ⟨⟨_, rfl, rfl, l_call ent57 hk37 rfl ?_⟩, ⟨_, rfl, rfl, l_alloc inf25 rfl (fun b9 => ⟨.inr (by exact Sub.d (.k (.k (.k (.k (.k (.k .z))))))), ?_⟩)⟩, trivial⟩ (by kernel_rfl)
  ·clear hk37
   rintro vr O' ⟨A1, rfl, rfl, rfl⟩
   refine ⟨.inr (by exact Sub.pull [oI bp 59 (bC (vI (e : Int)) noD noD k00 k00)] _ (.pull [oI bp 59 (bC (vI (e : Int)) noD noD k00 k00)] _ (.k (.k (.k (.k .z)))))), ?_⟩
   refine RO.forkT [5] (by kernel_rfl) rfl ⟨⟨_, rfl, rfl, l_alloc inf25 rfl (fun b9 => ⟨.inr (by exact Sub.d (.pull [oI bp 59 (bC (vI (e : Int)) noD noD k00 k00)] _ (.pull [oI bp 59 (bC (vI (e : Int)) noD noD k00 k00)] _ (.k (.k (.k (.k .z))))))), ?_⟩)⟩, trivial⟩ (by kernel_rfl)
   refine RO.forkT [6] (by kernel_rfl) rfl ⟨⟨_, rfl, rfl, l_sb (v := (dV noD k00)) (vs := (dC noD k00)) 0 inf25 rfl rfl rfl rfl rfl rfl (by simp [putL]) ⟨.inl (by decide), ?_⟩⟩, trivial⟩ (by kernel_rfl)
   exact RO.fin (by kernel_rfl) ⟨b9, rfl, (.of rfl)⟩ (Sub.pick [0, 1, 1, 0, 0, 0, 0] rfl)
  refine RO.forkT [4] (by kernel_rfl) rfl ⟨⟨_, rfl, rfl, l_call ent57 (CallT.un [3] (notBad w bp e he noD noD k00 k00 noD k00)) rfl ?_⟩, trivial⟩ (by kernel_rfl)
  rintro vr O' ⟨A1, rfl, rfl, rfl⟩
  refine ⟨.inr (by exact Sub.pull [oI bp 59 (bC (vI (e : Int)) noD noD k00 k00), oI b9 25 [(vI 0), (vI 0), nS, nS]] _ (.pull [oI bp 59 (bC (vI (e : Int)) noD noD k00 k00), oI b9 25 [(vI 0), (vI 0), nS, nS]] _ (.k (.d (.k (.k (.k .z))))))), ?_⟩
  refine RO.forkT [6] (by kernel_rfl) rfl ⟨⟨_, rfl, rfl, l_sb (v := (dV noD k00)) (vs := (dC noD k00)) 1 inf25 rfl rfl rfl rfl rfl rfl (by simp [putL]) ⟨.inl (by decide), ?_⟩⟩, trivial⟩ (by kernel_rfl)
  exact RO.fin (by kernel_rfl) ⟨b9, rfl, (.of rfl)⟩ (Sub.pick [1, 1, 1, 0, 0, 0, 0] rfl)
 rintro ρ O ⟨b9, rfl, hH⟩
 obtain ⟨ρ0, rfl⟩ := hH.elim
 clear hH
 refine T.s ?_
 refine T.draws [oI b9 25 (dC noD k00), oI b8 25 (dC noD k00), oI b7 25 (dC noD k00), oI bp 59 (bC (vI (e : Int)) noD noD k00 k00), oI y3 27 [(vI 0), (vI 0), nS, nS, (vI 0), (vI 0), nS, nS], oI y2 27 (cC c d j3 j4), oI y1 27 (cC a b j1 j2)] [(0, 0), (1, 0), (2, 0), (3, 0), (4, 0), (5, 0), (7, 0), (6, 1), (8, 1), (9, 0), (10, 0), (11, 2), (12, 2)] mixed (drawF_ok (by kernel_rfl)) (by exact Sub.rf) (fun _ _ _ h => h) ?_
 refine DO.q rfl (q_move rfl) (DO.q rfl (q_move rfl) (DO.q rfl (q_nilCheck rfl) (DO.q rfl (q_fa uT59 rfl inf57 rfl rfl) (DO.q rfl (q_la 1 uT25 rfl inf25 rfl rfl rfl) (DO.q rfl (q_la 0 uT25 rfl inf25 rfl rfl rfl) (DO.q rfl (q_la 2 uT25 rfl inf25 rfl rfl rfl) ?_))))))
 refine DO.loud rfl rfl (l_call ent37 (CallT.un [3] (doBad w bp e he noD noD k00 k00 (.func (.func 54) #[] #[]) noD noD k00 k00)) rfl ?_)
 rintro vr O' ⟨A1, rfl, rfl, rfl⟩
 refine ⟨by exact Sub.pull [oI bp 59 (bC (vI (e : Int)) noD noD k00 k00)] _ (.pull [oI bp 59 (bC (vI (e : Int)) noD noD k00 k00)] _ (.pull [oI bp 59 (bC (vI (e : Int)) noD noD k00 k00)] _ (.k (.k (.k (.k .z)))))), ?_⟩
 refine DO.loud rfl rfl (l_call ent36 (CallT.un [0] (builtBad w bp e he noD noD k00 k00 noD noD k00 k00)) rfl ?_)
 rintro vr O' ⟨A1, rfl, rfl, rfl⟩
 refine ⟨by exact Sub.pull [oI bp 59 (bC (vI (e : Int)) noD noD k00 k00)] _ (.pull [oI bp 59 (bC (vI (e : Int)) noD noD k00 k00)] _ (.pull [oI bp 59 (bC (vI (e : Int)) noD noD k00 k00)] _ (.k (.k (.k (.k .z)))))), ?_⟩
 refine DO.q rfl (q_extract (vs := _) rfl rfl) (DO.q rfl (q_extract (vs := _) rfl rfl) ?_)
 refine DO.last rfl rfl (l_sb (v := (cV noD noD k00 k00)) (vs := (cC noD noD k00 k00)) 4 inf27 rfl rfl rfl rfl rfl rfl (by simp [putL]) ?_)
 refine DO.last rfl rfl (LT.oq rfl rfl (q_assign rfl) ?_)
 refine DO.done ?_
 refine T.ret (Res.drop ?_)
 refine Res.cell1b (vI (e : Int)) (i := 4) Tryz.results26 uT27 rfl inf27 rfl rfl rfl rfl ?_
 exact ⟨[], Sub.z, rfl, rfl⟩
theorem satBad (w : World) [Tab Tryz.prog w] (a b : DFA) (j1 j2 : DK) (hj1 : At w a j1) (hj2 : At w b j2) (ba : a.next.length < 9223372036854775807 ∧ (∀ r ∈ a.next, r.length < 9223372036854775807) ∧ a.final.length < 9223372036854775807) (bb : b.next.length < 9223372036854775807 ∧ (∀ r ∈ b.next, r.length < 9223372036854775807) ∧ b.final.length < 9223372036854775807) {e : Nat} (hE : cE a b = e) (he : e ≠ 0) :
  PureT Tryz.prog 10 [cV a b j1 j2] w fun v N => v = .tuple #[cV noD noD k00 k00, vI (e : Int)] ∧ N = [] := by
 refine CallT.enter func10 rfl ntmps10 rfl ?_
 have hE2 : bE a b a b = e := by unfold bE; rw [if_pos (by omega)]; exact hE
 refine T.s (T.rg (TO.l rfl (l_box (v := (cV a b j1 j2)) (cs := (cC a b j1 j2)) rfl rfl (fun y1 => ?_))))
 refine TO.l rfl (l_alloc inf27 rfl (fun y2 => ?_))
 refine TO.qa rfl (TO.nl (T.s (T.rg (TO.q (q_la 1 uT27 rfl inf27 rfl rfl rfl) (TO.q (q_la 1 uT27 rfl inf27 rfl rfl rfl) (TO.l rfl (l_call ent35 (CallT.op fun w1 hI => (haveI := tbz hI; startBad w1 a b a b j1 j2 j1 j2 (hI.atB hj1) (hI.atB hj2) (hI.atB hj1) (hI.atB hj2) ba bb ba bb hE2 he)) rfl ?_)))))))
 rintro vr O' ⟨N, rfl, bp, rfl, rfl⟩
 refine TO.qa rfl (TO.nl (T.s ?_))
 refine T.draws _ [(0, 0), (1, 0), (2, 0), (3, 0), (4, 0), (5, 0), (6, 0), (7, 0), (9, 0), (10, 0), (11, 0), (12, 0), (8, 1), (13, 1), (14, 0), (15, 0), (16, 2), (17, 2)] mixed (drawF_ok (by kernel_rfl)) (Sub.of (List.Sublist.refl _)) (fun _ _ _ h => h) ?_
 refine DO.q rfl (q_move rfl) (DO.q rfl (q_move rfl) (DO.q rfl (q_nilCheck rfl) (DO.q rfl (q_fa uT59 rfl inf57 rfl rfl) (DO.q rfl (q_fa uT27 rfl inf25 rfl rfl) (DO.q rfl (q_load_part 2 (vs := (dC a j1)) uT25 rfl inf25 rfl rfl rfl rfl) (DO.q rfl (q_fa uT27 rfl inf25 rfl rfl) (DO.q rfl (q_load_part 2 (vs := (dC a j1)) uT25 rfl inf25 rfl rfl rfl rfl) (DO.q rfl (q_move rfl) (DO.q rfl (q_nilCheck rfl) (DO.q rfl (q_fa uT59 rfl inf25 rfl rfl) (DO.q rfl (q_load_part 0 (vs := (dC noD k00)) uT25 rfl inf25 rfl rfl rfl rfl) ?_)))))))))))
 refine DO.loud rfl rfl (l_call ent37 (CallT.un [0] (doBad w bp e he noD noD k00 k00 (.func (.func 38) #[] #[]) a a j1 j1)) rfl ?_)
 rintro vr O' ⟨A1, rfl, rfl, rfl⟩
 refine ⟨by exact Sub.rf, ?_⟩
 refine DO.loud rfl rfl (l_call ent36 (CallT.un [0] (builtBad w bp e he noD noD k00 k00 noD noD k00 k00)) rfl ?_)
 rintro vr O' ⟨A1, rfl, rfl, rfl⟩
 refine ⟨by exact Sub.rf, ?_⟩
 refine DO.q rfl (q_extract (vs := _) rfl rfl) (DO.q rfl (q_extract (vs := _) rfl rfl) ?_)
 refine DO.last rfl rfl (l_sb (v := (cV noD noD k00 k00)) (vs := (cC noD noD k00 k00)) 1 inf27 rfl rfl rfl rfl rfl rfl (by simp [putL]) ?_)
 refine DO.last rfl rfl (LT.oq rfl rfl (q_assign rfl) ?_)
 refine DO.done ?_
 refine T.ret (Res.drop ?_)
 refine Res.cell1b (vI (e : Int)) (i := 1) Tryz.results10 uT27 rfl inf27 rfl rfl rfl rfl ?_
 exact ⟨[], Sub.z, rfl, rfl⟩
theorem implBad (w : World) [Tab Tryz.prog w] (x a g : DFA) (i j k : DK) (hi : At w x i) (hj : At w a j) (hk : At w g k) (bx : x.next.length < 9223372036854775807 ∧ (∀ r ∈ x.next, r.length < 9223372036854775807) ∧ x.final.length < 9223372036854775807) (ba : a.next.length < 9223372036854775807 ∧ (∀ r ∈ a.next, r.length < 9223372036854775807) ∧ a.final.length < 9223372036854775807) (bg : g.next.length < 9223372036854775807 ∧ (∀ r ∈ g.next, r.length < 9223372036854775807) ∧ g.final.length < 9223372036854775807) {e : Nat} (hE : iE x a g = e) (he : e ≠ 0) :
  PureT Tryz.prog 12 [dV x i, cV a g j k] w fun v N => v = .tuple #[nS, .bool false, vI (e : Int)] ∧ N = [] := by
 refine CallT.enter func12 rfl ntmps12 rfl ?_
 refine T.s (T.rg (TO.l rfl (l_box (v := (dV x i)) (cs := (dC x i)) rfl rfl (fun y1 => ?_))))
 refine TO.l rfl (l_box (v := (cV a g j k)) (cs := (cC a g j k)) rfl rfl (fun y2 => ?_))
 refine TO.qa rfl (TO.qa rfl (TO.qa rfl (TO.nl (T.s (T.s (T.rg (TO.q (q_la 1 uT25 rfl inf25 rfl rfl rfl) (TO.l rfl (l_call ent33 (CallT.op fun w1 hI => (haveI := tbz hI; subsetCheck w1 x i.nb i.fb i.nc i.fc (vals i.qs) (hI.dfa hi) bx.1 bx.2.1 bx.2.2)) rfl ?_)))))))))
 rintro vr O' ⟨N, rfl, rfl, rfl⟩
 refine TO.qa rfl (TO.nl (T.s (T.rg (TO.qm rfl (TO.q (q_neq rfl rfl) (TO.nl (T.condP rfl (fun hc => ?_) (fun hc => ?_))))))))
 ·have hlt14 : checkD x ≠ 0 := by omega
  refine T.s (T.rg (TO.qm rfl (TO.qa rfl (TO.qa rfl (TO.qa rfl (TO.nl (T.ret (Res.drop ?_))))))))
  refine Res.three nS (.bool false) (vI (checkD x : Int)) Tryz.results12 rfl rfl rfl ?_
  have h9 : e = checkD x := by rw [← hE]; unfold iE; rw [if_pos (by omega)]
  exact ⟨[], Sub.z, by rw [h9] <;> rfl, rfl⟩
 have hge14 : ¬ checkD x ≠ 0 := by omega
 refine T.skip (T.s (T.s (T.rg (TO.q (q_la 0 uT27 rfl inf27 rfl rfl rfl) (TO.l rfl (l_call ent8 (CallT.op fun w1 hI => (haveI := tbz hI; conCheck w1 a g j k (hI.atB hj) (hI.atB hk) ba bg)) rfl ?_))))))
 rintro vr O' ⟨N, rfl, rfl, rfl⟩
 refine TO.qa rfl (TO.nl (T.s (T.rg (TO.qm rfl (TO.q (q_neq rfl rfl) (TO.nl (T.condP rfl (fun hc => ?_) (fun hc => ?_))))))))
 ·have hlt19 : cE a g ≠ 0 := by omega
  refine T.s (T.rg (TO.qm rfl (TO.qa rfl (TO.qa rfl (TO.qa rfl (TO.nl (T.ret (Res.drop ?_))))))))
  refine Res.three nS (.bool false) (vI (cE a g : Int)) Tryz.results12 rfl rfl rfl ?_
  have h9 : e = cE a g := by rw [← hE]; unfold iE; rw [if_neg (by omega), if_pos (by omega)]
  exact ⟨[], Sub.z, by rw [h9] <;> rfl, rfl⟩
 have hge19 : ¬ cE a g ≠ 0 := by omega
 refine T.skip (T.s (T.s (T.rg (TO.q (q_fa uT25 rfl inf3 rfl rfl) (TO.q (q_lb 1 uT3 rfl rfl rfl rfl) (TO.q (q_fa uT27 rfl inf25 rfl rfl) (TO.q (q_fa uT25 rfl inf3 rfl rfl) (TO.q (q_lb 0 uT3 rfl rfl rfl rfl) (TO.q (q_neq rfl rfl) (TO.nl (T.condP rfl (fun hc => ?_) (fun hc => ?_))))))))))))
 ·refine T.s ?_
  refine T.rg (TO.qa rfl (TO.qa rfl (TO.qa rfl (TO.nl (T.ret (Res.drop ?_))))))
  refine Res.three nS (.bool false) (vI 7) Tryz.results12 rfl rfl rfl ?_
  have h9 : e = 7 := by rw [← hE]; unfold iE; rw [if_neg (by omega), if_neg (by omega), if_pos hc]
  exact ⟨[], Sub.z, by rw [h9] <;> rfl, rfl⟩
 exact absurd (show e = 0 by rw [← hE]; unfold iE; rw [if_neg (by omega), if_neg (by omega), if_neg hc]) he
theorem rImplBad (w : World) [Tab Tryz.prog w] (x a g : DFA) (i j k : DK) (hi : At w x i) (hj : At w a j) (hk : At w g k) (bx : x.next.length < 9223372036854775807 ∧ (∀ r ∈ x.next, r.length < 9223372036854775807) ∧ x.final.length < 9223372036854775807) (ba : a.next.length < 9223372036854775807 ∧ (∀ r ∈ a.next, r.length < 9223372036854775807) ∧ a.final.length < 9223372036854775807) (bg : g.next.length < 9223372036854775807 ∧ (∀ r ∈ g.next, r.length < 9223372036854775807) ∧ g.final.length < 9223372036854775807) {e : Nat} (hE : iE x a g = e) (he : e ≠ 0) :
  PureT Tryz.prog 13 [dV x i, cV a g j k] w fun v N => v = .tuple #[nS, .bool false, vI (e : Int)] ∧ N = [] := by
 refine CallT.enter func13 rfl ntmps13 rfl ?_
 refine T.s (T.rg (TO.l rfl (l_box (v := (dV x i)) (cs := (dC x i)) rfl rfl (fun y1 => ?_))))
 refine TO.l rfl (l_box (v := (cV a g j k)) (cs := (cC a g j k)) rfl rfl (fun y2 => ?_))
 refine TO.qa rfl (TO.qa rfl (TO.qa rfl (TO.nl (T.s (T.s (T.rg (TO.q (q_la 1 uT25 rfl inf25 rfl rfl rfl) (TO.l rfl (l_call ent34 (CallT.op fun w1 hI => (haveI := tbz hI; refCheck w1 x i.nb i.fb i.nc i.fc (vals i.qs) (hI.dfa hi) bx.1 bx.2.1 bx.2.2)) rfl ?_)))))))))
 rintro vr O' ⟨N, rfl, rfl, rfl⟩
 refine TO.qa rfl (TO.nl (T.s (T.rg (TO.qm rfl (TO.q (q_neq rfl rfl) (TO.nl (T.condP rfl (fun hc => ?_) (fun hc => ?_))))))))
 ·have hlt13 : checkD x ≠ 0 := by omega
  refine T.s (T.rg (TO.qm rfl (TO.qa rfl (TO.qa rfl (TO.qa rfl (TO.nl (T.ret (Res.drop ?_))))))))
  refine Res.three nS (.bool false) (vI (checkD x : Int)) Tryz.results13 rfl rfl rfl ?_
  have h9 : e = checkD x := by rw [← hE]; unfold iE; rw [if_pos (by omega)]
  exact ⟨[], Sub.z, by rw [h9] <;> rfl, rfl⟩
 have hge13 : ¬ checkD x ≠ 0 := by omega
 refine T.skip (T.s (T.s (T.rg (TO.q (q_la 0 uT27 rfl inf27 rfl rfl rfl) (TO.l rfl (l_call ent9 (CallT.op fun w1 hI => (haveI := tbz hI; rConCheck w1 a g j k (hI.atB hj) (hI.atB hk) ba bg)) rfl ?_))))))
 rintro vr O' ⟨N, rfl, rfl, rfl⟩
 refine TO.qa rfl (TO.nl (T.s (T.rg (TO.qm rfl (TO.q (q_neq rfl rfl) (TO.nl (T.condP rfl (fun hc => ?_) (fun hc => ?_))))))))
 ·have hlt18 : cE a g ≠ 0 := by omega
  refine T.s (T.rg (TO.qm rfl (TO.qa rfl (TO.qa rfl (TO.qa rfl (TO.nl (T.ret (Res.drop ?_))))))))
  refine Res.three nS (.bool false) (vI (cE a g : Int)) Tryz.results13 rfl rfl rfl ?_
  have h9 : e = cE a g := by rw [← hE]; unfold iE; rw [if_neg (by omega), if_pos (by omega)]
  exact ⟨[], Sub.z, by rw [h9] <;> rfl, rfl⟩
 have hge18 : ¬ cE a g ≠ 0 := by omega
 refine T.skip (T.s (T.s (T.rg (TO.q (q_fa uT25 rfl inf3 rfl rfl) (TO.q (q_lb 1 uT3 rfl rfl rfl rfl) (TO.q (q_fa uT27 rfl inf25 rfl rfl) (TO.q (q_fa uT25 rfl inf3 rfl rfl) (TO.q (q_lb 0 uT3 rfl rfl rfl rfl) (TO.q (q_neq rfl rfl) (TO.nl (T.condP rfl (fun hc => ?_) (fun hc => ?_))))))))))))
 ·refine T.s ?_
  refine T.rg (TO.qa rfl (TO.qa rfl (TO.qa rfl (TO.nl (T.ret (Res.drop ?_))))))
  refine Res.three nS (.bool false) (vI 7) Tryz.results13 rfl rfl rfl ?_
  have h9 : e = 7 := by rw [← hE]; unfold iE; rw [if_neg (by omega), if_neg (by omega), if_pos hc]
  exact ⟨[], Sub.z, by rw [h9] <;> rfl, rfl⟩
 exact absurd (show e = 0 by rw [← hE]; unfold iE; rw [if_neg (by omega), if_neg (by omega), if_neg hc]) he
theorem rSatBad (w : World) [Tab Tryz.prog w] (a b : DFA) (j1 j2 : DK) (hj1 : At w a j1) (hj2 : At w b j2) (ba : a.next.length < 9223372036854775807 ∧ (∀ r ∈ a.next, r.length < 9223372036854775807) ∧ a.final.length < 9223372036854775807) (bb : b.next.length < 9223372036854775807 ∧ (∀ r ∈ b.next, r.length < 9223372036854775807) ∧ b.final.length < 9223372036854775807) {e : Nat} (hE : cE a b = e) (he : e ≠ 0) :
  PureT Tryz.prog 11 [cV a b j1 j2] w fun v N => v = .tuple #[cV noD noD k00 k00, vI (e : Int)] ∧ N = [] := by
 refine CallT.enter func11 rfl ntmps11 rfl ?_
 refine T.s (T.rg (TO.l rfl (l_box (v := (cV a b j1 j2)) (cs := (cC a b j1 j2)) rfl rfl (fun y1 => ?_))))
 refine TO.l rfl (l_alloc inf27 rfl (fun y2 => ?_))
 refine TO.qa rfl (TO.nl (T.s (T.s (T.rg (TO.q (q_la 1 uT27 rfl inf27 rfl rfl rfl) (TO.l rfl (l_call ent9 (CallT.op fun w1 hI => (haveI := tbz hI; rConCheck w1 a b j1 j2 (hI.atB hj1) (hI.atB hj2) ba bb)) rfl ?_)))))))
 rintro vr O' ⟨N, rfl, rfl, rfl⟩
 rw [hE]
 refine TO.qa rfl (TO.nl (T.s (T.rg (TO.qm rfl (TO.q (QT.toB (q_neq rfl rfl) (decide_eq_true (by omega))) (TO.nl ?_))))))
 refine T.cond1 rfl ?_
 refine T.s (T.rg (TO.q (q_build plan27 inf27 rfl) (TO.qm rfl (TO.l rfl (l_sb (v := (.agg #[(vI 0), (vI 0), nS, nS, (vI 0), (vI 0), nS, nS])) (vs := [(vI 0), (vI 0), nS, nS, (vI 0), (vI 0), nS, nS]) 0 inf27 rfl rfl rfl rfl rfl rfl (by simp [putL]) ?_)))))
 refine TO.qa rfl (TO.nl (T.ret (Res.drop ?_)))
 refine Res.cell1b (vI (e : Int)) (i := 0) Tryz.results11 uT27 rfl inf27 rfl rfl rfl rfl ?_
 exact ⟨[], Sub.z, rfl, rfl⟩
theorem rRefBad (w : World) [Tab Tryz.prog w] (a b c d : DFA) (j1 j2 j3 j4 : DK) (hj1 : At w a j1) (hj2 : At w b j2) (hj3 : At w c j3) (hj4 : At w d j4) (ba : a.next.length < 9223372036854775807 ∧ (∀ r ∈ a.next, r.length < 9223372036854775807) ∧ a.final.length < 9223372036854775807) (bb : b.next.length < 9223372036854775807 ∧ (∀ r ∈ b.next, r.length < 9223372036854775807) ∧ b.final.length < 9223372036854775807) (bc : c.next.length < 9223372036854775807 ∧ (∀ r ∈ c.next, r.length < 9223372036854775807) ∧ c.final.length < 9223372036854775807) (bd : d.next.length < 9223372036854775807 ∧ (∀ r ∈ d.next, r.length < 9223372036854775807) ∧ d.final.length < 9223372036854775807) {e : Nat} (hE : bE a b c d = e) (he : e ≠ 0) :
  PureT Tryz.prog 21 [cV a b j1 j2, cV c d j3 j4] w fun v N => v = .tuple #[nS, .bool false, vI (e : Int)] ∧ N = [] := by
 refine CallT.enter func21 rfl ntmps21 rfl ?_
 refine T.s (T.rg (TO.l rfl (l_box (v := (cV a b j1 j2)) (cs := (cC a b j1 j2)) rfl rfl (fun y1 => ?_))))
 refine TO.l rfl (l_box (v := (cV c d j3 j4)) (cs := (cC c d j3 j4)) rfl rfl (fun y2 => ?_))
 refine TO.qa rfl (TO.qa rfl (TO.qa rfl (TO.nl (T.s (T.s (T.rg (TO.q (q_la 1 uT27 rfl inf27 rfl rfl rfl) (TO.q (q_la 0 uT27 rfl inf27 rfl rfl rfl) (TO.l rfl (l_call ent55 (CallT.op fun w1 hI => (haveI := tbz hI; rBoth w1 a b c d j1 j2 j3 j4 (hI.atB hj1) (hI.atB hj2) (hI.atB hj3) (hI.atB hj4) ba bb bc bd)) rfl ?_))))))))))
 rintro vr O' ⟨N, rfl, rfl, rfl⟩
 rw [hE]
 refine TO.qa rfl (TO.nl (T.s (T.rg (TO.qm rfl (TO.q (QT.toB (q_neq rfl rfl) (decide_eq_true (by omega))) (TO.nl ?_))))))
 refine T.cond1 rfl ?_
 refine T.s (T.rg (TO.qm rfl (TO.qa rfl (TO.qa rfl (TO.qa rfl (TO.nl (T.ret (Res.drop ?_))))))))
 refine Res.three nS (.bool false) (vI (e : Int)) Tryz.results21 rfl rfl rfl ?_
 exact ⟨[], Sub.z, rfl, rfl⟩
theorem rMeetBad (w : World) [Tab Tryz.prog w] (a b c d : DFA) (j1 j2 j3 j4 : DK) (hj1 : At w a j1) (hj2 : At w b j2) (hj3 : At w c j3) (hj4 : At w d j4) (ba : a.next.length < 9223372036854775807 ∧ (∀ r ∈ a.next, r.length < 9223372036854775807) ∧ a.final.length < 9223372036854775807) (bb : b.next.length < 9223372036854775807 ∧ (∀ r ∈ b.next, r.length < 9223372036854775807) ∧ b.final.length < 9223372036854775807) (bc : c.next.length < 9223372036854775807 ∧ (∀ r ∈ c.next, r.length < 9223372036854775807) ∧ c.final.length < 9223372036854775807) (bd : d.next.length < 9223372036854775807 ∧ (∀ r ∈ d.next, r.length < 9223372036854775807) ∧ d.final.length < 9223372036854775807) {e : Nat} (hE : bE a b c d = e) (he : e ≠ 0) :
  PureT Tryz.prog 23 [cV a b j1 j2, cV c d j3 j4] w fun v N => v = .tuple #[cV noD noD k00 k00, vI (e : Int)] ∧ N = [] := by
 refine CallT.enter func23 rfl ntmps23 rfl ?_
 refine T.s (T.rg (TO.l rfl (l_box (v := (cV a b j1 j2)) (cs := (cC a b j1 j2)) rfl rfl (fun y1 => ?_))))
 refine TO.l rfl (l_box (v := (cV c d j3 j4)) (cs := (cC c d j3 j4)) rfl rfl (fun y2 => ?_))
 refine TO.l rfl (l_alloc inf27 rfl (fun y3 => ?_))
 refine TO.qa rfl (TO.nl (T.s (T.s (T.rg (TO.q (q_la 2 uT27 rfl inf27 rfl rfl rfl) (TO.q (q_la 1 uT27 rfl inf27 rfl rfl rfl) (TO.l rfl (l_call ent55 (CallT.op fun w1 hI => (haveI := tbz hI; rBoth w1 a b c d j1 j2 j3 j4 (hI.atB hj1) (hI.atB hj2) (hI.atB hj3) (hI.atB hj4) ba bb bc bd)) rfl ?_))))))))
 rintro vr O' ⟨N, rfl, rfl, rfl⟩
 rw [hE]
 refine TO.qa rfl (TO.nl (T.s (T.rg (TO.qm rfl (TO.q (QT.toB (q_neq rfl rfl) (decide_eq_true (by omega))) (TO.nl ?_))))))
 refine T.cond1 rfl ?_
 refine T.s (T.rg (TO.q (q_build plan27 inf27 rfl) (TO.qm rfl (TO.l rfl (l_sb (v := (.agg #[(vI 0), (vI 0), nS, nS, (vI 0), (vI 0), nS, nS])) (vs := [(vI 0), (vI 0), nS, nS, (vI 0), (vI 0), nS, nS]) 0 inf27 rfl rfl rfl rfl rfl rfl (by simp [putL]) ?_)))))
 refine TO.qa rfl (TO.nl (T.ret (Res.drop ?_)))
 refine Res.cell1b (vI (e : Int)) (i := 0) Tryz.results23 uT27 rfl inf27 rfl rfl rfl rfl ?_
 exact ⟨[], Sub.z, rfl, rfl⟩
theorem rJoinBad (w : World) [Tab Tryz.prog w] (a b c d : DFA) (j1 j2 j3 j4 : DK) (hj1 : At w a j1) (hj2 : At w b j2) (hj3 : At w c j3) (hj4 : At w d j4) (ba : a.next.length < 9223372036854775807 ∧ (∀ r ∈ a.next, r.length < 9223372036854775807) ∧ a.final.length < 9223372036854775807) (bb : b.next.length < 9223372036854775807 ∧ (∀ r ∈ b.next, r.length < 9223372036854775807) ∧ b.final.length < 9223372036854775807) (bc : c.next.length < 9223372036854775807 ∧ (∀ r ∈ c.next, r.length < 9223372036854775807) ∧ c.final.length < 9223372036854775807) (bd : d.next.length < 9223372036854775807 ∧ (∀ r ∈ d.next, r.length < 9223372036854775807) ∧ d.final.length < 9223372036854775807) {e : Nat} (hE : bE a b c d = e) (he : e ≠ 0) :
  PureT Tryz.prog 25 [cV a b j1 j2, cV c d j3 j4] w fun v N => v = .tuple #[cV noD noD k00 k00, vI (e : Int)] ∧ N = [] := by
 refine CallT.enter func25 rfl ntmps25 rfl ?_
 refine T.s (T.rg (TO.l rfl (l_box (v := (cV a b j1 j2)) (cs := (cC a b j1 j2)) rfl rfl (fun y1 => ?_))))
 refine TO.l rfl (l_box (v := (cV c d j3 j4)) (cs := (cC c d j3 j4)) rfl rfl (fun y2 => ?_))
 refine TO.l rfl (l_alloc inf27 rfl (fun y3 => ?_))
 refine TO.qa rfl (TO.nl (T.s (T.s (T.rg (TO.q (q_la 2 uT27 rfl inf27 rfl rfl rfl) (TO.q (q_la 1 uT27 rfl inf27 rfl rfl rfl) (TO.l rfl (l_call ent55 (CallT.op fun w1 hI => (haveI := tbz hI; rBoth w1 a b c d j1 j2 j3 j4 (hI.atB hj1) (hI.atB hj2) (hI.atB hj3) (hI.atB hj4) ba bb bc bd)) rfl ?_))))))))
 rintro vr O' ⟨N, rfl, rfl, rfl⟩
 rw [hE]
 refine TO.qa rfl (TO.nl (T.s (T.rg (TO.qm rfl (TO.q (QT.toB (q_neq rfl rfl) (decide_eq_true (by omega))) (TO.nl ?_))))))
 refine T.cond1 rfl ?_
 refine T.s (T.rg (TO.q (q_build plan27 inf27 rfl) (TO.qm rfl (TO.l rfl (l_sb (v := (.agg #[(vI 0), (vI 0), nS, nS, (vI 0), (vI 0), nS, nS])) (vs := [(vI 0), (vI 0), nS, nS, (vI 0), (vI 0), nS, nS]) 0 inf27 rfl rfl rfl rfl rfl rfl (by simp [putL]) ?_)))))
 refine TO.qa rfl (TO.nl (T.ret (Res.drop ?_)))
 refine Res.cell1b (vI (e : Int)) (i := 0) Tryz.results25 uT27 rfl inf27 rfl rfl rfl rfl ?_
 exact ⟨[], Sub.z, rfl, rfl⟩
theorem rCompBad (w : World) [Tab Tryz.prog w] (a b c d : DFA) (j1 j2 j3 j4 : DK) (hj1 : At w a j1) (hj2 : At w b j2) (hj3 : At w c j3) (hj4 : At w d j4) (ba : a.next.length < 9223372036854775807 ∧ (∀ r ∈ a.next, r.length < 9223372036854775807) ∧ a.final.length < 9223372036854775807) (bb : b.next.length < 9223372036854775807 ∧ (∀ r ∈ b.next, r.length < 9223372036854775807) ∧ b.final.length < 9223372036854775807) (bc : c.next.length < 9223372036854775807 ∧ (∀ r ∈ c.next, r.length < 9223372036854775807) ∧ c.final.length < 9223372036854775807) (bd : d.next.length < 9223372036854775807 ∧ (∀ r ∈ d.next, r.length < 9223372036854775807) ∧ d.final.length < 9223372036854775807) {e : Nat} (hE : bE a b c d = e) (he : e ≠ 0) :
  PureT Tryz.prog 27 [cV a b j1 j2, cV c d j3 j4] w fun v N => v = .tuple #[cV noD noD k00 k00, vI (e : Int)] ∧ N = [] := by
 refine CallT.enter func27 rfl ntmps27 rfl ?_
 refine T.s (T.rg (TO.l rfl (l_box (v := (cV a b j1 j2)) (cs := (cC a b j1 j2)) rfl rfl (fun y1 => ?_))))
 refine TO.l rfl (l_box (v := (cV c d j3 j4)) (cs := (cC c d j3 j4)) rfl rfl (fun y2 => ?_))
 refine TO.l rfl (l_alloc inf27 rfl (fun y3 => ?_))
 refine TO.qa rfl (TO.nl (T.s (T.s (T.rg (TO.q (q_la 2 uT27 rfl inf27 rfl rfl rfl) (TO.q (q_la 1 uT27 rfl inf27 rfl rfl rfl) (TO.l rfl (l_call ent55 (CallT.op fun w1 hI => (haveI := tbz hI; rBoth w1 a b c d j1 j2 j3 j4 (hI.atB hj1) (hI.atB hj2) (hI.atB hj3) (hI.atB hj4) ba bb bc bd)) rfl ?_))))))))
 rintro vr O' ⟨N, rfl, rfl, rfl⟩
 rw [hE]
 refine TO.qa rfl (TO.nl (T.s (T.rg (TO.qm rfl (TO.q (QT.toB (q_neq rfl rfl) (decide_eq_true (by omega))) (TO.nl ?_))))))
 refine T.cond1 rfl ?_
 refine T.s (T.rg (TO.q (q_build plan27 inf27 rfl) (TO.qm rfl (TO.l rfl (l_sb (v := (.agg #[(vI 0), (vI 0), nS, nS, (vI 0), (vI 0), nS, nS])) (vs := [(vI 0), (vI 0), nS, nS, (vI 0), (vI 0), nS, nS]) 0 inf27 rfl rfl rfl rfl rfl rfl (by simp [putL]) ?_)))))
 refine TO.qa rfl (TO.nl (T.ret (Res.drop ?_)))
 refine Res.cell1b (vI (e : Int)) (i := 0) Tryz.results27 uT27 rfl inf27 rfl rfl rfl rfl ?_
 exact ⟨[], Sub.z, rfl, rfl⟩
end Go.Proofs.YtnpehjpookcfkaaGreatDoor


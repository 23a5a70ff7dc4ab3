/- Contracts of functions of the program (QzE): what each call answers and that it leaves memory as it was. Conditions: those each theorem names. -/
import Derived.Test.YtnpehjpookcfkaaGreatDoorCoreK
import Derived.Test.YtnpehjpookcfkaaGreatDoorAll
import Derived.Test.YtnpehjpookcfkaaGreatDoorQzM
import Derived.Test.YtnpehjpookcfkaaGreatDoorQzP
import Derived.Test.YtnpehjpookcfkaaGreatDoorCmb
set_option linter.unusedSectionVars false
set_option linter.unusedSimpArgs false
set_option linter.unusedVariables false
set_option linter.unnecessarySimpa false
set_option maxHeartbeats 8000000
set_option maxRecDepth 20000
namespace Go.Proofs.YtnpehjpookcfkaaGreatDoor
open Go.Lx Go.RowKit _root_.Go.Proofs.Tryz
theorem capP {b : Option Addr} {c : Nat} {T : TypeId} {cs : List Value} {w : World} (h : rowP b c T 1 cs w) : cs.length ≤ c := by
 cases b with
 | none => obtain ⟨rfl, rfl⟩ := h; exact Nat.le_refl _
 | some a => obtain ⟨_, _, _, h3, _⟩ := h; omega
theorem dI_at {II Bo I : TypeId} {d : DFA} {k : DK} {w : World} (h0 : (dI II Bo I d k).P w) : At w d k := by
 have g : ∀ it ∈ [rowI k.nb k.nc II 1 (vals k.qs), rowI k.fb k.fc Bo 1 (bools d.final)] ++ itms I k.qs, it.P w := h0.2
 refine ⟨rowP.sl (g (rowI k.nb k.nc II 1 (vals k.qs)) (by simp)), ?_, rowP.sl (g (rowI k.fb k.fc Bo 1 (bools d.final)) (by simp))⟩
 rw [← h0.1]
 refine ⟨by simp, fun i x hx => ?_⟩
 rw [List.getElem?_map] at hx
 obtain ⟨q, hq, rfl⟩ := Option.map_eq_some_iff.1 hx
 refine ⟨q.b, q.c, by rw [List.getElem?_map, hq]; rfl, ?_⟩
 have : (Rec.itm I q).P w := g _ (List.mem_append_right _ (List.mem_map_of_mem (List.mem_of_getElem? hq)))
 exact rowP.sl this
theorem dI_cap {II Bo I : TypeId} {d : DFA} {k : DK} {w : World} (h0 : (dI II Bo I d k).P w) : CapD d k := by
 have g : ∀ it ∈ [rowI k.nb k.nc II 1 (vals k.qs), rowI k.fb k.fc Bo 1 (bools d.final)] ++ itms I k.qs, it.P w := h0.2
 refine ⟨by have h9 := capP (g (rowI k.fb k.fc Bo 1 (bools d.final)) (by simp)); simpa using h9, fun i b n c e => ?_⟩
 rw [List.getElem?_map] at e
 obtain ⟨q, hq, e2⟩ := Option.map_eq_some_iff.1 e
 have : (Rec.itm I q).P w := g _ (List.mem_append_right _ (List.mem_map_of_mem (List.mem_of_getElem? hq)))
 have h9 := capP this
 cases e2
 simpa using h9
def exL : DFA := ⟨1, 0, [[0, 1]], [true]⟩
def ex7 : DFA := ⟨7, 0, [], []⟩
def kN : DK := ⟨none, 0, none, 0, []⟩
theorem b_O : Bd9 conO := ⟨by decide, by decide, by decide⟩
theorem b_S : Bd9 conS := ⟨by decide, by decide, by decide⟩
theorem b_A : Bd9 (stayD 1 true) := ⟨by decide, by decide, by decide⟩
theorem b_N : Bd9 (stayD 1 false) := ⟨by decide, by decide, by decide⟩
theorem b_B : Bd9 (stayD 2 true) := ⟨by decide, by decide, by decide⟩
theorem b_L : Bd9 exL := ⟨by decide, by decide, by decide⟩
theorem b_7 : Bd9 ex7 := ⟨by decide, by decide, by decide⟩
theorem cap_nil {d : DFA} (h : d.final = []) : CapD d kN := ⟨by rw [h]; exact Nat.le_refl _, fun i b n c e => by cases e⟩
theorem noneK (w : World) [Tab Tryz.prog w] : PureT Tryz.prog 31 [vI 1] w fun v N => ∃ k' : DK, v = dV (stayD 1 false) k' ∧ N = [dI 48 4 3 (stayD 1 false) k'] := by
 refine CallT.enter func31 rfl ntmps31 rfl ?_
 refine T.s (T.rg (TO.l rfl (l_alloc inf25 rfl (fun z1 => ?_))))
 refine TO.nl (T.s (T.rg (TO.qm rfl (TO.qm rfl (TO.q (QT.cast (q_shl1 (v := 1) rfl rfl (by omega)) (v' := vI 2) rfl) (TO.l rfl (l_makeSlice (m := 2) uT48 inf3 rfl rfl (by omega) (by omega) (fun z2 => ?_))))))))
 refine TO.l rfl (l_build1 (v := (.slice (aD z2) 2 2)) uT22 inf48 rfl rfl rfl (fun z3 => ?_))
 refine TO.l rfl (l_build1 (v := .bool false) uT23 inf4 rfl rfl rfl (fun z4 => ?_))
 refine TO.q (q_build (cs := [vI 1, (vI 0), (.slice (aD z3) 1 1), (.slice (aD z4) 1 1)]) plan25 inf25 (by kernel_rfl)) (TO.l rfl (l_sb (v := (.agg #[vI 1, (vI 0), (.slice (aD z3) 1 1), (.slice (aD z4) 1 1)])) (vs := [vI 1, (vI 0), (.slice (aD z3) 1 1), (.slice (aD z4) 1 1)]) 3 inf25 rfl rfl rfl rfl rfl rfl (by simp [putL]) ?_))
 refine TO.nl ?_
 refine T.sub (O' := [rowI (aD z3) 1 48 1 [(.slice (aD z2) 2 2)], rowI (aD z4) 1 4 1 [.bool false], rowI (aD z2) 2 3 1 (List.replicate 2 (vI 0)), oI z1 25 [vI 1, (vI 0), (.slice (aD z3) 1 1), (.slice (aD z4) 1 1)]]) (by exact Sub.pull [rowI (aD z4) 1 4 1 [.bool false]] _ (.k (.k (.k .z)))) ?_
 obtain ⟨k0, hk0⟩ : ∃ k : DK, k = ⟨some ⟨z3, 0, none⟩, 1, some ⟨z4, 0, none⟩, 1, [⟨some ⟨z2, 0, none⟩, 2, [0, 0]⟩]⟩ := ⟨_, rfl⟩
 refine T.sub (O' := (([rowI k0.nb k0.nc 48 1 (vals k0.qs), rowI k0.fb k0.fc 4 1 (bools (stayD 1 false).final)] ++ itms 3 k0.qs) ++ [oI z1 25 [vI 1, (vI 0), (.slice (aD z3) 1 1), (.slice (aD z4) 1 1)]])) (by subst hk0; exact Sub.rf) ?_
 refine T.pack (φ := nums k0.qs = (stayD 1 false).next) (by subst hk0; rfl) ?_
 refine T.sub (O' := [dI 48 4 3 (stayD 1 false) k0, oI z1 25 (dC (stayD 1 false) k0)]) (by subst hk0; exact Sub.rf) ?_
 refine T.ret (Res.drop ?_)
 refine Res.cell1 (i := 1) Tryz.results31 uT25 rfl inf25 rfl rfl rfl ?_
 exact ⟨[dI 48 4 3 (stayD 1 false) k0], (by exact Sub.k .z), k0, rfl, rfl⟩
theorem examplesW (w : World) [Tab Tryz.prog w] :
  PureT Tryz.prog 5 [] w fun v N => v = .bool true ∧ N = [] := by
 refine CallT.enter func5 rfl ntmps5 rfl ?_
 refine T.s (T.rg (TO.qa rfl (TO.nl (T.s (T.rg ?_)))))
 have hk6 := fun (w1 : World) (hI : Inv w [] w1) => (haveI := tbz hI; onesK w1)
 refine TO.l rfl (l_call ent28 (CallT.op hk6) rfl ?_)
 clear hk6
 rintro vr O' ⟨N, rfl, k1, rfl, rfl⟩
 have hk7 := fun (w1 : World) (hI : Inv w [dI 48 4 3 conO k1] w1) => (haveI := tbz hI; shortK w1)
 refine TO.l rfl (l_call ent29 (CallT.op hk7) rfl ?_)
 clear hk7
 rintro vr O' ⟨N, rfl, k2, rfl, rfl⟩
 have hk8 := fun (w1 : World) (hI : Inv w [dI 48 4 3 conS k2, dI 48 4 3 conO k1] w1) => (haveI := tbz hI; all1K w1)
 refine TO.l rfl (l_call ent30 (CallT.op hk8) rfl ?_)
 clear hk8
 rintro vr O' ⟨N, rfl, k3, rfl, rfl⟩
 have hk9 := fun (w1 : World) (hI : Inv w [dI 48 4 3 (stayD 1 true) k3, dI 48 4 3 conS k2, dI 48 4 3 conO k1] w1) => (haveI := tbz hI; noneK w1)
 refine TO.l rfl (l_call ent31 (CallT.op hk9) rfl ?_)
 clear hk9
 rintro vr O' ⟨N, rfl, k4, rfl, rfl⟩
 have hk10 := fun (w1 : World) (hI : Inv w [dI 48 4 3 (stayD 1 false) k4, dI 48 4 3 (stayD 1 true) k3, dI 48 4 3 conS k2, dI 48 4 3 conO k1] w1) => (haveI := tbz hI; all2K w1)
 refine TO.l rfl (l_call ent30 (CallT.op hk10) rfl ?_)
 clear hk10
 rintro vr O' ⟨N, rfl, k5, rfl, rfl⟩
 refine TO.q (q_build plan25 inf25 rfl) (TO.l rfl (l_buildSlice (m := 2) (parts := [(0, .const (vI 0)), (1, .const (vI 1))]) (cs := [vI 0, vI 1]) uT48 inf3 (by decide) (by kernel_rfl) rfl (fun z1 => ?_)))
 refine TO.l rfl (l_build1 (v := (.slice (aD z1) 2 2)) uT22 inf48 rfl rfl rfl (fun z2 => ?_))
 refine TO.l rfl (l_build1 (v := .bool true) uT23 inf4 rfl rfl rfl (fun z3 => ?_))
 refine TO.q (q_build (cs := [vI 1, (vI 0), (.slice (aD z2) 1 1), (.slice (aD z3) 1 1)]) plan25 inf25 (by kernel_rfl)) (TO.q (q_build (cs := [vI 7, (vI 0), nS, nS]) plan25 inf25 (by kernel_rfl)) (TO.l rfl (l_buildSlice (m := 8) (parts := [(0, _), (1, _), (2, _), (3, _), (4, _), (5, _), (6, _), (7, _)]) (cs := [(vI conO.vars), (vI conO.start), (.slice k1.nb conO.next.length k1.nc), (.slice k1.fb conO.final.length k1.fc), (vI conS.vars), (vI conS.start), (.slice k2.nb conS.next.length k2.nc), (.slice k2.fb conS.final.length k2.fc), (vI (stayD 1 true).vars), (vI (stayD 1 true).start), (.slice k3.nb ((stayD 1 true).next.length) k3.nc), (.slice k3.fb ((stayD 1 true).final.length) k3.fc), (vI (stayD 1 false).vars), (vI (stayD 1 false).start), (.slice k4.nb ((stayD 1 false).next.length) k4.nc), (.slice k4.fb ((stayD 1 false).final.length) k4.fc), (vI (stayD 2 true).vars), (vI (stayD 2 true).start), (.slice k5.nb ((stayD 2 true).next.length) k5.nc), (.slice k5.fb ((stayD 2 true).final.length) k5.fc), (vI 0), (vI 0), nS, nS, vI 1, (vI 0), (.slice (aD z2) 1 1), (.slice (aD z3) 1 1), vI 7, (vI 0), nS, nS]) uT49 inf25 (by decide) (by kernel_rfl) rfl (fun z4 => ?_))))
 refine TO.qa rfl (TO.nl (T.s (T.s (T.rg (TO.qa rfl (TO.nl (T.block ?_)))))))
 obtain ⟨xs, hxs⟩ : ∃ l : List (DFA × DK), l = [(conO, k1), (conS, k2), ((stayD 1 true), k3), ((stayD 1 false), k4), ((stayD 2 true), k5), (noD, kN), (exL, ⟨some ⟨z2, 0, none⟩, 1, some ⟨z3, 0, none⟩, 1, [⟨some ⟨z1, 0, none⟩, 2, [0, 1]⟩]⟩), (ex7, kN)] := ⟨_, rfl⟩
 obtain ⟨cs, hcs⟩ : ∃ c : List Value, c = [(vI conO.vars), (vI conO.start), (.slice k1.nb conO.next.length k1.nc), (.slice k1.fb conO.final.length k1.fc), (vI conS.vars), (vI conS.start), (.slice k2.nb conS.next.length k2.nc), (.slice k2.fb conS.final.length k2.fc), (vI (stayD 1 true).vars), (vI (stayD 1 true).start), (.slice k3.nb ((stayD 1 true).next.length) k3.nc), (.slice k3.fb ((stayD 1 true).final.length) k3.fc), (vI (stayD 1 false).vars), (vI (stayD 1 false).start), (.slice k4.nb ((stayD 1 false).next.length) k4.nc), (.slice k4.fb ((stayD 1 false).final.length) k4.fc), (vI (stayD 2 true).vars), (vI (stayD 2 true).start), (.slice k5.nb ((stayD 2 true).next.length) k5.nc), (.slice k5.fb ((stayD 2 true).final.length) k5.fc), (vI 0), (vI 0), nS, nS, vI 1, (vI 0), (.slice (aD z2) 1 1), (.slice (aD z3) 1 1), vI 7, (vI 0), nS, nS] := ⟨_, rfl⟩
 obtain ⟨RR, hRR⟩ : ∃ l : List Lx.Item, l = [rowI (aD z3) 1 4 1 [.bool true], rowI (aD z2) 1 48 1 [(.slice (aD z1) 2 2)], rowI (aD z1) 2 3 1 [vI 0, vI 1], dI 48 4 3 (stayD 2 true) k5, dI 48 4 3 (stayD 1 false) k4, dI 48 4 3 (stayD 1 true) k3, dI 48 4 3 conS k2, dI 48 4 3 conO k1] := ⟨_, rfl⟩
 have hxl : xs.length = 8 := by rw [hxs]; rfl
 have hcl : cs.length = 32 := by rw [hcs]; rfl
 have hxb : ∀ x ∈ xs, Bd9 x.1 := by
  intro x9 hx9
  rw [hxs] at hx9
  simp only [List.mem_cons, List.not_mem_nil, or_false] at hx9
  rcases hx9 with rfl | rfl | rfl | rfl | rfl | rfl | rfl | rfl
  ·exact b_O
  ·exact b_S
  ·exact b_A
  ·exact b_N
  ·exact b_B
  ·exact bd_noD
  ·exact b_L
  ·exact b_7
 have hat : ∀ w1 : World, (∀ it ∈ RR, it.P w1) → ∀ x ∈ xs, At w1 x.1 x.2 ∧ CapD x.1 x.2 := by
  intro w1 hw x9 hx9
  rw [hxs] at hx9
  simp only [List.mem_cons, List.not_mem_nil, or_false] at hx9
  rcases hx9 with rfl | rfl | rfl | rfl | rfl | rfl | rfl | rfl
  ·exact ⟨dI_at (hw (dI 48 4 3 conO k1) (hRR ▸ List.mem_of_getElem? (i := 7) rfl)), dI_cap (hw (dI 48 4 3 conO k1) (hRR ▸ List.mem_of_getElem? (i := 7) rfl))⟩
  ·exact ⟨dI_at (hw (dI 48 4 3 conS k2) (hRR ▸ List.mem_of_getElem? (i := 6) rfl)), dI_cap (hw (dI 48 4 3 conS k2) (hRR ▸ List.mem_of_getElem? (i := 6) rfl))⟩
  ·exact ⟨dI_at (hw (dI 48 4 3 (stayD 1 true) k3) (hRR ▸ List.mem_of_getElem? (i := 5) rfl)), dI_cap (hw (dI 48 4 3 (stayD 1 true) k3) (hRR ▸ List.mem_of_getElem? (i := 5) rfl))⟩
  ·exact ⟨dI_at (hw (dI 48 4 3 (stayD 1 false) k4) (hRR ▸ List.mem_of_getElem? (i := 4) rfl)), dI_cap (hw (dI 48 4 3 (stayD 1 false) k4) (hRR ▸ List.mem_of_getElem? (i := 4) rfl))⟩
  ·exact ⟨dI_at (hw (dI 48 4 3 (stayD 2 true) k5) (hRR ▸ List.mem_of_getElem? (i := 3) rfl)), dI_cap (hw (dI 48 4 3 (stayD 2 true) k5) (hRR ▸ List.mem_of_getElem? (i := 3) rfl))⟩
  ·exact ⟨⟨Sl.nil _ _, ⟨rfl, fun i x hx => by cases hx⟩, Sl.nil _ _⟩, cap_nil rfl⟩
  ·exact ⟨⟨rowP.sl (hw (rowI (aD z2) 1 48 1 [(.slice (aD z1) 2 2)]) (hRR ▸ List.mem_of_getElem? (i := 1) rfl)), ⟨rfl, fun i x hx => (by
    match i, hx with
    | 0, hx => cases hx; exact ⟨some ⟨z1, 0, none⟩, 2, rfl, (show Sl w1 (aD z1) (ints [0, 1]) from rowP.sl (hw (rowI (aD z1) 2 3 1 [vI 0, vI 1]) (hRR ▸ List.mem_of_getElem? (i := 2) rfl)))⟩
    | i9 + 1, hx => cases hx)⟩, (show Sl w1 (aD z3) (bools [true]) from rowP.sl (hw (rowI (aD z3) 1 4 1 [.bool true]) (hRR ▸ List.mem_of_getElem? (i := 0) rfl)))⟩, ⟨Nat.le_refl _, fun i b n c e => (by
    match i, e with
    | 0, e => cases e; exact Nat.le_refl _
    | i9 + 1, e => cases e)⟩⟩
  ·exact ⟨⟨Sl.nil _ _, ⟨rfl, fun i x hx => by cases hx⟩, Sl.nil _ _⟩, cap_nil rfl⟩
 have hget : ∀ (i : Nat) (hi : i < xs.length) (j : Nat), j < 4 → cs[i * 4 + j]? = (dC xs[i].1 xs[i].2)[j]? := by
  intro i hi j hj
  subst hxs; subst hcs
  match i, hi with
  | 0, _ => exact (match j, hj with | 0, _ => rfl | 1, _ => rfl | 2, _ => rfl | 3, _ => rfl)
  | 1, _ => exact (match j, hj with | 0, _ => rfl | 1, _ => rfl | 2, _ => rfl | 3, _ => rfl)
  | 2, _ => exact (match j, hj with | 0, _ => rfl | 1, _ => rfl | 2, _ => rfl | 3, _ => rfl)
  | 3, _ => exact (match j, hj with | 0, _ => rfl | 1, _ => rfl | 2, _ => rfl | 3, _ => rfl)
  | 4, _ => exact (match j, hj with | 0, _ => rfl | 1, _ => rfl | 2, _ => rfl | 3, _ => rfl)
  | 5, _ => exact (match j, hj with | 0, _ => rfl | 1, _ => rfl | 2, _ => rfl | 3, _ => rfl)
  | 6, _ => exact (match j, hj with | 0, _ => rfl | 1, _ => rfl | 2, _ => rfl | 3, _ => rfl)
  | 7, _ => exact (match j, hj with | 0, _ => rfl | 1, _ => rfl | 2, _ => rfl | 3, _ => rfl)
  | n9 + 8, h9 => exact absurd h9 (by show ¬ n9 + 8 < 8; omega)
 refine T.sub (O' := [rowI (aD z4) 8 25 4 cs] ++ RR) (by rw [hcs, hRR]; exact Sub.rf) ?_
 refine T.loop (fun (a : Nat) ρ O => O = ([rowI (aD z4) 8 25 4 cs] ++ RR) ∧ a ≤ 8 ∧ Heads [(1, (.slice (aD z4) 8 8)), (2, vI ((a : Nat) : Int))] ρ) (fun a => 8 - a) 0 ?_ ?_
 ·exact ⟨rfl, Nat.zero_le _, ⟨rfl, rfl, trivial⟩⟩
 rintro a ρ O ⟨rfl, ha, hH⟩
 obtain ⟨ρ0, rfl⟩ := hH.elim
 clear hH
 refine T.s (T.s (T.rg (TO.qm rfl (TO.qm rfl (TO.q (q_len uT49 rfl) (TO.q (q_lss rfl rfl) (TO.nl (T.condP rfl (fun hc => ?_) (fun hc => ?_)))))))))
 ·have hlt21 : a < 8 := by omega
  have hlx : a < xs.length := by omega
  obtain ⟨x, hxx⟩ : ∃ zz, xs[a] = zz := ⟨_, rfl⟩
  have hmx : x ∈ xs := hxx ▸ List.getElem_mem hlx
  refine T.skip (T.s (T.block (T.s (T.rg (TO.qa rfl (TO.nl (T.block ?_)))))))
  refine T.loop (fun (b : Nat) ρ O => O = ([rowI (aD z4) 8 25 4 cs] ++ RR) ∧ b ≤ 8 ∧ Heads [(1, (.slice (aD z4) 8 8)), (2, vI ((a : Nat) : Int)), (3, vI ((b : Nat) : Int))] ρ) (fun b => 8 - b) 0 ?_ ?_
  ·exact ⟨rfl, Nat.zero_le _, ⟨rfl, rfl, rfl, trivial⟩⟩
  rintro b ρ O ⟨rfl, hb, hH⟩
  obtain ⟨ρ0, rfl⟩ := hH.elim
  clear hH
  refine T.s (T.s (T.rg (TO.qm rfl (TO.qm rfl (TO.q (q_len uT49 rfl) (TO.q (q_lss rfl rfl) (TO.nl (T.condP rfl (fun hc => ?_) (fun hc => ?_)))))))))
  ·have hlt27 : b < 8 := by omega
   have hly : b < xs.length := by omega
   obtain ⟨y, hxy⟩ : ∃ zz, xs[b] = zz := ⟨_, rfl⟩
   have hmy : y ∈ xs := hxy ▸ List.getElem_mem hly
   refine T.skip (T.s (T.block (T.s ?_)))
   refine T.draws _ [(0, 0), (1, 0), (2, 0), (3, 0), (4, 0), (5, 0), (6, 0), (7, 0), (8, 0), (9, 1), (10, 2)] mixed (by kernel_rfl) (Sub.of (List.Sublist.refl _)) (fun _ _ _ h => h) ?_
   refine DO.q rfl (q_move rfl) (DO.q rfl (q_move rfl) (DO.q rfl (q_ixK (i := a) uT49 inf25 rfl rfl (rowO (mG 0 rfl)) (by omega) (by omega)) (DO.q rfl (q_ldK (vs := [(vI x.1.vars), (vI x.1.start), (.slice x.2.nb x.1.next.length x.2.nc), (.slice x.2.fb x.1.final.length x.2.fc)]) uT25 rfl inf25 rfl rfl (Nat.succ_pos _) (rowO (mG 0 rfl)) (hxx ▸ fun j9 h9 => (hget _ hlx j9 h9).trans (List.getElem?_eq_getElem h9))) ?_)))
   refine DO.q rfl (q_move rfl) (DO.q rfl (q_move rfl) (DO.q rfl (q_ixK (i := b) uT49 inf25 rfl rfl (rowO (mG 0 rfl)) (by omega) (by omega)) (DO.q rfl (q_ldK (vs := [(vI y.1.vars), (vI y.1.start), (.slice y.2.nb y.1.next.length y.2.nc), (.slice y.2.fb y.1.final.length y.2.fc)]) uT25 rfl inf25 rfl rfl (Nat.succ_pos _) (rowO (mG 0 rfl)) (hxy ▸ fun j9 h9 => (hget _ hly j9 h9).trans (List.getElem?_eq_getElem h9))) ?_)))
   refine DO.q rfl (q_build (cs := [(vI x.1.vars), (vI x.1.start), (.slice x.2.nb x.1.next.length x.2.nc), (.slice x.2.fb x.1.final.length x.2.fc), (vI y.1.vars), (vI y.1.start), (.slice y.2.nb y.1.next.length y.2.nc), (.slice y.2.fb y.1.final.length y.2.fc)]) plan27 inf27 (by kernel_rfl)) ?_
   refine DO.loud rfl rfl (l_alloc inf27 rfl (fun z5 => ⟨by exact Sub.d (.k .rf), ?_⟩))
   refine DO.last rfl rfl (l_sb (v := (.agg #[(vI x.1.vars), (vI x.1.start), (.slice x.2.nb x.1.next.length x.2.nc), (.slice x.2.fb x.1.final.length x.2.fc), (vI y.1.vars), (vI y.1.start), (.slice y.2.nb y.1.next.length y.2.nc), (.slice y.2.fb y.1.final.length y.2.fc)])) (vs := [(vI x.1.vars), (vI x.1.start), (.slice x.2.nb x.1.next.length x.2.nc), (.slice x.2.fb x.1.final.length x.2.fc), (vI y.1.vars), (vI y.1.start), (.slice y.2.nb y.1.next.length y.2.nc), (.slice y.2.fb y.1.final.length y.2.fc)]) 0 inf27 rfl rfl rfl rfl rfl rfl (by simp [putL]) ?_)
   refine DO.done ?_
   refine T.s (T.rg (TO.qa rfl (TO.nl (T.block ?_))))
   refine T.loop (fun (n : Nat) ρ O => O = ([oI z5 27 [(vI x.1.vars), (vI x.1.start), (.slice x.2.nb x.1.next.length x.2.nc), (.slice x.2.fb x.1.final.length x.2.fc), (vI y.1.vars), (vI y.1.start), (.slice y.2.nb y.1.next.length y.2.nc), (.slice y.2.fb y.1.final.length y.2.fc)], rowI (aD z4) 8 25 4 cs] ++ RR) ∧ n ≤ 8 ∧ Heads [(1, (.slice (aD z4) 8 8)), (2, vI ((a : Nat) : Int)), (3, vI ((b : Nat) : Int)), (4, (.pointer (aD z5))), (5, vI ((n : Nat) : Int))] ρ) (fun n => 8 - n) 0 ?_ ?_
   ·exact ⟨rfl, Nat.zero_le _, (.of rfl)⟩
   rintro n ρ O ⟨rfl, hn, hH⟩
   obtain ⟨ρ0, rfl⟩ := hH.elim
   clear hH
   refine T.s (T.s (T.rg (TO.qm rfl (TO.qm rfl (TO.q (q_len uT49 rfl) (TO.q (q_lss rfl rfl) (TO.nl (T.condP rfl (fun hc => ?_) (fun hc => ?_)))))))))
   ·have hlt42 : n < 8 := by omega
    have hlz : n < xs.length := by omega
    obtain ⟨z, hxz⟩ : ∃ zz, xs[n] = zz := ⟨_, rfl⟩
    have hmz : z ∈ xs := hxz ▸ List.getElem_mem hlz
    have hlu : (n + b) % 4 < xs.length := by omega
    obtain ⟨u, hxu⟩ : ∃ zz, xs[(n + b) % 4] = zz := ⟨_, rfl⟩
    have hmu : u ∈ xs := hxu ▸ List.getElem_mem hlu
    have hlv : n % 4 < xs.length := by omega
    obtain ⟨v, hxv⟩ : ∃ zz, xs[n % 4] = zz := ⟨_, rfl⟩
    have hmv : v ∈ xs := hxv ▸ List.getElem_mem hlv
    refine T.skip (T.s (T.block (T.s ?_)))
    refine T.draws _ [(0, 0), (1, 0), (2, 0), (3, 0), (4, 0), (5, 1), (6, 0), (7, 0), (8, 0), (9, 0), (10, 0), (11, 0), (12, 0), (13, 0), (14, 0), (15, 0), (16, 0), (17, 0), (18, 0), (19, 0), (20, 0), (21, 1), (22, 0), (23, 0), (24, 0), (25, 0), (26, 0), (27, 0), (28, 0), (29, 0), (30, 0), (31, 0), (32, 0), (33, 0), (34, 0), (35, 0), (36, 2), (37, 2), (38, 2)] mixed (drawF_ok (by kernel_rfl)) (Sub.of (List.Sublist.refl _)) (fun _ _ _ h => h) ?_
    refine DO.q rfl (q_move rfl) (DO.q rfl (q_move rfl) (DO.q rfl (q_ixK (i := n) uT49 inf25 rfl rfl (rowO (mG 1 rfl)) (by omega) (by omega)) (DO.q rfl (q_ldK (vs := [(vI z.1.vars), (vI z.1.start), (.slice z.2.nb z.1.next.length z.2.nc), (.slice z.2.fb z.1.final.length z.2.fc)]) uT25 rfl inf25 rfl rfl (Nat.succ_pos _) (rowO (mG 1 rfl)) (hxz ▸ fun j9 h9 => (hget _ hlz j9 h9).trans (List.getElem?_eq_getElem h9))) ?_)))
    refine DO.q rfl (q_la 0 uT27 rfl inf27 rfl rfl rfl) ?_
    have hk50 := fun (w1 : World) (hI : Inv w ([oI z5 27 [(vI x.1.vars), (vI x.1.start), (.slice x.2.nb x.1.next.length x.2.nc), (.slice x.2.fb x.1.final.length x.2.fc), (vI y.1.vars), (vI y.1.start), (.slice y.2.nb y.1.next.length y.2.nc), (.slice y.2.fb y.1.final.length y.2.fc)], rowI (aD z4) 8 25 4 cs] ++ RR) w1) => (haveI := tbz hI; (show PureT Tryz.prog 3 [dV z.1 z.2, cV x.1 y.1 x.2 y.2] w1 (fun v N => v = .bool true ∧ N = []) from (by
      have hRw : ∀ it ∈ RR, it.P w1 := fun it9 h9 => hI.holds it9 (List.mem_append_right _ h9)
      exact matchesW w1 z.1 z.2 (hat w1 hRw z hmz).1 (hat w1 hRw z hmz).2 (hxb z hmz) x.1 y.1 x.2 y.2 (hat w1 hRw x hmx).1 (hat w1 hRw y hmy).1 (hat w1 hRw x hmx).2 (hat w1 hRw y hmy).2 (hxb x hmx) (hxb y hmy))))
    refine DO.loud rfl rfl (l_call ent3 (CallT.op hk50) rfl ?_)
    clear hk50
    rintro vr O' ⟨N, rfl, rfl, rfl⟩
    refine ⟨by exact Sub.rf, ?_⟩
    refine DO.q rfl (q_not rfl) (DO.q rfl (q_move rfl) ?_)
    refine DO.guarded rfl rfl rfl (q_la 0 uT27 rfl inf27 rfl rfl rfl) ?_
    refine DO.guarded rfl rfl rfl (q_move rfl) ?_
    refine DO.guarded rfl rfl rfl (q_move rfl) ?_
    refine DO.guarded rfl rfl rfl (q_ixK (i := n) uT49 inf25 rfl rfl (rowO (mG 1 rfl)) (by omega) (by omega)) ?_
    refine DO.guarded rfl rfl rfl (q_ldK (vs := [(vI z.1.vars), (vI z.1.start), (.slice z.2.nb z.1.next.length z.2.nc), (.slice z.2.fb z.1.final.length z.2.fc)]) uT25 rfl inf25 rfl rfl (Nat.succ_pos _) (rowO (mG 1 rfl)) (hxz ▸ fun j9 h9 => (hget _ hlz j9 h9).trans (List.getElem?_eq_getElem h9))) ?_
    refine DO.guarded rfl rfl rfl (q_move rfl) ?_
    refine DO.guarded rfl rfl rfl (q_move rfl) ?_
    refine DO.guarded rfl rfl rfl (q_move rfl) ?_
    refine DO.guarded rfl rfl rfl (q_addN (a := n) (b := b) rfl rfl (by omega)) ?_
    refine DO.guarded rfl rfl rfl (q_remN (a := (n + b)) (b := 4) rfl rfl (by omega)) ?_
    refine DO.guarded rfl rfl rfl (q_ixK (i := ((n + b) % 4)) uT49 inf25 rfl rfl (rowO (mG 1 rfl)) (by omega) (by omega)) ?_
    refine DO.guarded rfl rfl rfl (q_ldK (vs := [(vI u.1.vars), (vI u.1.start), (.slice u.2.nb u.1.next.length u.2.nc), (.slice u.2.fb u.1.final.length u.2.fc)]) uT25 rfl inf25 rfl rfl (Nat.succ_pos _) (rowO (mG 1 rfl)) (hxu ▸ fun j9 h9 => (hget _ hlu j9 h9).trans (List.getElem?_eq_getElem h9))) ?_
    refine DO.guarded rfl rfl rfl (q_build (cs := [(vI z.1.vars), (vI z.1.start), (.slice z.2.nb z.1.next.length z.2.nc), (.slice z.2.fb z.1.final.length z.2.fc), (vI u.1.vars), (vI u.1.start), (.slice u.2.nb u.1.next.length u.2.nc), (.slice u.2.fb u.1.final.length u.2.fc)]) plan27 inf27 (by kernel_rfl)) ?_
    have hk66 := fun (w1 : World) (hI : Inv w ([oI z5 27 [(vI x.1.vars), (vI x.1.start), (.slice x.2.nb x.1.next.length x.2.nc), (.slice x.2.fb x.1.final.length x.2.fc), (vI y.1.vars), (vI y.1.start), (.slice y.2.nb y.1.next.length y.2.nc), (.slice y.2.fb y.1.final.length y.2.fc)], rowI (aD z4) 8 25 4 cs] ++ RR) w1) => (haveI := tbz hI; (show PureT Tryz.prog 4 [cV x.1 y.1 x.2 y.2, cV z.1 u.1 z.2 u.2] w1 (fun v N => v = .bool true ∧ N = []) from (by
      have hRw : ∀ it ∈ RR, it.P w1 := fun it9 h9 => hI.holds it9 (List.mem_append_right _ h9)
      exact pairsW w1 x.1 y.1 x.2 y.2 (hat w1 hRw x hmx).1 (hat w1 hRw y hmy).1 (hat w1 hRw x hmx).2 (hat w1 hRw y hmy).2 (hxb x hmx) (hxb y hmy) z.1 u.1 z.2 u.2 (hat w1 hRw z hmz).1 (hat w1 hRw u hmu).1 (hat w1 hRw z hmz).2 (hat w1 hRw u hmu).2 (hxb z hmz) (hxb u hmu))))
    refine DO.loudG rfl rfl rfl rfl (l_call ent4 (CallT.op hk66) rfl ?_)
    clear hk66
    rintro vr O' ⟨N, rfl, rfl, rfl⟩
    refine ⟨by exact Sub.rf, ?_⟩
    refine DO.guarded rfl rfl rfl (q_not rfl) ?_
    refine DO.q rfl (q_pick0 rfl rfl) (DO.q rfl (q_move rfl) ?_)
    refine DO.guarded rfl rfl rfl (q_move rfl) ?_
    refine DO.guarded rfl rfl rfl (q_move rfl) ?_
    refine DO.guarded rfl rfl rfl (q_remN (a := n) (b := 4) rfl rfl (by omega)) ?_
    refine DO.guarded rfl rfl rfl (q_ixK (i := (n % 4)) uT49 inf25 rfl rfl (rowO (mG 1 rfl)) (by omega) (by omega)) ?_
    refine DO.guarded rfl rfl rfl (q_ldK (vs := [(vI v.1.vars), (vI v.1.start), (.slice v.2.nb v.1.next.length v.2.nc), (.slice v.2.fb v.1.final.length v.2.fc)]) uT25 rfl inf25 rfl rfl (Nat.succ_pos _) (rowO (mG 1 rfl)) (hxv ▸ fun j9 h9 => (hget _ hlv j9 h9).trans (List.getElem?_eq_getElem h9))) ?_
    refine DO.guarded rfl rfl rfl (q_move rfl) ?_
    refine DO.guarded rfl rfl rfl (q_move rfl) ?_
    refine DO.guarded rfl rfl rfl (q_ixK (i := n) uT49 inf25 rfl rfl (rowO (mG 1 rfl)) (by omega) (by omega)) ?_
    refine DO.guarded rfl rfl rfl (q_ldK (vs := [(vI z.1.vars), (vI z.1.start), (.slice z.2.nb z.1.next.length z.2.nc), (.slice z.2.fb z.1.final.length z.2.fc)]) uT25 rfl inf25 rfl rfl (Nat.succ_pos _) (rowO (mG 1 rfl)) (hxz ▸ fun j9 h9 => (hget _ hlz j9 h9).trans (List.getElem?_eq_getElem h9))) ?_
    refine DO.guarded rfl rfl rfl (q_build (cs := [(vI v.1.vars), (vI v.1.start), (.slice v.2.nb v.1.next.length v.2.nc), (.slice v.2.fb v.1.final.length v.2.fc), (vI z.1.vars), (vI z.1.start), (.slice z.2.nb z.1.next.length z.2.nc), (.slice z.2.fb z.1.final.length z.2.fc)]) plan27 inf27 (by kernel_rfl)) ?_
    refine DO.guarded rfl rfl rfl (q_la 0 uT27 rfl inf27 rfl rfl rfl) ?_
    have hk81 := fun (w1 : World) (hI : Inv w ([oI z5 27 [(vI x.1.vars), (vI x.1.start), (.slice x.2.nb x.1.next.length x.2.nc), (.slice x.2.fb x.1.final.length x.2.fc), (vI y.1.vars), (vI y.1.start), (.slice y.2.nb y.1.next.length y.2.nc), (.slice y.2.fb y.1.final.length y.2.fc)], rowI (aD z4) 8 25 4 cs] ++ RR) w1) => (haveI := tbz hI; (show PureT Tryz.prog 4 [cV v.1 z.1 v.2 z.2, cV x.1 y.1 x.2 y.2] w1 (fun v N => v = .bool true ∧ N = []) from (by
      have hRw : ∀ it ∈ RR, it.P w1 := fun it9 h9 => hI.holds it9 (List.mem_append_right _ h9)
      exact pairsW w1 v.1 z.1 v.2 z.2 (hat w1 hRw v hmv).1 (hat w1 hRw z hmz).1 (hat w1 hRw v hmv).2 (hat w1 hRw z hmz).2 (hxb v hmv) (hxb z hmz) x.1 y.1 x.2 y.2 (hat w1 hRw x hmx).1 (hat w1 hRw y hmy).1 (hat w1 hRw x hmx).2 (hat w1 hRw y hmy).2 (hxb x hmx) (hxb y hmy))))
    refine DO.lastG rfl rfl rfl rfl (l_call ent4 (CallT.op hk81) rfl ?_)
    clear hk81
    rintro vr O' ⟨N, rfl, rfl, rfl⟩
    refine DO.lastG rfl rfl rfl rfl (LT.oq rfl rfl (q_not rfl) ?_)
    refine DO.last rfl rfl (LT.oq rfl rfl (q_pick0 rfl rfl) ?_)
    refine DO.done ?_
    refine T.cond0 rfl (T.skip (T.rg (TO.qm rfl (TO.q (q_addN (a := n) (b := 1) rfl rfl (by omega)) (TO.qa rfl (TO.nl ?_))))))
    exact ⟨n + 1, by omega, rfl, by omega, (.of rfl)⟩
   have hge42 : ¬ n < 8 := by omega
   refine T.exit ?_
   refine T.rg (TO.qm rfl (TO.q (q_addN (a := b) (b := 1) rfl rfl (by omega)) (TO.qa rfl ?_)))
   refine TO.sub (O' := ([rowI (aD z4) 8 25 4 cs] ++ RR)) (by exact Sub.d (.k .rf)) ?_
   refine TO.nl ?_
   exact ⟨b + 1, by omega, rfl, by omega, ⟨rfl, rfl, rfl, trivial⟩⟩
  have hge27 : ¬ b < 8 := by omega
  refine T.exit ?_
  refine T.rg (TO.qm rfl (TO.q (q_addN (a := a) (b := 1) rfl rfl (by omega)) (TO.qa rfl (TO.nl ?_))))
  exact ⟨a + 1, by omega, rfl, by omega, ⟨rfl, rfl, trivial⟩⟩
 have hge21 : ¬ a < 8 := by omega
 refine T.exit ?_
 refine T.s (T.rg (TO.qm rfl ?_))
 have hk85 := fun (w1 : World) (hI : Inv w ([rowI (aD z4) 8 25 4 cs] ++ RR) w1) => (haveI := tbz hI; awakeC w1)
 refine TO.gd rfl rfl rfl (l_call ent19 (CallT.op hk85) rfl ?_)
 clear hk85
 rintro vr O' ⟨N, rfl, rfl, rfl⟩
 refine TO.q (q_pick1 rfl rfl) (TO.qa rfl (TO.nl (T.ret (Res.drop ?_))))
 refine Res.one (.bool true) Tryz.results5 rfl ?_
 exact ⟨[], Sub.of (List.nil_sublist _), rfl, rfl⟩
end Go.Proofs.YtnpehjpookcfkaaGreatDoor


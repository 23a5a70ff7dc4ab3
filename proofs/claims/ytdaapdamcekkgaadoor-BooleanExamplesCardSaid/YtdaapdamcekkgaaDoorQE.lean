/- Contracts of functions of the program (QE): what each call answers and that it leaves memory as it was. Conditions: those each theorem names. -/
import Derived.Test.YtdaapdamcekkgaaDoorPC
import Derived.Test.YtdaapdamcekkgaaDoorPB
set_option linter.unusedSectionVars false
set_option linter.unusedSimpArgs false
set_option linter.unusedVariables false
set_option linter.unnecessarySimpa false
namespace Go.Proofs.YtdaapdamcekkgaaDoor
open Go.Lx Go.RowKit
set_option linter.unusedVariables false
set_option linter.unusedSimpArgs false
theorem bAll1 (w : World) (n : Int) (x : DFA) (jx : DK) (hx : At w x jx) (bx : x.next.length < 9223372036854775807 ∧ (∀ r ∈ x.next, r.length < 9223372036854775807) ∧ x.final.length < 9223372036854775807) (ad : Option Addr) (hS : Sl w ad (dC x jx)) (hA : 0 ≤ n → n ≤ 6 → AllOk (stayD n true) [x]) {M : DFA} {e : Nat} (hM : (allV n [x]).1 = M) (he : (allV n [x]).2 = e) :
    PureT Tryd.prog 32 [.int .i64 n, .slice ad 1 1] w fun v N => ∃ k' : DK, v = .tuple #[dV M k', .int .i64 (e : Int)] ∧ N = [dI 52 4 3 M k'] := by
  subst hM; subst he
  exact bAllC w n [⟨x, jx.nb, jx.fb, jx.nc, jx.fc, vals jx.qs⟩] ad 1 hS (allC hx allN) (allC bx allN) (show 1 < 1000 by decide) hA
theorem bAll0 (w : World) (n : Int)  (ad : Option Addr) (hS : Sl w ad ([])) (hA : 0 ≤ n → n ≤ 6 → AllOk (stayD n true) []) {M : DFA} {e : Nat} (hM : (allV n []).1 = M) (he : (allV n []).2 = e) :
    PureT Tryd.prog 32 [.int .i64 n, .slice ad 0 0] w fun v N => ∃ k' : DK, v = .tuple #[dV M k', .int .i64 (e : Int)] ∧ N = [dI 52 4 3 M k'] := by
  subst hM; subst he
  exact bAllC w n [] ad 0 hS allN allN (show 0 < 1000 by decide) hA
theorem bAll3 (w : World) (n : Int) (x : DFA) (jx : DK) (hx : At w x jx) (bx : x.next.length < 9223372036854775807 ∧ (∀ r ∈ x.next, r.length < 9223372036854775807) ∧ x.final.length < 9223372036854775807) (z : DFA) (jz : DK) (hz : At w z jz) (bz : z.next.length < 9223372036854775807 ∧ (∀ r ∈ z.next, r.length < 9223372036854775807) ∧ z.final.length < 9223372036854775807) (u : DFA) (ju : DK) (hu : At w u ju) (bu : u.next.length < 9223372036854775807 ∧ (∀ r ∈ u.next, r.length < 9223372036854775807) ∧ u.final.length < 9223372036854775807) (ad : Option Addr) (hS : Sl w ad (dC x jx ++ (dC z jz ++ dC u ju))) (hA : 0 ≤ n → n ≤ 6 → AllOk (stayD n true) [x, z, u]) {M : DFA} {e : Nat} (hM : (allV n [x, z, u]).1 = M) (he : (allV n [x, z, u]).2 = e) :
    PureT Tryd.prog 32 [.int .i64 n, .slice ad 3 3] w fun v N => ∃ k' : DK, v = .tuple #[dV M k', .int .i64 (e : Int)] ∧ N = [dI 52 4 3 M k'] := by
  subst hM; subst he
  exact bAllC w n [⟨x, jx.nb, jx.fb, jx.nc, jx.fc, vals jx.qs⟩, ⟨z, jz.nb, jz.fb, jz.nc, jz.fc, vals jz.qs⟩, ⟨u, ju.nb, ju.fb, ju.nc, ju.fc, vals ju.qs⟩] ad 3 hS (allC hx (allC hz (allC hu allN))) (allC bx (allC bz (allC bu allN))) (show 3 < 1000 by decide) hA
set_option maxHeartbeats 4000000 in
set_option maxRecDepth 20000 in
theorem examplesC (w : World) :
    PureT Tryd.prog 8 [] w fun v N => v = .bool true ∧ N = [] := by
  refine CallT.enter Tryd.func8 rfl Tryd.ntmps8 rfl ?_
  have dB : badE.next.length < 9223372036854775807 ∧ (∀ r ∈ badE.next, r.length < 9223372036854775807) ∧ badE.final.length < 9223372036854775807 := ⟨by decide, by decide, by decide⟩
  have dN : noD.next.length < 9223372036854775807 ∧ (∀ r ∈ noD.next, r.length < 9223372036854775807) ∧ noD.final.length < 9223372036854775807 := ⟨by decide, by decide, by decide⟩
  have dO := min_bounds exO_has
  have dT : othE.next.length < 9223372036854775807 ∧ (∀ r ∈ othE.next, r.length < 9223372036854775807) ∧ othE.final.length < 9223372036854775807 := ⟨by decide, by decide, by decide⟩
  have H7 := cyc_has (n := 7) (by decide) (by decide)
  have H9 := cyc_has (n := 9) (by decide) (by decide)
  have w79 := c79_wrong
  have hand := c79_and
  have hin7 := @c79_incl
  have h64 := H7.mulLe H9 (N := 64) (by decide)
  have h79 : (cycD 7).next.length * (cycD 9).next.length ≤ 4096 ∧ ∀ f, (order (prodD f (cycD 7) (cycD 9))).length < 100 := ⟨by omega, fun f => H7.small H9 (by decide)⟩
  have d7 := min_bounds H7
  have d9 := min_bounds H9
  have v64 := cyc_valid (n := 64) (by decide) (by decide)
  have v65 := cyc_valid (n := 65) (by decide) (by decide)
  have hbig := cyc_big
  have hv6465 : (cycD 64).vars = (cycD 65).vars := rfl
  obtain ⟨C7, eC7⟩ : ∃ d, cycD 7 = d := ⟨_, rfl⟩
  obtain ⟨C9, eC9⟩ : ∃ d, cycD 9 = d := ⟨_, rfl⟩
  obtain ⟨C64, eC64⟩ : ∃ d, cycD 64 = d := ⟨_, rfl⟩
  obtain ⟨C65, eC65⟩ : ∃ d, cycD 65 = d := ⟨_, rfl⟩
  rw [eC7] at d7
  rw [eC9] at d9
  rw [eC7, eC9] at w79 hand hin7 h64 h79
  rw [eC64] at v64
  rw [eC65] at v65
  rw [eC64, eC65] at hbig hv6465
  obtain ⟨mB, hmB⟩ : ∃ m, opV notB badE badE = m := ⟨_, rfl⟩
  obtain ⟨fT, vT⟩ := oth_not
  obtain ⟨mT, hmT⟩ : ∃ m, opV notB othE othE = m := ⟨_, rfl⟩
  rw [hmT] at fT vT
  have dM : mT.next.length < 9223372036854775807 ∧ (∀ r ∈ mT.next, r.length < 9223372036854775807) ∧ mT.final.length < 9223372036854775807 := ⟨by have := vT.n4; omega, vT.bound, by have := vT.fin; have := vT.n4; omega⟩
  refine T.seq (T.region ?_)
  refine TO.quiet (q_assign rfl) ?_
  refine TO.nil (T.seq (T.seq (T.region ?_)))
  have hk34 := fun (w1 : World) (hI : Inv w [] w1) => awakeC w1
  refine TO.loud rfl (l_call ent11 (CallT.of_pure hk34) rfl ?_)
  clear hk34
  rintro vr O' ⟨N, rfl, rfl, rfl⟩
  refine TO.quiet (q_not rfl) (TO.quiet (q_move rfl) (TO.quiet (q_pick0 rfl rfl) ?_))
  refine TO.nil ?_
  refine T.cond0 rfl ?_
  refine T.skip (T.seq (T.region ?_))
  refine TO.loud rfl (l_buildSlice (m := 2) (parts := [(0, .const (.int .i64 0)), (1, .const (.int .i64 1))]) (cs := [.int .i64 0, .int .i64 1]) Tryd.underlying52 inf3 (by decide) (by kernel_rfl) rfl (fun z1 => ?_))
  refine TO.loud rfl (l_build1 (v := (.slice (some ⟨z1, 0, none⟩) 2 2)) Tryd.underlying22 inf52 rfl rfl rfl (fun z2 => ?_))
  refine TO.loud rfl (l_build1 (v := .bool true) Tryd.underlying23 inf4 rfl rfl rfl (fun z3 => ?_))
  refine TO.quiet (q_build (cs := [.int .i64 1, (.int .i64 0), (.slice (some ⟨z2, 0, none⟩) 1 1), (.slice (some ⟨z3, 0, none⟩) 1 1)]) plan25 inf25 (by kernel_rfl)) ?_
  refine TO.loud rfl (l_alloc inf25 rfl (fun z4 => ?_))
  refine TO.loud rfl (l_store_box (v := (.agg #[.int .i64 1, (.int .i64 0), (.slice (some ⟨z2, 0, none⟩) 1 1), (.slice (some ⟨z3, 0, none⟩) 1 1)])) (vs := [.int .i64 1, (.int .i64 0), (.slice (some ⟨z2, 0, none⟩) 1 1), (.slice (some ⟨z3, 0, none⟩) 1 1)]) 0 inf25 rfl rfl rfl rfl rfl rfl (by simp [putL]) ?_)
  refine TO.nil ?_
  refine T.sub (O' := [rowI (some ⟨z2, 0, none⟩) 1 52 1 [(.slice (some ⟨z1, 0, none⟩) 2 2)], rowI (some ⟨z3, 0, none⟩) 1 4 1 [.bool true], rowI (some ⟨z1, 0, none⟩) 2 3 1 [.int .i64 0, .int .i64 1], oI z4 25 [.int .i64 1, (.int .i64 0), (.slice (some ⟨z2, 0, none⟩) 1 1), (.slice (some ⟨z3, 0, none⟩) 1 1)]]) (by exact Sub.pull [oI z4 25 [.int .i64 1, (.int .i64 0), (.slice (some ⟨z2, 0, none⟩) 1 1), (.slice (some ⟨z3, 0, none⟩) 1 1)], rowI (some ⟨z3, 0, none⟩) 1 4 1 [.bool true]] _ (.pull [oI z4 25 [.int .i64 1, (.int .i64 0), (.slice (some ⟨z2, 0, none⟩) 1 1), (.slice (some ⟨z3, 0, none⟩) 1 1)]] _ (.pull [oI z4 25 [.int .i64 1, (.int .i64 0), (.slice (some ⟨z2, 0, none⟩) 1 1), (.slice (some ⟨z3, 0, none⟩) 1 1)]] _ (.k .z)))) ?_
  obtain ⟨kB, hkB⟩ : ∃ k : DK, k = ⟨some ⟨z2, 0, none⟩, 1, some ⟨z3, 0, none⟩, 1, [⟨some ⟨z1, 0, none⟩, 2, [0, 1]⟩]⟩ := ⟨_, rfl⟩
  refine T.sub (O' := (([rowI kB.nb kB.nc 52 1 (vals kB.qs), rowI kB.fb kB.fc 4 1 (bools badE.final)] ++ itms 3 kB.qs) ++ [oI z4 25 [.int .i64 1, (.int .i64 0), (.slice (some ⟨z2, 0, none⟩) 1 1), (.slice (some ⟨z3, 0, none⟩) 1 1)]])) (by subst hkB; exact Sub.rf) ?_
  refine T.pack (φ := nums kB.qs = badE.next) (by subst hkB; rfl) ?_
  refine T.sub (O' := [dI 52 4 3 badE kB, oI z4 25 (dC badE kB)]) (by subst hkB; exact Sub.rf) ?_
  refine T.seq (T.region ?_)
  refine TO.loud rfl (l_build1 (v := .int .i64 0) Tryd.underlying52 inf3 rfl rfl rfl (fun z5 => ?_))
  refine TO.loud rfl (l_build1 (v := (.slice (some ⟨z5, 0, none⟩) 1 1)) Tryd.underlying22 inf52 rfl rfl rfl (fun z6 => ?_))
  refine TO.loud rfl (l_build1 (v := .bool true) Tryd.underlying23 inf4 rfl rfl rfl (fun z7 => ?_))
  refine TO.quiet (q_build (cs := [(.int .i64 0), (.int .i64 0), (.slice (some ⟨z6, 0, none⟩) 1 1), (.slice (some ⟨z7, 0, none⟩) 1 1)]) plan25 inf25 (by kernel_rfl)) ?_
  refine TO.loud rfl (l_alloc inf25 rfl (fun z8 => ?_))
  refine TO.loud rfl (l_store_box (v := (.agg #[(.int .i64 0), (.int .i64 0), (.slice (some ⟨z6, 0, none⟩) 1 1), (.slice (some ⟨z7, 0, none⟩) 1 1)])) (vs := [(.int .i64 0), (.int .i64 0), (.slice (some ⟨z6, 0, none⟩) 1 1), (.slice (some ⟨z7, 0, none⟩) 1 1)]) 0 inf25 rfl rfl rfl rfl rfl rfl (by simp [putL]) ?_)
  refine TO.nil ?_
  refine T.sub (O' := [rowI (some ⟨z6, 0, none⟩) 1 52 1 [(.slice (some ⟨z5, 0, none⟩) 1 1)], rowI (some ⟨z7, 0, none⟩) 1 4 1 [.bool true], rowI (some ⟨z5, 0, none⟩) 1 3 1 [.int .i64 0], oI z8 25 [(.int .i64 0), (.int .i64 0), (.slice (some ⟨z6, 0, none⟩) 1 1), (.slice (some ⟨z7, 0, none⟩) 1 1)], dI 52 4 3 badE kB, oI z4 25 (dC badE kB)]) (by exact Sub.pull [oI z8 25 [(.int .i64 0), (.int .i64 0), (.slice (some ⟨z6, 0, none⟩) 1 1), (.slice (some ⟨z7, 0, none⟩) 1 1)], rowI (some ⟨z7, 0, none⟩) 1 4 1 [.bool true]] _ (.pull [oI z8 25 [(.int .i64 0), (.int .i64 0), (.slice (some ⟨z6, 0, none⟩) 1 1), (.slice (some ⟨z7, 0, none⟩) 1 1)]] _ (.pull [oI z8 25 [(.int .i64 0), (.int .i64 0), (.slice (some ⟨z6, 0, none⟩) 1 1), (.slice (some ⟨z7, 0, none⟩) 1 1)]] _ (.k (.k (.k .z)))))) ?_
  obtain ⟨kO, hkO⟩ : ∃ k : DK, k = ⟨some ⟨z6, 0, none⟩, 1, some ⟨z7, 0, none⟩, 1, [⟨some ⟨z5, 0, none⟩, 1, [0]⟩]⟩ := ⟨_, rfl⟩
  refine T.sub (O' := (([rowI kO.nb kO.nc 52 1 (vals kO.qs), rowI kO.fb kO.fc 4 1 (bools othE.final)] ++ itms 3 kO.qs) ++ [oI z8 25 [(.int .i64 0), (.int .i64 0), (.slice (some ⟨z6, 0, none⟩) 1 1), (.slice (some ⟨z7, 0, none⟩) 1 1)], dI 52 4 3 badE kB, oI z4 25 (dC badE kB)])) (by subst hkO; exact Sub.rf) ?_
  refine T.pack (φ := nums kO.qs = othE.next) (by subst hkO; rfl) ?_
  refine T.sub (O' := [dI 52 4 3 othE kO, oI z8 25 (dC othE kO), dI 52 4 3 badE kB, oI z4 25 (dC badE kB)]) (by subst hkO; exact Sub.rf) ?_
  refine T.seq (T.seq (T.region ?_))
  refine TO.quiet (q_assign rfl) ?_
  refine TO.nil (T.block ?_)
  refine T.loopS (fun (p : Nat) ρ O => O = [dI 52 4 3 othE kO, oI z8 25 (dC othE kO), dI 52 4 3 badE kB, oI z4 25 (dC badE kB)] ∧ p ≤ 4 ∧ Heads [(1, (.pointer (some ⟨z4, 0, none⟩))), (2, (.pointer (some ⟨z8, 0, none⟩))), (3, .int .i64 ((p : Nat) : Int))] ρ) (fun p => 4 - p) 0 ?_ ?_
  · exact ⟨rfl, Nat.zero_le _, ⟨rfl, rfl, rfl, trivial⟩⟩
  rintro p ρ O ⟨rfl, hp, hH⟩
  obtain ⟨ρ0, rfl⟩ := hH.elim
  clear hH
  obtain ⟨mC, hmC⟩ : ∃ m, opV (opB (p : Int)) C7 C9 = m := ⟨_, rfl⟩
  have h63 : (p : Int) = 0 → mC.next.length = 63 := fun h => by rw [← hmC, h, show opB 0 = andB from rfl]; exact hand
  refine T.seq (T.seq (T.region ?_))
  refine TO.quiet (q_move rfl) (TO.quiet (q_lss rfl rfl) ?_)
  refine TO.nil ?_
  refine T.condP rfl (fun hc => ?_) (fun hc => ?_)
  · have hlt47 : p < 4 := by omega
    refine T.skip (T.seq (T.block (T.seq (T.region ?_))))
    refine TO.quiet (q_move rfl) (TO.quiet (q_load_boxAgg 3 Tryd.underlying25 rfl inf25 rfl rfl rfl) (TO.quiet (q_build plan25 inf25 rfl) ?_))
    have hk54 := fun (w1 : World) (hI : Inv w [dI 52 4 3 othE kO, oI z8 25 (dC othE kO), dI 52 4 3 badE kB, oI z4 25 (dC badE kB)] w1) => (show PureT _ _ _ _ _ from by
        have h9 := applyC w1 (p : Int) badE noD kB k00 (hI.at (k := kB) (List.mem_of_getElem? (i := 2) rfl)) (at_noD w1) dB.1 dB.2.1 dB.2.2 dN.1 dN.2.1 dN.2.2 (fun h => absurd h (by rw [be_wrong]; decide))
        rw [opV_bad (show wrongD badE noD ≠ 0 by rw [be_wrong]; decide), be_wrong] at h9
        exact h9)
    refine TO.loud rfl (l_call ent18 (CallT.of_pure hk54) rfl ?_)
    clear hk54
    rintro vr O' ⟨N, rfl, k4, rfl, rfl⟩
    refine TO.quiet (q_move rfl) (TO.quiet (q_extract (vs := _) rfl rfl) (TO.quiet (q_extract (vs := _) rfl rfl) ?_))
    refine TO.loud rfl (l_alloc inf25 rfl (fun z9 => ?_))
    refine TO.loud rfl (l_store_box (v := (dV noD k4)) (vs := (dC noD k4)) 0 inf25 rfl rfl rfl rfl rfl rfl (by simp [putL]) ?_)
    refine TO.quiet (q_assign rfl) ?_
    refine TO.sub (O' := [dI 52 4 3 othE kO, oI z8 25 (dC othE kO), dI 52 4 3 badE kB, oI z4 25 (dC badE kB)]) (by exact Sub.d (.d (.k (.k (.k (.k .z)))))) ?_
    refine TO.nil (T.seq (T.region ?_))
    refine TO.quiet (q_move rfl) ?_
    have hk59 := fun (w1 : World) (hI : Inv w [dI 52 4 3 othE kO, oI z8 25 (dC othE kO), dI 52 4 3 badE kB, oI z4 25 (dC badE kB)] w1) => oneK w1
    refine TO.loud rfl (l_call ent34 (CallT.of_pure hk59) rfl ?_)
    clear hk59
    rintro vr O' ⟨N, rfl, k5, rfl, rfl⟩
    refine TO.quiet (q_build plan25 inf25 rfl) ?_
    have hk61 := fun (w1 : World) (hI : Inv w [dI 52 4 3 exO k5, dI 52 4 3 othE kO, oI z8 25 (dC othE kO), dI 52 4 3 badE kB, oI z4 25 (dC badE kB)] w1) => (show PureT _ _ _ _ _ from by
        have h9 := applyC w1 (p : Int) exO noD k5 k00 (hI.at (k := k5) (List.mem_of_getElem? (i := 0) rfl)) (at_noD w1) dO.1 dO.2.1 dO.2.2 dN.1 dN.2.1 dN.2.2 (fun h => absurd h (by rw [on_wrong2]; decide))
        rw [opV_bad (show wrongD exO noD ≠ 0 by rw [on_wrong2]; decide), on_wrong2] at h9
        exact h9)
    refine TO.loud rfl (l_call ent18 (CallT.of_pure hk61) rfl ?_)
    clear hk61
    rintro vr O' ⟨N, rfl, k8, rfl, rfl⟩
    refine TO.quiet (q_move rfl) (TO.quiet (q_extract (vs := _) rfl rfl) (TO.quiet (q_extract (vs := _) rfl rfl) ?_))
    refine TO.loud rfl (l_alloc inf25 rfl (fun z10 => ?_))
    refine TO.loud rfl (l_store_box (v := (dV noD k8)) (vs := (dC noD k8)) 0 inf25 rfl rfl rfl rfl rfl rfl (by simp [putL]) ?_)
    refine TO.quiet (q_assign rfl) ?_
    refine TO.sub (O' := [dI 52 4 3 othE kO, oI z8 25 (dC othE kO), dI 52 4 3 badE kB, oI z4 25 (dC badE kB)]) (by exact Sub.d (.d (.d (.k (.k (.k (.k .z))))))) ?_
    refine TO.nil ?_
    refine T.cut (fun ρ O => ∃ (b8 : Nat) (k6 k7 : DK), O = [oI b8 25 (dC noD k7), dI 52 4 3 noD k7, dI 52 4 3 exO k6, dI 52 4 3 othE kO, oI z8 25 (dC othE kO), dI 52 4 3 badE kB, oI z4 25 (dC badE kB)] ∧ Heads [(1, (.pointer (some ⟨z4, 0, none⟩))), (2, (.pointer (some ⟨z8, 0, none⟩))), (3, .int .i64 ((p : Nat) : Int)), (4, (.pointer (some ⟨z9, 0, none⟩))), (5, .int .i64 ((8 : Nat) : Int)), (6, (.pointer (some ⟨z10, 0, none⟩))), (7, .int .i64 ((3 : Nat) : Int)), (8, (.pointer (some ⟨b8, 0, none⟩))), (9, .int .i64 ((7 : Nat) : Int))] ρ) ?_ ?_
    · refine T.treeT [dI 52 4 3 othE kO, oI z8 25 (dC othE kO), dI 52 4 3 badE kB, oI z4 25 (dC badE kB)] [8] 10 mixed rfl (by exact Sub.rf) (fun _ _ _ h => h) ?_
      refine RO.quietTT 0 rfl (by kernel_rfl) (q_move rfl) ?_
      refine RO.quietTT 2 rfl (by kernel_rfl) (q_load_boxAgg 1 Tryd.underlying25 rfl inf25 rfl rfl rfl) ?_
      have hk66 := fun (w1 : World) (hI : Inv w [dI 52 4 3 othE kO, oI z8 25 (dC othE kO), dI 52 4 3 badE kB, oI z4 25 (dC badE kB)] w1) => oneK w1
      refine RO.forkT [1, 7] (by kernel_rfl) rfl ⟨⟨_, rfl, rfl, l_call ent34 (CallT.of_pure hk66) rfl ?_⟩, ⟨_, rfl, rfl, l_alloc inf25 rfl (fun b8 => ⟨.inr (by exact Sub.d (.k (.k (.k (.k .z))))), ?_⟩)⟩, trivial⟩ (by kernel_rfl)
      · clear hk66
        rintro vr O' ⟨N, rfl, k6, rfl, rfl⟩
        refine ⟨.inr (by exact Sub.d (.k (.k (.k (.k .z))))), ?_⟩
        have hk68 := fun (w1 : World) (hI : Inv w [dI 52 4 3 exO k6, dI 52 4 3 othE kO, oI z8 25 (dC othE kO), dI 52 4 3 badE kB, oI z4 25 (dC badE kB)] w1) => (show PureT _ _ _ _ _ from by
            have h9 := applyC w1 (p : Int) exO othE k6 kO (hI.at (k := k6) (List.mem_of_getElem? (i := 0) rfl)) (hI.at (k := kO) (List.mem_of_getElem? (i := 1) rfl)) dO.1 dO.2.1 dO.2.2 dT.1 dT.2.1 dT.2.2 (fun h => absurd h (by rw [eo_wrong]; decide))
            rw [opV_bad (show wrongD exO othE ≠ 0 by rw [eo_wrong]; decide), eo_wrong] at h9
            exact h9)
        refine RO.forkT [3, 7] (by kernel_rfl) rfl ⟨⟨_, rfl, rfl, l_call ent18 (CallT.of_pure hk68) rfl ?_⟩, ⟨_, rfl, rfl, l_alloc inf25 rfl (fun b8 => ⟨.inr (by exact Sub.d (.d (.k (.k (.k (.k .z)))))), ?_⟩)⟩, trivial⟩ (by kernel_rfl)
        · clear hk68
          rintro vr O' ⟨N, rfl, k7, rfl, rfl⟩
          refine ⟨.inr (by exact Sub.d (.d (.k (.k (.k (.k .z)))))), ?_⟩
          refine RO.quietTT 4 rfl (by kernel_rfl) (q_move rfl) ?_
          refine RO.quietTT 5 rfl (by kernel_rfl) (q_extract (vs := _) rfl rfl) ?_
          refine RO.quietE 6 rfl (by kernel_rfl) (q_extract (vs := _) rfl rfl) ?_
          refine RO.forkT [7] (by kernel_rfl) rfl ⟨⟨_, rfl, rfl, l_alloc inf25 rfl (fun b8 => ⟨.inr (by exact Sub.d (.d (.d (.k (.k (.k (.k .z))))))), ?_⟩)⟩, trivial⟩ (by kernel_rfl)
          refine RO.forkT [8] (by kernel_rfl) rfl ⟨⟨_, rfl, rfl, l_store_box (v := (dV noD k7)) (vs := (dC noD k7)) 0 inf25 rfl rfl rfl rfl rfl rfl (by simp [putL]) ⟨.inl (by decide), ?_⟩⟩, trivial⟩ (by kernel_rfl)
          refine RO.quietE 9 rfl (by kernel_rfl) (q_assign rfl) ?_
          exact RO.fin (by kernel_rfl) ⟨b8, k6, k7, rfl, ⟨rfl, rfl, rfl, rfl, rfl, rfl, rfl, rfl, rfl, trivial⟩⟩ (by exact Sub.rf)
        have hk68 := fun (w1 : World) (hI : Inv w [oI b8 25 [(.int .i64 0), (.int .i64 0), (.slice none 0 0), (.slice none 0 0)], dI 52 4 3 exO k6, dI 52 4 3 othE kO, oI z8 25 (dC othE kO), dI 52 4 3 badE kB, oI z4 25 (dC badE kB)] w1) => (show PureT _ _ _ _ _ from by
            have h9 := applyC w1 (p : Int) exO othE k6 kO (hI.at (k := k6) (List.mem_of_getElem? (i := 1) rfl)) (hI.at (k := kO) (List.mem_of_getElem? (i := 2) rfl)) dO.1 dO.2.1 dO.2.2 dT.1 dT.2.1 dT.2.2 (fun h => absurd h (by rw [eo_wrong]; decide))
            rw [opV_bad (show wrongD exO othE ≠ 0 by rw [eo_wrong]; decide), eo_wrong] at h9
            exact h9)
        refine RO.forkT [3] (by kernel_rfl) rfl ⟨⟨_, rfl, rfl, l_call ent18 (CallT.of_pure hk68) rfl ?_⟩, trivial⟩ (by kernel_rfl)
        clear hk68
        rintro vr O' ⟨N, rfl, k7, rfl, rfl⟩
        refine ⟨.inr (by exact Sub.d (.d (.d (.k (.k (.k (.k .z))))))), ?_⟩
        refine RO.quietTT 4 rfl (by kernel_rfl) (q_move rfl) ?_
        refine RO.quietTT 5 rfl (by kernel_rfl) (q_extract (vs := _) rfl rfl) ?_
        refine RO.quietE 6 rfl (by kernel_rfl) (q_extract (vs := _) rfl rfl) ?_
        refine RO.forkT [8] (by kernel_rfl) rfl ⟨⟨_, rfl, rfl, l_store_box (v := (dV noD k7)) (vs := (dC noD k7)) 1 inf25 rfl rfl rfl rfl rfl rfl (by simp [putL]) ⟨.inl (by decide), ?_⟩⟩, trivial⟩ (by kernel_rfl)
        refine RO.quietE 9 rfl (by kernel_rfl) (q_assign rfl) ?_
        exact RO.fin (by kernel_rfl) ⟨b8, k6, k7, rfl, ⟨rfl, rfl, rfl, rfl, rfl, rfl, rfl, rfl, rfl, trivial⟩⟩ (by exact Sub.pull [dI 52 4 3 noD k7] _ (.k (.k (.k (.k (.k (.k .z)))))))
      have hk66 := fun (w1 : World) (hI : Inv w [oI b8 25 [(.int .i64 0), (.int .i64 0), (.slice none 0 0), (.slice none 0 0)], dI 52 4 3 othE kO, oI z8 25 (dC othE kO), dI 52 4 3 badE kB, oI z4 25 (dC badE kB)] w1) => oneK w1
      refine RO.forkT [1] (by kernel_rfl) rfl ⟨⟨_, rfl, rfl, l_call ent34 (CallT.of_pure hk66) rfl ?_⟩, trivial⟩ (by kernel_rfl)
      clear hk66
      rintro vr O' ⟨N, rfl, k6, rfl, rfl⟩
      refine ⟨.inr (by exact Sub.d (.d (.k (.k (.k (.k .z)))))), ?_⟩
      have hk68 := fun (w1 : World) (hI : Inv w [dI 52 4 3 exO k6, oI b8 25 [(.int .i64 0), (.int .i64 0), (.slice none 0 0), (.slice none 0 0)], dI 52 4 3 othE kO, oI z8 25 (dC othE kO), dI 52 4 3 badE kB, oI z4 25 (dC badE kB)] w1) => (show PureT _ _ _ _ _ from by
          have h9 := applyC w1 (p : Int) exO othE k6 kO (hI.at (k := k6) (List.mem_of_getElem? (i := 0) rfl)) (hI.at (k := kO) (List.mem_of_getElem? (i := 2) rfl)) dO.1 dO.2.1 dO.2.2 dT.1 dT.2.1 dT.2.2 (fun h => absurd h (by rw [eo_wrong]; decide))
          rw [opV_bad (show wrongD exO othE ≠ 0 by rw [eo_wrong]; decide), eo_wrong] at h9
          exact h9)
      refine RO.forkT [3] (by kernel_rfl) rfl ⟨⟨_, rfl, rfl, l_call ent18 (CallT.of_pure hk68) rfl ?_⟩, trivial⟩ (by kernel_rfl)
      clear hk68
      rintro vr O' ⟨N, rfl, k7, rfl, rfl⟩
      refine ⟨.inr (by exact Sub.d (.d (.d (.k (.k (.k (.k .z))))))), ?_⟩
      refine RO.quietTT 4 rfl (by kernel_rfl) (q_move rfl) ?_
      refine RO.quietTT 5 rfl (by kernel_rfl) (q_extract (vs := _) rfl rfl) ?_
      refine RO.quietE 6 rfl (by kernel_rfl) (q_extract (vs := _) rfl rfl) ?_
      refine RO.forkT [8] (by kernel_rfl) rfl ⟨⟨_, rfl, rfl, l_store_box (v := (dV noD k7)) (vs := (dC noD k7)) 2 inf25 rfl rfl rfl rfl rfl rfl (by simp [putL]) ⟨.inl (by decide), ?_⟩⟩, trivial⟩ (by kernel_rfl)
      refine RO.quietE 9 rfl (by kernel_rfl) (q_assign rfl) ?_
      exact RO.fin (by kernel_rfl) ⟨b8, k6, k7, rfl, ⟨rfl, rfl, rfl, rfl, rfl, rfl, rfl, rfl, rfl, trivial⟩⟩ (by exact Sub.pull [dI 52 4 3 noD k7, dI 52 4 3 exO k6] _ (.k (.k (.k (.k (.k (.k .z)))))))
    rintro ρ O ⟨b8, k6, k7, rfl, hH⟩
    obtain ⟨ρ0, rfl⟩ := hH.elim
    clear hH
    refine T.seq (T.region ?_)
    refine TO.quiet (q_move rfl) ?_
    have hk73 := fun (w1 : World) (hI : Inv w [oI b8 25 (dC noD k7), dI 52 4 3 noD k7, dI 52 4 3 exO k6, dI 52 4 3 othE kO, oI z8 25 (dC othE kO), dI 52 4 3 badE kB, oI z4 25 (dC badE kB)] w1) => (show PureT _ _ _ _ _ from by
        have h9 := cycK w1 64 (by decide) (by decide)
        rw [eC64] at h9
        exact h9)
    refine TO.loud rfl (l_call ent35 (CallT.of_pure hk73) rfl ?_)
    clear hk73
    rintro vr O' ⟨N, rfl, kc1, rfl, rfl⟩
    have hk74 := fun (w1 : World) (hI : Inv w [dI 52 4 3 C64 kc1, oI b8 25 (dC noD k7), dI 52 4 3 noD k7, dI 52 4 3 exO k6, dI 52 4 3 othE kO, oI z8 25 (dC othE kO), dI 52 4 3 badE kB, oI z4 25 (dC badE kB)] w1) => (show PureT _ _ _ _ _ from by
        have h9 := cycK w1 65 (by decide) (by decide)
        rw [eC65] at h9
        exact h9)
    refine TO.loud rfl (l_call ent35 (CallT.of_pure hk74) rfl ?_)
    clear hk74
    rintro vr O' ⟨N, rfl, kc2, rfl, rfl⟩
    have hk75 := fun (w1 : World) (hI : Inv w [dI 52 4 3 C65 kc2, dI 52 4 3 C64 kc1, oI b8 25 (dC noD k7), dI 52 4 3 noD k7, dI 52 4 3 exO k6, dI 52 4 3 othE kO, oI z8 25 (dC othE kO), dI 52 4 3 badE kB, oI z4 25 (dC badE kB)] w1) => applyBig w1 (p : Int) C64 C65 kc1 kc2 (hI.at (k := kc1) (List.mem_of_getElem? (i := 1) rfl)) (hI.at (k := kc2) (List.mem_of_getElem? (i := 0) rfl)) v64 v65 hv6465 hbig
    refine TO.loud rfl (l_call ent18 (CallT.of_pure hk75) rfl ?_)
    clear hk75
    rintro vr O' ⟨N, rfl, rfl, rfl⟩
    refine TO.quiet (q_move rfl) (TO.quiet (q_extract (vs := _) rfl rfl) (TO.quiet (q_extract (vs := _) rfl rfl) ?_))
    refine TO.loud rfl (l_alloc inf25 rfl (fun z11 => ?_))
    refine TO.loud rfl (l_store_box (v := (dV noD k00)) (vs := (dC noD k00)) 0 inf25 rfl rfl rfl rfl rfl rfl (by simp [putL]) ?_)
    refine TO.quiet (q_assign rfl) ?_
    refine TO.sub (O' := [dI 52 4 3 othE kO, oI z8 25 (dC othE kO), dI 52 4 3 badE kB, oI z4 25 (dC badE kB)]) (by exact Sub.d (.d (.d (.d (.d (.d (.k (.k (.k (.k .z)))))))))) ?_
    refine TO.nil (T.seq (T.region ?_))
    refine TO.quiet (q_move rfl) ?_
    have hk80 := fun (w1 : World) (hI : Inv w [dI 52 4 3 othE kO, oI z8 25 (dC othE kO), dI 52 4 3 badE kB, oI z4 25 (dC badE kB)] w1) => (show PureT _ _ _ _ _ from by
        have h9 := cycK w1 7 (by decide) (by decide)
        rw [eC7] at h9
        exact h9)
    refine TO.loud rfl (l_call ent35 (CallT.of_pure hk80) rfl ?_)
    clear hk80
    rintro vr O' ⟨N, rfl, kc3, rfl, rfl⟩
    have hk81 := fun (w1 : World) (hI : Inv w [dI 52 4 3 C7 kc3, dI 52 4 3 othE kO, oI z8 25 (dC othE kO), dI 52 4 3 badE kB, oI z4 25 (dC badE kB)] w1) => (show PureT _ _ _ _ _ from by
        have h9 := cycK w1 9 (by decide) (by decide)
        rw [eC9] at h9
        exact h9)
    refine TO.loud rfl (l_call ent35 (CallT.of_pure hk81) rfl ?_)
    clear hk81
    rintro vr O' ⟨N, rfl, kc4, rfl, rfl⟩
    have hk82 := fun (w1 : World) (hI : Inv w [dI 52 4 3 C9 kc4, dI 52 4 3 C7 kc3, dI 52 4 3 othE kO, oI z8 25 (dC othE kO), dI 52 4 3 badE kB, oI z4 25 (dC badE kB)] w1) => (show PureT _ _ _ _ _ from by
        have h9 := applyC w1 (p : Int) C7 C9 kc3 kc4 (hI.at (k := kc3) (List.mem_of_getElem? (i := 1) rfl)) (hI.at (k := kc4) (List.mem_of_getElem? (i := 0) rfl)) d7.1 d7.2.1 d7.2.2 d9.1 d9.2.1 d9.2.2 (fun _ => ⟨h79.1, fun f => h79.2 f⟩)
        rw [w79, hmC] at h9
        exact h9)
    refine TO.loud rfl (l_call ent18 (CallT.of_pure hk82) rfl ?_)
    clear hk82
    rintro vr O' ⟨N, rfl, k9, rfl, rfl⟩
    refine TO.quiet (q_move rfl) (TO.quiet (q_extract (vs := _) rfl rfl) (TO.quiet (q_extract (vs := _) rfl rfl) ?_))
    refine TO.loud rfl (l_alloc inf25 rfl (fun z12 => ?_))
    refine TO.loud rfl (l_store_box (v := (dV mC k9)) (vs := (dC mC k9)) 0 inf25 rfl rfl rfl rfl rfl rfl (by simp [putL]) ?_)
    refine TO.quiet (q_assign rfl) ?_
    refine TO.sub (O' := [oI z12 25 (dC mC k9), dI 52 4 3 othE kO, oI z8 25 (dC othE kO), dI 52 4 3 badE kB, oI z4 25 (dC badE kB)]) (by exact Sub.k (.d (.d (.d (.k (.k (.k (.k .z)))))))) ?_
    refine TO.nil (T.seq (T.region ?_))
    refine TO.quiet (q_move rfl) (TO.quiet (QT.toB (q_neq rfl rfl) (decide_eq_false (fun h => h rfl))) (TO.quiet (q_move rfl) ?_))
    refine TO.guarded rfl rfl rfl (LT.of_quiet rfl rfl (q_move rfl) ?_)
    refine TO.guarded rfl rfl rfl (LT.of_quiet rfl rfl (QT.toB (q_neq rfl rfl) (decide_eq_false (fun h => h rfl))) ?_)
    refine TO.quiet (q_pick0 rfl rfl) (TO.quiet (q_move rfl) ?_)
    refine TO.guarded rfl rfl rfl (LT.of_quiet rfl rfl (q_move rfl) ?_)
    refine TO.guarded rfl rfl rfl (LT.of_quiet rfl rfl (QT.toB (q_neq rfl rfl) (decide_eq_false (fun h => h rfl))) ?_)
    refine TO.quiet (q_pick0 rfl rfl) (TO.quiet (q_move rfl) ?_)
    refine TO.guarded rfl rfl rfl (LT.of_quiet rfl rfl (q_move rfl) ?_)
    refine TO.guarded rfl rfl rfl (LT.of_quiet rfl rfl (QT.toB (q_neq rfl rfl) (decide_eq_false (fun h => h rfl))) ?_)
    refine TO.quiet (q_pick0 rfl rfl) (TO.quiet (q_move rfl) ?_)
    refine TO.guarded rfl rfl rfl (LT.of_quiet rfl rfl (q_move rfl) ?_)
    refine TO.guarded rfl rfl rfl (LT.of_quiet rfl rfl (QT.toB (q_neq rfl rfl) (decide_eq_false (fun h => h rfl))) ?_)
    refine TO.quiet (q_pick0 rfl rfl) (TO.quiet (q_move rfl) ?_)
    refine TO.guarded rfl rfl rfl (LT.of_quiet rfl rfl (q_move rfl) ?_)
    refine TO.guarded rfl rfl rfl (LT.of_quiet rfl rfl (q_eql rfl rfl) ?_)
    by_cases hs106 : ((p : Nat) : Int) = 0
    · refine TO.guarded rfl rfl rfl (LT.of_quiet rfl rfl (QT.toB (q_move rfl) (decide_eq_true hs106)) ?_)
      refine TO.guarded rfl rfl rfl (LT.of_quiet rfl rfl (q_fieldAddr Tryd.underlying25 rfl inf22 rfl rfl) ?_)
      refine TO.guarded rfl rfl rfl (LT.of_quiet rfl rfl (q_load_box 0 Tryd.underlying22 rfl rfl rfl rfl) ?_)
      refine TO.guarded rfl rfl rfl (LT.of_quiet rfl rfl (q_len Tryd.underlying22 rfl) ?_)
      refine TO.guarded rfl rfl rfl (LT.of_quiet rfl rfl (QT.toB (q_neq rfl rfl) (decide_eq_false (by have := h63 (by omega); omega))) ?_)
      refine TO.guarded rfl rfl rfl (LT.of_quiet rfl rfl (q_pick1 rfl rfl) ?_)
      refine TO.quiet (q_pick0 rfl rfl) ?_
      refine TO.nil ?_
      refine T.cond0 rfl ?_
      refine T.skip (T.region ?_)
      refine TO.quiet (q_move rfl) (TO.quiet (q_addN (a := p) (b := 1) rfl rfl (by omega)) (TO.quiet (q_assign rfl) ?_))
      refine TO.nil ?_
      exact ⟨p + 1, by omega, [dI 52 4 3 othE kO, oI z8 25 (dC othE kO), dI 52 4 3 badE kB, oI z4 25 (dC badE kB)], (by exact Sub.d (.k (.k (.k (.k .z))))), rfl, by omega, ⟨rfl, rfl, rfl, trivial⟩⟩
    refine TO.guarded rfl rfl rfl (LT.of_quiet rfl rfl (QT.toB (q_move rfl) (decide_eq_false hs106)) ?_)
    refine TO.passed rfl rfl ?_
    refine TO.passed rfl rfl ?_
    refine TO.passed rfl rfl ?_
    refine TO.passed rfl rfl ?_
    refine TO.guarded rfl rfl rfl (LT.of_quiet rfl rfl (q_pick0 rfl rfl) ?_)
    refine TO.quiet (q_pick0 rfl rfl) ?_
    refine TO.nil ?_
    refine T.cond0 rfl ?_
    refine T.skip (T.region ?_)
    refine TO.quiet (q_move rfl) (TO.quiet (q_addN (a := p) (b := 1) rfl rfl (by omega)) (TO.quiet (q_assign rfl) ?_))
    refine TO.nil ?_
    exact ⟨p + 1, by omega, [dI 52 4 3 othE kO, oI z8 25 (dC othE kO), dI 52 4 3 badE kB, oI z4 25 (dC badE kB)], (by exact Sub.d (.k (.k (.k (.k .z))))), rfl, by omega, ⟨rfl, rfl, rfl, trivial⟩⟩
  have hge47 : ¬ p < 4 := by omega
  refine T.exit ?_
  refine T.seq (T.region ?_)
  refine TO.quiet (q_load_boxAgg 3 Tryd.underlying25 rfl inf25 rfl rfl rfl) ?_
  have hk115 := fun (w1 : World) (hI : Inv w [dI 52 4 3 othE kO, oI z8 25 (dC othE kO), dI 52 4 3 badE kB, oI z4 25 (dC badE kB)] w1) => (show PureT _ _ _ _ _ from by
      have h9 := notC w1 badE kB (hI.at (k := kB) (List.mem_of_getElem? (i := 2) rfl)) dB.1 dB.2.1 dB.2.2 (fun _ => by decide)
      rw [show checkD badE = 8 by decide, hmB] at h9
      exact h9)
  refine TO.loud rfl (l_call ent14 (CallT.of_pure hk115) rfl ?_)
  clear hk115
  rintro vr O' ⟨N, rfl, kn1, rfl, rfl⟩
  refine TO.quiet (q_move rfl) (TO.quiet (q_extract (vs := _) rfl rfl) (TO.quiet (q_extract (vs := _) rfl rfl) ?_))
  refine TO.loud rfl (l_alloc inf25 rfl (fun z13 => ?_))
  refine TO.loud rfl (l_store_box (v := (dV mB kn1)) (vs := (dC mB kn1)) 0 inf25 rfl rfl rfl rfl rfl rfl (by simp [putL]) ?_)
  refine TO.quiet (q_assign rfl) ?_
  refine TO.sub (O' := [dI 52 4 3 othE kO, oI z8 25 (dC othE kO), dI 52 4 3 badE kB, oI z4 25 (dC badE kB)]) (by exact Sub.d (.d (.k (.k (.k (.k .z)))))) ?_
  refine TO.nil (T.seq (T.region ?_))
  refine TO.quiet (q_load_boxAgg 3 Tryd.underlying25 rfl inf25 rfl rfl rfl) (TO.quiet (q_build plan25 inf25 rfl) ?_)
  have hk121 := fun (w1 : World) (hI : Inv w [dI 52 4 3 othE kO, oI z8 25 (dC othE kO), dI 52 4 3 badE kB, oI z4 25 (dC badE kB)] w1) => (show PureT _ _ _ _ _ from by
      have h9 := inclC w1 badE noD kB k00 (hI.at (k := kB) (List.mem_of_getElem? (i := 2) rfl)) (at_noD w1) dB.1 dB.2.1 dB.2.2 dN.1 dN.2.1 dN.2.2 (fun h => absurd h (by rw [be_wrong]; decide))
      rw [be_wrong] at h9
      exact h9)
  refine TO.loud rfl (l_call ent26 (CallT.of_pure hk121) rfl ?_)
  clear hk121
  rintro vr O' ⟨N, rfl, res1, wb1, wc1, hin1, rfl, rfl⟩
  refine TO.quiet (q_move rfl) (TO.quiet (q_extract (vs := _) rfl rfl) (TO.quiet (q_extract (vs := _) rfl rfl) (TO.quiet (q_extract (vs := _) rfl rfl) ?_)))
  refine TO.quiet (q_assign rfl) (TO.quiet (q_assign rfl) (TO.quiet (q_assign rfl) ?_))
  refine TO.sub (O' := [dI 52 4 3 othE kO, oI z8 25 (dC othE kO), dI 52 4 3 badE kB, oI z4 25 (dC badE kB)]) (by exact Sub.d (.k (.k (.k (.k .z))))) ?_
  refine TO.nil (T.seq ?_)
  refine T.draws [dI 52 4 3 othE kO, oI z8 25 (dC othE kO), dI 52 4 3 badE kB, oI z4 25 (dC badE kB)] [(1, 0), (0, 1), (2, 1), (3, 0), (4, 0), (5, 0), (6, 0), (7, 0)] mixed (by kernel_rfl) (by exact Sub.rf) (fun _ _ _ h => h) ?_
  refine DO.quiet rfl (q_load_boxAgg 1 Tryd.underlying25 rfl inf25 rfl rfl rfl) ?_
  have hk126 := fun (w1 : World) (hI : Inv w [dI 52 4 3 othE kO, oI z8 25 (dC othE kO), dI 52 4 3 badE kB, oI z4 25 (dC badE kB)] w1) => oneK w1
  refine DO.loud rfl rfl (l_call ent34 (CallT.of_pure hk126) rfl ?_)
  clear hk126
  rintro vr O' ⟨N, rfl, ko2, rfl, rfl⟩
  refine ⟨by exact Sub.d (.k (.k (.k (.k .z)))), ?_⟩
  have hk128 := fun (w1 : World) (hI : Inv w [dI 52 4 3 exO ko2, dI 52 4 3 othE kO, oI z8 25 (dC othE kO), dI 52 4 3 badE kB, oI z4 25 (dC badE kB)] w1) => (show PureT _ _ _ _ _ from by
      have h9 := eqlC w1 exO othE ko2 kO (hI.at (k := ko2) (List.mem_of_getElem? (i := 0) rfl)) (hI.at (k := kO) (List.mem_of_getElem? (i := 1) rfl)) dO.1 dO.2.1 dO.2.2 dT.1 dT.2.1 dT.2.2 (fun h => absurd h (by rw [eo_wrong]; decide))
      rw [eqlA_bad (show wrongD exO othE ≠ 0 by rw [eo_wrong]; decide), eo_wrong] at h9
      exact h9)
  refine DO.loud rfl rfl (l_call ent27 (CallT.of_pure hk128) rfl ?_)
  clear hk128
  rintro vr O' ⟨N, rfl, rfl, rfl⟩
  refine ⟨by exact Sub.d (.k (.k (.k (.k .z)))), ?_⟩
  refine DO.quiet rfl (q_move rfl) (DO.quiet rfl (q_extract (vs := _) rfl rfl) (DO.quiet rfl (q_extract (vs := _) rfl rfl) (DO.quiet rfl (q_assign rfl) ?_)))
  refine DO.quiet rfl (q_assign rfl) ?_
  refine DO.done ?_
  refine T.seq (T.region ?_)
  refine TO.quiet (q_load_boxAgg 4 Tryd.underlying25 rfl inf25 rfl rfl rfl) ?_
  refine TO.loud rfl (l_buildSlice (m := 1) (parts := [(0, _)]) (cs := (dC badE kB)) Tryd.underlying48 inf25 (by decide) (by kernel_rfl) rfl (fun z14 => ?_))
  have hk134 := fun (w1 : World) (hI : Inv w [rowI (some ⟨z14, 0, none⟩) 1 25 4 (dC badE kB), dI 52 4 3 exO ko2, dI 52 4 3 othE kO, oI z8 25 (dC othE kO), dI 52 4 3 badE kB, oI z4 25 (dC badE kB)] w1) => bAll1 w1 7 badE kB (hI.at (k := kB) (List.mem_of_getElem? (i := 4) rfl)) dB (some ⟨z14, 0, none⟩) (hI.slOf (List.mem_of_getElem? (i := 0) rfl)) (fun _ h => absurd h (by decide)) (M := noD) (e := 7) (by rw [all7]) (by rw [all7])
  refine TO.loud rfl (l_call ent32 (CallT.of_pure hk134) rfl ?_)
  clear hk134
  rintro vr O' ⟨N, rfl, ka1, rfl, rfl⟩
  refine TO.quiet (q_move rfl) (TO.quiet (q_extract (vs := _) rfl rfl) (TO.quiet (q_extract (vs := _) rfl rfl) ?_))
  refine TO.loud rfl (l_alloc inf25 rfl (fun z15 => ?_))
  refine TO.loud rfl (l_store_box (v := (dV noD ka1)) (vs := (dC noD ka1)) 0 inf25 rfl rfl rfl rfl rfl rfl (by simp [putL]) ?_)
  refine TO.quiet (q_assign rfl) ?_
  refine TO.sub (O' := [dI 52 4 3 othE kO, oI z8 25 (dC othE kO), dI 52 4 3 badE kB, oI z4 25 (dC badE kB)]) (by exact Sub.d (.d (.d (.d (.k (.k (.k (.k .z)))))))) ?_
  refine TO.nil ?_
  refine T.cut (fun ρ O => ∃ (b9 : Nat) (ko3 ka3 : DK), O = [oI b9 25 (dC noD ka3), dI 52 4 3 noD ka3, dI 52 4 3 exO ko3, dI 52 4 3 othE kO, oI z8 25 (dC othE kO), dI 52 4 3 badE kB, oI z4 25 (dC badE kB)] ∧ Heads [(1, (.pointer (some ⟨z4, 0, none⟩))), (2, (.pointer (some ⟨z8, 0, none⟩))), (3, .int .i64 ((p : Nat) : Int)), (14, (.pointer (some ⟨z13, 0, none⟩))), (15, .int .i64 ((8 : Nat) : Int)), (18, .int .i64 ((8 : Nat) : Int)), (20, .int .i64 ((7 : Nat) : Int)), (21, (.pointer (some ⟨z15, 0, none⟩))), (22, .int .i64 ((7 : Nat) : Int)), (23, (.pointer (some ⟨b9, 0, none⟩))), (24, .int .i64 ((7 : Nat) : Int))] ρ) ?_ ?_
  · refine T.treeT [dI 52 4 3 othE kO, oI z8 25 (dC othE kO), dI 52 4 3 badE kB, oI z4 25 (dC badE kB)] [9] 11 mixed rfl (by exact Sub.rf) (fun _ _ _ h => h) ?_
    refine RO.quietTT 1 rfl (by kernel_rfl) (q_load_boxAgg 1 Tryd.underlying25 rfl inf25 rfl rfl rfl) ?_
    refine RO.quietTT 2 rfl (by kernel_rfl) (q_load_boxAgg 3 Tryd.underlying25 rfl inf25 rfl rfl rfl) ?_
    have hk138 := fun (w1 : World) (hI : Inv w [dI 52 4 3 othE kO, oI z8 25 (dC othE kO), dI 52 4 3 badE kB, oI z4 25 (dC badE kB)] w1) => oneK w1
    refine RO.forkT [0, 8] (by kernel_rfl) rfl ⟨⟨_, rfl, rfl, l_call ent34 (CallT.of_pure hk138) rfl ?_⟩, ⟨_, rfl, rfl, l_alloc inf25 rfl (fun b9 => ⟨.inr (by exact Sub.d (.k (.k (.k (.k .z))))), ?_⟩)⟩, trivial⟩ (by kernel_rfl)
    · clear hk138
      rintro vr O' ⟨N, rfl, ko3, rfl, rfl⟩
      refine ⟨.inr (by exact Sub.d (.k (.k (.k (.k .z))))), ?_⟩
      refine RO.forkT [3, 8] (by kernel_rfl) rfl ⟨⟨_, rfl, rfl, l_buildSlice (m := 3) (parts := [(0, _), (1, _), (2, _)]) (cs := [(.int .i64 exO.vars), (.int .i64 exO.start), (.slice ko3.nb exO.next.length ko3.nc), (.slice ko3.fb exO.final.length ko3.fc), (.int .i64 othE.vars), (.int .i64 othE.start), (.slice kO.nb othE.next.length kO.nc), (.slice kO.fb othE.final.length kO.fc), (.int .i64 badE.vars), (.int .i64 badE.start), (.slice kB.nb badE.next.length kB.nc), (.slice kB.fb badE.final.length kB.fc)]) Tryd.underlying48 inf25 (by decide) (by kernel_rfl) rfl (fun br => ⟨.inr (by exact Sub.d (.d (.k (.k (.k (.k .z)))))), ?_⟩)⟩, ⟨_, rfl, rfl, l_alloc inf25 rfl (fun b9 => ⟨.inr (by exact Sub.d (.d (.k (.k (.k (.k .z)))))), ?_⟩)⟩, trivial⟩ (by kernel_rfl)
      · have hk142 := fun (w1 : World) (hI : Inv w [rowI (some ⟨br, 0, none⟩) 3 25 4 [(.int .i64 exO.vars), (.int .i64 exO.start), (.slice ko3.nb exO.next.length ko3.nc), (.slice ko3.fb exO.final.length ko3.fc), (.int .i64 othE.vars), (.int .i64 othE.start), (.slice kO.nb othE.next.length kO.nc), (.slice kO.fb othE.final.length kO.fc), (.int .i64 badE.vars), (.int .i64 badE.start), (.slice kB.nb badE.next.length kB.nc), (.slice kB.fb badE.final.length kB.fc)], dI 52 4 3 exO ko3, dI 52 4 3 othE kO, oI z8 25 (dC othE kO), dI 52 4 3 badE kB, oI z4 25 (dC badE kB)] w1) => bAll3 w1 1 exO ko3 (hI.at (k := ko3) (List.mem_of_getElem? (i := 1) rfl)) dO othE kO (hI.at (k := kO) (List.mem_of_getElem? (i := 2) rfl)) dT badE kB (hI.at (k := kB) (List.mem_of_getElem? (i := 4) rfl)) dB (some ⟨br, 0, none⟩) (hI.slOf (List.mem_of_getElem? (i := 0) rfl)) (fun _ _ => ok_ob 1 rfl) (M := noD) (e := 7) (by rw [all_ob]) (by rw [all_ob])
        refine RO.forkT [4, 8] (by kernel_rfl) rfl ⟨⟨_, rfl, rfl, l_call ent32 (CallT.of_pure hk142) rfl ?_⟩, ⟨_, rfl, rfl, l_alloc inf25 rfl (fun b9 => ⟨.inr (by exact Sub.d (.d (.d (.k (.k (.k (.k .z))))))), ?_⟩)⟩, trivial⟩ (by kernel_rfl)
        · clear hk142
          rintro vr O' ⟨N, rfl, ka3, rfl, rfl⟩
          refine ⟨.inr (by exact Sub.d (.d (.d (.k (.k (.k (.k .z))))))), ?_⟩
          refine RO.quietTT 5 rfl (by kernel_rfl) (q_move rfl) ?_
          refine RO.quietTT 6 rfl (by kernel_rfl) (q_extract (vs := _) rfl rfl) ?_
          refine RO.quietE 7 rfl (by kernel_rfl) (q_extract (vs := _) rfl rfl) ?_
          refine RO.forkT [8] (by kernel_rfl) rfl ⟨⟨_, rfl, rfl, l_alloc inf25 rfl (fun b9 => ⟨.inr (by exact Sub.d (.d (.d (.d (.k (.k (.k (.k .z)))))))), ?_⟩)⟩, trivial⟩ (by kernel_rfl)
          refine RO.forkT [9] (by kernel_rfl) rfl ⟨⟨_, rfl, rfl, l_store_box (v := (dV noD ka3)) (vs := (dC noD ka3)) 0 inf25 rfl rfl rfl rfl rfl rfl (by simp [putL]) ⟨.inl (by decide), ?_⟩⟩, trivial⟩ (by kernel_rfl)
          refine RO.quietE 10 rfl (by kernel_rfl) (q_assign rfl) ?_
          exact RO.fin (by kernel_rfl) ⟨b9, ko3, ka3, rfl, ⟨rfl, rfl, rfl, rfl, rfl, rfl, rfl, rfl, rfl, rfl, rfl, trivial⟩⟩ (by exact Sub.k (.k (.d (.k (.k (.k (.k (.k .z))))))))
        have hk142 := fun (w1 : World) (hI : Inv w [oI b9 25 [(.int .i64 0), (.int .i64 0), (.slice none 0 0), (.slice none 0 0)], rowI (some ⟨br, 0, none⟩) 3 25 4 [(.int .i64 exO.vars), (.int .i64 exO.start), (.slice ko3.nb exO.next.length ko3.nc), (.slice ko3.fb exO.final.length ko3.fc), (.int .i64 othE.vars), (.int .i64 othE.start), (.slice kO.nb othE.next.length kO.nc), (.slice kO.fb othE.final.length kO.fc), (.int .i64 badE.vars), (.int .i64 badE.start), (.slice kB.nb badE.next.length kB.nc), (.slice kB.fb badE.final.length kB.fc)], dI 52 4 3 exO ko3, dI 52 4 3 othE kO, oI z8 25 (dC othE kO), dI 52 4 3 badE kB, oI z4 25 (dC badE kB)] w1) => bAll3 w1 1 exO ko3 (hI.at (k := ko3) (List.mem_of_getElem? (i := 2) rfl)) dO othE kO (hI.at (k := kO) (List.mem_of_getElem? (i := 3) rfl)) dT badE kB (hI.at (k := kB) (List.mem_of_getElem? (i := 5) rfl)) dB (some ⟨br, 0, none⟩) (hI.slOf (List.mem_of_getElem? (i := 1) rfl)) (fun _ _ => ok_ob 1 rfl) (M := noD) (e := 7) (by rw [all_ob]) (by rw [all_ob])
        refine RO.forkT [4] (by kernel_rfl) rfl ⟨⟨_, rfl, rfl, l_call ent32 (CallT.of_pure hk142) rfl ?_⟩, trivial⟩ (by kernel_rfl)
        clear hk142
        rintro vr O' ⟨N, rfl, ka3, rfl, rfl⟩
        refine ⟨.inr (by exact Sub.d (.d (.d (.d (.k (.k (.k (.k .z)))))))), ?_⟩
        refine RO.quietTT 5 rfl (by kernel_rfl) (q_move rfl) ?_
        refine RO.quietTT 6 rfl (by kernel_rfl) (q_extract (vs := _) rfl rfl) ?_
        refine RO.quietE 7 rfl (by kernel_rfl) (q_extract (vs := _) rfl rfl) ?_
        refine RO.forkT [9] (by kernel_rfl) rfl ⟨⟨_, rfl, rfl, l_store_box (v := (dV noD ka3)) (vs := (dC noD ka3)) 1 inf25 rfl rfl rfl rfl rfl rfl (by simp [putL]) ⟨.inl (by decide), ?_⟩⟩, trivial⟩ (by kernel_rfl)
        refine RO.quietE 10 rfl (by kernel_rfl) (q_assign rfl) ?_
        exact RO.fin (by kernel_rfl) ⟨b9, ko3, ka3, rfl, ⟨rfl, rfl, rfl, rfl, rfl, rfl, rfl, rfl, rfl, rfl, rfl, trivial⟩⟩ (by exact Sub.pull [dI 52 4 3 noD ka3] _ (.k (.d (.k (.k (.k (.k (.k .z))))))))
      refine RO.forkT [3] (by kernel_rfl) rfl ⟨⟨_, rfl, rfl, l_buildSlice (m := 3) (parts := [(0, _), (1, _), (2, _)]) (cs := [(.int .i64 exO.vars), (.int .i64 exO.start), (.slice ko3.nb exO.next.length ko3.nc), (.slice ko3.fb exO.final.length ko3.fc), (.int .i64 othE.vars), (.int .i64 othE.start), (.slice kO.nb othE.next.length kO.nc), (.slice kO.fb othE.final.length kO.fc), (.int .i64 badE.vars), (.int .i64 badE.start), (.slice kB.nb badE.next.length kB.nc), (.slice kB.fb badE.final.length kB.fc)]) Tryd.underlying48 inf25 (by decide) (by kernel_rfl) rfl (fun br => ⟨.inr (by exact Sub.d (.d (.d (.k (.k (.k (.k .z))))))), ?_⟩)⟩, trivial⟩ (by kernel_rfl)
      have hk142 := fun (w1 : World) (hI : Inv w [rowI (some ⟨br, 0, none⟩) 3 25 4 [(.int .i64 exO.vars), (.int .i64 exO.start), (.slice ko3.nb exO.next.length ko3.nc), (.slice ko3.fb exO.final.length ko3.fc), (.int .i64 othE.vars), (.int .i64 othE.start), (.slice kO.nb othE.next.length kO.nc), (.slice kO.fb othE.final.length kO.fc), (.int .i64 badE.vars), (.int .i64 badE.start), (.slice kB.nb badE.next.length kB.nc), (.slice kB.fb badE.final.length kB.fc)], oI b9 25 [(.int .i64 0), (.int .i64 0), (.slice none 0 0), (.slice none 0 0)], dI 52 4 3 exO ko3, dI 52 4 3 othE kO, oI z8 25 (dC othE kO), dI 52 4 3 badE kB, oI z4 25 (dC badE kB)] w1) => bAll3 w1 1 exO ko3 (hI.at (k := ko3) (List.mem_of_getElem? (i := 2) rfl)) dO othE kO (hI.at (k := kO) (List.mem_of_getElem? (i := 3) rfl)) dT badE kB (hI.at (k := kB) (List.mem_of_getElem? (i := 5) rfl)) dB (some ⟨br, 0, none⟩) (hI.slOf (List.mem_of_getElem? (i := 0) rfl)) (fun _ _ => ok_ob 1 rfl) (M := noD) (e := 7) (by rw [all_ob]) (by rw [all_ob])
      refine RO.forkT [4] (by kernel_rfl) rfl ⟨⟨_, rfl, rfl, l_call ent32 (CallT.of_pure hk142) rfl ?_⟩, trivial⟩ (by kernel_rfl)
      clear hk142
      rintro vr O' ⟨N, rfl, ka3, rfl, rfl⟩
      refine ⟨.inr (by exact Sub.d (.d (.d (.d (.k (.k (.k (.k .z)))))))), ?_⟩
      refine RO.quietTT 5 rfl (by kernel_rfl) (q_move rfl) ?_
      refine RO.quietTT 6 rfl (by kernel_rfl) (q_extract (vs := _) rfl rfl) ?_
      refine RO.quietE 7 rfl (by kernel_rfl) (q_extract (vs := _) rfl rfl) ?_
      refine RO.forkT [9] (by kernel_rfl) rfl ⟨⟨_, rfl, rfl, l_store_box (v := (dV noD ka3)) (vs := (dC noD ka3)) 2 inf25 rfl rfl rfl rfl rfl rfl (by simp [putL]) ⟨.inl (by decide), ?_⟩⟩, trivial⟩ (by kernel_rfl)
      refine RO.quietE 10 rfl (by kernel_rfl) (q_assign rfl) ?_
      exact RO.fin (by kernel_rfl) ⟨b9, ko3, ka3, rfl, ⟨rfl, rfl, rfl, rfl, rfl, rfl, rfl, rfl, rfl, rfl, rfl, trivial⟩⟩ (by exact Sub.pull [dI 52 4 3 noD ka3, rowI (some ⟨br, 0, none⟩) 3 25 4 [(.int .i64 exO.vars), (.int .i64 exO.start), (.slice ko3.nb exO.next.length ko3.nc), (.slice ko3.fb exO.final.length ko3.fc), (.int .i64 othE.vars), (.int .i64 othE.start), (.slice kO.nb othE.next.length kO.nc), (.slice kO.fb othE.final.length kO.fc), (.int .i64 badE.vars), (.int .i64 badE.start), (.slice kB.nb badE.next.length kB.nc), (.slice kB.fb badE.final.length kB.fc)]] _ (.k (.d (.k (.k (.k (.k (.k .z))))))))
    have hk138 := fun (w1 : World) (hI : Inv w [oI b9 25 [(.int .i64 0), (.int .i64 0), (.slice none 0 0), (.slice none 0 0)], dI 52 4 3 othE kO, oI z8 25 (dC othE kO), dI 52 4 3 badE kB, oI z4 25 (dC badE kB)] w1) => oneK w1
    refine RO.forkT [0] (by kernel_rfl) rfl ⟨⟨_, rfl, rfl, l_call ent34 (CallT.of_pure hk138) rfl ?_⟩, trivial⟩ (by kernel_rfl)
    clear hk138
    rintro vr O' ⟨N, rfl, ko3, rfl, rfl⟩
    refine ⟨.inr (by exact Sub.d (.d (.k (.k (.k (.k .z)))))), ?_⟩
    refine RO.forkT [3] (by kernel_rfl) rfl ⟨⟨_, rfl, rfl, l_buildSlice (m := 3) (parts := [(0, _), (1, _), (2, _)]) (cs := [(.int .i64 exO.vars), (.int .i64 exO.start), (.slice ko3.nb exO.next.length ko3.nc), (.slice ko3.fb exO.final.length ko3.fc), (.int .i64 othE.vars), (.int .i64 othE.start), (.slice kO.nb othE.next.length kO.nc), (.slice kO.fb othE.final.length kO.fc), (.int .i64 badE.vars), (.int .i64 badE.start), (.slice kB.nb badE.next.length kB.nc), (.slice kB.fb badE.final.length kB.fc)]) Tryd.underlying48 inf25 (by decide) (by kernel_rfl) rfl (fun br => ⟨.inr (by exact Sub.d (.d (.d (.k (.k (.k (.k .z))))))), ?_⟩)⟩, trivial⟩ (by kernel_rfl)
    have hk142 := fun (w1 : World) (hI : Inv w [rowI (some ⟨br, 0, none⟩) 3 25 4 [(.int .i64 exO.vars), (.int .i64 exO.start), (.slice ko3.nb exO.next.length ko3.nc), (.slice ko3.fb exO.final.length ko3.fc), (.int .i64 othE.vars), (.int .i64 othE.start), (.slice kO.nb othE.next.length kO.nc), (.slice kO.fb othE.final.length kO.fc), (.int .i64 badE.vars), (.int .i64 badE.start), (.slice kB.nb badE.next.length kB.nc), (.slice kB.fb badE.final.length kB.fc)], dI 52 4 3 exO ko3, oI b9 25 [(.int .i64 0), (.int .i64 0), (.slice none 0 0), (.slice none 0 0)], dI 52 4 3 othE kO, oI z8 25 (dC othE kO), dI 52 4 3 badE kB, oI z4 25 (dC badE kB)] w1) => bAll3 w1 1 exO ko3 (hI.at (k := ko3) (List.mem_of_getElem? (i := 1) rfl)) dO othE kO (hI.at (k := kO) (List.mem_of_getElem? (i := 3) rfl)) dT badE kB (hI.at (k := kB) (List.mem_of_getElem? (i := 5) rfl)) dB (some ⟨br, 0, none⟩) (hI.slOf (List.mem_of_getElem? (i := 0) rfl)) (fun _ _ => ok_ob 1 rfl) (M := noD) (e := 7) (by rw [all_ob]) (by rw [all_ob])
    refine RO.forkT [4] (by kernel_rfl) rfl ⟨⟨_, rfl, rfl, l_call ent32 (CallT.of_pure hk142) rfl ?_⟩, trivial⟩ (by kernel_rfl)
    clear hk142
    rintro vr O' ⟨N, rfl, ka3, rfl, rfl⟩
    refine ⟨.inr (by exact Sub.d (.d (.d (.d (.k (.k (.k (.k .z)))))))), ?_⟩
    refine RO.quietTT 5 rfl (by kernel_rfl) (q_move rfl) ?_
    refine RO.quietTT 6 rfl (by kernel_rfl) (q_extract (vs := _) rfl rfl) ?_
    refine RO.quietE 7 rfl (by kernel_rfl) (q_extract (vs := _) rfl rfl) ?_
    refine RO.forkT [9] (by kernel_rfl) rfl ⟨⟨_, rfl, rfl, l_store_box (v := (dV noD ka3)) (vs := (dC noD ka3)) 3 inf25 rfl rfl rfl rfl rfl rfl (by simp [putL]) ⟨.inl (by decide), ?_⟩⟩, trivial⟩ (by kernel_rfl)
    refine RO.quietE 10 rfl (by kernel_rfl) (q_assign rfl) ?_
    exact RO.fin (by kernel_rfl) ⟨b9, ko3, ka3, rfl, ⟨rfl, rfl, rfl, rfl, rfl, rfl, rfl, rfl, rfl, rfl, rfl, trivial⟩⟩ (by exact Sub.pull [dI 52 4 3 noD ka3, rowI (some ⟨br, 0, none⟩) 3 25 4 [(.int .i64 exO.vars), (.int .i64 exO.start), (.slice ko3.nb exO.next.length ko3.nc), (.slice ko3.fb exO.final.length ko3.fc), (.int .i64 othE.vars), (.int .i64 othE.start), (.slice kO.nb othE.next.length kO.nc), (.slice kO.fb othE.final.length kO.fc), (.int .i64 badE.vars), (.int .i64 badE.start), (.slice kB.nb badE.next.length kB.nc), (.slice kB.fb badE.final.length kB.fc)], dI 52 4 3 exO ko3] _ (.k (.d (.k (.k (.k (.k (.k .z))))))))
  rintro ρ O ⟨b9, ko3, ka3, rfl, hH⟩
  obtain ⟨ρ0, rfl⟩ := hH.elim
  clear hH
  refine T.seq (T.region ?_)
  have hk146 := fun (w1 : World) (hI : Inv w [oI b9 25 (dC noD ka3), dI 52 4 3 noD ka3, dI 52 4 3 exO ko3, dI 52 4 3 othE kO, oI z8 25 (dC othE kO), dI 52 4 3 badE kB, oI z4 25 (dC badE kB)] w1) => bAll0 w1 0 none (Sl.nil _ none) (fun _ _ => allOk0 0) (M := othE) (e := 0) (by rw [all_no]) (by rw [all_no])
  refine TO.loud rfl (l_call ent32 (CallT.of_pure hk146) rfl ?_)
  clear hk146
  rintro vr O' ⟨N, rfl, ka0, rfl, rfl⟩
  refine TO.quiet (q_move rfl) (TO.quiet (q_extract (vs := _) rfl rfl) (TO.quiet (q_extract (vs := _) rfl rfl) ?_))
  refine TO.loud rfl (l_alloc inf25 rfl (fun z16 => ?_))
  refine TO.loud rfl (l_store_box (v := (dV othE ka0)) (vs := (dC othE ka0)) 0 inf25 rfl rfl rfl rfl rfl rfl (by simp [putL]) ?_)
  refine TO.quiet (q_assign rfl) ?_
  refine TO.sub (O' := [oI z16 25 (dC othE ka0), dI 52 4 3 othE ka0, dI 52 4 3 othE kO, oI z8 25 (dC othE kO), dI 52 4 3 badE kB, oI z4 25 (dC badE kB)]) (by exact Sub.k (.k (.d (.d (.d (.k (.k (.k (.k .z))))))))) ?_
  refine TO.nil (T.seq (T.region ?_))
  have hk150 := fun (w1 : World) (hI : Inv w [oI z16 25 (dC othE ka0), dI 52 4 3 othE ka0, dI 52 4 3 othE kO, oI z8 25 (dC othE kO), dI 52 4 3 badE kB, oI z4 25 (dC badE kB)] w1) => (show PureT _ _ _ _ _ from by
      have h9 := cycK w1 7 (by decide) (by decide)
      rw [eC7] at h9
      exact h9)
  refine TO.loud rfl (l_call ent35 (CallT.of_pure hk150) rfl ?_)
  clear hk150
  rintro vr O' ⟨N, rfl, kd1, rfl, rfl⟩
  have hk151 := fun (w1 : World) (hI : Inv w [dI 52 4 3 C7 kd1, oI z16 25 (dC othE ka0), dI 52 4 3 othE ka0, dI 52 4 3 othE kO, oI z8 25 (dC othE kO), dI 52 4 3 badE kB, oI z4 25 (dC badE kB)] w1) => (show PureT _ _ _ _ _ from by
      have h9 := cycK w1 9 (by decide) (by decide)
      rw [eC9] at h9
      exact h9)
  refine TO.loud rfl (l_call ent35 (CallT.of_pure hk151) rfl ?_)
  clear hk151
  rintro vr O' ⟨N, rfl, kd2, rfl, rfl⟩
  have hk152 := fun (w1 : World) (hI : Inv w [dI 52 4 3 C9 kd2, dI 52 4 3 C7 kd1, oI z16 25 (dC othE ka0), dI 52 4 3 othE ka0, dI 52 4 3 othE kO, oI z8 25 (dC othE kO), dI 52 4 3 badE kB, oI z4 25 (dC badE kB)] w1) => (show PureT _ _ _ _ _ from by
      have h9 := inclC w1 C7 C9 kd1 kd2 (hI.at (k := kd1) (List.mem_of_getElem? (i := 1) rfl)) (hI.at (k := kd2) (List.mem_of_getElem? (i := 0) rfl)) d7.1 d7.2.1 d7.2.2 d9.1 d9.2.1 d9.2.2 (fun _ => h64)
      rw [w79] at h9
      exact h9)
  refine TO.loud rfl (l_call ent26 (CallT.of_pure hk152) rfl ?_)
  clear hk152
  rintro vr O' ⟨N, rfl, res, wb, wc, hin, rfl, rfl⟩
  obtain rfl := hin7 hin
  refine TO.quiet (q_move rfl) (TO.quiet (q_extract (vs := _) rfl rfl) (TO.quiet (q_extract (vs := _) rfl rfl) (TO.quiet (q_extract (vs := _) rfl rfl) ?_)))
  refine TO.quiet (q_assign rfl) (TO.quiet (q_assign rfl) (TO.quiet (q_assign rfl) ?_))
  refine TO.sub (O' := [oI z16 25 (dC othE ka0), dI 52 4 3 othE ka0, dI 52 4 3 othE kO, oI z8 25 (dC othE kO), dI 52 4 3 badE kB, oI z4 25 (dC badE kB)]) (by exact Sub.d (.d (.d (.k (.k (.k (.k (.k (.k .z))))))))) ?_
  refine TO.nil (T.seq (T.region ?_))
  have hk157 := fun (w1 : World) (hI : Inv w [oI z16 25 (dC othE ka0), dI 52 4 3 othE ka0, dI 52 4 3 othE kO, oI z8 25 (dC othE kO), dI 52 4 3 badE kB, oI z4 25 (dC badE kB)] w1) => (show PureT _ _ _ _ _ from by
      have h9 := cycK w1 64 (by decide) (by decide)
      rw [eC64] at h9
      exact h9)
  refine TO.loud rfl (l_call ent35 (CallT.of_pure hk157) rfl ?_)
  clear hk157
  rintro vr O' ⟨N, rfl, kd3, rfl, rfl⟩
  have hk158 := fun (w1 : World) (hI : Inv w [dI 52 4 3 C64 kd3, oI z16 25 (dC othE ka0), dI 52 4 3 othE ka0, dI 52 4 3 othE kO, oI z8 25 (dC othE kO), dI 52 4 3 badE kB, oI z4 25 (dC badE kB)] w1) => (show PureT _ _ _ _ _ from by
      have h9 := cycK w1 65 (by decide) (by decide)
      rw [eC65] at h9
      exact h9)
  refine TO.loud rfl (l_call ent35 (CallT.of_pure hk158) rfl ?_)
  clear hk158
  rintro vr O' ⟨N, rfl, kd4, rfl, rfl⟩
  have hk159 := fun (w1 : World) (hI : Inv w [dI 52 4 3 C65 kd4, dI 52 4 3 C64 kd3, oI z16 25 (dC othE ka0), dI 52 4 3 othE ka0, dI 52 4 3 othE kO, oI z8 25 (dC othE kO), dI 52 4 3 badE kB, oI z4 25 (dC badE kB)] w1) => eqlBig w1 C64 C65 kd3 kd4 (hI.at (k := kd3) (List.mem_of_getElem? (i := 1) rfl)) (hI.at (k := kd4) (List.mem_of_getElem? (i := 0) rfl)) v64 v65 hv6465 (hbig xorB)
  refine TO.loud rfl (l_call ent27 (CallT.of_pure hk159) rfl ?_)
  clear hk159
  rintro vr O' ⟨N, rfl, rfl, rfl⟩
  refine TO.quiet (q_move rfl) (TO.quiet (q_extract (vs := _) rfl rfl) (TO.quiet (q_extract (vs := _) rfl rfl) (TO.quiet (q_assign rfl) ?_)))
  refine TO.quiet (q_assign rfl) ?_
  refine TO.sub (O' := [oI z16 25 (dC othE ka0), dI 52 4 3 othE ka0, dI 52 4 3 othE kO, oI z8 25 (dC othE kO), dI 52 4 3 badE kB, oI z4 25 (dC badE kB)]) (by exact Sub.d (.d (.k (.k (.k (.k (.k (.k .z)))))))) ?_
  refine TO.nil (T.seq (T.region ?_))
  refine TO.quiet (q_load_boxAgg 3 Tryd.underlying25 rfl inf25 rfl rfl rfl) ?_
  have hk164 := fun (w1 : World) (hI : Inv w [oI z16 25 (dC othE ka0), dI 52 4 3 othE ka0, dI 52 4 3 othE kO, oI z8 25 (dC othE kO), dI 52 4 3 badE kB, oI z4 25 (dC badE kB)] w1) => (show PureT _ _ _ _ _ from by
      have h9 := notC w1 othE kO (hI.at (k := kO) (List.mem_of_getElem? (i := 2) rfl)) dT.1 dT.2.1 dT.2.2 (fun _ => by decide)
      rw [show checkD othE = 0 by decide, hmT] at h9
      exact h9)
  refine TO.loud rfl (l_call ent14 (CallT.of_pure hk164) rfl ?_)
  clear hk164
  rintro vr O' ⟨N, rfl, kn2, rfl, rfl⟩
  refine TO.quiet (q_move rfl) (TO.quiet (q_extract (vs := _) rfl rfl) (TO.quiet (q_extract (vs := _) rfl rfl) ?_))
  refine TO.loud rfl (l_alloc inf25 rfl (fun z17 => ?_))
  refine TO.loud rfl (l_store_box (v := (dV mT kn2)) (vs := (dC mT kn2)) 0 inf25 rfl rfl rfl rfl rfl rfl (by simp [putL]) ?_)
  refine TO.quiet (q_assign rfl) ?_
  refine TO.sub (O' := [oI z17 25 (dC mT kn2), dI 52 4 3 mT kn2, oI z16 25 (dC othE ka0), dI 52 4 3 othE ka0, dI 52 4 3 othE kO, oI z8 25 (dC othE kO), dI 52 4 3 badE kB, oI z4 25 (dC badE kB)]) (by exact Sub.rf) ?_
  refine TO.nil (T.seq (T.region ?_))
  refine TO.quiet (q_move rfl) (TO.quiet (QT.toB (q_eql rfl rfl) (decide_eq_true rfl)) (TO.quiet (q_move rfl) ?_))
  refine TO.guarded rfl rfl rfl (LT.of_quiet rfl rfl (q_move rfl) ?_)
  refine TO.guarded rfl rfl rfl (LT.of_quiet rfl rfl (QT.toB (q_eql rfl rfl) (decide_eq_true rfl)) ?_)
  refine TO.quiet (q_pick1 rfl rfl) (TO.quiet (q_move rfl) ?_)
  refine TO.guarded rfl rfl rfl (LT.of_quiet rfl rfl (q_move rfl) ?_)
  refine TO.guarded rfl rfl rfl (LT.of_quiet rfl rfl (QT.toB (q_eql rfl rfl) (decide_eq_true rfl)) ?_)
  refine TO.quiet (q_pick1 rfl rfl) (TO.quiet (q_move rfl) ?_)
  refine TO.guarded rfl rfl rfl (LT.of_quiet rfl rfl (q_move rfl) ?_)
  refine TO.guarded rfl rfl rfl (LT.of_quiet rfl rfl (QT.toB (q_eql rfl rfl) (decide_eq_true rfl)) ?_)
  refine TO.quiet (q_pick1 rfl rfl) (TO.quiet (q_move rfl) ?_)
  refine TO.guarded rfl rfl rfl (LT.of_quiet rfl rfl (q_move rfl) ?_)
  refine TO.guarded rfl rfl rfl (LT.of_quiet rfl rfl (QT.toB (q_eql rfl rfl) (decide_eq_true rfl)) ?_)
  refine TO.quiet (q_pick1 rfl rfl) (TO.quiet (q_move rfl) ?_)
  refine TO.guarded rfl rfl rfl (LT.of_quiet rfl rfl (q_move rfl) ?_)
  refine TO.guarded rfl rfl rfl (LT.of_quiet rfl rfl (QT.toB (q_eql rfl rfl) (decide_eq_true rfl)) ?_)
  refine TO.quiet (q_pick1 rfl rfl) (TO.quiet (q_move rfl) ?_)
  refine TO.guarded rfl rfl rfl (LT.of_quiet rfl rfl (q_load_boxAgg 2 Tryd.underlying25 rfl inf25 rfl rfl rfl) ?_)
  refine TO.guarded rfl rfl rfl (LT.of_quiet rfl rfl (q_load_boxAgg 5 Tryd.underlying25 rfl inf25 rfl rfl rfl) ?_)
  have hk192 := fun (w1 : World) (hI : Inv w [oI z17 25 (dC mT kn2), dI 52 4 3 mT kn2, oI z16 25 (dC othE ka0), dI 52 4 3 othE ka0, dI 52 4 3 othE kO, oI z8 25 (dC othE kO), dI 52 4 3 badE kB, oI z4 25 (dC badE kB)] w1) => equalK w1 othE ka0 kO (hI.at (k := ka0) (List.mem_of_getElem? (i := 3) rfl)) (hI.at (k := kO) (List.mem_of_getElem? (i := 4) rfl)) dT.1 dT.2.1 dT.2.2
  refine TO.guarded rfl rfl rfl (l_call ent15 (CallT.of_pure hk192) rfl ?_)
  clear hk192
  rintro vr O' ⟨N, rfl, rfl, rfl⟩
  refine TO.quiet (q_pick1 rfl rfl) (TO.quiet (q_move rfl) ?_)
  refine TO.guarded rfl rfl rfl (LT.of_quiet rfl rfl (q_move rfl) ?_)
  refine TO.guarded rfl rfl rfl (LT.of_quiet rfl rfl (q_not rfl) ?_)
  refine TO.quiet (q_pick1 rfl rfl) (TO.quiet (q_move rfl) ?_)
  refine TO.guarded rfl rfl rfl (LT.of_quiet rfl rfl (q_move rfl) ?_)
  refine TO.guarded rfl rfl rfl (LT.of_quiet rfl rfl (QT.toB (q_eql rfl rfl) (decide_eq_true rfl)) ?_)
  refine TO.quiet (q_pick1 rfl rfl) (TO.quiet (q_move rfl) ?_)
  refine TO.guarded rfl rfl rfl (LT.of_quiet rfl rfl (q_move rfl) ?_)
  refine TO.guarded rfl rfl rfl (LT.of_quiet rfl rfl (q_len Tryd.underlying35 rfl) ?_)
  refine TO.guarded rfl rfl rfl (LT.of_quiet rfl rfl (QT.toB (q_eql rfl rfl) (decide_eq_true rfl)) ?_)
  refine TO.quiet (q_pick1 rfl rfl) (TO.quiet (q_move rfl) ?_)
  refine TO.guarded rfl rfl rfl (LT.of_quiet rfl rfl (q_move rfl) ?_)
  refine TO.guarded rfl rfl rfl (LT.of_quiet rfl rfl (QT.toB (q_eql rfl rfl) (decide_eq_true rfl)) ?_)
  refine TO.quiet (q_pick1 rfl rfl) (TO.quiet (q_move rfl) ?_)
  refine TO.guarded rfl rfl rfl (LT.of_quiet rfl rfl (q_move rfl) ?_)
  refine TO.guarded rfl rfl rfl (LT.of_quiet rfl rfl (QT.toB (q_eql rfl rfl) (decide_eq_true rfl)) ?_)
  refine TO.quiet (q_pick1 rfl rfl) (TO.quiet (q_move rfl) ?_)
  refine TO.guarded rfl rfl rfl (LT.of_quiet rfl rfl (q_fieldAddr Tryd.underlying25 rfl inf23 rfl rfl) ?_)
  refine TO.guarded rfl rfl rfl (LT.of_quiet rfl rfl (q_load_box 0 Tryd.underlying23 rfl rfl rfl rfl) ?_)
  refine TO.guarded rfl rfl rfl (l_build1 (v := .bool false) Tryd.underlying23 inf4 rfl rfl rfl (fun z18 => ?_))
  have hk219 := fun (w1 : World) (hI : Inv w [rowI (some ⟨z18, 0, none⟩) 1 4 1 [.bool false], oI z17 25 (dC mT kn2), dI 52 4 3 mT kn2, oI z16 25 (dC othE ka0), dI 52 4 3 othE ka0, dI 52 4 3 othE kO, oI z8 25 (dC othE kO), dI 52 4 3 badE kB, oI z4 25 (dC badE kB)] w1) => (show PureT _ _ _ _ _ from by
      have h9 := equalBools w1 kn2.fb (some ⟨z18, 0, none⟩) kn2.fc 1 mT.final [false] ((hI.at (k := kn2) (List.mem_of_getElem? (i := 2) rfl))).final (hI.slOf (cs := bools [false]) (List.mem_of_getElem? (i := 0) rfl)) (by rw [fT]; decide)
      rw [decide_eq_true fT] at h9
      exact h9)
  refine TO.guarded rfl rfl rfl (l_call ent36 (CallT.of_pure hk219) rfl ?_)
  clear hk219
  rintro vr O' ⟨N, rfl, rfl, rfl⟩
  refine TO.quiet (q_pick1 rfl rfl) (TO.quiet (q_move rfl) ?_)
  refine TO.guarded rfl rfl rfl (LT.of_quiet rfl rfl (q_load_boxAgg 1 Tryd.underlying25 rfl inf25 rfl rfl rfl) ?_)
  have hk223 := fun (w1 : World) (hI : Inv w [rowI (some ⟨z18, 0, none⟩) 1 4 1 [.bool false], oI z17 25 (dC mT kn2), dI 52 4 3 mT kn2, oI z16 25 (dC othE ka0), dI 52 4 3 othE ka0, dI 52 4 3 othE kO, oI z8 25 (dC othE kO), dI 52 4 3 badE kB, oI z4 25 (dC badE kB)] w1) => (show PureT _ _ _ _ _ from by
      have h9 := refCheck w1 mT kn2.nb kn2.fb kn2.nc kn2.fc (vals kn2.qs) (hI.at (k := kn2) (List.mem_of_getElem? (i := 2) rfl)) dM.1 dM.2.1 dM.2.2
      rw [checkD_zero.2 vT] at h9
      exact h9)
  refine TO.guarded rfl rfl rfl (l_call ent37 (CallT.of_pure hk223) rfl ?_)
  clear hk223
  rintro vr O' ⟨N, rfl, rfl, rfl⟩
  refine TO.guarded rfl rfl rfl (LT.of_quiet rfl rfl (QT.toB (q_eql rfl rfl) (decide_eq_true rfl)) ?_)
  refine TO.quiet (q_pick1 rfl rfl) (TO.quiet (q_assign rfl) ?_)
  refine TO.nil (T.ret (Res.drop ?_))
  refine Res.one (.bool true) Tryd.results8 rfl ?_
  exact ⟨[], Sub.z, rfl, rfl⟩
end Go.Proofs.YtdaapdamcekkgaaDoor


/- Contracts of functions of the program (Y2): what each call answers and that it leaves memory as it was. Conditions: those each theorem names. -/
import Derived.Test.YtnikhiohindggaaDoorCoreK
import Derived.Test.YtnikhiohindggaaDoorYs
import Derived.Test.YtnikhiohindggaaDoorEnd
import Derived.Test.YtnikhiohindggaaDoorY1
set_option linter.unusedSectionVars false
set_option linter.unusedSimpArgs false
set_option linter.unusedVariables false
set_option linter.unnecessarySimpa false
set_option maxHeartbeats 8000000
set_option maxRecDepth 20000
namespace Go.Proofs.YtnikhiohindggaaDoor
open Go.Lx Go.RowKit _root_.Go.Proofs.Tryd
theorem exDif (w : World) [Tab Tryd.prog w] [Tab Tryd.prog w] (k : DK) (h : AtP w zerosP k) (q : Par) (k2 : DK) (h2 : AtP w q k2) (hB : ParC q) (h7 : diE zerosP q = 7) :
    PureT Tryd.prog 29 [pV zerosP k, pV q k2] w fun v N => ∃ (l : La) (kl : LK), v = .tuple #[lV l kl, .bool false, .int .i64 7] ∧ N = [lI 5 l kl] :=
  CallT.mono (parDif w zerosP k h q k2 h2 zeros_v.c hB (fun h0 => by rw [h7] at h0; cases h0)) fun v N ⟨l, kl, b, e, hv, hN, hd⟩ => by
    obtain ⟨rfl, rfl⟩ := ex_dif hd h7
    exact ⟨l, kl, hv, hN⟩
theorem exWit (w : World) [Tab Tryd.prog w] [Tab Tryd.prog w] (k : DK) (h : AtP w zerosP k) :
    PureT Tryd.prog 30 [pV zerosP k] w fun v N => ∃ (l : La) (kl : LK), v = .tuple #[lV l kl, .int .i64 0] ∧ N = [lI 5 l kl] ∧ acB zerosP l = true ∧ LaB l :=
  CallT.mono (parWit w zerosP k h zeros_v.c) fun v N ⟨l, kl, e, hv, hN, hd⟩ => by
    obtain ⟨rfl, h1, h2, h3⟩ := ex_wit hd
    exact ⟨l, kl, hv, hN, decide_eq_true ⟨h1, h2⟩, h3⟩
theorem ex_ac2 : acB zerosP l2 = false := decide_eq_false fun h => by rw [xl2] at h; exact absurd h.1 (by decide)
theorem l2_B : LaB l2 := ⟨by decide, by decide, by decide, by decide⟩
theorem nl_B : LaB nilLa := ⟨by decide, by decide, by decide, by decide⟩
theorem nl_at (w : World) [Tab Tryd.prog w] : AtL w nilLa l00 := ⟨Sl.nil _ _, Sl.nil _ _, Nat.le_refl _, Nat.le_refl _⟩
theorem examplesW (w : World) [Tab Tryd.prog w] :
    PureT Tryd.prog 9 [] w fun v N => v = .bool true ∧ N = [] := by
  refine CallT.enter func9 rfl ntmps9 rfl ?_
  obtain ⟨R, hR⟩ : ∃ m, rdV xpR = m := ⟨_, rfl⟩
  have hRp : R.prio = [1, 0, 0, 1] := hR ▸ xr_rd
  refine T.s (T.rg ?_)
  refine TO.qa rfl ?_
  refine TO.nl (T.s (T.s (T.rg ?_)))
  have hk22 := fun (w1 : World) (hI : Inv w [] w1) => (haveI := tbz hI; awakeC w1)
  refine TO.l rfl (l_call ent12 (CallT.op hk22) rfl ?_)
  clear hk22
  rintro vr O' ⟨N, rfl, rfl, rfl⟩
  refine TO.q (q_not rfl) (TO.qm rfl (TO.q (q_pick0 rfl rfl) ?_))
  refine TO.nl ?_
  refine T.cond0 rfl ?_
  refine T.skip (T.s (T.s (T.rg ?_)))
  refine TO.q (q_build (cs := [.int .i64 (-1), (.int .i64 0), (.slice none 0 0), (.slice none 0 0)]) plan25 inf25 (by kernel_rfl)) (TO.q (q_build (cs := [.int .i64 (-1), (.int .i64 0), (.slice none 0 0), (.slice none 0 0), .int .i64 7]) plan55 inf55 (by kernel_rfl)) (TO.q (q_build (cs := [.int .i64 7, (.int .i64 0), (.slice none 0 0), (.slice none 0 0)]) plan25 inf25 (by kernel_rfl)) (TO.q (q_build (cs := [.int .i64 7, (.int .i64 0), (.slice none 0 0), (.slice none 0 0), .int .i64 7]) plan55 inf55 (by kernel_rfl)) ?_)))
  refine TO.q (q_build plan25 inf25 rfl) (TO.q (q_build (cs := [(.int .i64 0), (.int .i64 0), (.slice none 0 0), (.slice none 0 0), .int .i64 3]) plan55 inf55 (by kernel_rfl)) ?_)
  refine TO.l rfl (l_makeSlice (m := 4097) underlying22 inf23 rfl rfl (by decide) (by decide) (fun z1 => ?_))
  refine TO.q (q_build (cs := [(.int .i64 0), (.int .i64 0), (.slice (some ⟨z1, 0, none⟩) 4097 4097), (.slice none 0 0)]) plan25 inf25 (by kernel_rfl)) (TO.q (q_build (cs := [(.int .i64 0), (.int .i64 0), (.slice (some ⟨z1, 0, none⟩) 4097 4097), (.slice none 0 0), .int .i64 10]) plan55 inf55 (by kernel_rfl)) ?_)
  refine TO.l rfl (l_build1 (v := .int .i64 0) underlying23 inf3 rfl rfl rfl (fun z2 => ?_))
  refine TO.l rfl (l_build1 (v := (.slice (some ⟨z2, 0, none⟩) 1 1)) underlying22 inf23 rfl rfl rfl (fun z3 => ?_))
  refine TO.q (q_build (cs := [(.int .i64 0), .int .i64 1, (.slice (some ⟨z3, 0, none⟩) 1 1), (.slice none 0 0)]) plan25 inf25 (by kernel_rfl)) (TO.q (q_build (cs := [(.int .i64 0), .int .i64 1, (.slice (some ⟨z3, 0, none⟩) 1 1), (.slice none 0 0), .int .i64 2]) plan55 inf55 (by kernel_rfl)) ?_)
  refine TO.l rfl (l_build1 (v := .int .i64 0) underlying23 inf3 rfl rfl rfl (fun z4 => ?_))
  refine TO.l rfl (l_build1 (v := (.slice (some ⟨z4, 0, none⟩) 1 1)) underlying22 inf23 rfl rfl rfl (fun z5 => ?_))
  refine TO.l rfl (l_build1 (v := .int .i64 99) underlying23 inf3 rfl rfl rfl (fun z6 => ?_))
  refine TO.q (q_build (cs := [(.int .i64 0), .int .i64 1, (.slice (some ⟨z5, 0, none⟩) 1 1), (.slice (some ⟨z6, 0, none⟩) 1 1)]) plan25 inf25 (by kernel_rfl)) (TO.q (q_build (cs := [(.int .i64 0), .int .i64 1, (.slice (some ⟨z5, 0, none⟩) 1 1), (.slice (some ⟨z6, 0, none⟩) 1 1), .int .i64 8]) plan55 inf55 (by kernel_rfl)) ?_)
  refine TO.l rfl (l_build1 (v := .int .i64 0) underlying23 inf3 rfl rfl rfl (fun z7 => ?_))
  refine TO.l rfl (l_build1 (v := (.slice (some ⟨z7, 0, none⟩) 1 1)) underlying22 inf23 rfl rfl rfl (fun z8 => ?_))
  refine TO.l rfl (l_build1 (v := .int .i64 99) underlying23 inf3 rfl rfl rfl (fun z9 => ?_))
  refine TO.q (q_build (cs := [(.int .i64 0), .int .i64 (-1), (.slice (some ⟨z8, 0, none⟩) 1 1), (.slice (some ⟨z9, 0, none⟩) 1 1)]) plan25 inf25 (by kernel_rfl)) (TO.q (q_build (cs := [(.int .i64 0), .int .i64 (-1), (.slice (some ⟨z8, 0, none⟩) 1 1), (.slice (some ⟨z9, 0, none⟩) 1 1), .int .i64 8]) plan55 inf55 (by kernel_rfl)) ?_)
  refine TO.l rfl (l_build1 (v := .int .i64 5) underlying23 inf3 rfl rfl rfl (fun z10 => ?_))
  refine TO.l rfl (l_build1 (v := (.slice (some ⟨z10, 0, none⟩) 1 1)) underlying22 inf23 rfl rfl rfl (fun z11 => ?_))
  refine TO.l rfl (l_build1 (v := .int .i64 99) underlying23 inf3 rfl rfl rfl (fun z12 => ?_))
  refine TO.q (q_build (cs := [.int .i64 1, (.int .i64 0), (.slice (some ⟨z11, 0, none⟩) 1 1), (.slice (some ⟨z12, 0, none⟩) 1 1)]) plan25 inf25 (by kernel_rfl)) (TO.q (q_build (cs := [.int .i64 1, (.int .i64 0), (.slice (some ⟨z11, 0, none⟩) 1 1), (.slice (some ⟨z12, 0, none⟩) 1 1), .int .i64 2]) plan55 inf55 (by kernel_rfl)) ?_)
  refine TO.l rfl (l_build1 (v := .int .i64 1) underlying23 inf3 rfl rfl rfl (fun z13 => ?_))
  refine TO.l rfl (l_build1 (v := (.slice (some ⟨z13, 0, none⟩) 1 1)) underlying22 inf23 rfl rfl rfl (fun z14 => ?_))
  refine TO.l rfl (l_build1 (v := .int .i64 99) underlying23 inf3 rfl rfl rfl (fun z15 => ?_))
  refine TO.q (q_build (cs := [(.int .i64 0), (.int .i64 0), (.slice (some ⟨z14, 0, none⟩) 1 1), (.slice (some ⟨z15, 0, none⟩) 1 1)]) plan25 inf25 (by kernel_rfl)) (TO.q (q_build (cs := [(.int .i64 0), (.int .i64 0), (.slice (some ⟨z14, 0, none⟩) 1 1), (.slice (some ⟨z15, 0, none⟩) 1 1), .int .i64 8]) plan55 inf55 (by kernel_rfl)) ?_)
  refine TO.l rfl (l_build1 (v := .int .i64 0) underlying23 inf3 rfl rfl rfl (fun z16 => ?_))
  refine TO.l rfl (l_build1 (v := (.slice (some ⟨z16, 0, none⟩) 1 1)) underlying22 inf23 rfl rfl rfl (fun z17 => ?_))
  refine TO.l rfl (l_build1 (v := .int .i64 17) underlying23 inf3 rfl rfl rfl (fun z18 => ?_))
  refine TO.q (q_build (cs := [(.int .i64 0), (.int .i64 0), (.slice (some ⟨z17, 0, none⟩) 1 1), (.slice (some ⟨z18, 0, none⟩) 1 1)]) plan25 inf25 (by kernel_rfl)) (TO.q (q_build (cs := [(.int .i64 0), (.int .i64 0), (.slice (some ⟨z17, 0, none⟩) 1 1), (.slice (some ⟨z18, 0, none⟩) 1 1), .int .i64 1]) plan55 inf55 (by kernel_rfl)) ?_)
  refine TO.l rfl (l_build1 (v := .int .i64 0) underlying23 inf3 rfl rfl rfl (fun z19 => ?_))
  refine TO.l rfl (l_build1 (v := (.slice (some ⟨z19, 0, none⟩) 1 1)) underlying22 inf23 rfl rfl rfl (fun z20 => ?_))
  refine TO.l rfl (l_build1 (v := .int .i64 (-1)) underlying23 inf3 rfl rfl rfl (fun z21 => ?_))
  refine TO.q (q_build (cs := [(.int .i64 0), (.int .i64 0), (.slice (some ⟨z20, 0, none⟩) 1 1), (.slice (some ⟨z21, 0, none⟩) 1 1)]) plan25 inf25 (by kernel_rfl)) (TO.q (q_build (cs := [(.int .i64 0), (.int .i64 0), (.slice (some ⟨z20, 0, none⟩) 1 1), (.slice (some ⟨z21, 0, none⟩) 1 1), .int .i64 1]) plan55 inf55 (by kernel_rfl)) ?_)
  refine TO.l rfl (l_build1 (v := .int .i64 0) underlying23 inf3 rfl rfl rfl (fun z22 => ?_))
  refine TO.l rfl (l_build1 (v := (.slice (some ⟨z22, 0, none⟩) 1 1)) underlying22 inf23 rfl rfl rfl (fun z23 => ?_))
  refine TO.l rfl (l_build1 (v := .int .i64 16) underlying23 inf3 rfl rfl rfl (fun z24 => ?_))
  refine TO.q (q_build (cs := [(.int .i64 0), (.int .i64 0), (.slice (some ⟨z23, 0, none⟩) 1 1), (.slice (some ⟨z24, 0, none⟩) 1 1)]) plan25 inf25 (by kernel_rfl)) (TO.q (q_build (cs := [(.int .i64 0), (.int .i64 0), (.slice (some ⟨z23, 0, none⟩) 1 1), (.slice (some ⟨z24, 0, none⟩) 1 1), .int .i64 0]) plan55 inf55 (by kernel_rfl)) ?_)
  refine TO.l rfl (l_buildSlice (m := 12) (parts := [(0, _), (1, _), (2, _), (3, _), (4, _), (5, _), (6, _), (7, _), (8, _), (9, _), (10, _), (11, _)]) (cs := [.int .i64 (-1), (.int .i64 0), (.slice none 0 0), (.slice none 0 0), .int .i64 7, .int .i64 7, (.int .i64 0), (.slice none 0 0), (.slice none 0 0), .int .i64 7, (.int .i64 0), (.int .i64 0), (.slice none 0 0), (.slice none 0 0), .int .i64 3, (.int .i64 0), (.int .i64 0), (.slice (some ⟨z1, 0, none⟩) 4097 4097), (.slice none 0 0), .int .i64 10, (.int .i64 0), .int .i64 1, (.slice (some ⟨z3, 0, none⟩) 1 1), (.slice none 0 0), .int .i64 2, (.int .i64 0), .int .i64 1, (.slice (some ⟨z5, 0, none⟩) 1 1), (.slice (some ⟨z6, 0, none⟩) 1 1), .int .i64 8, (.int .i64 0), .int .i64 (-1), (.slice (some ⟨z8, 0, none⟩) 1 1), (.slice (some ⟨z9, 0, none⟩) 1 1), .int .i64 8, .int .i64 1, (.int .i64 0), (.slice (some ⟨z11, 0, none⟩) 1 1), (.slice (some ⟨z12, 0, none⟩) 1 1), .int .i64 2, (.int .i64 0), (.int .i64 0), (.slice (some ⟨z14, 0, none⟩) 1 1), (.slice (some ⟨z15, 0, none⟩) 1 1), .int .i64 8, (.int .i64 0), (.int .i64 0), (.slice (some ⟨z17, 0, none⟩) 1 1), (.slice (some ⟨z18, 0, none⟩) 1 1), .int .i64 1, (.int .i64 0), (.int .i64 0), (.slice (some ⟨z20, 0, none⟩) 1 1), (.slice (some ⟨z21, 0, none⟩) 1 1), .int .i64 1, (.int .i64 0), (.int .i64 0), (.slice (some ⟨z23, 0, none⟩) 1 1), (.slice (some ⟨z24, 0, none⟩) 1 1), .int .i64 0]) underlying56 inf55 (by decide) (by kernel_rfl) rfl (fun z25 => ?_))
  refine TO.q (QT.cast (q_len underlying56 rfl) (v' := .int .i64 12) rfl) (TO.qm rfl ?_)
  refine TO.nl ?_
  
  refine T.reset [rowI (some ⟨z25, 0, none⟩) 12 55 5 [.int .i64 (-1), (.int .i64 0), (.slice none 0 0), (.slice none 0 0), .int .i64 7, .int .i64 7, (.int .i64 0), (.slice none 0 0), (.slice none 0 0), .int .i64 7, (.int .i64 0), (.int .i64 0), (.slice none 0 0), (.slice none 0 0), .int .i64 3, (.int .i64 0), (.int .i64 0), (.slice (some ⟨z1, 0, none⟩) 4097 4097), (.slice none 0 0), .int .i64 10, (.int .i64 0), .int .i64 1, (.slice (some ⟨z3, 0, none⟩) 1 1), (.slice none 0 0), .int .i64 2, (.int .i64 0), .int .i64 1, (.slice (some ⟨z5, 0, none⟩) 1 1), (.slice (some ⟨z6, 0, none⟩) 1 1), .int .i64 8, (.int .i64 0), .int .i64 (-1), (.slice (some ⟨z8, 0, none⟩) 1 1), (.slice (some ⟨z9, 0, none⟩) 1 1), .int .i64 8, .int .i64 1, (.int .i64 0), (.slice (some ⟨z11, 0, none⟩) 1 1), (.slice (some ⟨z12, 0, none⟩) 1 1), .int .i64 2, (.int .i64 0), (.int .i64 0), (.slice (some ⟨z14, 0, none⟩) 1 1), (.slice (some ⟨z15, 0, none⟩) 1 1), .int .i64 8, (.int .i64 0), (.int .i64 0), (.slice (some ⟨z17, 0, none⟩) 1 1), (.slice (some ⟨z18, 0, none⟩) 1 1), .int .i64 1, (.int .i64 0), (.int .i64 0), (.slice (some ⟨z20, 0, none⟩) 1 1), (.slice (some ⟨z21, 0, none⟩) 1 1), .int .i64 1, (.int .i64 0), (.int .i64 0), (.slice (some ⟨z23, 0, none⟩) 1 1), (.slice (some ⟨z24, 0, none⟩) 1 1), .int .i64 0], rowI (some ⟨z24, 0, none⟩) 1 3 1 [.int .i64 16], rowI (some ⟨z23, 0, none⟩) 1 23 1 [(.slice (some ⟨z22, 0, none⟩) 1 1)], rowI (some ⟨z22, 0, none⟩) 1 3 1 [.int .i64 0], rowI (some ⟨z21, 0, none⟩) 1 3 1 [.int .i64 (-1)], rowI (some ⟨z20, 0, none⟩) 1 23 1 [(.slice (some ⟨z19, 0, none⟩) 1 1)], rowI (some ⟨z19, 0, none⟩) 1 3 1 [.int .i64 0], rowI (some ⟨z18, 0, none⟩) 1 3 1 [.int .i64 17], rowI (some ⟨z17, 0, none⟩) 1 23 1 [(.slice (some ⟨z16, 0, none⟩) 1 1)], rowI (some ⟨z16, 0, none⟩) 1 3 1 [.int .i64 0], rowI (some ⟨z15, 0, none⟩) 1 3 1 [.int .i64 99], rowI (some ⟨z14, 0, none⟩) 1 23 1 [(.slice (some ⟨z13, 0, none⟩) 1 1)], rowI (some ⟨z13, 0, none⟩) 1 3 1 [.int .i64 1], rowI (some ⟨z12, 0, none⟩) 1 3 1 [.int .i64 99], rowI (some ⟨z11, 0, none⟩) 1 23 1 [(.slice (some ⟨z10, 0, none⟩) 1 1)], rowI (some ⟨z10, 0, none⟩) 1 3 1 [.int .i64 5], rowI (some ⟨z9, 0, none⟩) 1 3 1 [.int .i64 99], rowI (some ⟨z8, 0, none⟩) 1 23 1 [(.slice (some ⟨z7, 0, none⟩) 1 1)], rowI (some ⟨z7, 0, none⟩) 1 3 1 [.int .i64 0], rowI (some ⟨z6, 0, none⟩) 1 3 1 [.int .i64 99], rowI (some ⟨z5, 0, none⟩) 1 23 1 [(.slice (some ⟨z4, 0, none⟩) 1 1)], rowI (some ⟨z4, 0, none⟩) 1 3 1 [.int .i64 0], rowI (some ⟨z3, 0, none⟩) 1 23 1 [(.slice (some ⟨z2, 0, none⟩) 1 1)], rowI (some ⟨z2, 0, none⟩) 1 3 1 [.int .i64 0], rowI (some ⟨z1, 0, none⟩) 4097 23 1 (List.replicate 4097 (.slice none 0 0))] [(0, .bool false), (74, (.slice (some ⟨z25, 0, none⟩) 12 12)), (75, .int .i64 12), (76, .int .i64 0)] rfl ⟨rfl, rfl, rfl, rfl, trivial⟩ (fun ρ0 => ?_)
  refine T.block ?_
  obtain ⟨xs, hxs⟩ : ∃ l : List (Par × DK × Nat), l = [(xp0, ⟨none, 0, none, 0, []⟩, 7), (xp1, ⟨none, 0, none, 0, []⟩, 7), (xp2, ⟨none, 0, none, 0, []⟩, 3), (xp3, xk3 (some ⟨z1, 0, none⟩), 10), (xp4, ⟨some ⟨z3, 0, none⟩, 1, none, 0, [⟨some ⟨z2, 0, none⟩, 1, [0]⟩]⟩, 2), (xp5, ⟨some ⟨z5, 0, none⟩, 1, some ⟨z6, 0, none⟩, 1, [⟨some ⟨z4, 0, none⟩, 1, [0]⟩]⟩, 8), (xp6, ⟨some ⟨z8, 0, none⟩, 1, some ⟨z9, 0, none⟩, 1, [⟨some ⟨z7, 0, none⟩, 1, [0]⟩]⟩, 8), (xp7, ⟨some ⟨z11, 0, none⟩, 1, some ⟨z12, 0, none⟩, 1, [⟨some ⟨z10, 0, none⟩, 1, [5]⟩]⟩, 2), (xp8, ⟨some ⟨z14, 0, none⟩, 1, some ⟨z15, 0, none⟩, 1, [⟨some ⟨z13, 0, none⟩, 1, [1]⟩]⟩, 8), (xp9, ⟨some ⟨z17, 0, none⟩, 1, some ⟨z18, 0, none⟩, 1, [⟨some ⟨z16, 0, none⟩, 1, [0]⟩]⟩, 1), (xp10, ⟨some ⟨z20, 0, none⟩, 1, some ⟨z21, 0, none⟩, 1, [⟨some ⟨z19, 0, none⟩, 1, [0]⟩]⟩, 1), (xp11, ⟨some ⟨z23, 0, none⟩, 1, some ⟨z24, 0, none⟩, 1, [⟨some ⟨z22, 0, none⟩, 1, [0]⟩]⟩, 0)] := ⟨_, rfl⟩
  obtain ⟨cs, hcs⟩ : ∃ c : List Value, c = [.int .i64 (-1), (.int .i64 0), (.slice none 0 0), (.slice none 0 0), .int .i64 7, .int .i64 7, (.int .i64 0), (.slice none 0 0), (.slice none 0 0), .int .i64 7, (.int .i64 0), (.int .i64 0), (.slice none 0 0), (.slice none 0 0), .int .i64 3, (.int .i64 0), (.int .i64 0), (.slice (some ⟨z1, 0, none⟩) 4097 4097), (.slice none 0 0), .int .i64 10, (.int .i64 0), .int .i64 1, (.slice (some ⟨z3, 0, none⟩) 1 1), (.slice none 0 0), .int .i64 2, (.int .i64 0), .int .i64 1, (.slice (some ⟨z5, 0, none⟩) 1 1), (.slice (some ⟨z6, 0, none⟩) 1 1), .int .i64 8, (.int .i64 0), .int .i64 (-1), (.slice (some ⟨z8, 0, none⟩) 1 1), (.slice (some ⟨z9, 0, none⟩) 1 1), .int .i64 8, .int .i64 1, (.int .i64 0), (.slice (some ⟨z11, 0, none⟩) 1 1), (.slice (some ⟨z12, 0, none⟩) 1 1), .int .i64 2, (.int .i64 0), (.int .i64 0), (.slice (some ⟨z14, 0, none⟩) 1 1), (.slice (some ⟨z15, 0, none⟩) 1 1), .int .i64 8, (.int .i64 0), (.int .i64 0), (.slice (some ⟨z17, 0, none⟩) 1 1), (.slice (some ⟨z18, 0, none⟩) 1 1), .int .i64 1, (.int .i64 0), (.int .i64 0), (.slice (some ⟨z20, 0, none⟩) 1 1), (.slice (some ⟨z21, 0, none⟩) 1 1), .int .i64 1, (.int .i64 0), (.int .i64 0), (.slice (some ⟨z23, 0, none⟩) 1 1), (.slice (some ⟨z24, 0, none⟩) 1 1), .int .i64 0] := ⟨_, rfl⟩
  obtain ⟨RR, hRR⟩ : ∃ l : List Lx.Item, l = [rowI (some ⟨z24, 0, none⟩) 1 3 1 [.int .i64 16], rowI (some ⟨z23, 0, none⟩) 1 23 1 [(.slice (some ⟨z22, 0, none⟩) 1 1)], rowI (some ⟨z22, 0, none⟩) 1 3 1 [.int .i64 0], rowI (some ⟨z21, 0, none⟩) 1 3 1 [.int .i64 (-1)], rowI (some ⟨z20, 0, none⟩) 1 23 1 [(.slice (some ⟨z19, 0, none⟩) 1 1)], rowI (some ⟨z19, 0, none⟩) 1 3 1 [.int .i64 0], rowI (some ⟨z18, 0, none⟩) 1 3 1 [.int .i64 17], rowI (some ⟨z17, 0, none⟩) 1 23 1 [(.slice (some ⟨z16, 0, none⟩) 1 1)], rowI (some ⟨z16, 0, none⟩) 1 3 1 [.int .i64 0], rowI (some ⟨z15, 0, none⟩) 1 3 1 [.int .i64 99], rowI (some ⟨z14, 0, none⟩) 1 23 1 [(.slice (some ⟨z13, 0, none⟩) 1 1)], rowI (some ⟨z13, 0, none⟩) 1 3 1 [.int .i64 1], rowI (some ⟨z12, 0, none⟩) 1 3 1 [.int .i64 99], rowI (some ⟨z11, 0, none⟩) 1 23 1 [(.slice (some ⟨z10, 0, none⟩) 1 1)], rowI (some ⟨z10, 0, none⟩) 1 3 1 [.int .i64 5], rowI (some ⟨z9, 0, none⟩) 1 3 1 [.int .i64 99], rowI (some ⟨z8, 0, none⟩) 1 23 1 [(.slice (some ⟨z7, 0, none⟩) 1 1)], rowI (some ⟨z7, 0, none⟩) 1 3 1 [.int .i64 0], rowI (some ⟨z6, 0, none⟩) 1 3 1 [.int .i64 99], rowI (some ⟨z5, 0, none⟩) 1 23 1 [(.slice (some ⟨z4, 0, none⟩) 1 1)], rowI (some ⟨z4, 0, none⟩) 1 3 1 [.int .i64 0], rowI (some ⟨z3, 0, none⟩) 1 23 1 [(.slice (some ⟨z2, 0, none⟩) 1 1)], rowI (some ⟨z2, 0, none⟩) 1 3 1 [.int .i64 0], rowI (some ⟨z1, 0, none⟩) 4097 23 1 (List.replicate 4097 (.slice none 0 0))] := ⟨_, rfl⟩
  have hxl : xs.length = 12 := by rw [hxs]; rfl
  have hcl : cs.length = 60 := by rw [hcs]; rfl
  have hxc : ∀ x ∈ xs, checkP x.1 = x.2.2 ∧ ParC x.1 := by
    intro x9 hx9
    rw [hxs] at hx9
    simp only [List.mem_cons, List.not_mem_nil, or_false] at hx9
    rcases hx9 with rfl | rfl | rfl | rfl | rfl | rfl | rfl | rfl | rfl | rfl | rfl | rfl
    · exact ⟨xc0, xb0⟩
    · exact ⟨xc1, xb1⟩
    · exact ⟨xc2, xb2⟩
    · exact ⟨xc3, xb3⟩
    · exact ⟨xc4, xb4⟩
    · exact ⟨xc5, xb5⟩
    · exact ⟨xc6, xb6⟩
    · exact ⟨xc7, xb7⟩
    · exact ⟨xc8, xb8⟩
    · exact ⟨xc9, xb9⟩
    · exact ⟨xc10, xb10⟩
    · exact ⟨xc11, xb11⟩
  have hat : ∀ w1 : World, (∀ it ∈ RR, it.P w1) → ∀ x ∈ xs, AtP w1 x.1 x.2.1 := by
    intro w1 hw x9 hx9
    rw [hxs] at hx9
    simp only [List.mem_cons, List.not_mem_nil, or_false] at hx9
    rcases hx9 with rfl | rfl | rfl | rfl | rfl | rfl | rfl | rfl | rfl | rfl | rfl | rfl
    · exact ⟨Sl.nil _ _, rowsOf (qs := []) (by intro q9 h9; cases h9), Sl.nil _ _⟩
    · exact ⟨Sl.nil _ _, rowsOf (qs := []) (by intro q9 h9; cases h9), Sl.nil _ _⟩
    · exact ⟨Sl.nil _ _, rowsOf (qs := []) (by intro q9 h9; cases h9), Sl.nil _ _⟩
    · exact xp3_at (rowP.sl (hw (rowI (some ⟨z1, 0, none⟩) 4097 23 1 (List.replicate 4097 (.slice none 0 0))) (hRR ▸ List.mem_of_getElem? (i := 23) rfl)))
    · exact ⟨rowP.sl (hw (rowI (some ⟨z3, 0, none⟩) 1 23 1 [(.slice (some ⟨z2, 0, none⟩) 1 1)]) (hRR ▸ List.mem_of_getElem? (i := 21) rfl)), rowsOf (qs := [⟨some ⟨z2, 0, none⟩, 1, [0]⟩]) (by intro q9 h9; rw [List.mem_singleton.1 h9]; exact rowP.sl (cs := ints [0]) (hw (rowI (some ⟨z2, 0, none⟩) 1 3 1 [.int .i64 0]) (hRR ▸ List.mem_of_getElem? (i := 22) rfl))), Sl.nil _ _⟩
    · exact ⟨rowP.sl (hw (rowI (some ⟨z5, 0, none⟩) 1 23 1 [(.slice (some ⟨z4, 0, none⟩) 1 1)]) (hRR ▸ List.mem_of_getElem? (i := 19) rfl)), rowsOf (qs := [⟨some ⟨z4, 0, none⟩, 1, [0]⟩]) (by intro q9 h9; rw [List.mem_singleton.1 h9]; exact rowP.sl (cs := ints [0]) (hw (rowI (some ⟨z4, 0, none⟩) 1 3 1 [.int .i64 0]) (hRR ▸ List.mem_of_getElem? (i := 20) rfl))), rowP.sl (cs := ints [99]) (hw (rowI (some ⟨z6, 0, none⟩) 1 3 1 [.int .i64 99]) (hRR ▸ List.mem_of_getElem? (i := 18) rfl))⟩
    · exact ⟨rowP.sl (hw (rowI (some ⟨z8, 0, none⟩) 1 23 1 [(.slice (some ⟨z7, 0, none⟩) 1 1)]) (hRR ▸ List.mem_of_getElem? (i := 16) rfl)), rowsOf (qs := [⟨some ⟨z7, 0, none⟩, 1, [0]⟩]) (by intro q9 h9; rw [List.mem_singleton.1 h9]; exact rowP.sl (cs := ints [0]) (hw (rowI (some ⟨z7, 0, none⟩) 1 3 1 [.int .i64 0]) (hRR ▸ List.mem_of_getElem? (i := 17) rfl))), rowP.sl (cs := ints [99]) (hw (rowI (some ⟨z9, 0, none⟩) 1 3 1 [.int .i64 99]) (hRR ▸ List.mem_of_getElem? (i := 15) rfl))⟩
    · exact ⟨rowP.sl (hw (rowI (some ⟨z11, 0, none⟩) 1 23 1 [(.slice (some ⟨z10, 0, none⟩) 1 1)]) (hRR ▸ List.mem_of_getElem? (i := 13) rfl)), rowsOf (qs := [⟨some ⟨z10, 0, none⟩, 1, [5]⟩]) (by intro q9 h9; rw [List.mem_singleton.1 h9]; exact rowP.sl (cs := ints [5]) (hw (rowI (some ⟨z10, 0, none⟩) 1 3 1 [.int .i64 5]) (hRR ▸ List.mem_of_getElem? (i := 14) rfl))), rowP.sl (cs := ints [99]) (hw (rowI (some ⟨z12, 0, none⟩) 1 3 1 [.int .i64 99]) (hRR ▸ List.mem_of_getElem? (i := 12) rfl))⟩
    · exact ⟨rowP.sl (hw (rowI (some ⟨z14, 0, none⟩) 1 23 1 [(.slice (some ⟨z13, 0, none⟩) 1 1)]) (hRR ▸ List.mem_of_getElem? (i := 10) rfl)), rowsOf (qs := [⟨some ⟨z13, 0, none⟩, 1, [1]⟩]) (by intro q9 h9; rw [List.mem_singleton.1 h9]; exact rowP.sl (cs := ints [1]) (hw (rowI (some ⟨z13, 0, none⟩) 1 3 1 [.int .i64 1]) (hRR ▸ List.mem_of_getElem? (i := 11) rfl))), rowP.sl (cs := ints [99]) (hw (rowI (some ⟨z15, 0, none⟩) 1 3 1 [.int .i64 99]) (hRR ▸ List.mem_of_getElem? (i := 9) rfl))⟩
    · exact ⟨rowP.sl (hw (rowI (some ⟨z17, 0, none⟩) 1 23 1 [(.slice (some ⟨z16, 0, none⟩) 1 1)]) (hRR ▸ List.mem_of_getElem? (i := 7) rfl)), rowsOf (qs := [⟨some ⟨z16, 0, none⟩, 1, [0]⟩]) (by intro q9 h9; rw [List.mem_singleton.1 h9]; exact rowP.sl (cs := ints [0]) (hw (rowI (some ⟨z16, 0, none⟩) 1 3 1 [.int .i64 0]) (hRR ▸ List.mem_of_getElem? (i := 8) rfl))), rowP.sl (cs := ints [17]) (hw (rowI (some ⟨z18, 0, none⟩) 1 3 1 [.int .i64 17]) (hRR ▸ List.mem_of_getElem? (i := 6) rfl))⟩
    · exact ⟨rowP.sl (hw (rowI (some ⟨z20, 0, none⟩) 1 23 1 [(.slice (some ⟨z19, 0, none⟩) 1 1)]) (hRR ▸ List.mem_of_getElem? (i := 4) rfl)), rowsOf (qs := [⟨some ⟨z19, 0, none⟩, 1, [0]⟩]) (by intro q9 h9; rw [List.mem_singleton.1 h9]; exact rowP.sl (cs := ints [0]) (hw (rowI (some ⟨z19, 0, none⟩) 1 3 1 [.int .i64 0]) (hRR ▸ List.mem_of_getElem? (i := 5) rfl))), rowP.sl (cs := ints [-1]) (hw (rowI (some ⟨z21, 0, none⟩) 1 3 1 [.int .i64 (-1)]) (hRR ▸ List.mem_of_getElem? (i := 3) rfl))⟩
    · exact ⟨rowP.sl (hw (rowI (some ⟨z23, 0, none⟩) 1 23 1 [(.slice (some ⟨z22, 0, none⟩) 1 1)]) (hRR ▸ List.mem_of_getElem? (i := 1) rfl)), rowsOf (qs := [⟨some ⟨z22, 0, none⟩, 1, [0]⟩]) (by intro q9 h9; rw [List.mem_singleton.1 h9]; exact rowP.sl (cs := ints [0]) (hw (rowI (some ⟨z22, 0, none⟩) 1 3 1 [.int .i64 0]) (hRR ▸ List.mem_of_getElem? (i := 2) rfl))), rowP.sl (cs := ints [16]) (hw (rowI (some ⟨z24, 0, none⟩) 1 3 1 [.int .i64 16]) (hRR ▸ List.mem_of_getElem? (i := 0) rfl))⟩
  have hget : ∀ (i : Nat) (hi : i < xs.length) (j : Nat), j < 5 → cs[i * 5 + j]? = (pC xs[i].1 xs[i].2.1 ++ [Value.int .i64 ((xs[i].2.2 : Nat) : Int)])[j]? := by
    intro i hi j hj
    subst hxs; subst hcs
    match i, hi with
    | 0, _ => exact (match j, hj with | 0, _ => rfl | 1, _ => rfl | 2, _ => rfl | 3, _ => rfl | 4, _ => rfl)
    | 1, _ => exact (match j, hj with | 0, _ => rfl | 1, _ => rfl | 2, _ => rfl | 3, _ => rfl | 4, _ => rfl)
    | 2, _ => exact (match j, hj with | 0, _ => rfl | 1, _ => rfl | 2, _ => rfl | 3, _ => rfl | 4, _ => rfl)
    | 3, _ => exact (match j, hj with | 0, _ => rfl | 1, _ => rfl | 2, _ => congrArg (fun n9 => some (Value.slice _ n9 _)) (List.length_replicate (n := 4097) (a := ([] : List Int))).symm | 3, _ => rfl | 4, _ => rfl)
    | 4, _ => exact (match j, hj with | 0, _ => rfl | 1, _ => rfl | 2, _ => rfl | 3, _ => rfl | 4, _ => rfl)
    | 5, _ => exact (match j, hj with | 0, _ => rfl | 1, _ => rfl | 2, _ => rfl | 3, _ => rfl | 4, _ => rfl)
    | 6, _ => exact (match j, hj with | 0, _ => rfl | 1, _ => rfl | 2, _ => rfl | 3, _ => rfl | 4, _ => rfl)
    | 7, _ => exact (match j, hj with | 0, _ => rfl | 1, _ => rfl | 2, _ => rfl | 3, _ => rfl | 4, _ => rfl)
    | 8, _ => exact (match j, hj with | 0, _ => rfl | 1, _ => rfl | 2, _ => rfl | 3, _ => rfl | 4, _ => rfl)
    | 9, _ => exact (match j, hj with | 0, _ => rfl | 1, _ => rfl | 2, _ => rfl | 3, _ => rfl | 4, _ => rfl)
    | 10, _ => exact (match j, hj with | 0, _ => rfl | 1, _ => rfl | 2, _ => rfl | 3, _ => rfl | 4, _ => rfl)
    | 11, _ => exact (match j, hj with | 0, _ => rfl | 1, _ => rfl | 2, _ => rfl | 3, _ => rfl | 4, _ => rfl)
  refine T.sub (O' := [rowI (some ⟨z25, 0, none⟩) 12 55 5 cs] ++ RR) (by rw [hcs, hRR]; exact Sub.rf) ?_
  refine T.loop (fun (a : Nat) ρ O => O = ([rowI (some ⟨z25, 0, none⟩) 12 55 5 cs] ++ RR) ∧ a ≤ 12 ∧ Heads [(74, (.slice (some ⟨z25, 0, none⟩) 12 12)), (75, .int .i64 12), (76, .int .i64 ((a : Nat) : Int))] ρ) (fun a => 12 - a) 0 ?_ ?_
  · exact ⟨rfl, Nat.zero_le _, ⟨rfl, rfl, rfl, trivial⟩⟩
  rintro a ρ O ⟨rfl, ha, hH⟩
  obtain ⟨ρ0, rfl⟩ := hH.elim
  clear hH
  refine T.s (T.rg ?_)
  refine TO.q (q_lss rfl rfl) ?_
  refine TO.nl (T.s ?_)
  refine T.condP rfl (fun hc => ?_) (fun hc => ?_)
  · have hlt77 : a < 12 := by omega
    have hal : a < xs.length := by omega
    obtain ⟨x, hx⟩ : ∃ zz, xs[a] = zz := ⟨_, rfl⟩
    have hxm : x ∈ xs := hx ▸ List.getElem_mem hal
    refine T.skip (T.s (T.block (T.s (T.rg ?_))))
    refine TO.q (q_ixK (i := a) underlying56 inf55 rfl rfl (rowO (mG 0 rfl)) (by omega) (by omega)) (TO.q (q_ldK (vs := [(.int .i64 x.1.vars), (.int .i64 x.1.start), (.slice x.2.1.nb x.1.next.length x.2.1.nc), (.slice x.2.1.fb x.1.prio.length x.2.1.fc), .int .i64 ((x.2.2 : Nat) : Int)]) underlying55 rfl inf55 rfl rfl (Nat.succ_pos _) (rowO (mG 0 rfl)) (hx ▸ fun j9 h9 => (hget a hal j9 h9).trans (List.getElem?_eq_getElem h9))) ?_)
    refine TO.l rfl (l_alloc inf55 rfl (fun z26 => ?_))
    refine TO.l rfl (l_sb (v := (.agg #[(.int .i64 x.1.vars), (.int .i64 x.1.start), (.slice x.2.1.nb x.1.next.length x.2.1.nc), (.slice x.2.1.fb x.1.prio.length x.2.1.fc), .int .i64 ((x.2.2 : Nat) : Int)])) (vs := [(.int .i64 x.1.vars), (.int .i64 x.1.start), (.slice x.2.1.nb x.1.next.length x.2.1.nc), (.slice x.2.1.fb x.1.prio.length x.2.1.fc), .int .i64 ((x.2.2 : Nat) : Int)]) 0 inf55 rfl rfl rfl rfl rfl rfl (by simp [putL]) ?_)
    refine TO.nl (T.s (T.rg ?_))
    refine TO.q (q_fa underlying55 rfl inf25 rfl rfl) (TO.q (q_load_part 0 (vs := [(.int .i64 x.1.vars), (.int .i64 x.1.start), (.slice x.2.1.nb x.1.next.length x.2.1.nc), (.slice x.2.1.fb x.1.prio.length x.2.1.fc)]) underlying25 rfl inf25 rfl rfl rfl rfl) ?_)
    have hk83 := fun (w1 : World) (hI : Inv w ([oI z26 55 [(.int .i64 x.1.vars), (.int .i64 x.1.start), (.slice x.2.1.nb x.1.next.length x.2.1.nc), (.slice x.2.1.fb x.1.prio.length x.2.1.fc), .int .i64 ((x.2.2 : Nat) : Int)], rowI (some ⟨z25, 0, none⟩) 12 55 5 cs] ++ RR) w1) => (haveI := tbz hI; (show PureT _ _ _ _ _ from by
        have h9 := parQuo w1 x.1 x.2.1 (hat w1 (fun it9 h9 => hI.holds it9 (List.mem_append_right _ h9)) x hxm) (hxc x hxm).2
        rw [(hxc x hxm).1] at h9
        exact h9))
    refine TO.l rfl (l_call ent27 (CallT.op hk83) rfl ?_)
    clear hk83
    rintro vr O' ⟨N, rfl, kq, rfl, rfl⟩
    refine TO.qm rfl (TO.q (q_extract (vs := _) rfl rfl) (TO.q (q_extract (vs := _) rfl rfl) ?_))
    refine TO.l rfl (l_alloc inf25 rfl (fun z27 => ?_))
    refine TO.l rfl (l_sb (v := (pV (quoV x.1) kq)) (vs := (pC (quoV x.1) kq)) 0 inf25 rfl rfl rfl rfl rfl rfl (by simp [putL]) ?_)
    refine TO.qa rfl ?_
    refine TO.sub (O' := ([rowI (some ⟨z25, 0, none⟩) 12 55 5 cs, oI z26 55 [(.int .i64 x.1.vars), (.int .i64 x.1.start), (.slice x.2.1.nb x.1.next.length x.2.1.nc), (.slice x.2.1.fb x.1.prio.length x.2.1.fc), .int .i64 ((x.2.2 : Nat) : Int)]] ++ RR)) (Sub.pickR [3, 2] [oI z27 25 (pC (quoV x.1) kq), pI 23 3 (quoV x.1) kq, oI z26 55 [(.int .i64 x.1.vars), (.int .i64 x.1.start), (.slice x.2.1.nb x.1.next.length x.2.1.nc), (.slice x.2.1.fb x.1.prio.length x.2.1.fc), .int .i64 ((x.2.2 : Nat) : Int)], rowI (some ⟨z25, 0, none⟩) 12 55 5 cs] RR rfl rfl) ?_
    refine TO.nl ?_
    refine T.reset ([rowI (some ⟨z25, 0, none⟩) 12 55 5 cs, oI z26 55 [(.int .i64 x.1.vars), (.int .i64 x.1.start), (.slice x.2.1.nb x.1.next.length x.2.1.nc), (.slice x.2.1.fb x.1.prio.length x.2.1.fc), .int .i64 ((x.2.2 : Nat) : Int)]] ++ RR) [(2, (.pointer (some ⟨z26, 0, none⟩))), (3, (.pointer (some ⟨z27, 0, none⟩))), (4, .int .i64 ((x.2.2 : Nat) : Int)), (74, (.slice (some ⟨z25, 0, none⟩) 12 12)), (75, .int .i64 12), (76, .int .i64 ((a : Nat) : Int))] rfl ⟨rfl, rfl, rfl, rfl, rfl, rfl, trivial⟩ (fun ρ0 => ?_)
    refine T.s ?_
    refine T.draws _ [(0, 0), (1, 0), (3, 0), (4, 0), (2, 1), (5, 0), (6, 0), (7, 0), (8, 0), (9, 0), (10, 0), (11, 0)] mixed (drawF_ok (by kernel_rfl)) (Sub.of (List.Sublist.refl _)) (fun _ _ _ h => h) ?_
    refine DO.q rfl (q_fa underlying55 rfl inf25 rfl rfl) (DO.q rfl (q_load_part 1 (vs := [(.int .i64 x.1.vars), (.int .i64 x.1.start), (.slice x.2.1.nb x.1.next.length x.2.1.nc), (.slice x.2.1.fb x.1.prio.length x.2.1.fc)]) underlying25 rfl inf25 rfl rfl rfl rfl) (DO.q rfl (q_fa underlying55 rfl inf34 rfl rfl) (DO.q rfl (q_lb 1 underlying34 rfl rfl rfl rfl) ?_)))
    have hk88 := fun (w1 : World) (hI : Inv w ([rowI (some ⟨z25, 0, none⟩) 12 55 5 cs, oI z26 55 [(.int .i64 x.1.vars), (.int .i64 x.1.start), (.slice x.2.1.nb x.1.next.length x.2.1.nc), (.slice x.2.1.fb x.1.prio.length x.2.1.fc), .int .i64 ((x.2.2 : Nat) : Int)]] ++ RR) w1) => (haveI := tbz hI; (show PureT _ _ _ _ _ from by
        have h9 := parCheck w1 x.1 x.2.1 (hat w1 (fun it9 h9 => hI.holds it9 (List.mem_append_right _ h9)) x hxm) (hxc x hxm).2
        rw [(hxc x hxm).1] at h9
        exact h9))
    refine DO.loud rfl rfl (l_call ent20 (CallT.op hk88) rfl ?_)
    clear hk88
    rintro vr O' ⟨N, rfl, rfl, rfl⟩
    refine ⟨Sub.pickR [0, 0] [rowI (some ⟨z25, 0, none⟩) 12 55 5 cs, oI z26 55 [(.int .i64 x.1.vars), (.int .i64 x.1.start), (.slice x.2.1.nb x.1.next.length x.2.1.nc), (.slice x.2.1.fb x.1.prio.length x.2.1.fc), .int .i64 ((x.2.2 : Nat) : Int)]] RR rfl rfl, ?_⟩
    refine DO.q rfl (QT.toB (q_neq rfl rfl) (decide_eq_false (fun h9 => h9 rfl))) (DO.q rfl (q_move rfl) ?_)
    refine DO.guarded rfl rfl rfl (q_move rfl) ?_
    refine DO.guarded rfl rfl rfl (q_fa underlying55 rfl inf34 rfl rfl) ?_
    refine DO.guarded rfl rfl rfl (q_lb 1 underlying34 rfl rfl rfl rfl) ?_
    refine DO.guarded rfl rfl rfl (QT.toB (q_neq rfl rfl) (decide_eq_false (fun h9 => h9 rfl))) ?_
    refine DO.q rfl (q_pick0 rfl rfl) ?_
    refine DO.sub (O' := ([rowI (some ⟨z25, 0, none⟩) 12 55 5 cs] ++ RR)) (Sub.pickR [0] [rowI (some ⟨z25, 0, none⟩) 12 55 5 cs, oI z26 55 [(.int .i64 x.1.vars), (.int .i64 x.1.start), (.slice x.2.1.nb x.1.next.length x.2.1.nc), (.slice x.2.1.fb x.1.prio.length x.2.1.fc), .int .i64 ((x.2.2 : Nat) : Int)]] RR rfl rfl) ?_
    refine DO.done ?_
    refine T.cond0 rfl ?_
    refine T.skip (T.rg ?_)
    refine TO.q (q_addN (a := a) (b := 1) rfl rfl (by omega)) (TO.qm rfl ?_)
    refine TO.nl ?_
    exact ⟨a + 1, by omega, rfl, by omega, ⟨rfl, rfl, rfl, trivial⟩⟩
  have hge77 : ¬ a < 12 := by omega
  refine T.exit ?_
  refine T.s ?_
  refine T.sub (O' := []) (Sub.of (List.nil_sublist _)) ?_
  refine T.rg ?_
  have hk99 := fun (w1 : World) (hI : Inv w [] w1) => (haveI := tbz hI; zerosK w1)
  refine TO.l rfl (l_call ent38 (CallT.op hk99) rfl ?_)
  clear hk99
  rintro vr O' ⟨N, rfl, k0, rfl, rfl⟩
  refine TO.l rfl (l_alloc inf25 rfl (fun z28 => ?_))
  refine TO.l rfl (l_sb (v := (pV zerosP k0)) (vs := (pC zerosP k0)) 0 inf25 rfl rfl rfl rfl rfl rfl (by simp [putL]) ?_)
  refine TO.sub (O' := [oI z28 25 (pC zerosP k0), pI 23 3 zerosP k0]) (Sub.pick [0, 0] rfl) ?_
  refine TO.nl (T.s (T.rg ?_))
  refine TO.q (q_la 0 underlying25 rfl inf25 rfl rfl rfl) (TO.q (q_build plan28 inf28 rfl) ?_)
  have hk103 := fun (w1 : World) (hI : Inv w [oI z28 25 (pC zerosP k0), pI 23 3 zerosP k0] w1) => (haveI := tbz hI; (show PureT _ _ _ _ _ from by
      have h9 := parRun w1 zerosP k0 (hI.atP (II := 23) (I := 3) (mG 1 rfl)) zeros_v.c nilLa l00 (nl_at w1) nl_B
      rw [xv1, xl1] at h9
      exact h9))
  refine TO.l rfl (l_call ent15 (CallT.op hk103) rfl ?_)
  clear hk103
  rintro vr O' ⟨N, rfl, rfl, rfl⟩
  refine TO.qm rfl (TO.q (q_extract (vs := _) rfl rfl) (TO.q (q_extract (vs := _) rfl rfl) (TO.qa rfl ?_)))
  refine TO.qa rfl ?_
  refine TO.sub (O' := [oI z28 25 (pC zerosP k0), pI 23 3 zerosP k0]) (Sub.pick [0, 0] rfl) ?_
  refine TO.nl ?_
  refine T.reset [oI z28 25 (pC zerosP k0), pI 23 3 zerosP k0] [(5, (.pointer (some ⟨z28, 0, none⟩))), (7, .int .i64 3)] rfl ⟨rfl, rfl, trivial⟩ (fun ρ0 => ?_)
  refine T.s (T.rg ?_)
  refine TO.q (q_la 0 underlying25 rfl inf25 rfl rfl rfl) ?_
  refine TO.l rfl (l_build1 (v := .int .u8 2) underlying26 inf5 rfl rfl rfl (fun z29 => ?_))
  refine TO.q (q_build (cs := [(.slice none 0 0), (.slice (some ⟨z29, 0, none⟩) 1 1)]) plan28 inf28 (by kernel_rfl)) ?_
  have hk110 := fun (w1 : World) (hI : Inv w [rowI (some ⟨z29, 0, none⟩) 1 5 1 [.int .u8 2], oI z28 25 (pC zerosP k0), pI 23 3 zerosP k0] w1) => (haveI := tbz hI; (show PureT _ _ _ _ _ from by
      have h9 := parAcc w1 zerosP k0 (hI.atP (II := 23) (I := 3) (mG 2 rfl)) zeros_v.c l2 ⟨none, 0, some ⟨z29, 0, none⟩, 1⟩ ⟨Sl.nil _ _, hI.slOf (cs := byts [2]) (mG 0 rfl), Nat.le_refl _, Nat.le_refl _⟩ l2_B
      rw [ex_ac2, xl2] at h9
      exact h9))
  refine TO.l rfl (l_call ent17 (CallT.op hk110) rfl ?_)
  clear hk110
  rintro vr O' ⟨N, rfl, rfl, rfl⟩
  refine TO.qm rfl (TO.q (q_extract (vs := _) rfl rfl) (TO.q (q_extract (vs := _) rfl rfl) (TO.qa rfl ?_)))
  refine TO.qa rfl ?_
  refine TO.sub (O' := [oI z28 25 (pC zerosP k0), pI 23 3 zerosP k0]) (Sub.pick [1, 1] rfl) ?_
  refine TO.nl (T.s (T.rg ?_))
  refine TO.l rfl (l_build1 (v := .int .i64 0) underlying23 inf3 rfl rfl rfl (fun z30 => ?_))
  refine TO.l rfl (l_build1 (v := (.slice (some ⟨z30, 0, none⟩) 1 1)) underlying22 inf23 rfl rfl rfl (fun z31 => ?_))
  refine TO.l rfl (l_build1 (v := .int .i64 16) underlying23 inf3 rfl rfl rfl (fun z32 => ?_))
  refine TO.q (q_build (cs := [(.int .i64 0), (.int .i64 0), (.slice (some ⟨z31, 0, none⟩) 1 1), (.slice (some ⟨z32, 0, none⟩) 1 1)]) plan25 inf25 (by kernel_rfl)) ?_
  have hk118 := fun (w1 : World) (hI : Inv w [rowI (some ⟨z32, 0, none⟩) 1 3 1 [.int .i64 16], rowI (some ⟨z31, 0, none⟩) 1 23 1 [(.slice (some ⟨z30, 0, none⟩) 1 1)], rowI (some ⟨z30, 0, none⟩) 1 3 1 [.int .i64 0], oI z28 25 (pC zerosP k0), pI 23 3 zerosP k0] w1) => (haveI := tbz hI; (show PureT _ _ _ _ _ from by
      have h9 := parCo w1 xp11 ⟨some ⟨z31, 0, none⟩, 1, some ⟨z32, 0, none⟩, 1, [⟨some ⟨z30, 0, none⟩, 1, [0]⟩]⟩ (show AtP w1 xp11 ⟨some ⟨z31, 0, none⟩, 1, some ⟨z32, 0, none⟩, 1, [⟨some ⟨z30, 0, none⟩, 1, [0]⟩]⟩ from ⟨hI.slOf (mG 1 rfl), rowsOf (qs := [⟨some ⟨z30, 0, none⟩, 1, [0]⟩]) (by intro q9 h9; simp only [List.mem_cons, List.not_mem_nil, or_false] at h9; rcases h9 with rfl; exact hI.slOf (cs := ints [0]) (mG 2 rfl)), hI.slOf (cs := ints [16]) (mG 0 rfl)⟩) xb11
      rw [xco] at h9
      exact h9))
  refine TO.l rfl (l_call ent18 (CallT.op hk118) rfl ?_)
  clear hk118
  rintro vr O' ⟨N, rfl, k1, rfl, rfl⟩
  refine TO.qm rfl (TO.q (q_extract (vs := _) rfl rfl) (TO.q (q_extract (vs := _) rfl rfl) ?_))
  refine TO.l rfl (l_alloc inf25 rfl (fun z33 => ?_))
  refine TO.l rfl (l_sb (v := (pV (coV xp11) k1)) (vs := (pC (coV xp11) k1)) 0 inf25 rfl rfl rfl rfl rfl rfl (by simp [putL]) ?_)
  refine TO.qa rfl ?_
  refine TO.sub (O' := [oI z28 25 (pC zerosP k0), pI 23 3 zerosP k0]) (Sub.pick [5, 5] rfl) ?_
  refine TO.nl ?_
  refine T.reset [oI z28 25 (pC zerosP k0), pI 23 3 zerosP k0] [(5, (.pointer (some ⟨z28, 0, none⟩))), (7, .int .i64 3), (9, .int .i64 1), (10, (.pointer (some ⟨z33, 0, none⟩))), (11, .int .i64 4)] rfl ⟨rfl, rfl, rfl, rfl, rfl, trivial⟩ (fun ρ0 => ?_)
  refine T.s (T.rg ?_)
  refine TO.q (q_la 0 underlying25 rfl inf25 rfl rfl rfl) ?_
  refine TO.l rfl (l_build1 (v := .int .i64 0) underlying23 inf3 rfl rfl rfl (fun z34 => ?_))
  refine TO.l rfl (l_build1 (v := (.slice (some ⟨z34, 0, none⟩) 1 1)) underlying22 inf23 rfl rfl rfl (fun z35 => ?_))
  refine TO.l rfl (l_build1 (v := .int .i64 16) underlying23 inf3 rfl rfl rfl (fun z36 => ?_))
  refine TO.q (q_build (cs := [(.int .i64 0), (.int .i64 0), (.slice (some ⟨z35, 0, none⟩) 1 1), (.slice (some ⟨z36, 0, none⟩) 1 1)]) plan25 inf25 (by kernel_rfl)) ?_
  have hk127 := fun (w1 : World) (hI : Inv w [rowI (some ⟨z36, 0, none⟩) 1 3 1 [.int .i64 16], rowI (some ⟨z35, 0, none⟩) 1 23 1 [(.slice (some ⟨z34, 0, none⟩) 1 1)], rowI (some ⟨z34, 0, none⟩) 1 3 1 [.int .i64 0], oI z28 25 (pC zerosP k0), pI 23 3 zerosP k0] w1) => (haveI := tbz hI; exDif w1 k0 (hI.atP (II := 23) (I := 3) (mG 4 rfl)) xp11 ⟨some ⟨z35, 0, none⟩, 1, some ⟨z36, 0, none⟩, 1, [⟨some ⟨z34, 0, none⟩, 1, [0]⟩]⟩ (show AtP w1 xp11 ⟨some ⟨z35, 0, none⟩, 1, some ⟨z36, 0, none⟩, 1, [⟨some ⟨z34, 0, none⟩, 1, [0]⟩]⟩ from ⟨hI.slOf (mG 1 rfl), rowsOf (qs := [⟨some ⟨z34, 0, none⟩, 1, [0]⟩]) (by intro q9 h9; simp only [List.mem_cons, List.not_mem_nil, or_false] at h9; rcases h9 with rfl; exact hI.slOf (cs := ints [0]) (mG 2 rfl)), hI.slOf (cs := ints [16]) (mG 0 rfl)⟩) xb11 xd1)
  refine TO.l rfl (l_call ent29 (CallT.op hk127) rfl ?_)
  clear hk127
  rintro vr O' ⟨N, rfl, l3, kl3, rfl, rfl⟩
  refine TO.qm rfl (TO.q (q_extract (vs := _) rfl rfl) (TO.q (q_extract (vs := _) rfl rfl) (TO.q (q_extract (vs := _) rfl rfl) ?_)))
  refine TO.l rfl (l_alloc inf28 rfl (fun z37 => ?_))
  refine TO.l rfl (l_sb (v := (lV l3 kl3)) (vs := (lC l3 kl3)) 0 inf28 rfl rfl rfl rfl rfl rfl (by simp [putL]) ?_)
  refine TO.qa rfl (TO.qa rfl ?_)
  refine TO.sub (O' := [oI z28 25 (pC zerosP k0), pI 23 3 zerosP k0]) (Sub.pick [5, 5] rfl) ?_
  refine TO.nl ?_
  refine T.reset [oI z28 25 (pC zerosP k0), pI 23 3 zerosP k0] [(5, (.pointer (some ⟨z28, 0, none⟩))), (7, .int .i64 3), (9, .int .i64 1), (10, (.pointer (some ⟨z33, 0, none⟩))), (11, .int .i64 4), (12, (.pointer (some ⟨z37, 0, none⟩))), (14, .int .i64 7)] rfl ⟨rfl, rfl, rfl, rfl, rfl, rfl, rfl, trivial⟩ (fun ρ0 => ?_)
  refine T.s (T.rg ?_)
  refine TO.q (q_la 0 underlying25 rfl inf25 rfl rfl rfl) (TO.q (q_build (cs := [.int .i64 9, (.int .i64 0), (.slice none 0 0), (.slice none 0 0)]) plan25 inf25 (by kernel_rfl)) ?_)
  have hk134 := fun (w1 : World) (hI : Inv w [oI z28 25 (pC zerosP k0), pI 23 3 zerosP k0] w1) => (haveI := tbz hI; exDif w1 k0 (hI.atP (II := 23) (I := 3) (mG 1 rfl)) xpV ⟨none, 0, none, 0, []⟩ (show AtP w1 xpV ⟨none, 0, none, 0, []⟩ from ⟨Sl.nil _ _, rowsOf (qs := []) (by intro q9 h9; cases h9), Sl.nil _ _⟩) xbV xd2)
  refine TO.l rfl (l_call ent29 (CallT.op hk134) rfl ?_)
  clear hk134
  rintro vr O' ⟨N, rfl, l4, kl4, rfl, rfl⟩
  refine TO.qm rfl (TO.q (q_extract (vs := _) rfl rfl) (TO.q (q_extract (vs := _) rfl rfl) (TO.q (q_extract (vs := _) rfl rfl) ?_)))
  refine TO.l rfl (l_alloc inf28 rfl (fun z38 => ?_))
  refine TO.l rfl (l_sb (v := (lV l4 kl4)) (vs := (lC l4 kl4)) 0 inf28 rfl rfl rfl rfl rfl rfl (by simp [putL]) ?_)
  refine TO.qa rfl (TO.qa rfl ?_)
  refine TO.sub (O' := [oI z28 25 (pC zerosP k0), pI 23 3 zerosP k0]) (Sub.pick [2, 2] rfl) ?_
  refine TO.nl ?_
  refine T.reset [oI z28 25 (pC zerosP k0), pI 23 3 zerosP k0] [(5, (.pointer (some ⟨z28, 0, none⟩))), (7, .int .i64 3), (9, .int .i64 1), (10, (.pointer (some ⟨z33, 0, none⟩))), (11, .int .i64 4), (12, (.pointer (some ⟨z37, 0, none⟩))), (14, .int .i64 7), (15, (.pointer (some ⟨z38, 0, none⟩))), (17, .int .i64 7)] rfl ⟨rfl, rfl, rfl, rfl, rfl, rfl, rfl, rfl, rfl, trivial⟩ (fun ρ0 => ?_)
  refine T.s (T.rg ?_)
  refine TO.q (q_la 0 underlying25 rfl inf25 rfl rfl rfl) ?_
  have hk140 := fun (w1 : World) (hI : Inv w [oI z28 25 (pC zerosP k0), pI 23 3 zerosP k0] w1) => (haveI := tbz hI; exWit w1 k0 (hI.atP (II := 23) (I := 3) (mG 1 rfl)))
  refine TO.l rfl (l_call ent30 (CallT.op hk140) rfl ?_)
  clear hk140
  rintro vr O' ⟨N, rfl, l9, kl9, rfl, rfl, hac9, hlb9⟩
  refine TO.qm rfl (TO.q (q_extract (vs := _) rfl rfl) (TO.q (q_extract (vs := _) rfl rfl) ?_))
  refine TO.l rfl (l_alloc inf28 rfl (fun z39 => ?_))
  refine TO.l rfl (l_sb (v := (lV l9 kl9)) (vs := (lC l9 kl9)) 0 inf28 rfl rfl rfl rfl rfl rfl (by simp [putL]) ?_)
  refine TO.qa rfl ?_
  refine TO.sub (O' := [oI z39 28 (lC l9 kl9), oI z28 25 (pC zerosP k0), lI 5 l9 kl9, pI 23 3 zerosP k0]) (Sub.pick [0, 1, 0, 0] rfl) ?_
  refine TO.nl (T.s (T.rg ?_))
  refine TO.l rfl (l_buildSlice (m := 2) (parts := [(0, .const (.int .i64 1)), (1, .const (.int .i64 2))]) (cs := [.int .i64 1, .int .i64 2]) underlying23 inf3 (by decide) (by kernel_rfl) rfl (fun z40 => ?_))
  refine TO.l rfl (l_buildSlice (m := 2) (parts := [(0, .const (.int .i64 0)), (1, .const (.int .i64 1))]) (cs := [.int .i64 0, .int .i64 1]) underlying23 inf3 (by decide) (by kernel_rfl) rfl (fun z41 => ?_))
  refine TO.l rfl (l_buildSlice (m := 2) (parts := [(0, .const (.int .i64 3)), (1, .const (.int .i64 3))]) (cs := [.int .i64 3, .int .i64 3]) underlying23 inf3 (by decide) (by kernel_rfl) rfl (fun z42 => ?_))
  refine TO.l rfl (l_buildSlice (m := 2) (parts := [(0, .const (.int .i64 3)), (1, .const (.int .i64 3))]) (cs := [.int .i64 3, .int .i64 3]) underlying23 inf3 (by decide) (by kernel_rfl) rfl (fun z43 => ?_))
  refine TO.l rfl (l_buildSlice (m := 4) (parts := [(0, .tmp 144), (1, .tmp 145), (2, .tmp 146), (3, .tmp 147)]) (cs := [(.slice (some ⟨z40, 0, none⟩) 2 2), (.slice (some ⟨z41, 0, none⟩) 2 2), (.slice (some ⟨z42, 0, none⟩) 2 2), (.slice (some ⟨z43, 0, none⟩) 2 2)]) underlying22 inf23 (by decide) (by kernel_rfl) rfl (fun z44 => ?_))
  refine TO.l rfl (l_buildSlice (m := 4) (parts := [(0, .const (.int .i64 5)), (1, .const (.int .i64 4)), (2, .const (.int .i64 9)), (3, .const (.int .i64 7))]) (cs := [.int .i64 5, .int .i64 4, .int .i64 9, .int .i64 7]) underlying23 inf3 (by decide) (by kernel_rfl) rfl (fun z45 => ?_))
  refine TO.q (q_build (cs := [.int .i64 1, (.int .i64 0), (.slice (some ⟨z44, 0, none⟩) 4 4), (.slice (some ⟨z45, 0, none⟩) 4 4)]) plan25 inf25 (by kernel_rfl)) ?_
  have hk151 := fun (w1 : World) (hI : Inv w [rowI (some ⟨z45, 0, none⟩) 4 3 1 [.int .i64 5, .int .i64 4, .int .i64 9, .int .i64 7], rowI (some ⟨z44, 0, none⟩) 4 23 1 [(.slice (some ⟨z40, 0, none⟩) 2 2), (.slice (some ⟨z41, 0, none⟩) 2 2), (.slice (some ⟨z42, 0, none⟩) 2 2), (.slice (some ⟨z43, 0, none⟩) 2 2)], rowI (some ⟨z43, 0, none⟩) 2 3 1 [.int .i64 3, .int .i64 3], rowI (some ⟨z42, 0, none⟩) 2 3 1 [.int .i64 3, .int .i64 3], rowI (some ⟨z41, 0, none⟩) 2 3 1 [.int .i64 0, .int .i64 1], rowI (some ⟨z40, 0, none⟩) 2 3 1 [.int .i64 1, .int .i64 2], oI z39 28 (lC l9 kl9), oI z28 25 (pC zerosP k0), lI 5 l9 kl9, pI 23 3 zerosP k0] w1) => (haveI := tbz hI; (show PureT _ _ _ _ _ from by
      have h9 := parRd w1 xpR ⟨some ⟨z44, 0, none⟩, 4, some ⟨z45, 0, none⟩, 4, [⟨some ⟨z40, 0, none⟩, 2, [1, 2]⟩, ⟨some ⟨z41, 0, none⟩, 2, [0, 1]⟩, ⟨some ⟨z42, 0, none⟩, 2, [3, 3]⟩, ⟨some ⟨z43, 0, none⟩, 2, [3, 3]⟩]⟩ (show AtP w1 xpR ⟨some ⟨z44, 0, none⟩, 4, some ⟨z45, 0, none⟩, 4, [⟨some ⟨z40, 0, none⟩, 2, [1, 2]⟩, ⟨some ⟨z41, 0, none⟩, 2, [0, 1]⟩, ⟨some ⟨z42, 0, none⟩, 2, [3, 3]⟩, ⟨some ⟨z43, 0, none⟩, 2, [3, 3]⟩]⟩ from ⟨hI.slOf (mG 1 rfl), rowsOf (qs := [⟨some ⟨z40, 0, none⟩, 2, [1, 2]⟩, ⟨some ⟨z41, 0, none⟩, 2, [0, 1]⟩, ⟨some ⟨z42, 0, none⟩, 2, [3, 3]⟩, ⟨some ⟨z43, 0, none⟩, 2, [3, 3]⟩]) (by
        intro q9 h9
        simp only [List.mem_cons, List.not_mem_nil, or_false] at h9
        rcases h9 with rfl | rfl | rfl | rfl
        · exact hI.slOf (cs := ints [1, 2]) (mG 5 rfl)
        · exact hI.slOf (cs := ints [0, 1]) (mG 4 rfl)
        · exact hI.slOf (cs := ints [3, 3]) (mG 3 rfl)
        · exact hI.slOf (cs := ints [3, 3]) (mG 2 rfl)), hI.slOf (cs := ints [5, 4, 9, 7]) (mG 0 rfl)⟩) xbR
      rw [hR, xcR] at h9
      exact h9))
  refine TO.l rfl (l_call ent25 (CallT.op hk151) rfl ?_)
  clear hk151
  rintro vr O' ⟨N, rfl, k2, rfl, rfl⟩
  refine TO.qm rfl (TO.q (q_extract (vs := _) rfl rfl) (TO.q (q_extract (vs := _) rfl rfl) ?_))
  refine TO.l rfl (l_alloc inf25 rfl (fun z46 => ?_))
  refine TO.l rfl (l_sb (v := (pV R k2)) (vs := (pC R k2)) 0 inf25 rfl rfl rfl rfl rfl rfl (by simp [putL]) ?_)
  refine TO.qa rfl ?_
  refine TO.sub (O' := [oI z46 25 (pC R k2), oI z39 28 (lC l9 kl9), oI z28 25 (pC zerosP k0), pI 23 3 R k2, lI 5 l9 kl9, pI 23 3 zerosP k0]) (Sub.pick [0, 7, 7, 0, 6, 6] rfl) ?_
  refine TO.nl ?_
  refine T.reset [oI z46 25 (pC R k2), oI z39 28 (lC l9 kl9), oI z28 25 (pC zerosP k0), pI 23 3 R k2, lI 5 l9 kl9, pI 23 3 zerosP k0] [(5, (.pointer (some ⟨z28, 0, none⟩))), (7, .int .i64 3), (9, .int .i64 1), (10, (.pointer (some ⟨z33, 0, none⟩))), (11, .int .i64 4), (12, (.pointer (some ⟨z37, 0, none⟩))), (14, .int .i64 7), (15, (.pointer (some ⟨z38, 0, none⟩))), (17, .int .i64 7), (18, (.pointer (some ⟨z39, 0, none⟩))), (19, .int .i64 0), (20, (.pointer (some ⟨z46, 0, none⟩))), (21, .int .i64 0)] rfl ⟨rfl, rfl, rfl, rfl, rfl, rfl, rfl, rfl, rfl, rfl, rfl, rfl, rfl, trivial⟩ (fun ρ0 => ?_)
  refine T.s (T.rg ?_)
  refine TO.qm rfl (TO.q (QT.toB (q_eql rfl rfl) (decide_eq_true (by first | rfl | decide | omega))) (TO.qm rfl ?_))
  refine TO.gd rfl rfl rfl (LT.oq rfl rfl (q_move rfl) ?_)
  refine TO.gd rfl rfl rfl (LT.oq rfl rfl (QT.toB (q_eql rfl rfl) (decide_eq_true (by first | rfl | decide | omega))) ?_)
  refine TO.q (q_pick1 rfl rfl) (TO.qm rfl ?_)
  refine TO.gd rfl rfl rfl (LT.oq rfl rfl (q_move rfl) ?_)
  refine TO.gd rfl rfl rfl (LT.oq rfl rfl (QT.toB (q_eql rfl rfl) (decide_eq_true (by first | rfl | decide | omega))) ?_)
  refine TO.q (q_pick1 rfl rfl) (TO.qm rfl ?_)
  refine TO.gd rfl rfl rfl (LT.oq rfl rfl (q_move rfl) ?_)
  refine TO.gd rfl rfl rfl (LT.oq rfl rfl (QT.toB (q_eql rfl rfl) (decide_eq_true (by first | rfl | decide | omega))) ?_)
  refine TO.q (q_pick1 rfl rfl) (TO.qm rfl ?_)
  refine TO.gd rfl rfl rfl (LT.oq rfl rfl (q_move rfl) ?_)
  refine TO.gd rfl rfl rfl (LT.oq rfl rfl (QT.toB (q_eql rfl rfl) (decide_eq_true (by first | rfl | decide | omega))) ?_)
  refine TO.q (q_pick1 rfl rfl) (TO.qm rfl ?_)
  refine TO.gd rfl rfl rfl (LT.oq rfl rfl (q_move rfl) ?_)
  refine TO.gd rfl rfl rfl (LT.oq rfl rfl (QT.toB (q_eql rfl rfl) (decide_eq_true (by first | rfl | decide | omega))) ?_)
  refine TO.q (q_pick1 rfl rfl) (TO.qm rfl ?_)
  refine TO.gd rfl rfl rfl (LT.oq rfl rfl (q_la 2 underlying25 rfl inf25 rfl rfl rfl) ?_)
  refine TO.gd rfl rfl rfl (LT.oq rfl rfl (q_la 1 underlying28 rfl inf28 rfl rfl rfl) ?_)
  have hk179 := fun (w1 : World) (hI : Inv w [oI z46 25 (pC R k2), oI z39 28 (lC l9 kl9), oI z28 25 (pC zerosP k0), pI 23 3 R k2, lI 5 l9 kl9, pI 23 3 zerosP k0] w1) => (haveI := tbz hI; (show PureT _ _ _ _ _ from by
      have h9 := accC w1 zerosP k0 (hI.atP (II := 23) (I := 3) (mG 5 rfl)) zeros_v.c l9 kl9 (hI.atL (U8 := 5) (mG 4 rfl)) hlb9
      rw [hac9] at h9
      exact h9))
  refine TO.gd rfl rfl rfl (l_call ent33 (CallT.op hk179) rfl ?_)
  clear hk179
  rintro vr O' ⟨N, rfl, rfl, rfl⟩
  refine TO.q (q_pick1 rfl rfl) (TO.qm rfl ?_)
  refine TO.gd rfl rfl rfl (LT.oq rfl rfl (q_move rfl) ?_)
  refine TO.gd rfl rfl rfl (LT.oq rfl rfl (QT.toB (q_eql rfl rfl) (decide_eq_true (by first | rfl | decide | omega))) ?_)
  refine TO.q (q_pick1 rfl rfl) (TO.qm rfl ?_)
  refine TO.gd rfl rfl rfl (LT.oq rfl rfl (q_fa underlying25 rfl inf23 rfl rfl) ?_)
  refine TO.gd rfl rfl rfl (LT.oq rfl rfl (q_lb 0 underlying23 rfl rfl rfl rfl) ?_)
  refine TO.gd rfl rfl rfl (l_buildSlice (m := 4) (parts := [(0, .const (.int .i64 1)), (1, .const (.int .i64 0)), (2, .const (.int .i64 0)), (3, .const (.int .i64 1))]) (cs := [.int .i64 1, .int .i64 0, .int .i64 0, .int .i64 1]) underlying23 inf3 (by decide) (by kernel_rfl) rfl (fun z47 => ?_))
  have hk189 := fun (w1 : World) (hI : Inv w [rowI (some ⟨z47, 0, none⟩) 4 3 1 [.int .i64 1, .int .i64 0, .int .i64 0, .int .i64 1], oI z46 25 (pC R k2), oI z39 28 (lC l9 kl9), oI z28 25 (pC zerosP k0), pI 23 3 R k2, lI 5 l9 kl9, pI 23 3 zerosP k0] w1) => (haveI := tbz hI; (show PureT _ _ _ _ _ from by
      have h9 := equalInts w1 k2.fb (some ⟨z47, 0, none⟩) k2.fc 4 R.prio [1, 0, 0, 1] (hI.atP (II := 23) (I := 3) (mG 4 rfl)).prio (hI.slOf (cs := ints [1, 0, 0, 1]) (mG 0 rfl)) (by rw [hRp]; decide)
      rw [decide_eq_true hRp] at h9
      exact h9))
  refine TO.gd rfl rfl rfl (l_call ent39 (CallT.op hk189) rfl ?_)
  clear hk189
  rintro vr O' ⟨N, rfl, rfl, rfl⟩
  refine TO.q (q_pick1 rfl rfl) (TO.qa rfl ?_)
  refine TO.nl (T.ret (Res.drop ?_))
  refine Res.one (.bool true) Tryd.results9 rfl ?_
  exact ⟨[], Sub.z, rfl, rfl⟩
end Go.Proofs.YtnikhiohindggaaDoor


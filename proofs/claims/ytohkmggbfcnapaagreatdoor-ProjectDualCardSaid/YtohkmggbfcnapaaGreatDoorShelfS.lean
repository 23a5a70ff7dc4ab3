/- Contracts of functions of the program (P5, Over, P8, JH, PjS, JI, PjU, JJ, JK, J6, J9, JA, JB, J5, JC, JD, PjT, ShelfS): what each call answers and that it leaves memory as it was. Conditions: those each theorem names. -/
import Derived.Test.YtohkmggbfcnapaaGreatDoorCoreK
import Derived.Test.YtohkmggbfcnapaaGreatDoorJG
import Derived.Test.YtohkmggbfcnapaaGreatDoorStr
import Derived.Test.YtohkmggbfcnapaaGreatDoorBol7
import Derived.Shelf.Sort.Plain
import Derived.Shelf.Slices.In.SortNone
import Derived.Test.YtohkmggbfcnapaaGreatDoorProg
set_option linter.unusedSectionVars false
set_option linter.unusedSimpArgs false
set_option linter.unusedVariables false
set_option linter.unnecessarySimpa false
set_option maxHeartbeats 8000000
set_option maxRecDepth 20000
namespace Go.Proofs.YtohkmggbfcnapaaGreatDoor
open Go.Lx Go.RowKit _root_.Go.Proofs.Tryz
theorem inclOk (w : World) [Tab Tryz.prog w] (a b : DFA) (j k : DK) (ha : At w a j) (hb : At w b k) (haa : a.next.length < 9223372036854775807) (haar : ∀ r ∈ a.next, r.length < 9223372036854775807) (haaf : a.final.length < 9223372036854775807) (hbb : b.next.length < 9223372036854775807) (hbbr : ∀ r ∈ b.next, r.length < 9223372036854775807) (hbbf : b.final.length < 9223372036854775807) (he : wrongD a b = 0) (vM : Valid (opD minusB a b)) (hml : (opD minusB a b).next.length ≤ 4095) (hN : (order (prodD minusB a b)).length ≤ 4096) :
    PureT Tryz.prog 36 [dV a j, dV b k] w fun v N => ∃ res wb wc, InclA a b res ∧ v = .tuple #[.slice wb (res.getD []).length wc, .bool (!res.isSome), .int .i64 0] ∧ N = [rowI wb wc 5 1 (byts (res.getD []))] := by
  refine CallT.enter func36 rfl ntmps36 rfl ?_
  obtain ⟨va, vb, hv⟩ := wrongD_zero.1 he
  obtain ⟨M, hM⟩ : ∃ M, opD minusB a b = M := ⟨_, rfl⟩
  rw [hM] at vM hml
  obtain ⟨L, hL⟩ : ∃ L, 2 ^ M.vars.toNat = L := ⟨_, rfl⟩
  have hw : L ≤ 64 := by rw [← hL]; exact vM.width
  obtain ⟨m, hm⟩ : ∃ m, M.next.length = m := ⟨_, rfl⟩
  have vS := sinkD_valid vM (by omega)
  have hmf := vM.fin
  refine T.s (T.rg ?_)
  refine TO.l rfl (l_box (v := (dV a j)) (cs := (dC a j)) rfl rfl (fun z1 => ?_))
  refine TO.l rfl (l_box (v := (dV b k)) (cs := (dC b k)) rfl rfl (fun z2 => ?_))
  refine TO.qa rfl (TO.qa rfl (TO.qa rfl ?_))
  refine TO.nl (T.s (T.rg ?_))
  refine TO.q (q_la 1 underlying25 rfl inf25 rfl rfl rfl) (TO.q (q_la 0 underlying25 rfl inf25 rfl rfl rfl) ?_)
  have hk15 := fun (w1 : World) (hI : Inv w [oI z2 25 (dC b k), oI z1 25 (dC a j)] w1) => (haveI := tbz hI; (show PureT _ _ _ _ _ from by have h9 := minusC w1 a b j k (hI.atB ha) (hI.atB hb) haa haar haaf hbb hbbr hbbf (fun _ => hN); rw [opV_ok he, he, hM] at h9; exact h9))
  refine TO.l rfl (l_call ent77 (CallT.op hk15) rfl ?_)
  clear hk15
  rintro vr O' ⟨N, rfl, k', rfl, rfl⟩
  refine TO.qm rfl (TO.q (q_extract (vs := _) rfl rfl) (TO.q (q_extract (vs := _) rfl rfl) ?_))
  refine TO.l rfl (l_alloc inf25 rfl (fun z3 => ?_))
  refine TO.l rfl (l_sb (v := (dV M k')) (vs := (dC M k')) 0 inf25 rfl rfl rfl rfl rfl rfl (by simp [putL]) ?_)
  refine TO.qa rfl ?_
  refine TO.nl (T.s (T.s (T.rg ?_)))
  refine TO.qm rfl (TO.q (q_neq rfl rfl) ?_)
  refine TO.nl ?_
  refine T.cond0 rfl ?_
  refine T.skip (T.s ?_)
  refine T.sub (O' := [dI 37 4 3 M k', oI z3 25 (dC M k'), oI z2 25 (dC b k), oI z1 25 (dC a j)]) (by exact Sub.pull [oI z3 25 (dC M k')] _ (.k (.k (.k .z)))) ?_
  refine T.unpack (fun hqs => ?_)
  refine T.sub (O' := ([rowI k'.nb k'.nc 37 1 (vals k'.qs), rowI k'.fb k'.fc 4 1 (bools M.final), oI z3 25 (dC M k'), oI z2 25 (dC b k), oI z1 25 (dC a j)] ++ itms 3 k'.qs)) (by exact Sub.swap3 [rowI k'.nb k'.nc 37 1 (vals k'.qs), rowI k'.fb k'.fc 4 1 (bools M.final)] [oI z3 25 (dC M k'), oI z2 25 (dC b k), oI z1 25 (dC a j)] (itms 3 k'.qs)) ?_
  refine T.rg ?_
  refine TO.q (q_fa underlying25 rfl inf22 rfl rfl) (TO.q (q_lb 2 underlying22 rfl rfl rfl rfl) (TO.q (QT.cast (q_len underlying22 rfl) (v' := .int .i64 ((m : Nat) : Int)) (by rw [hm])) (TO.qa rfl ?_)))
  refine TO.nl (T.s (T.rg ?_))
  refine TO.q (q_fa underlying25 rfl inf3 rfl rfl) (TO.q (q_lb 2 underlying3 rfl rfl rfl rfl) (TO.q (QT.cast (q_shl1 (v := M.vars.toNat) rfl (by show Value.int _ M.vars = _; rw [Int.toNat_of_nonneg vM.v0]) (by have := vM.v6; omega)) (v' := .int .i64 ((L : Nat) : Int)) (by rw [hL])) ?_))
  refine TO.l rfl (l_makeSlice (m := L) underlying37 inf3 rfl rfl (by omega) (by omega) (fun z4 => ?_))
  refine TO.qa rfl ?_
  refine TO.nl (T.s (T.s (T.rg ?_)))
  refine TO.qm rfl (TO.q (q_len underlying37 rfl) (TO.qm rfl ?_))
  refine TO.nl (T.block ?_)
  refine T.loop (fun (x : Nat) ρ O => ∃ (ys : List Int), O = ([rowI (some ⟨z4, 0, none⟩) L 3 1 (ints ys), rowI k'.nb k'.nc 37 1 (vals k'.qs), rowI k'.fb k'.fc 4 1 (bools M.final), oI z3 25 (dC M k'), oI z2 25 (dC b k), oI z1 25 (dC a j)] ++ (itms 3 k'.qs)) ∧ x ≤ L ∧ ys.length = L ∧ (∀ y, y < x → ys[y]? = some (m : Int)) ∧ Heads [(0, (dV a j)), (1, (dV b k)), (2, (.pointer (some ⟨z1, 0, none⟩))), (3, (.pointer (some ⟨z2, 0, none⟩))), (4, (.slice none 0 0)), (5, .bool false), (6, .int .i64 0), (7, (.pointer (some ⟨z3, 0, none⟩))), (8, .int .i64 ((m : Nat) : Int)), (9, (.slice (some ⟨z4, 0, none⟩) L L)), (29, .int .i64 (L : Int)), (30, .int .i64 ((x : Nat) : Int))] ρ) (fun x => L - x) 0 ?_ ?_
  · refine ⟨List.replicate L 0, ?_, Nat.zero_le _, by simp, fun y hy9 => absurd hy9 (by omega), ⟨rfl, rfl, rfl, rfl, rfl, rfl, rfl, rfl, rfl, rfl, rfl, rfl, trivial⟩⟩
    rw [show List.replicate L (Value.int .i64 0) = ints (List.replicate L 0) by simp]; rfl
  rintro x ρ O ⟨ys, rfl, hx, hyl, hys, hH⟩
  obtain ⟨ρ0, rfl⟩ := hH.elim
  clear hH
  refine T.s (T.rg ?_)
  refine TO.q (q_lss rfl rfl) ?_
  refine TO.nl (T.s ?_)
  refine T.condP rfl (fun hc => ?_) (fun hc => ?_)
  · have hlt31 : x < L := by omega
    refine T.skip (T.s (T.block (T.s (T.rg ?_))))
    refine TO.qm rfl (TO.qa rfl ?_)
    refine TO.nl (T.rg ?_)
    refine TO.qm rfl (TO.qm rfl (TO.qm rfl (TO.q (q_ix (i := x) underlying37 inf3 rfl rfl (rowO (mG 0 rfl))) ?_)))
    refine TO.l rfl (l_st (j := x) (v := .int .i64 ((m : Nat) : Int)) (vs := [(.int .i64 ((m : Nat) : Int))]) (cs := ints ys) 0 inf3 rfl rfl rfl rfl rfl (by simp) rfl (by first | (simp; omega) | (simp_all; omega)) ?_)
    refine TO.sub (O' := ([rowI (some ⟨z4, 0, none⟩) L 3 1 (ints (ys.set x (m : Int))), rowI k'.nb k'.nc 37 1 (vals k'.qs), rowI k'.fb k'.fc 4 1 (bools M.final), oI z3 25 (dC M k'), oI z2 25 (dC b k), oI z1 25 (dC a j)] ++ (itms 3 k'.qs))) (by rw [show putL (ints ys) x [(.int .i64 ((m : Nat) : Int))] = ints (ys.set x (m : Int)) from by simp [putL]]; exact Sub.of (List.Sublist.refl _)) ?_
    refine TO.nl (T.rg ?_)
    refine TO.q (q_addN (a := x) (b := 1) rfl rfl (by omega)) (TO.qm rfl ?_)
    refine TO.nl ?_
    refine ⟨x + 1, by omega, ys.set x (m : Int), rfl, by omega, by simp [hyl], fun y hy9 => ?_, ⟨rfl, rfl, rfl, rfl, rfl, rfl, rfl, rfl, rfl, rfl, rfl, rfl, trivial⟩⟩
    by_cases e : y = x
    · subst e; rw [List.getElem?_set_self (by omega)]
    · rw [List.getElem?_set_ne (fun h => e h.symm)]; exact hys y (by omega)
  have hge31 : ¬ x < L := by omega
  refine T.exit ?_
  refine T.cut (fun ρ O => ∃ (nb2 : Option Addr) (nc2 : Nat) (fb2 : Option Addr) (fc2 : Nat), O = ([rowI (some ⟨z4, 0, none⟩) L 3 1 (ints ys), rowI nb2 nc2 37 1 ((vals k'.qs) ++ [(.slice (some ⟨z4, 0, none⟩) L L)]), rowI fb2 fc2 4 1 ((bools M.final) ++ [.bool false]), oI z3 25 [(.int .i64 M.vars), (.int .i64 M.start), (.slice nb2 (M.next.length + 1) nc2), (.slice fb2 (M.final.length + 1) fc2)], oI z2 25 (dC b k), oI z1 25 (dC a j)] ++ (itms 3 k'.qs)) ∧ Heads [(0, (dV a j)), (1, (dV b k)), (2, (.pointer (some ⟨z1, 0, none⟩))), (3, (.pointer (some ⟨z2, 0, none⟩))), (4, (.slice none 0 0)), (5, .bool false), (6, .int .i64 0), (7, (.pointer (some ⟨z3, 0, none⟩))), (8, .int .i64 ((m : Nat) : Int)), (9, (.slice (some ⟨z4, 0, none⟩) L L))] ρ) ?_ ?_
  · refine T.treeT [oI z3 25 (dC M k'), oI z2 25 (dC b k), oI z1 25 (dC a j)] [10, 12] 13 mixed rfl (by exact Sub.d (.d (.d (.k (.k (.k .z)))))) (fun _ _ _ h => h) ?_
    refine RO.quietTT 0 rfl (by kernel_rfl) (q_fa underlying25 rfl inf22 rfl rfl) ?_
    refine RO.quietTT 1 rfl (by kernel_rfl) (q_lb 0 underlying22 rfl rfl rfl rfl) ?_
    refine RO.quietTT 2 rfl (by kernel_rfl) (q_move rfl) ?_
    refine RO.quietTT 5 rfl (by kernel_rfl) (q_fa underlying25 rfl inf23 rfl rfl) ?_
    refine RO.quietTT 6 rfl (by kernel_rfl) (q_lb 0 underlying23 rfl rfl rfl rfl) ?_
    refine RO.forkT [3, 7] (by kernel_rfl) rfl ⟨⟨_, rfl, rfl, l_build1 (v := (.slice (some ⟨z4, 0, none⟩) L L)) underlying22 inf37 rfl rfl rfl (fun tr => ⟨.inr (by exact Sub.d (.d (.d (.d (.k (.k (.k .z))))))), ?_⟩)⟩, ⟨_, rfl, rfl, l_build1 (v := .bool false) underlying23 inf4 rfl rfl rfl (fun tf => ⟨.inr (by exact Sub.d (.d (.d (.d (.k (.k (.k .z))))))), ?_⟩)⟩, trivial⟩ (by kernel_rfl)
    · refine RO.forkT [4, 7] (by kernel_rfl) rfl ⟨⟨_, rfl, rfl, l_append 2 underlying22 underlying22 inf37 rfl rfl rfl rfl (by rw [List.length_map]; have := congrArg List.length hqs; simpa using this) (by decide) (Src.row (j := 0) rfl (by simp)) (by simp [oneB]) (by omega) (by decide) (by decide) (fun nb2 nc2 => ⟨.inr (by exact Sub.d (.d (.d (.d (.k (.k (.k .z))))))), ?_⟩)⟩, ⟨_, rfl, rfl, l_build1 (v := .bool false) underlying23 inf4 rfl rfl rfl (fun tf => ⟨.inr (by exact Sub.d (.d (.d (.d (.d (.k (.k (.k .z)))))))), ?_⟩)⟩, trivial⟩ (by kernel_rfl)
      · refine RO.quietTT 9 rfl (by kernel_rfl) (q_fa underlying25 rfl inf22 rfl rfl) ?_
        refine RO.forkT [7] (by kernel_rfl) rfl ⟨⟨_, rfl, rfl, l_build1 (v := .bool false) underlying23 inf4 rfl rfl rfl (fun tf => ⟨.inr (by exact Sub.d (.d (.d (.d (.d (.k (.k (.k .z)))))))), ?_⟩)⟩, trivial⟩ (by kernel_rfl)
        refine RO.forkT [8] (by kernel_rfl) rfl ⟨⟨_, rfl, rfl, l_append 4 underlying23 underlying23 inf4 rfl rfl rfl rfl (by simp) (by decide) (Src.row (j := 0) rfl (by simp)) (by simp [oneB]) (by omega) (by decide) (by decide) (fun fb2 fc2 => ⟨.inr (by exact Sub.d (.d (.d (.d (.d (.k (.k (.k .z)))))))), ?_⟩)⟩, trivial⟩ (by kernel_rfl)
        refine RO.forkT [10] (by kernel_rfl) rfl ⟨⟨_, rfl, rfl, l_sb (v := (.slice nb2 (M.next.length + 1) nc2)) (vs := [(.slice nb2 (M.next.length + 1) nc2)]) 5 inf22 rfl rfl rfl rfl rfl rfl (by simp [putL]) ⟨.inl (by decide), ?_⟩⟩, trivial⟩ (by kernel_rfl)
        refine RO.quietE 11 rfl (by kernel_rfl) (q_fa underlying25 rfl inf23 rfl rfl) ?_
        refine RO.forkT [12] (by kernel_rfl) rfl ⟨⟨_, rfl, rfl, l_sb (v := (.slice fb2 (M.final.length + 1) fc2)) (vs := [(.slice fb2 (M.final.length + 1) fc2)]) 5 inf23 rfl rfl rfl rfl rfl rfl (by simp [putL]) ⟨.inl (by decide), ?_⟩⟩, trivial⟩ (by kernel_rfl)
        exact RO.fin (by kernel_rfl) ⟨nb2, nc2, fb2, fc2, rfl, ⟨rfl, rfl, rfl, rfl, rfl, rfl, rfl, rfl, rfl, rfl, trivial⟩⟩ (by exact Sub.d (.d (.k (.k (.k (.k (.k (.k .rf))))))))
      refine RO.forkT [4] (by kernel_rfl) rfl ⟨⟨_, rfl, rfl, l_append 3 underlying22 underlying22 inf37 rfl rfl rfl rfl (by rw [List.length_map]; have := congrArg List.length hqs; simpa using this) (by decide) (Src.row (j := 1) rfl (by simp)) (by simp [oneB]) (by omega) (by decide) (by decide) (fun nb2 nc2 => ⟨.inr (by exact Sub.d (.d (.d (.d (.d (.k (.k (.k .z)))))))), ?_⟩)⟩, trivial⟩ (by kernel_rfl)
      refine RO.quietTT 9 rfl (by kernel_rfl) (q_fa underlying25 rfl inf22 rfl rfl) ?_
      refine RO.forkT [8] (by kernel_rfl) rfl ⟨⟨_, rfl, rfl, l_append 4 underlying23 underlying23 inf4 rfl rfl rfl rfl (by simp) (by decide) (Src.row (j := 0) rfl (by simp)) (by simp [oneB]) (by omega) (by decide) (by decide) (fun fb2 fc2 => ⟨.inr (by exact Sub.d (.d (.d (.d (.d (.k (.k (.k .z)))))))), ?_⟩)⟩, trivial⟩ (by kernel_rfl)
      refine RO.forkT [10] (by kernel_rfl) rfl ⟨⟨_, rfl, rfl, l_sb (v := (.slice nb2 (M.next.length + 1) nc2)) (vs := [(.slice nb2 (M.next.length + 1) nc2)]) 5 inf22 rfl rfl rfl rfl rfl rfl (by simp [putL]) ⟨.inl (by decide), ?_⟩⟩, trivial⟩ (by kernel_rfl)
      refine RO.quietE 11 rfl (by kernel_rfl) (q_fa underlying25 rfl inf23 rfl rfl) ?_
      refine RO.forkT [12] (by kernel_rfl) rfl ⟨⟨_, rfl, rfl, l_sb (v := (.slice fb2 (M.final.length + 1) fc2)) (vs := [(.slice fb2 (M.final.length + 1) fc2)]) 5 inf23 rfl rfl rfl rfl rfl rfl (by simp [putL]) ⟨.inl (by decide), ?_⟩⟩, trivial⟩ (by kernel_rfl)
      exact RO.fin (by kernel_rfl) ⟨nb2, nc2, fb2, fc2, rfl, ⟨rfl, rfl, rfl, rfl, rfl, rfl, rfl, rfl, rfl, rfl, trivial⟩⟩ (by exact Sub.d (.d (.k (.k (.k (.k (.k (.k .rf))))))))
    refine RO.forkT [3] (by kernel_rfl) rfl ⟨⟨_, rfl, rfl, l_build1 (v := (.slice (some ⟨z4, 0, none⟩) L L)) underlying22 inf37 rfl rfl rfl (fun tr => ⟨.inr (by exact Sub.d (.d (.d (.d (.d (.k (.k (.k .z)))))))), ?_⟩)⟩, trivial⟩ (by kernel_rfl)
    refine RO.forkT [4] (by kernel_rfl) rfl ⟨⟨_, rfl, rfl, l_append 3 underlying22 underlying22 inf37 rfl rfl rfl rfl (by rw [List.length_map]; have := congrArg List.length hqs; simpa using this) (by decide) (Src.row (j := 0) rfl (by simp)) (by simp [oneB]) (by omega) (by decide) (by decide) (fun nb2 nc2 => ⟨.inr (by exact Sub.d (.d (.d (.d (.d (.k (.k (.k .z)))))))), ?_⟩)⟩, trivial⟩ (by kernel_rfl)
    refine RO.quietTT 9 rfl (by kernel_rfl) (q_fa underlying25 rfl inf22 rfl rfl) ?_
    refine RO.forkT [8] (by kernel_rfl) rfl ⟨⟨_, rfl, rfl, l_append 4 underlying23 underlying23 inf4 rfl rfl rfl rfl (by simp) (by decide) (Src.row (j := 1) rfl (by simp)) (by simp [oneB]) (by omega) (by decide) (by decide) (fun fb2 fc2 => ⟨.inr (by exact Sub.d (.d (.d (.d (.d (.k (.k (.k .z)))))))), ?_⟩)⟩, trivial⟩ (by kernel_rfl)
    refine RO.forkT [10] (by kernel_rfl) rfl ⟨⟨_, rfl, rfl, l_sb (v := (.slice nb2 (M.next.length + 1) nc2)) (vs := [(.slice nb2 (M.next.length + 1) nc2)]) 5 inf22 rfl rfl rfl rfl rfl rfl (by simp [putL]) ⟨.inl (by decide), ?_⟩⟩, trivial⟩ (by kernel_rfl)
    refine RO.quietE 11 rfl (by kernel_rfl) (q_fa underlying25 rfl inf23 rfl rfl) ?_
    refine RO.forkT [12] (by kernel_rfl) rfl ⟨⟨_, rfl, rfl, l_sb (v := (.slice fb2 (M.final.length + 1) fc2)) (vs := [(.slice fb2 (M.final.length + 1) fc2)]) 5 inf23 rfl rfl rfl rfl rfl rfl (by simp [putL]) ⟨.inl (by decide), ?_⟩⟩, trivial⟩ (by kernel_rfl)
    exact RO.fin (by kernel_rfl) ⟨nb2, nc2, fb2, fc2, rfl, ⟨rfl, rfl, rfl, rfl, rfl, rfl, rfl, rfl, rfl, rfl, trivial⟩⟩ (by exact Sub.d (.d (.k (.k (.k (.k (.k (.k .rf))))))))
  rintro ρ O ⟨nb2, nc2, fb2, fc2, rfl, hH⟩
  obtain ⟨ρ0, rfl⟩ := hH.elim
  clear hH
  refine T.s (T.s ?_)
  have hye : ys = List.replicate (2 ^ M.vars.toNat) (m : Int) := by
    apply List.ext_getElem?
    intro y
    by_cases hy9 : y < L
    · rw [hys y (by omega), List.getElem?_replicate, if_pos (by rw [hL]; exact hy9)]
    · rw [List.getElem?_eq_none (by omega), List.getElem?_eq_none (by rw [List.length_replicate, hL]; omega)]
  have hvq : vals (k'.qs ++ [⟨some ⟨z4, 0, none⟩, L, ys⟩]) = vals k'.qs ++ [(.slice (some ⟨z4, 0, none⟩) L L)] := by simp [Rec.val, hyl]
  have hbq : bools (sinkD M).final = bools M.final ++ [.bool false] := by simp [sinkD]
  have hnq : nums (k'.qs ++ [⟨some ⟨z4, 0, none⟩, L, ys⟩]) = (sinkD M).next := by
    show List.map Rec.xs (k'.qs ++ [_]) = _
    rw [List.map_append, show List.map Rec.xs k'.qs = _ from hqs]; show _ ++ [ys] = _; rw [hye, ← hm]; rfl
  obtain ⟨z9, hz9⟩ : ∃ z : DK, z = ⟨nb2, nc2, fb2, fc2, k'.qs ++ [⟨some ⟨z4, 0, none⟩, L, ys⟩]⟩ := ⟨_, rfl⟩
  obtain ⟨W, hW⟩ : ∃ W, W = sinkD M := ⟨_, rfl⟩
  have vW : Valid W := hW ▸ vS
  have hWl : W.next.length = M.next.length + 1 := by rw [hW, sinkD_len]
  refine T.sub (O' := ([rowI nb2 nc2 37 1 ((vals k'.qs) ++ [(.slice (some ⟨z4, 0, none⟩) L L)]), rowI fb2 fc2 4 1 ((bools M.final) ++ [.bool false]), rowI (some ⟨z4, 0, none⟩) L 3 1 (ints ys), oI z3 25 [(.int .i64 M.vars), (.int .i64 M.start), (.slice nb2 (M.next.length + 1) nc2), (.slice fb2 (M.final.length + 1) fc2)], oI z2 25 (dC b k), oI z1 25 (dC a j)] ++ itms 3 k'.qs)) (by exact Sub.pull [rowI (some ⟨z4, 0, none⟩) L 3 1 (ints ys)] _ (.pull [rowI (some ⟨z4, 0, none⟩) L 3 1 (ints ys)] _ (.k (.k (.k (.k .rf)))))) ?_
  refine T.sub (O' := (([rowI nb2 nc2 37 1 (vals (k'.qs ++ [⟨some ⟨z4, 0, none⟩, L, ys⟩])), rowI fb2 fc2 4 1 (bools (sinkD M).final)] ++ itms 3 (k'.qs ++ [⟨some ⟨z4, 0, none⟩, L, ys⟩])) ++ [oI z3 25 [(.int .i64 (sinkD M).vars), (.int .i64 (sinkD M).start), (.slice nb2 ((sinkD M).next.length) nc2), (.slice fb2 ((sinkD M).final.length) fc2)], oI z2 25 (dC b k), oI z1 25 (dC a j)])) (by rw [hvq, hbq, show (sinkD M).next.length = M.next.length + 1 from sinkD_len _, show (sinkD M).final.length = M.final.length + 1 from sinkD_flen _]; exact Sub.fold [rowI nb2 nc2 37 1 ((vals k'.qs) ++ [(.slice (some ⟨z4, 0, none⟩) L L)]), rowI fb2 fc2 4 1 ((bools M.final) ++ [.bool false])] (rowI (some ⟨z4, 0, none⟩) L 3 1 (ints ys)) [oI z3 25 [(.int .i64 M.vars), (.int .i64 M.start), (.slice nb2 (M.next.length + 1) nc2), (.slice fb2 (M.final.length + 1) fc2)], oI z2 25 (dC b k), oI z1 25 (dC a j)] (itms 3 k'.qs) _ (itms_snoc 3 k'.qs ⟨some ⟨z4, 0, none⟩, L, ys⟩)) ?_
  refine T.pack (φ := nums (k'.qs ++ [⟨some ⟨z4, 0, none⟩, L, ys⟩]) = (sinkD M).next) hnq ?_
  refine T.sub (O' := [dI 37 4 3 W z9, oI z3 25 (dC W z9), oI z2 25 (dC b k), oI z1 25 (dC a j)]) (by subst hz9; subst hW; exact Sub.rf) ?_
  refine T.rg ?_
  refine TO.q (q_fa underlying25 rfl inf22 rfl rfl) (TO.q (q_lb 1 underlying22 rfl rfl rfl rfl) (TO.q (q_len underlying22 rfl) (TO.q (QT.toB (q_gtr rfl rfl) (decide_eq_false (by omega))) ?_)))
  refine TO.nl ?_
  refine T.cond0 rfl ?_
  refine T.skip (T.s (T.rg ?_))
  refine TO.q (q_la 1 underlying25 rfl inf25 rfl rfl rfl) (TO.q (q_fa underlying25 rfl inf3 rfl rfl) (TO.q (q_lb 1 underlying3 rfl rfl rfl rfl) (TO.qm rfl ?_)))
  have hk60 := fun (w1 : World) (hI : Inv w [dI 37 4 3 W z9, oI z3 25 (dC W z9), oI z2 25 (dC b k), oI z1 25 (dC a j)] w1) => (haveI := tbz hI; distA w1 W z9.nb z9.fb z9.nc z9.fc (vals z9.qs) (hI.at (k := z9) (mG 0 rfl)) (by have := vW.n4; omega) vW.bound (by have := vW.fin; have := vW.n4; omega) (fun _ => by omega) W.start (m : Int))
  refine TO.l rfl (l_call ent79 (CallT.op hk60) rfl ?_)
  clear hk60
  rintro vr O' ⟨N, rfl, res, wb, wc, hT, rfl, rfl⟩
  refine TO.qm rfl (TO.q (q_extract (vs := _) rfl rfl) (TO.q (q_extract (vs := _) rfl rfl) (TO.q (q_extract (vs := _) rfl rfl) ?_)))
  refine TO.qa rfl (TO.qa rfl (TO.qa rfl ?_))
  refine TO.nl (T.s (T.rg ?_))
  refine TO.qm rfl (TO.qm rfl (TO.q (q_not rfl) (TO.qm rfl ?_)))
  refine TO.qa rfl (TO.qa rfl (TO.qa rfl ?_))
  refine TO.nl (T.ret (Res.drop ?_))
  refine Res.three (.slice wb ((res.getD []).length) wc) (.bool (!res.isSome)) (.int .i64 (eD W W.start (m : Int) : Int)) Tryz.results36 rfl rfl rfl ?_
  subst hW
  have e0 : eD (sinkD M) (sinkD M).start (m : Int) = 0 := by rw [← hm]; exact sink_eD vM (by omega)
  exact ⟨[rowI wb wc 5 1 (byts (res.getD []))], (by exact Sub.k .z), res, wb, wc, (InclA.ok he).2 (hM.symm ▸ sink_least vM (by omega) (by rw [hm]; exact hT)), by rw [e0]; rfl, rfl⟩
end Go.Proofs.YtohkmggbfcnapaaGreatDoor


namespace Go.Proofs.YtohkmggbfcnapaaGreatDoor
open Go.Lx Go.RowKit _root_.Go.Proofs.Tryz
end Go.Proofs.YtohkmggbfcnapaaGreatDoor


namespace Go.Proofs.YtohkmggbfcnapaaGreatDoor
open Go.Lx Go.RowKit _root_.Go.Proofs.Tryz
end Go.Proofs.YtohkmggbfcnapaaGreatDoor


namespace Go.Proofs.YtohkmggbfcnapaaGreatDoor
open Go.Lx Go.RowKit _root_.Go.Proofs.Tryz
end Go.Proofs.YtohkmggbfcnapaaGreatDoor


namespace Go.Lx
open Go.RowKit
def reR (a : DFA) (L : Nat) (im : Nat → Nat) (s : Nat) : List Int := (List.range (L)).map fun x => ((toN a s (im x) : Nat) : Int)
def reP (a : DFA) (L : Nat) (im : Nat → Nat) (s x : Nat) : List Int := (List.range (L)).map fun y => if y < x then ((toN a s (im y) : Nat) : Int) else 0
theorem reR_len (a : DFA) (L : Nat) (im : Nat → Nat) (s : Nat) : (reR a L im s).length = L := by simp [reR]
theorem reP_len (a : DFA) (L : Nat) (im : Nat → Nat) (s x : Nat) : (reP a L im s x).length = L := by simp [reP]
theorem reP_zero (a : DFA) (L : Nat) (im : Nat → Nat) (s : Nat) : List.replicate (L) (Value.int .i64 0) = ints (reP a L im s 0) := by
  apply List.ext_getElem (by simp [reP])
  intro i h1 h2
  simp [reP]
theorem reP_full (a : DFA) (L : Nat) (im : Nat → Nat) (s : Nat) : reP a L im s (L) = reR a L im s := by
  unfold reP reR
  refine List.map_congr_left fun y hy => ?_
  rw [if_pos (List.mem_range.1 hy)]
theorem reP_set {a : DFA} {L : Nat} {im : Nat → Nat} {s x : Nat} (hx : x < L) : (reP a L im s x).set x ((toN a s (im x) : Nat) : Int) = reP a L im s (x + 1) := by
  apply List.ext_getElem (by simp [reP])
  intro i h1 h2
  rw [List.getElem_set]
  simp only [reP, List.getElem_map, List.getElem_range]
  by_cases e : x = i
  · subst e; simp
  · by_cases h : i < x
    · rw [if_neg e, if_pos h, if_pos (by omega)]
    · rw [if_neg e, if_neg h, if_neg (by omega)]
theorem re_next (a : DFA) (m L : Nat) (im : Nat → Nat) (hL : 2 ^ m = L) : (reD a (m : Int) im).next = (List.range a.next.length).map (reR a L im) := by subst hL; rfl
end Go.Lx


namespace Go.Proofs.YtohkmggbfcnapaaGreatDoor
open Go.Lx Go.RowKit _root_.Go.Proofs.Tryz
end Go.Proofs.YtohkmggbfcnapaaGreatDoor


namespace Go.Lx
open Go.RowKit
end Go.Lx


namespace Go.Proofs.YtohkmggbfcnapaaGreatDoor
open Go.Lx Go.RowKit _root_.Go.Proofs.Tryz
end Go.Proofs.YtohkmggbfcnapaaGreatDoor


namespace Go.Proofs.YtohkmggbfcnapaaGreatDoor
open Go.Lx Go.RowKit _root_.Go.Proofs.Tryz
end Go.Proofs.YtohkmggbfcnapaaGreatDoor


namespace Go.Proofs.YtohkmggbfcnapaaGreatDoor
open Go.Lx Go.RowKit _root_.Go.Proofs.Tryz
theorem dropF (base : World) [Tab Tryz.prog base] (lb v x : Nat) (hv : v < 6) (hx : x < 32) :
    CallT Tryz.prog base 63 [.int .u8 ((x : Nat) : Int), .pointer (some ⟨lb, 0, none⟩)] [oI lb 5 [(.int .u8 ((2 ^ v - 1 : Nat) : Int))]] (fun r O' => r = .int .u8 ((drp v x : Nat) : Int) ∧ O' = [oI lb 5 [(.int .u8 ((2 ^ v - 1 : Nat) : Int))]]) := by
  refine CallT.enter func63 rfl ntmps63 rfl ?_
  have hp : 2 ^ v ≤ 2 ^ 5 := Nat.pow_le_pow_right (by decide) (by omega)
  have h1 : x &&& (2 ^ v - 1) ≤ x := Nat.and_le_left
  have h2 : x &&& (255 - (2 ^ v - 1)) ≤ x := Nat.and_le_left
  have h3 : (x >>> 1) &&& (255 - (2 ^ v - 1)) ≤ x >>> 1 := Nat.and_le_left
  have h4 : x >>> 1 ≤ x := by rw [Nat.shiftRight_eq_div_pow]; omega
  refine T.s (T.rg ?_)
  refine TO.qa rfl ?_
  refine TO.nl (T.s (T.rg ?_))
  refine TO.qm rfl (TO.q (q_lb 0 underlying5 rfl rfl rfl rfl) (TO.q (q_and (a := x) (b := 2 ^ v - 1) .u8 rfl rfl (by simp only [IntKind.bits]; omega) (by simp only [IntKind.bits]; omega)) (TO.qm rfl ?_)))
  refine TO.q (q_lb 0 underlying5 rfl rfl rfl rfl) (TO.q (q_andNot8 (a := x) (b := 2 ^ v - 1) rfl rfl (by omega) (by omega)) (TO.q (q_shlU (a := x &&& (255 - (2 ^ v - 1))) (b := 1) .u8 rfl rfl (by decide) (by simp only [IntKind.bits]; omega)) (TO.q (QT.cast (q_or (a := x &&& (2 ^ v - 1)) (b := (x &&& (255 - (2 ^ v - 1))) * 2 ^ 1) .u8 rfl rfl (by simp only [IntKind.bits]; omega) (by simp only [IntKind.bits]; omega)) (v' := .int .u8 ((drp v x : Nat) : Int)) (by rw [drp_prog2 v hv x hx])) ?_)))
  refine TO.qa rfl ?_
  refine TO.nl (T.ret ?_)
  refine Res.one (.int .u8 ((drp v x : Nat) : Int)) Tryz.results63 rfl ?_
  exact ⟨rfl, rfl⟩
theorem insF (base : World) [Tab Tryz.prog base] (lb v x : Nat) (hv : v < 6) (hx : x < 64) :
    CallT Tryz.prog base 64 [.int .u8 ((x : Nat) : Int), .pointer (some ⟨lb, 0, none⟩)] [oI lb 5 [(.int .u8 ((2 ^ v - 1 : Nat) : Int))]] (fun r O' => r = .int .u8 ((cut v x : Nat) : Int) ∧ O' = [oI lb 5 [(.int .u8 ((2 ^ v - 1 : Nat) : Int))]]) := by
  refine CallT.enter func64 rfl ntmps64 rfl ?_
  have hp : 2 ^ v ≤ 2 ^ 5 := Nat.pow_le_pow_right (by decide) (by omega)
  have h1 : x &&& (2 ^ v - 1) ≤ x := Nat.and_le_left
  have h2 : x &&& (255 - (2 ^ v - 1)) ≤ x := Nat.and_le_left
  have h3 : (x >>> 1) &&& (255 - (2 ^ v - 1)) ≤ x >>> 1 := Nat.and_le_left
  have h4 : x >>> 1 ≤ x := by rw [Nat.shiftRight_eq_div_pow]; omega
  refine T.s (T.rg ?_)
  refine TO.qa rfl ?_
  refine TO.nl (T.s (T.rg ?_))
  refine TO.qm rfl (TO.q (q_lb 0 underlying5 rfl rfl rfl rfl) (TO.q (q_and (a := x) (b := 2 ^ v - 1) .u8 rfl rfl (by simp only [IntKind.bits]; omega) (by simp only [IntKind.bits]; omega)) (TO.qm rfl ?_)))
  refine TO.q (q_shr (a := x) (b := 1) .u8 rfl rfl (by simp only [IntKind.bits]; omega) (by decide)) (TO.q (q_lb 0 underlying5 rfl rfl rfl rfl) (TO.q (q_andNot8 (a := x >>> 1) (b := 2 ^ v - 1) rfl rfl (by omega) (by omega)) (TO.q (QT.cast (q_or (a := x &&& (2 ^ v - 1)) (b := (x >>> 1) &&& (255 - (2 ^ v - 1))) .u8 rfl rfl (by simp only [IntKind.bits]; omega) (by simp only [IntKind.bits]; omega)) (v' := .int .u8 ((cut v x : Nat) : Int)) (by rw [cut_prog v hv x hx])) ?_)))
  refine TO.qa rfl ?_
  refine TO.nl (T.ret ?_)
  refine Res.one (.int .u8 ((cut v x : Nat) : Int)) Tryz.results64 rfl ?_
  exact ⟨rfl, rfl⟩
theorem renF (base : World) [Tab Tryz.prog base] (pb pc y : Nat) (pp : Option Addr) (l : List Nat) (hs : Sl base pp (intN l)) (hl : ∀ p ∈ l, p < 6) (h6 : l.length ≤ 6) (hy : y < 64) :
    CallT Tryz.prog base 67 [.int .u8 ((y : Nat) : Int), .pointer (some ⟨pb, 0, none⟩)] [oI pb 37 [(.slice pp l.length pc)]] (fun r O' => r = .int .u8 ((imF l y l.length : Nat) : Int) ∧ O' = [oI pb 37 [(.slice pp l.length pc)]]) := by
  refine CallT.enter func67 rfl ntmps67 rfl ?_
  refine T.s (T.rg ?_)
  refine TO.qa rfl ?_
  refine TO.nl (T.s (T.s (T.rg ?_)))
  refine TO.q (q_lb 0 underlying37 rfl rfl rfl rfl) (TO.q (q_len underlying37 rfl) (TO.qm rfl ?_))
  refine TO.nl (T.block ?_)
  refine T.loop (fun (i : Nat) ρ O => O = [oI pb 37 [(.slice pp l.length pc)]] ∧ i ≤ l.length ∧ Heads [(0, .int .u8 ((y : Nat) : Int)), (1, (.pointer (some ⟨pb, 0, none⟩))), (3, .int .u8 ((imF l y i : Nat) : Int)), (6, (.slice pp l.length pc)), (7, .int .i64 (l.length : Int)), (8, .int .i64 ((i : Nat) : Int))] ρ) (fun i => l.length - i) 0 ?_ ?_
  · exact ⟨rfl, Nat.zero_le _, ⟨rfl, rfl, rfl, rfl, rfl, rfl, trivial⟩⟩
  rintro i ρ O ⟨rfl, hi, hH⟩
  obtain ⟨ρ0, rfl⟩ := hH.elim
  clear hH
  refine T.s (T.rg ?_)
  refine TO.q (q_lss rfl rfl) ?_
  refine TO.nl (T.s ?_)
  refine T.condP rfl (fun hc => ?_) (fun hc => ?_)
  · have hlt9 : i < l.length := by omega
    have hil : i < l.length := by omega
    have hpl := hl _ (List.getElem_mem hil)
    have hgd : l.getD i 0 = l[i] := by rw [List.getD_eq_getElem?_getD, List.getElem?_eq_getElem hil]; rfl
    have hst := imF_step l y i
    have hb1 := imF_256 l y (show i ≤ 6 by omega)
    have hb2 := bit_256 y l[i] (show i < 6 by omega)
    have hb3 : y >>> l[i] ≤ y := by rw [Nat.shiftRight_eq_div_pow]; exact Nat.div_le_self _ _
    have hb4 : (y >>> l[i]) &&& 1 ≤ y >>> l[i] := Nat.and_le_left
    rw [hgd] at hst
    refine T.skip (T.s (T.block (T.s (T.rg ?_))))
    refine TO.qm rfl (TO.q (q_ix (i := i) underlying37 inf3 rfl rfl (Sl.o hs) hil (by rw [List.length_map]; exact hil)) (TO.q (q_ld underlying3 rfl rfl (Sl.o hs) (intN_get hil)) (TO.qa rfl ?_)))
    refine TO.qa rfl ?_
    refine TO.nl (T.rg ?_)
    refine TO.qm rfl (TO.qm rfl (TO.qm rfl (TO.q (q_shr (a := y) (b := l[i]) .u8 rfl rfl (by simp only [IntKind.bits]; omega) (by simp only [IntKind.bits]; omega)) ?_)))
    refine TO.q (q_and (a := y >>> l[i]) (b := 1) .u8 rfl rfl (by simp only [IntKind.bits]; omega) (by decide)) (TO.qm rfl (TO.q (q_shlU (a := (y >>> l[i]) &&& 1) (b := i) .u8 rfl rfl (by simp only [IntKind.bits]; omega) (by simp only [IntKind.bits]; omega)) (TO.q (QT.cast (q_or (a := imF l y i) (b := ((y >>> l[i]) &&& 1) * 2 ^ i) .u8 rfl rfl (by simp only [IntKind.bits]; omega) (by simp only [IntKind.bits]; omega)) (v' := .int .u8 ((imF l y (i + 1) : Nat) : Int)) (by rw [hst])) ?_)))
    refine TO.qa rfl ?_
    refine TO.nl (T.rg ?_)
    refine TO.q (q_addN (a := i) (b := 1) rfl rfl (by omega)) (TO.qm rfl ?_)
    refine TO.nl ?_
    exact ⟨i + 1, by omega, rfl, by omega, ⟨rfl, rfl, rfl, rfl, rfl, rfl, trivial⟩⟩
  have hge9 : ¬ i < l.length := by omega
  refine T.exit ?_
  refine T.s (T.rg ?_)
  refine TO.qm rfl (TO.qa rfl ?_)
  refine TO.nl (T.ret ?_)
  refine Res.one (.int .u8 ((imF l y i : Nat) : Int)) Tryz.results67 rfl ?_
  have hie : i = l.length := by omega
  subst hie
  exact ⟨rfl, rfl⟩
end Go.Proofs.YtohkmggbfcnapaaGreatDoor


namespace Go.Proofs.YtohkmggbfcnapaaGreatDoor
open Go.Lx Go.RowKit _root_.Go.Proofs.Tryz
theorem cloneNilB (w : World) [Tab Tryz.prog w] (c : Nat) :
    PureT Tryz.prog 89 [.slice none 0 c] w fun v N => ∃ b' c', v = .slice b' 0 c' ∧ N = [rowI b' c' 4 1 []] := by
  refine CallT.enter func89 rfl ntmps89 rfl ?_
  refine T.s (T.rg ?_)
  refine TO.qa rfl ?_
  refine TO.nl (T.s (T.s (T.rg ?_)))
  refine TO.qm rfl (TO.q (q_eqlNil underlying23 rfl rfl) ?_)
  refine TO.nl ?_
  refine T.cond1 rfl ?_
  refine T.s ?_
  refine T.nilRow 4 1 ?_
  refine T.rg ?_
  refine TO.qa rfl ?_
  refine TO.nl (T.ret ?_)
  refine Res.one (.slice none 0 0) Tryz.results89 rfl ?_
  exact ⟨_, _, rfl, rfl⟩
theorem cloneSomeB (w : World) [Tab Tryz.prog w] (a : Addr) (c : Nat) (xs : List Bool) (h1 : Sl w (some a) (bools xs)) (hb : xs.length * 1 ≤ 70368744177664) :
    PureT Tryz.prog 89 [.slice (some a) xs.length c] w fun v N => ∃ b' c', v = .slice b' xs.length c' ∧ N = [rowI b' c' 4 1 (bools xs)] := by
  refine CallT.enter func89 rfl ntmps89 rfl ?_
  refine T.s (T.rg ?_)
  refine TO.qa rfl ?_
  refine TO.nl (T.s (T.s (T.rg ?_)))
  refine TO.qm rfl (TO.q (q_eqlNil underlying23 rfl rfl) ?_)
  refine TO.nl ?_
  refine T.cond0 rfl ?_
  refine T.skip (T.s (T.rg ?_))
  refine TO.l rfl (l_buildSlice (m := 0) (parts := []) (cs := []) underlying23 inf4 (by decide) (by simp [Instr.fill]) rfl (fun b1 => ?_))
  refine TO.qm rfl ?_
  refine TO.l rfl (l_append 0 underlying23 underlying23 inf4 rfl rfl rfl rfl (by simp) (by decide) (Src.sl h1 (by simp)) (bools_one xs) (by omega) (by decide) (by decide) (fun b1 c2 => ?_))
  refine TO.qa rfl ?_
  refine TO.nl (T.ret ?_)
  refine Res.one (.slice b1 (0 + xs.length) c2) Tryz.results89 rfl ?_
  exact ⟨_, _, by rw [Nat.zero_add], rfl⟩
theorem cloneB (w : World) [Tab Tryz.prog w] (b : Option Addr) (c : Nat) (xs : List Bool) (h1 : Sl w b (bools xs)) (hb : xs.length * 1 ≤ 70368744177664) :
    PureT Tryz.prog 89 [.slice b xs.length c] w fun v N => ∃ b' c', v = .slice b' xs.length c' ∧ N = [rowI b' c' 4 1 (bools xs)] := by
  cases b with
  | none =>
    have hx : xs = [] := by
      cases xs with
      | nil => rfl
      | cons x xs => obtain ⟨_, _, e⟩ := h1.addr (i := 0) (by simp); cases e
    subst hx
    exact cloneNilB w c
  | some a => exact cloneSomeB w a c xs h1 hb
theorem rebF (base : World) [Tab Tryz.prog base] (a : DFA) (k : DK) (ha : At base a k) (hv : Valid a) (m : Nat) (h6 : m ≤ 6) (L : Nat) (hL : 2 ^ m = L) (im : Nat → Nat) (him : ∀ x, x < L → im x < letN a) (gv : Value) (IT : List Lx.Item) (hg : ∀ x, x < L → CallV Tryz.prog base gv [.int .u8 ((x : Nat) : Int)] IT (fun r O' => r = .int .u8 ((im x : Nat) : Int) ∧ O' = IT)) {M : DFA} (hM : minD (reD a (m : Int) im) = M) :
    CallT Tryz.prog base 62 [dV a k, .int .i64 ((m : Nat) : Int), gv] IT (fun r O' => ∃ k' : DK, r = .tuple #[dV M k', .int .i64 0] ∧ O' = [dI 37 4 3 M k']) := by
  refine CallT.enter func62 rfl ntmps62 rfl ?_
  have he := checkD_zero.2 hv
  have h4 := hv.n4
  have hww : letN a ≤ 64 := hv.width
  have hfin := hv.fin
  have hvl := ha.rows.1
  have hsl := start_lt hv.toVal
  have hs0 := hv.s0
  have hs1 := hv.s1
  have hm64 : L ≤ 2 ^ 6 := by rw [← hL]; exact Nat.pow_le_pow_right (by decide) h6
  refine T.s (T.rg ?_)
  refine TO.l rfl (l_box (v := (dV a k)) (cs := (dC a k)) rfl rfl (fun z1 => ?_))
  refine TO.l rfl (l_alloc inf25 rfl (fun z2 => ?_))
  refine TO.qa rfl ?_
  refine TO.nl ?_
  refine T.cut (fun ρ O => ∃ (tb cc : Nat) (cb : Option Addr), O = ([oI tb 25 [(.int .i64 ((m : Nat) : Int)), (.int .i64 a.start), (.slice none 0 0), (.slice cb a.final.length cc)], rowI cb cc 4 1 (bools a.final), oI z2 25 [(.int .i64 0), (.int .i64 0), (.slice none 0 0), (.slice none 0 0)], oI z1 25 (dC a k)] ++ IT) ∧ Heads [(0, (dV a k)), (1, (.int .i64 ((m : Nat) : Int))), (2, gv), (3, (.pointer (some ⟨z1, 0, none⟩))), (6, (.pointer (some ⟨z2, 0, none⟩))), (7, .int .i64 0), (8, (.pointer (some ⟨tb, 0, none⟩)))] ρ) ?_ ?_
  · refine T.tree [oI z2 25 [(.int .i64 0), (.int .i64 0), (.slice none 0 0), (.slice none 0 0)], oI z1 25 (dC a k)] 9 mixed rfl (by exact Sub.k (.k .z)) (fun _ _ _ h => h) ?_
    refine RO.quietT 0 rfl (by kernel_rfl) (q_move rfl) ?_
    refine RO.quietT 1 rfl (by kernel_rfl) (q_fa underlying25 rfl inf3 rfl rfl) ?_
    refine RO.quietT 2 rfl (by kernel_rfl) (q_lb 1 underlying3 rfl rfl rfl rfl) ?_
    refine RO.quietT 3 rfl (by kernel_rfl) (q_fa underlying25 rfl inf23 rfl rfl) ?_
    refine RO.quietT 4 rfl (by kernel_rfl) (q_lb 1 underlying23 rfl rfl rfl rfl) ?_
    have hk18 := fun (w1 : World) (hI : Inv base ([oI z2 25 [(.int .i64 0), (.int .i64 0), (.slice none 0 0), (.slice none 0 0)], oI z1 25 (dC a k)] ++ IT) w1) => (haveI := tbz hI; cloneB w1 k.fb k.fc a.final (hI.sl ha.final) (by omega))
    refine RO.fork [5, 7] (by kernel_rfl) rfl ⟨⟨_, rfl, rfl, l_call ent89 (CallT.op hk18) rfl ?_⟩, ⟨_, rfl, rfl, l_alloc inf25 rfl (fun tb => ⟨by exact Sub.d (.k (.k .z)), ?_⟩)⟩, trivial⟩
    · clear hk18
      rintro vr O' ⟨N, rfl, cb, cc, rfl, rfl⟩
      refine ⟨by exact Sub.d (.k (.k .z)), ?_⟩
      refine RO.quietT 6 rfl (by kernel_rfl) (q_build (cs := [(.int .i64 ((m : Nat) : Int)), (.int .i64 a.start), (.slice none 0 0), (.slice cb a.final.length cc)]) plan25 inf25 (by kernel_rfl)) ?_
      refine RO.fork [7] (by kernel_rfl) rfl ⟨⟨_, rfl, rfl, l_alloc inf25 rfl (fun tb => ⟨by exact Sub.d (.d (.k (.k .z))), ?_⟩)⟩, trivial⟩
      refine RO.fork [8] (by kernel_rfl) rfl ⟨⟨_, rfl, rfl, l_sb (v := (.agg #[(.int .i64 ((m : Nat) : Int)), (.int .i64 a.start), (.slice none 0 0), (.slice cb a.final.length cc)])) (vs := [(.int .i64 ((m : Nat) : Int)), (.int .i64 a.start), (.slice none 0 0), (.slice cb a.final.length cc)]) 0 inf25 rfl rfl rfl rfl rfl rfl (by simp [putL]) ⟨by exact Sub.d (.d (.k (.k .z))), ?_⟩⟩, trivial⟩
      exact RO.fin (by kernel_rfl) ⟨tb, cc, cb, rfl, ⟨rfl, rfl, rfl, rfl, rfl, rfl, rfl, trivial⟩⟩ (by exact Sub.rf)
    have hk18 := fun (w1 : World) (hI : Inv base ([oI tb 25 [(.int .i64 0), (.int .i64 0), (.slice none 0 0), (.slice none 0 0)], oI z2 25 [(.int .i64 0), (.int .i64 0), (.slice none 0 0), (.slice none 0 0)], oI z1 25 (dC a k)] ++ IT) w1) => (haveI := tbz hI; cloneB w1 k.fb k.fc a.final (hI.sl ha.final) (by omega))
    refine RO.fork [5] (by kernel_rfl) rfl ⟨⟨_, rfl, rfl, l_call ent89 (CallT.op hk18) rfl ?_⟩, trivial⟩
    clear hk18
    rintro vr O' ⟨N, rfl, cb, cc, rfl, rfl⟩
    refine ⟨by exact Sub.d (.d (.k (.k .z))), ?_⟩
    refine RO.quietT 6 rfl (by kernel_rfl) (q_build (cs := [(.int .i64 ((m : Nat) : Int)), (.int .i64 a.start), (.slice none 0 0), (.slice cb a.final.length cc)]) plan25 inf25 (by kernel_rfl)) ?_
    refine RO.fork [8] (by kernel_rfl) rfl ⟨⟨_, rfl, rfl, l_sb (v := (.agg #[(.int .i64 ((m : Nat) : Int)), (.int .i64 a.start), (.slice none 0 0), (.slice cb a.final.length cc)])) (vs := [(.int .i64 ((m : Nat) : Int)), (.int .i64 a.start), (.slice none 0 0), (.slice cb a.final.length cc)]) 1 inf25 rfl rfl rfl rfl rfl rfl (by simp [putL]) ⟨by exact Sub.d (.d (.k (.k .z))), ?_⟩⟩, trivial⟩
    exact RO.fin (by kernel_rfl) ⟨tb, cc, cb, rfl, ⟨rfl, rfl, rfl, rfl, rfl, rfl, rfl, trivial⟩⟩ (by exact Sub.pull [rowI cb cc 4 1 (bools a.final)] _ (.k (.k (.k .rf))))
  rintro ρ O ⟨tb, cc, cb, rfl, hH⟩
  obtain ⟨ρ0, rfl⟩ := hH.elim
  clear hH
  refine T.s (T.s (T.rg ?_))
  refine TO.q (q_fa underlying25 rfl inf22 rfl rfl) (TO.q (q_lb 3 underlying22 rfl rfl rfl rfl) (TO.q (q_len underlying22 rfl) (TO.qm rfl ?_)))
  refine TO.nl (T.block ?_)
  refine T.nilRow 37 1 ?_
  refine T.sub (O' := ([oI tb 25 [(.int .i64 ((m : Nat) : Int)), (.int .i64 a.start), (.slice none 0 0), (.slice cb a.final.length cc)], rowI none 0 37 1 (vals []), rowI cb cc 4 1 (bools a.final), oI z1 25 (dC a k), oI z2 25 [(.int .i64 0), (.int .i64 0), (.slice none 0 0), (.slice none 0 0)]] ++ (IT ++ itms 3 []))) (Sub.ca []) ?_
  refine T.loop (fun (s : Nat) ρ O => ∃ (nb : Option Addr) (nc : Nat) (qs : List Rec), O = ([oI tb 25 [(.int .i64 ((m : Nat) : Int)), (.int .i64 a.start), (.slice nb s nc), (.slice cb a.final.length cc)], rowI nb nc 37 1 (vals qs), rowI cb cc 4 1 (bools a.final), oI z1 25 (dC a k), oI z2 25 [(.int .i64 0), (.int .i64 0), (.slice none 0 0), (.slice none 0 0)]] ++ (IT ++ itms 3 qs)) ∧ s ≤ a.next.length ∧ qs.length = s ∧ nums qs = (List.range s).map (reR a L im) ∧ Heads [(0, (dV a k)), (1, (.int .i64 ((m : Nat) : Int))), (2, gv), (3, (.pointer (some ⟨z1, 0, none⟩))), (6, (.pointer (some ⟨z2, 0, none⟩))), (7, .int .i64 0), (8, (.pointer (some ⟨tb, 0, none⟩))), (21, (.slice k.nb a.next.length k.nc)), (22, .int .i64 (a.next.length : Int)), (23, .int .i64 ((s : Nat) : Int))] ρ) (fun s => a.next.length - s) 0 ?_ ?_
  · exact ⟨none, 0, [], rfl, Nat.zero_le _, rfl, rfl, ⟨rfl, rfl, rfl, rfl, rfl, rfl, rfl, rfl, rfl, rfl, trivial⟩⟩
  rintro s ρ O ⟨nb, nc, qs, rfl, hs, hql, hqs, hH⟩
  obtain ⟨ρ0, rfl⟩ := hH.elim
  clear hH
  refine T.s (T.rg ?_)
  refine TO.q (q_lss rfl rfl) ?_
  refine TO.nl (T.s ?_)
  refine T.condP rfl (fun hc => ?_) (fun hc => ?_)
  · have hlt24 : s < a.next.length := by omega
    have hsl9 : s < a.next.length := by omega
    obtain ⟨v1, c1, g1, s1⟩ := ha.rows.get hsl9
    have hl1 : a.next[s].length = letN a := hv.len _ (List.getElem_mem hsl9)
    refine T.skip (T.s (T.block (T.s (T.rg ?_))))
    refine TO.q (q_ix (i := s) underlying22 inf37 rfl rfl (Sl.o ha.outer) hsl9 (hvl ▸ hsl9)) (TO.q (q_ld underlying37 rfl rfl (Sl.o ha.outer) g1) (TO.qa rfl ?_))
    refine TO.nl (T.s (T.rg ?_))
    refine TO.qm rfl (TO.q (QT.cast (q_shl1 (v := m) rfl rfl (by omega)) (v' := .int .i64 ((L : Nat) : Int)) (by rw [hL])) ?_)
    refine TO.l rfl (l_makeSlice (m := L) underlying37 inf3 rfl rfl (by omega) (by omega) (fun z3 => ?_))
    refine TO.qa rfl ?_
    refine TO.nl (T.s (T.s (T.rg ?_)))
    refine TO.qm rfl (TO.q (q_len underlying37 rfl) (TO.qm rfl ?_))
    refine TO.nl (T.block ?_)
    refine T.loop (fun (x : Nat) ρ O => O = ([rowI (some ⟨z3, 0, none⟩) L 3 1 (ints (reP a L im s x)), oI tb 25 [(.int .i64 ((m : Nat) : Int)), (.int .i64 a.start), (.slice nb s nc), (.slice cb a.final.length cc)], rowI nb nc 37 1 (vals qs), rowI cb cc 4 1 (bools a.final), oI z1 25 (dC a k), oI z2 25 [(.int .i64 0), (.int .i64 0), (.slice none 0 0), (.slice none 0 0)]] ++ (IT ++ itms 3 qs)) ∧ x ≤ L ∧ Heads [(0, (dV a k)), (1, (.int .i64 ((m : Nat) : Int))), (2, gv), (3, (.pointer (some ⟨z1, 0, none⟩))), (6, (.pointer (some ⟨z2, 0, none⟩))), (7, .int .i64 0), (8, (.pointer (some ⟨tb, 0, none⟩))), (10, (.slice v1 a.next[s].length c1)), (11, (.slice (some ⟨z3, 0, none⟩) L L)), (21, (.slice k.nb a.next.length k.nc)), (22, .int .i64 (a.next.length : Int)), (23, .int .i64 ((s : Nat) : Int)), (31, .int .i64 (L : Int)), (32, .int .i64 ((x : Nat) : Int))] ρ) (fun x => L - x) 0 ?_ ?_
    · exact ⟨by rw [reP_zero]; rfl, Nat.zero_le _, ⟨rfl, rfl, rfl, rfl, rfl, rfl, rfl, rfl, rfl, rfl, rfl, rfl, rfl, rfl, trivial⟩⟩
    rintro x ρ O ⟨rfl, hx, hH⟩
    obtain ⟨ρ0, rfl⟩ := hH.elim
    clear hH
    refine T.s (T.rg ?_)
    refine TO.q (q_lss rfl rfl) ?_
    refine TO.nl (T.s ?_)
    refine T.condP rfl (fun hc => ?_) (fun hc => ?_)
    · have hlt33 : x < L := by omega
      have hxl : x < L := by omega
      have hil : im x < letN a := him x hxl
      obtain ⟨hto, _, hxk1, hx1⟩ := hv.toN_lt hsl9 hil
      have hx1 : (ints a.next[s])[im x]? = some (.int .i64 ((toN a s (im x) : Nat) : Int)) := by rw [ints_get hxk1, hx1]
      refine T.skip (T.s (T.block (T.s (T.rg ?_))))
      refine TO.qm rfl (TO.qa rfl ?_)
      refine TO.nl (T.rg ?_)
      refine TO.qm rfl (TO.qm rfl (TO.qm rfl (TO.qm rfl ?_)))
      refine TO.qm rfl (TO.q (q_conv_id underlying3 underlying5 rfl (wrap8 (by omega))) ?_)
      have hk41 := CallV.under (B := [rowI (some ⟨z3, 0, none⟩) L 3 1 (ints (reP a L im s x)), oI tb 25 [(.int .i64 ((m : Nat) : Int)), (.int .i64 a.start), (.slice nb s nc), (.slice cb a.final.length cc)], rowI nb nc 37 1 (vals qs), rowI cb cc 4 1 (bools a.final), oI z1 25 (dC a k), oI z2 25 [(.int .i64 0), (.int .i64 0), (.slice none 0 0), (.slice none 0 0)]] ++ itms 3 qs) (O := ([rowI (some ⟨z3, 0, none⟩) L 3 1 (ints (reP a L im s x)), oI tb 25 [(.int .i64 ((m : Nat) : Int)), (.int .i64 a.start), (.slice nb s nc), (.slice cb a.final.length cc)], rowI nb nc 37 1 (vals qs), rowI cb cc 4 1 (bools a.final), oI z1 25 (dC a k), oI z2 25 [(.int .i64 0), (.int .i64 0), (.slice none 0 0), (.slice none 0 0)]] ++ (IT ++ itms 3 qs))) (hg x hxl) (Sub.ca [])
      refine TO.l rfl (l_callG hk41 rfl rfl ?_)
      clear hk41
      rintro vr O' ⟨A1, rfl, rfl, hA1⟩
      have hA2 := hA1.symm
      subst hA2
      refine TO.sub (O' := ([rowI (some ⟨z3, 0, none⟩) L 3 1 (ints (reP a L im s x)), oI tb 25 [(.int .i64 ((m : Nat) : Int)), (.int .i64 a.start), (.slice nb s nc), (.slice cb a.final.length cc)], rowI nb nc 37 1 (vals qs), rowI cb cc 4 1 (bools a.final), oI z1 25 (dC a k), oI z2 25 [(.int .i64 0), (.int .i64 0), (.slice none 0 0), (.slice none 0 0)]] ++ (IT ++ itms 3 qs))) (Sub.ca []) ?_
      refine TO.q (q_ix (i := (im x)) underlying37 inf3 rfl rfl (Sl.o s1) hxk1 (by rw [List.length_map]; exact hxk1)) (TO.q (q_ld underlying3 rfl rfl (Sl.o s1) hx1) (TO.q (q_ix (i := x) underlying37 inf3 rfl rfl (rowO (mG 0 rfl)) hxl (by rw [List.length_map, reP_len]; exact hxl)) ?_))
      refine TO.l rfl (l_st (j := x) (v := .int .i64 ((toN a s (im x) : Nat) : Int)) (vs := [(.int .i64 ((toN a s (im x) : Nat) : Int))]) (cs := ints (reP a L im s x)) 0 inf3 rfl rfl rfl rfl rfl (by simp) rfl (by rw [List.length_map, reP_len]; simp; omega) ?_)
      refine TO.sub (O' := ([rowI (some ⟨z3, 0, none⟩) L 3 1 (ints (reP a L im s (x + 1))), oI tb 25 [(.int .i64 ((m : Nat) : Int)), (.int .i64 a.start), (.slice nb s nc), (.slice cb a.final.length cc)], rowI nb nc 37 1 (vals qs), rowI cb cc 4 1 (bools a.final), oI z1 25 (dC a k), oI z2 25 [(.int .i64 0), (.int .i64 0), (.slice none 0 0), (.slice none 0 0)]] ++ (IT ++ itms 3 qs))) (by rw [show putL (ints (reP a L im s x)) x [(.int .i64 ((toN a s (im x) : Nat) : Int))] = ints (reP a L im s (x + 1)) from by rw [← reP_set hxl]; simp [putL]]; exact Sub.of (List.Sublist.refl _)) ?_
      refine TO.nl (T.rg ?_)
      refine TO.q (q_addN (a := x) (b := 1) rfl rfl (by omega)) (TO.qm rfl ?_)
      refine TO.nl ?_
      exact ⟨x + 1, by omega, rfl, by omega, ⟨rfl, rfl, rfl, rfl, rfl, rfl, rfl, rfl, rfl, rfl, rfl, rfl, rfl, rfl, trivial⟩⟩
    have hge33 : ¬ x < L := by omega
    refine T.exit ?_
    refine T.rg ?_
    refine TO.q (q_fa underlying25 rfl inf22 rfl rfl) (TO.q (q_lb 1 underlying22 rfl rfl rfl rfl) (TO.qm rfl ?_))
    refine TO.l rfl (l_build1 (v := (.slice (some ⟨z3, 0, none⟩) L L)) underlying22 inf37 rfl rfl rfl (fun z4 => ?_))
    refine TO.l rfl (l_append 3 underlying22 underlying22 inf37 rfl rfl rfl rfl (by rw [List.length_map]; omega) (by decide) (Src.row (j := 0) rfl (by simp)) (by simp [oneB]) (by omega) (by decide) (by decide) (fun z5 zc6 => ?_))
    refine TO.q (q_fa underlying25 rfl inf22 rfl rfl) ?_
    refine TO.l rfl (l_sb (v := (.slice z5 (s + 1) zc6)) (vs := [(.slice z5 (s + 1) zc6)]) 2 inf22 rfl rfl rfl rfl rfl rfl (by simp [putL]) ?_)
    refine TO.sub (O' := ([oI tb 25 [(.int .i64 ((m : Nat) : Int)), (.int .i64 a.start), (.slice z5 (s + 1) zc6), (.slice cb a.final.length cc)], rowI z5 zc6 37 1 ((vals qs) ++ [(.slice (some ⟨z3, 0, none⟩) L L)]), rowI cb cc 4 1 (bools a.final), oI z1 25 (dC a k), oI z2 25 [(.int .i64 0), (.int .i64 0), (.slice none 0 0), (.slice none 0 0)], rowI (some ⟨z3, 0, none⟩) L 3 1 (ints (reP a L im s x))] ++ (IT ++ itms 3 qs))) (by exact Sub.d (.pull [rowI (some ⟨z3, 0, none⟩) L 3 1 (ints (reP a L im s x))] _ (.pull [rowI (some ⟨z3, 0, none⟩) L 3 1 (ints (reP a L im s x))] _ (.pull [rowI (some ⟨z3, 0, none⟩) L 3 1 (ints (reP a L im s x))] _ (.pull [rowI (some ⟨z3, 0, none⟩) L 3 1 (ints (reP a L im s x))] _ (.pull [rowI (some ⟨z3, 0, none⟩) L 3 1 (ints (reP a L im s x))] _ (.k .rf))))))) ?_
    refine TO.nl ?_
    have hxe : L = x := by omega
    subst hxe
    have hvq : vals (qs ++ [⟨some ⟨z3, 0, none⟩, L, reR a L im s⟩]) = vals qs ++ [.slice (some ⟨z3, 0, none⟩) L L] := by simp [Rec.val, reR_len]
    refine T.sub (O' := (([oI tb 25 [(.int .i64 ((m : Nat) : Int)), (.int .i64 a.start), (.slice z5 (s + 1) zc6), (.slice cb a.final.length cc)], rowI z5 zc6 37 1 ((vals qs) ++ [(.slice (some ⟨z3, 0, none⟩) L L)]), rowI cb cc 4 1 (bools a.final), oI z1 25 (dC a k), oI z2 25 [(.int .i64 0), (.int .i64 0), (.slice none 0 0), (.slice none 0 0)]] ++ [rowI (some ⟨z3, 0, none⟩) L 3 1 (ints (reR a L im s))]) ++ (IT ++ itms 3 qs))) (by rw [← reP_full]; exact Sub.rf) ?_
    refine T.sub (O' := ([oI tb 25 [(.int .i64 ((m : Nat) : Int)), (.int .i64 a.start), (.slice z5 (s + 1) zc6), (.slice cb a.final.length cc)], rowI z5 zc6 37 1 (vals (qs ++ [⟨some ⟨z3, 0, none⟩, L, reR a L im s⟩])), rowI cb cc 4 1 (bools a.final), oI z1 25 (dC a k), oI z2 25 [(.int .i64 0), (.int .i64 0), (.slice none 0 0), (.slice none 0 0)]] ++ (IT ++ itms 3 (qs ++ [⟨some ⟨z3, 0, none⟩, L, reR a L im s⟩])))) (by rw [hvq]; exact Sub.foldN [oI tb 25 [(.int .i64 ((m : Nat) : Int)), (.int .i64 a.start), (.slice z5 (s + 1) zc6), (.slice cb a.final.length cc)], rowI z5 zc6 37 1 ((vals qs) ++ [(.slice (some ⟨z3, 0, none⟩) L L)]), rowI cb cc 4 1 (bools a.final), oI z1 25 (dC a k), oI z2 25 [(.int .i64 0), (.int .i64 0), (.slice none 0 0), (.slice none 0 0)]] (rowI (some ⟨z3, 0, none⟩) L 3 1 (ints (reR a L im s))) (IT ++ itms 3 qs) (IT ++ itms 3 (qs ++ [⟨some ⟨z3, 0, none⟩, L, reR a L im s⟩])) (by rw [itms_snoc, List.append_assoc]; rfl)) ?_
    refine T.rg ?_
    refine TO.q (q_addN (a := s) (b := 1) rfl rfl (by omega)) (TO.qm rfl ?_)
    refine TO.nl ?_
    exact ⟨s + 1, by omega, z5, zc6, qs ++ [⟨some ⟨z3, 0, none⟩, L, reR a L im s⟩], rfl, by omega, by simp [hql], by rw [List.range_succ, List.map_append, ← hqs]; simp, ⟨rfl, rfl, rfl, rfl, rfl, rfl, rfl, rfl, rfl, rfl, trivial⟩⟩
  have hge24 : ¬ s < a.next.length := by omega
  refine T.exit ?_
  refine T.s ?_
  have hse : s = a.next.length := by omega
  obtain ⟨Tz, hT⟩ : ∃ T, T = reD a (m : Int) im := ⟨_, rfl⟩
  have e1 : nums qs = Tz.next := by rw [hT, hqs, hse, re_next a m L im hL]
  have e2 : a.final = Tz.final := by rw [hT]; rfl
  have e5 : Tz.next.length = s := by rw [hT, re_len, hse]
  have e6 : Tz.final.length = a.final.length := by rw [← e2]
  have hTv : Valid Tz := by rw [hT]; exact (HasL.re (HasL.of hv (Nat.le_refl _)) (by omega) (by omega) (fun x hx => him x (by rw [← hL]; exact hx))).valid
  obtain ⟨z9, hz9⟩ : ∃ z : DK, z = ⟨nb, nc, cb, cc, qs⟩ := ⟨_, rfl⟩
  refine T.sub (O' := (([rowI nb nc 37 1 (vals qs), rowI cb cc 4 1 (bools Tz.final)] ++ itms 3 qs) ++ [oI tb 25 [(.int .i64 ((m : Nat) : Int)), (.int .i64 a.start), (.slice nb Tz.next.length nc), (.slice cb Tz.final.length cc)], oI z1 25 (dC a k), oI z2 25 [(.int .i64 0), (.int .i64 0), (.slice none 0 0), (.slice none 0 0)]])) (by rw [e5, e6, ← e2]; exact Sub.cnt IT (by intro a; simp only [itms, oI, List.set_cons_zero, List.set_cons_succ, putL, List.cons_append, List.nil_append, List.append_nil, List.append_assoc, List.map_append, List.map_cons, List.map_nil, cnt_append, cnt_cons, cnt_nil] <;> omega)) ?_
  refine T.pack (φ := nums qs = Tz.next) e1 ?_
  refine T.sub (O' := [dI 37 4 3 Tz z9, oI tb 25 (dC Tz z9), oI z1 25 (dC a k), oI z2 25 [(.int .i64 0), (.int .i64 0), (.slice none 0 0), (.slice none 0 0)]]) (by subst hz9; unfold dC dfaCells; rw [hT]; exact Sub.rf) ?_
  refine T.rg ?_
  refine TO.q (q_la 1 underlying25 rfl inf25 rfl rfl rfl) ?_
  have hk54 := fun (w1 : World) (hI : Inv base [dI 37 4 3 Tz z9, oI tb 25 (dC Tz z9), oI z1 25 (dC a k), oI z2 25 [(.int .i64 0), (.int .i64 0), (.slice none 0 0), (.slice none 0 0)]] w1) => (haveI := tbz hI; minKE w1 Tz z9 (hI.at (k := z9) (mG 0 rfl)) hTv (by omega) (M := M) (by rw [hT]; exact hM))
  refine TO.l rfl (l_call ent34 (CallT.op hk54) rfl ?_)
  clear hk54
  rintro vr O' ⟨N, rfl, k9, rfl, rfl⟩
  refine TO.q (q_extract (vs := _) rfl rfl) (TO.q (q_extract (vs := _) rfl rfl) ?_)
  refine TO.l rfl (l_sb (v := (dV M k9)) (vs := (dC M k9)) 4 inf25 rfl rfl rfl rfl rfl rfl (by simp [putL]) ?_)
  refine TO.qa rfl ?_
  refine TO.nl (T.ret (Res.drop ?_))
  refine Res.cell1b (.int .i64 0) (i := 4) Tryz.results62 underlying25 rfl inf25 rfl rfl rfl rfl ?_
  exact ⟨[dI 37 4 3 M k9], (by exact Sub.k .z), k9, rfl, rfl⟩
end Go.Proofs.YtohkmggbfcnapaaGreatDoor


namespace Go.Proofs.YtohkmggbfcnapaaGreatDoor
open Go.Lx Go.RowKit _root_.Go.Proofs.Tryz
theorem insBad (w : World) [Tab Tryz.prog w] (a : DFA) (k : DK) (ha : At w a k) (haa : a.next.length < 9223372036854775807) (haar : ∀ r ∈ a.next, r.length < 9223372036854775807) (haaf : a.final.length < 9223372036854775807) (he : checkD a ≠ 0) (v : Int) :
    PureT Tryz.prog 27 [dV a k, .int .i64 v] w fun v9 N => v9 = .tuple #[dV noD ⟨none, 0, none, 0, []⟩, .int .i64 (checkD a : Int)] ∧ N = [] := by
  refine CallT.enter func27 rfl ntmps27 rfl ?_
  refine T.s (T.rg ?_)
  refine TO.l rfl (l_box (v := (dV a k)) (cs := (dC a k)) rfl rfl (fun bx1 => ?_))
  refine TO.l rfl (l_alloc inf25 rfl (fun bx2 => ?_))
  refine TO.qa rfl ?_
  refine TO.nl (T.s (T.s (T.rg ?_)))
  refine TO.q (q_la 1 underlying25 rfl inf25 rfl rfl rfl) ?_
  have hk9 := fun (w1 : World) (hI : Inv w [oI bx2 25 [(.int .i64 0), (.int .i64 0), (.slice none 0 0), (.slice none 0 0)], oI bx1 25 (dC a k)] w1) => (haveI := tbz hI; subsetCheck w1 a k.nb k.fb k.nc k.fc (vals k.qs) (hI.dfa ha) haa haar haaf)
  refine TO.l rfl (l_call ent35 (CallT.op hk9) rfl ?_)
  clear hk9
  rintro vr O' ⟨N, rfl, rfl, rfl⟩
  refine TO.qa rfl ?_
  refine TO.nl (T.s (T.rg ?_))
  refine TO.qm rfl (TO.q (QT.toB (q_neq rfl rfl) (decide_eq_true (by omega))) ?_)
  refine TO.nl ?_
  refine T.cond1 rfl ?_
  refine T.s (T.rg ?_)
  refine TO.q (q_build plan25 inf25 rfl) (TO.qm rfl ?_)
  refine TO.l rfl (l_sb (v := (.agg #[(.int .i64 0), (.int .i64 0), (.slice none 0 0), (.slice none 0 0)])) (vs := [(.int .i64 0), (.int .i64 0), (.slice none 0 0), (.slice none 0 0)]) 0 inf25 rfl rfl rfl rfl rfl rfl (by simp [putL]) ?_)
  refine TO.qa rfl ?_
  refine TO.nl (T.ret (Res.drop ?_))
  refine Res.cell1b (.int .i64 (checkD a : Int)) (i := 0) Tryz.results27 underlying25 rfl inf25 rfl rfl rfl rfl ?_
  exact ⟨[], Sub.z, rfl, rfl⟩
theorem insVars (w : World) [Tab Tryz.prog w] (a : DFA) (k : DK) (ha : At w a k) (hv : Valid a) (v : Int) (hb : v < 0 ∨ a.vars < v ∨ a.vars = 6) :
    PureT Tryz.prog 27 [dV a k, .int .i64 v] w fun v9 N => v9 = .tuple #[dV noD ⟨none, 0, none, 0, []⟩, .int .i64 7] ∧ N = [] := by
  refine CallT.enter func27 rfl ntmps27 rfl ?_
  have he := checkD_zero.2 hv
  have h4 := hv.n4
  have hww : letN a ≤ 64 := hv.width
  have hfin := hv.fin
  have hvl := ha.rows.1
  have hsl := start_lt hv.toVal
  have hs0 := hv.s0
  have hs1 := hv.s1
  refine T.s (T.rg ?_)
  refine TO.l rfl (l_box (v := (dV a k)) (cs := (dC a k)) rfl rfl (fun bx1 => ?_))
  refine TO.l rfl (l_alloc inf25 rfl (fun bx2 => ?_))
  refine TO.qa rfl ?_
  refine TO.nl (T.s (T.s (T.rg ?_)))
  refine TO.q (q_la 1 underlying25 rfl inf25 rfl rfl rfl) ?_
  have hk9 := fun (w1 : World) (hI : Inv w [oI bx2 25 [(.int .i64 0), (.int .i64 0), (.slice none 0 0), (.slice none 0 0)], oI bx1 25 (dC a k)] w1) => (haveI := tbz hI; (show PureT _ _ _ _ _ from by
      have h9 := subsetCheck w1 a k.nb k.fb k.nc k.fc (vals k.qs) (hI.dfa ha) (by omega) hv.bound (by omega)
      rw [he] at h9
      exact h9))
  refine TO.l rfl (l_call ent35 (CallT.op hk9) rfl ?_)
  clear hk9
  rintro vr O' ⟨N, rfl, rfl, rfl⟩
  refine TO.qa rfl ?_
  refine TO.nl (T.s (T.rg ?_))
  refine TO.qm rfl (TO.q (q_neq rfl rfl) ?_)
  refine TO.nl ?_
  refine T.cond0 rfl ?_
  refine T.skip (T.s (T.s (T.rg ?_)))
  refine TO.qm rfl (TO.q (q_lss rfl rfl) ?_)
  by_cases hs16 : v < 0
  · refine TO.q (QT.toB (q_move rfl) (decide_eq_true hs16)) ?_
    refine TO.pd rfl rfl ?_
    refine TO.pd rfl rfl ?_
    refine TO.pd rfl rfl ?_
    refine TO.pd rfl rfl ?_
    refine TO.q (q_pick1 rfl rfl) (TO.qm rfl ?_)
    refine TO.pd rfl rfl ?_
    refine TO.pd rfl rfl ?_
    refine TO.pd rfl rfl ?_
    refine TO.q (q_pick1 rfl rfl) ?_
    refine TO.nl ?_
    refine T.cond1 rfl ?_
    refine T.s (T.rg ?_)
    refine TO.q (q_build plan25 inf25 rfl) ?_
    refine TO.l rfl (l_sb (v := (.agg #[(.int .i64 0), (.int .i64 0), (.slice none 0 0), (.slice none 0 0)])) (vs := [(.int .i64 0), (.int .i64 0), (.slice none 0 0), (.slice none 0 0)]) 0 inf25 rfl rfl rfl rfl rfl rfl (by simp [putL]) ?_)
    refine TO.qa rfl ?_
    refine TO.nl (T.ret (Res.drop ?_))
    refine Res.cell1b (.int .i64 7) (i := 0) Tryz.results27 underlying25 rfl inf25 rfl rfl rfl rfl ?_
    exact ⟨[], Sub.z, rfl, rfl⟩
  refine TO.q (QT.toB (q_move rfl) (decide_eq_false hs16)) ?_
  refine TO.gd rfl rfl rfl (LT.oq rfl rfl (q_move rfl) ?_)
  refine TO.gd rfl rfl rfl (LT.oq rfl rfl (q_fa underlying25 rfl inf3 rfl rfl) ?_)
  refine TO.gd rfl rfl rfl (LT.oq rfl rfl (q_lb 1 underlying3 rfl rfl rfl rfl) ?_)
  refine TO.gd rfl rfl rfl (LT.oq rfl rfl (q_gtr rfl rfl) ?_)
  refine TO.q (q_pick0 rfl rfl) ?_
  by_cases hs22 : v > a.vars
  · refine TO.q (QT.toB (q_move rfl) (decide_eq_true hs22)) ?_
    refine TO.pd rfl rfl ?_
    refine TO.pd rfl rfl ?_
    refine TO.pd rfl rfl ?_
    refine TO.q (q_pick1 rfl rfl) ?_
    refine TO.nl ?_
    refine T.cond1 rfl ?_
    refine T.s (T.rg ?_)
    refine TO.q (q_build plan25 inf25 rfl) ?_
    refine TO.l rfl (l_sb (v := (.agg #[(.int .i64 0), (.int .i64 0), (.slice none 0 0), (.slice none 0 0)])) (vs := [(.int .i64 0), (.int .i64 0), (.slice none 0 0), (.slice none 0 0)]) 0 inf25 rfl rfl rfl rfl rfl rfl (by simp [putL]) ?_)
    refine TO.qa rfl ?_
    refine TO.nl (T.ret (Res.drop ?_))
    refine Res.cell1b (.int .i64 7) (i := 0) Tryz.results27 underlying25 rfl inf25 rfl rfl rfl rfl ?_
    exact ⟨[], Sub.z, rfl, rfl⟩
  refine TO.q (QT.toB (q_move rfl) (decide_eq_false hs22)) ?_
  refine TO.gd rfl rfl rfl (LT.oq rfl rfl (q_fa underlying25 rfl inf3 rfl rfl) ?_)
  refine TO.gd rfl rfl rfl (LT.oq rfl rfl (q_lb 1 underlying3 rfl rfl rfl rfl) ?_)
  refine TO.gd rfl rfl rfl (LT.oq rfl rfl (q_eql rfl rfl) ?_)
  refine TO.q (q_pick0 rfl rfl) ?_
  refine TO.nl ?_
  refine T.cond1 (congrArg Value.bool (decide_eq_true (by omega))) ?_
  refine T.s (T.rg ?_)
  refine TO.q (q_build plan25 inf25 rfl) ?_
  refine TO.l rfl (l_sb (v := (.agg #[(.int .i64 0), (.int .i64 0), (.slice none 0 0), (.slice none 0 0)])) (vs := [(.int .i64 0), (.int .i64 0), (.slice none 0 0), (.slice none 0 0)]) 0 inf25 rfl rfl rfl rfl rfl rfl (by simp [putL]) ?_)
  refine TO.qa rfl ?_
  refine TO.nl (T.ret (Res.drop ?_))
  refine Res.cell1b (.int .i64 7) (i := 0) Tryz.results27 underlying25 rfl inf25 rfl rfl rfl rfl ?_
  exact ⟨[], Sub.z, rfl, rfl⟩
theorem insOk (w : World) [Tab Tryz.prog w] (a : DFA) (k : DK) (ha : At w a k) (hv : Valid a) (v : Nat) (hva : (v : Int) ≤ a.vars) (h5 : a.vars < 6) {M : DFA} (hM : minD (reD a ((a.vars.toNat + 1 : Nat) : Int) (cut v)) = M) :
    PureT Tryz.prog 27 [dV a k, .int .i64 ((v : Nat) : Int)] w fun v9 N => ∃ k9 : DK, v9 = .tuple #[dV M k9, .int .i64 0] ∧ N = [dI 37 4 3 M k9] := by
  refine CallT.enter func27 rfl ntmps27 rfl ?_
  have he := checkD_zero.2 hv
  have h4 := hv.n4
  have hww : letN a ≤ 64 := hv.width
  have hfin := hv.fin
  have hvl := ha.rows.1
  have hsl := start_lt hv.toVal
  have hs0 := hv.s0
  have hs1 := hv.s1
  have hv0 := hv.v0
  have hp : 2 ^ v ≤ 2 ^ 5 := Nat.pow_le_pow_right (by decide) (by omega)
  have hp0 : 0 < 2 ^ v := Nat.pow_pos (by decide)
  refine T.s (T.rg ?_)
  refine TO.l rfl (l_box (v := (dV a k)) (cs := (dC a k)) rfl rfl (fun z1 => ?_))
  refine TO.l rfl (l_alloc inf25 rfl (fun z2 => ?_))
  refine TO.qa rfl ?_
  refine TO.nl (T.s (T.s (T.rg ?_)))
  refine TO.q (q_la 1 underlying25 rfl inf25 rfl rfl rfl) ?_
  have hk9 := fun (w1 : World) (hI : Inv w [oI z2 25 [(.int .i64 0), (.int .i64 0), (.slice none 0 0), (.slice none 0 0)], oI z1 25 (dC a k)] w1) => (haveI := tbz hI; (show PureT _ _ _ _ _ from by
      have h9 := subsetCheck w1 a k.nb k.fb k.nc k.fc (vals k.qs) (hI.dfa ha) (by omega) hv.bound (by omega)
      rw [he] at h9
      exact h9))
  refine TO.l rfl (l_call ent35 (CallT.op hk9) rfl ?_)
  clear hk9
  rintro vr O' ⟨N, rfl, rfl, rfl⟩
  refine TO.qa rfl ?_
  refine TO.nl (T.s (T.rg ?_))
  refine TO.qm rfl (TO.q (q_neq rfl rfl) ?_)
  refine TO.nl ?_
  refine T.cond0 rfl ?_
  refine T.skip (T.s (T.s (T.rg ?_)))
  refine TO.qm rfl (TO.q (QT.toB (q_lss rfl rfl) (decide_eq_false (by omega))) (TO.qm rfl ?_))
  refine TO.gd rfl rfl rfl (LT.oq rfl rfl (q_move rfl) ?_)
  refine TO.gd rfl rfl rfl (LT.oq rfl rfl (q_fa underlying25 rfl inf3 rfl rfl) ?_)
  refine TO.gd rfl rfl rfl (LT.oq rfl rfl (q_lb 1 underlying3 rfl rfl rfl rfl) ?_)
  refine TO.gd rfl rfl rfl (LT.oq rfl rfl (QT.toB (q_gtr rfl rfl) (decide_eq_false (by omega))) ?_)
  refine TO.q (q_pick0 rfl rfl) (TO.qm rfl ?_)
  refine TO.gd rfl rfl rfl (LT.oq rfl rfl (q_fa underlying25 rfl inf3 rfl rfl) ?_)
  refine TO.gd rfl rfl rfl (LT.oq rfl rfl (q_lb 1 underlying3 rfl rfl rfl rfl) ?_)
  refine TO.gd rfl rfl rfl (LT.oq rfl rfl (QT.toB (q_eql rfl rfl) (decide_eq_false (by omega))) ?_)
  refine TO.q (q_pick0 rfl rfl) ?_
  refine TO.nl ?_
  refine T.cond0 rfl ?_
  refine T.skip (T.s (T.rg ?_))
  refine TO.qm rfl (TO.q (QT.cast (q_shlU (a := 1) (b := v) .u8 rfl rfl (by simp only [IntKind.bits]; omega) (by simp only [IntKind.bits]; omega)) (v' := .int .u8 ((2 ^ v : Nat) : Int)) (by rw [Nat.one_mul])) (TO.q (q_subU (a := 2 ^ v) (b := 1) .u8 rfl rfl (by simp only [IntKind.bits]; omega) (by omega)) ?_))
  refine TO.l rfl (l_alloc inf5 rfl (fun z3 => ?_))
  refine TO.l rfl (l_sb (v := .int .u8 ((2 ^ v - 1 : Nat) : Int)) (vs := [(.int .u8 ((2 ^ v - 1 : Nat) : Int))]) 0 inf5 rfl rfl rfl rfl rfl rfl (by simp [putL]) ?_)
  refine TO.nl (T.s (T.rg ?_))
  refine TO.q (q_la 2 underlying25 rfl inf25 rfl rfl rfl) (TO.q (q_fa underlying25 rfl inf3 rfl rfl) (TO.q (q_lb 2 underlying3 rfl rfl rfl rfl) (TO.q (QT.cast (q_add64 rfl rfl (by omega)) (v' := .int .i64 ((a.vars.toNat + 1 : Nat) : Int)) (congrArg (Value.int .i64) (by omega))) ?_)))
  refine TO.q (q_makeFunc) ?_
  have hk36 := CallT.under (A := [oI z3 5 [(.int .u8 ((2 ^ v - 1 : Nat) : Int))]]) (B := [oI z2 25 [(.int .i64 0), (.int .i64 0), (.slice none 0 0), (.slice none 0 0)], oI z1 25 (dC a k)]) (O := [oI z3 5 [(.int .u8 ((2 ^ v - 1 : Nat) : Int))], oI z2 25 [(.int .i64 0), (.int .i64 0), (.slice none 0 0), (.slice none 0 0)], oI z1 25 (dC a k)]) (rebF w a k ha hv (a.vars.toNat + 1) (by omega) _ rfl (cut v) (fun x hx => cut_lt a.vars.toNat (by omega) v (by omega) x hx) (.func (.func 64) #[] #[(.pointer (some ⟨z3, 0, none⟩))]) [oI z3 5 [(.int .u8 ((2 ^ v - 1 : Nat) : Int))]] (fun x hx => CallV.of_fn (first := []) (args := [.int .u8 ((x : Nat) : Int)]) (caps := [(.pointer (some ⟨z3, 0, none⟩))]) ent64 (insF w z3 v x (by omega) (Nat.lt_of_lt_of_le hx (Nat.pow_le_pow_right (n := 2) (by decide) (show a.vars.toNat + 1 ≤ 6 by omega))))) hM) (by exact Sub.rf)
  refine TO.l rfl (l_call ent62 hk36 rfl ?_)
  clear hk36
  rintro vr O' ⟨A1, rfl, k9, rfl, rfl⟩
  refine TO.q (q_extract (vs := _) rfl rfl) (TO.q (q_extract (vs := _) rfl rfl) ?_)
  refine TO.l rfl (l_sb (v := (dV M k9)) (vs := (dC M k9)) 1 inf25 rfl rfl rfl rfl rfl rfl (by simp [putL]) ?_)
  refine TO.qa rfl ?_
  refine TO.nl (T.ret (Res.drop ?_))
  refine Res.cell1b (.int .i64 0) (i := 1) Tryz.results27 underlying25 rfl inf25 rfl rfl rfl rfl ?_
  exact ⟨[dI 37 4 3 M k9], (by exact Sub.k .z), k9, rfl, rfl⟩
theorem insC (w : World) [Tab Tryz.prog w] (a : DFA) (k : DK) (ha : At w a k) (haa : a.next.length < 9223372036854775807) (haar : ∀ r ∈ a.next, r.length < 9223372036854775807) (haaf : a.final.length < 9223372036854775807) (v : Int) :
    PureT Tryz.prog 27 [dV a k, .int .i64 v] w fun v9 N => ∃ k9 : DK, v9 = .tuple #[dV (inV a v) k9, .int .i64 (inE2 a v : Int)] ∧ N = [dI 37 4 3 (inV a v) k9] := by
  by_cases he : checkD a ≠ 0
  · have e1 : inE2 a v = checkD a := by unfold inE2; rw [if_pos he]
    have e2 : inV a v = noD := by unfold inV; rw [if_neg (by omega)]
    rw [e1, e2]
    refine (CallT.nilD 37 4 3 (insBad w a k ha haa haar haaf he v)).mono ?_
    rintro v9 N ⟨O2, rfl, rfl, rfl⟩
    exact ⟨k00, rfl, rfl⟩
  · have hv : Valid a := checkD_zero.1 (by omega)
    by_cases hb : v < 0 ∨ a.vars < v ∨ a.vars = 6
    · have e1 : inE2 a v = 7 := by unfold inE2; rw [if_neg he, if_pos hb]
      have e2 : inV a v = noD := by unfold inV; rw [if_neg (by omega)]
      rw [e1, e2]
      refine (CallT.nilD 37 4 3 (insVars w a k ha hv v hb)).mono ?_
      rintro v9 N ⟨O2, rfl, rfl, rfl⟩
      exact ⟨k00, rfl, rfl⟩
    · have e1 : inE2 a v = 0 := by unfold inE2; rw [if_neg he, if_neg hb]
      have e2 : inV a v = minD (reD a (a.vars + 1) (cut v.toNat)) := by unfold inV; rw [if_pos e1]
      have hv0 := hv.v0
      have hv6 := hv.v6
      rw [e1, e2]
      obtain ⟨n, rfl⟩ : ∃ n : Nat, v = n := ⟨v.toNat, by omega⟩
      exact insOk w a k ha hv n (by omega) (by omega) (by rw [show ((a.vars.toNat + 1 : Nat) : Int) = a.vars + 1 by omega]; rfl)
end Go.Proofs.YtohkmggbfcnapaaGreatDoor


namespace Go.Proofs.YtohkmggbfcnapaaGreatDoor
open Go.Lx Go.RowKit _root_.Go.Proofs.Tryz
theorem ignBad (w : World) [Tab Tryz.prog w] (a : DFA) (k : DK) (ha : At w a k) (haa : a.next.length < 9223372036854775807) (haar : ∀ r ∈ a.next, r.length < 9223372036854775807) (haaf : a.final.length < 9223372036854775807) (v : Int) (he : vE a v ≠ 0) :
    PureT Tryz.prog 18 [dV a k, .int .i64 v] w fun r N => r = .tuple #[.bool false, .int .i64 (vE a v : Int)] ∧ N = [] := by
  refine CallT.enter func18 rfl ntmps18 rfl ?_
  refine T.s (T.rg ?_)
  refine TO.l rfl (l_box (v := (dV a k)) (cs := (dC a k)) rfl rfl (fun bx1 => ?_))
  refine TO.l rfl (l_alloc inf4 rfl (fun bx2 => ?_))
  refine TO.l rfl (l_alloc inf29 rfl (fun bx3 => ?_))
  refine TO.nl (T.s (T.s (T.rg ?_)))
  refine TO.q (q_la 2 underlying25 rfl inf25 rfl rfl rfl) (TO.qm rfl ?_)
  have hk16 := fun (w1 : World) (hI : Inv w [oI bx3 29 [(.int .i64 0)], oI bx2 4 [(.bool false)], oI bx1 25 (dC a k)] w1) => (haveI := tbz hI; pCheck w1 a k (hI.atB ha) haa haar haaf v)
  refine TO.l rfl (l_call ent48 (CallT.op hk16) rfl ?_)
  clear hk16
  rintro vr O' ⟨N, rfl, rfl, rfl⟩
  refine TO.qa rfl ?_
  refine TO.nl (T.s (T.rg ?_))
  refine TO.qm rfl (TO.q (QT.toB (q_neq rfl rfl) (decide_eq_true (by omega))) ?_)
  refine TO.nl ?_
  refine T.cond1 rfl ?_
  refine T.s (T.rg ?_)
  refine TO.qm rfl ?_
  refine TO.l rfl (l_sb (v := .bool false) (vs := [(.bool false)]) 1 inf4 rfl rfl rfl rfl rfl rfl (by simp [putL]) ?_)
  refine TO.l rfl (l_sb (v := .int .i64 (vE a v : Int)) (vs := [(.int .i64 (vE a v : Int))]) 0 inf29 rfl rfl rfl rfl rfl rfl (by simp [putL]) ?_)
  refine TO.nl (T.ret (Res.drop ?_))
  refine Res.cell2s (i := 1) (j := 0) Tryz.results18 underlying4 rfl underlying29 rfl rfl rfl rfl rfl ?_
  exact ⟨[], Sub.z, rfl, rfl⟩
theorem ignOk (w : World) [Tab Tryz.prog w] (a : DFA) (k : DK) (ha : At w a k) (hv : Valid a) (v : Nat) (hva : (v : Int) < a.vars) {M : DFA} (hM : minD a = M) :
    PureT Tryz.prog 18 [dV a k, .int .i64 ((v : Nat) : Int)] w fun r N => r = .tuple #[.bool (ignB M v), .int .i64 0] ∧ N = [] := by
  refine CallT.enter func18 rfl ntmps18 rfl ?_
  have he := checkD_zero.2 hv
  have h4 := hv.n4
  have hww : letN a ≤ 64 := hv.width
  have hfin := hv.fin
  have hvl := ha.rows.1
  have hsl := start_lt hv.toVal
  have hs0 := hv.s0
  have hs1 := hv.s1
  have hve : vE a v = 0 := vE_zero.2 ⟨hv, by omega, hva⟩
  have hMv : Valid M := hM ▸ minD_valid hv
  have hMs : M.vars = a.vars := by rw [← hM]; rfl
  have hv6 := hv.v6
  have hMn := hMv.n4
  have hlw : letN M ≤ 64 := hMv.width
  refine T.s (T.rg ?_)
  refine TO.l rfl (l_box (v := (dV a k)) (cs := (dC a k)) rfl rfl (fun z1 => ?_))
  refine TO.l rfl (l_alloc inf4 rfl (fun z2 => ?_))
  refine TO.l rfl (l_alloc inf29 rfl (fun z3 => ?_))
  refine TO.nl (T.s (T.s (T.rg ?_)))
  refine TO.q (q_la 2 underlying25 rfl inf25 rfl rfl rfl) (TO.qm rfl ?_)
  have hk16 := fun (w1 : World) (hI : Inv w [oI z3 29 [(.int .i64 0)], oI z2 4 [(.bool false)], oI z1 25 (dC a k)] w1) => (haveI := tbz hI; (show PureT _ _ _ _ _ from by
      have h9 := pCheck w1 a k (hI.atB ha) (by omega) hv.bound (by omega) (v : Int)
      rw [hve] at h9
      exact h9))
  refine TO.l rfl (l_call ent48 (CallT.op hk16) rfl ?_)
  clear hk16
  rintro vr O' ⟨N, rfl, rfl, rfl⟩
  refine TO.qa rfl ?_
  refine TO.nl (T.s (T.rg ?_))
  refine TO.qm rfl (TO.q (QT.toB (q_neq rfl rfl) (decide_eq_false (by omega))) ?_)
  refine TO.nl ?_
  refine T.cond0 rfl ?_
  refine T.skip (T.s (T.rg ?_))
  refine TO.q (q_la 2 underlying25 rfl inf25 rfl rfl rfl) ?_
  have hk22 := fun (w1 : World) (hI : Inv w [oI z3 29 [(.int .i64 0)], oI z2 4 [(.bool false)], oI z1 25 (dC a k)] w1) => (haveI := tbz hI; minKE w1 a k (hI.atB ha) hv (by omega) (M := M) hM)
  refine TO.l rfl (l_call ent34 (CallT.op hk22) rfl ?_)
  clear hk22
  rintro vr O' ⟨N, rfl, k9, rfl, rfl⟩
  refine TO.qm rfl (TO.q (q_extract (vs := _) rfl rfl) (TO.q (q_extract (vs := _) rfl rfl) ?_))
  refine TO.l rfl (l_alloc inf25 rfl (fun z4 => ?_))
  refine TO.l rfl (l_sb (v := (dV M k9)) (vs := (dC M k9)) 0 inf25 rfl rfl rfl rfl rfl rfl (by simp [putL]) ?_)
  refine TO.qa rfl ?_
  refine TO.nl (T.s (T.s ?_))
  refine T.have (φ := nums k9.qs = M.next) (fun w9 hI => dI_nums hI (mG 1 rfl)) (fun hqs => ?_)
  have hvl9 : (vals k9.qs).length = M.next.length := by rw [← hqs]; simp
  refine T.rg ?_
  refine TO.q (q_fa underlying25 rfl inf22 rfl rfl) (TO.q (q_lb 0 underlying22 rfl rfl rfl rfl) (TO.q (q_len underlying22 rfl) (TO.qm rfl ?_)))
  refine TO.nl (T.block ?_)
  refine T.loopS (fun (s : Nat) ρ O => O = [oI z4 25 (dC M k9), dI 37 4 3 M k9, oI z3 29 [(.int .i64 0)], oI z2 4 [(.bool false)], oI z1 25 (dC a k)] ∧ s ≤ M.next.length ∧ (∀ s1, s1 < s → ∀ x, x < letN M → toN M s1 (c0 v x) = toN M s1 x) ∧ Heads [(0, (dV a k)), (1, .int .i64 ((v : Nat) : Int)), (2, (.pointer (some ⟨z1, 0, none⟩))), (4, (.pointer (some ⟨z2, 0, none⟩))), (5, (.pointer (some ⟨z3, 0, none⟩))), (6, .int .i64 0), (7, (.pointer (some ⟨z4, 0, none⟩))), (26, (.slice k9.nb M.next.length k9.nc)), (27, .int .i64 (M.next.length : Int)), (28, .int .i64 ((s : Nat) : Int))] ρ) (fun s => M.next.length - s) 0 ?_ ?_
  · exact ⟨rfl, Nat.zero_le _, fun s1 h => absurd h (by omega), ⟨rfl, rfl, rfl, rfl, rfl, rfl, rfl, rfl, rfl, rfl, trivial⟩⟩
  rintro s ρ O ⟨rfl, hs, hall, hH⟩
  obtain ⟨ρ0, rfl⟩ := hH.elim
  clear hH
  refine T.s (T.rg ?_)
  refine TO.q (q_lss rfl rfl) ?_
  refine TO.nl (T.s ?_)
  refine T.condP rfl (fun hc => ?_) (fun hc => ?_)
  · have hlt29 : s < M.next.length := by omega
    have hsl : s < M.next.length := by omega
    obtain ⟨q0, hq0, hz0⟩ := dk_row hqs hsl
    have hl1 : M.next[s].length = letN M := hMv.len _ (List.getElem_mem hsl)
    have hg9 : (vals k9.qs)[s]? = some (.slice q0.b M.next[s].length q0.c) := by rw [rvals_at hq0, hz0]
    refine T.skip (T.s (T.block (T.s (T.rg ?_))))
    refine TO.q (q_ix (i := s) underlying22 inf37 rfl rfl (dI_outer (mG 1 rfl)) hsl (hvl9 ▸ hsl)) (TO.q (q_ld underlying37 rfl rfl (dI_outer (mG 1 rfl)) hg9) ?_)
    refine TO.l rfl (l_alloc inf37 rfl (fun z5 => ?_))
    refine TO.l rfl (l_sb (v := (.slice q0.b M.next[s].length q0.c)) (vs := [(.slice q0.b M.next[s].length q0.c)]) 0 inf37 rfl rfl rfl rfl rfl rfl (by simp [putL]) ?_)
    refine TO.nl (T.s (T.rg ?_))
    refine TO.q (q_lb 0 underlying37 rfl rfl rfl rfl) (TO.q (q_len underlying37 rfl) (TO.qm rfl ?_))
    refine TO.nl (T.block ?_)
    refine T.loopS (fun (x : Nat) ρ O => O = [oI z5 37 [(.slice q0.b M.next[s].length q0.c)], oI z4 25 (dC M k9), dI 37 4 3 M k9, oI z3 29 [(.int .i64 0)], oI z2 4 [(.bool false)], oI z1 25 (dC a k)] ∧ x ≤ M.next[s].length ∧ (∀ x1, x1 < x → toN M s (c0 v x1) = toN M s x1) ∧ Heads [(0, (dV a k)), (1, .int .i64 ((v : Nat) : Int)), (2, (.pointer (some ⟨z1, 0, none⟩))), (4, (.pointer (some ⟨z2, 0, none⟩))), (5, (.pointer (some ⟨z3, 0, none⟩))), (6, .int .i64 0), (7, (.pointer (some ⟨z4, 0, none⟩))), (10, (.pointer (some ⟨z5, 0, none⟩))), (26, (.slice k9.nb M.next.length k9.nc)), (27, .int .i64 (M.next.length : Int)), (28, .int .i64 ((s : Nat) : Int)), (32, (.slice q0.b M.next[s].length q0.c)), (33, .int .i64 (M.next[s].length : Int)), (34, .int .i64 ((x : Nat) : Int))] ρ) (fun x => M.next[s].length - x) 0 ?_ ?_
    · exact ⟨rfl, Nat.zero_le _, fun x1 h => absurd h (by omega), ⟨rfl, rfl, rfl, rfl, rfl, rfl, rfl, rfl, rfl, rfl, rfl, rfl, rfl, rfl, trivial⟩⟩
    rintro x ρ O ⟨rfl, hx, hrow, hH⟩
    obtain ⟨ρ0, rfl⟩ := hH.elim
    clear hH
    refine T.s (T.rg ?_)
    refine TO.q (q_lss rfl rfl) ?_
    refine TO.nl (T.s ?_)
    refine T.condP rfl (fun hc => ?_) (fun hc => ?_)
    · have hlt35 : x < M.next[s].length := by omega
      have hxl : x < letN M := by omega
      obtain ⟨hto, _, hxk1, hx1⟩ := hMv.toN_lt hsl hxl
      have hx1 : (ints M.next[s])[x]? = some (.int .i64 ((toN M s x : Nat) : Int)) := by rw [ints_get hxk1, hx1]
      refine T.skip (T.s (T.block (T.s (T.rg ?_))))
      refine TO.qm rfl (TO.q (q_ix (i := x) underlying37 inf3 rfl rfl (dI_row (mG 2 rfl) hq0 hz0) hxk1 (by rw [List.length_map]; exact hxk1)) (TO.q (q_ld underlying3 rfl rfl (dI_row (mG 2 rfl) hq0 hz0) hx1) ?_))
      refine TO.l rfl (l_alloc inf3 rfl (fun z6 => ?_))
      refine TO.qa rfl ?_
      refine TO.l rfl (l_sb (v := .int .i64 ((toN M s x : Nat) : Int)) (vs := [(.int .i64 ((toN M s x : Nat) : Int))]) 0 inf3 rfl rfl rfl rfl rfl rfl (by simp [putL]) ?_)
      refine TO.nl (T.s (T.rg ?_))
      refine TO.qm rfl (TO.q (q_conv_id underlying3 underlying5 rfl (wrap8 (by omega))) (TO.qm rfl ?_))
      have hk42 := fun (w1 : World) (hI : Inv w [oI z6 3 [(.int .i64 ((toN M s x : Nat) : Int))], oI z5 37 [(.slice q0.b M.next[s].length q0.c)], oI z4 25 (dC M k9), dI 37 4 3 M k9, oI z3 29 [(.int .i64 0)], oI z2 4 [(.bool false)], oI z1 25 (dC a k)] w1) => (haveI := tbz hI; variMk w1 x v)
      refine TO.l rfl (l_call ent52 (CallT.op hk42) rfl ?_)
      clear hk42
      rintro vr O' ⟨N, rfl, xb, vb, rfl, rfl⟩
      refine TO.nl (T.block ?_)
      refine T.rangeFunc (first := []) (caps := [(.pointer (some ⟨vb, 0, none⟩)), (.pointer (some ⟨xb, 0, none⟩))]) rfl ent87 (fun yl yq yhq => ?_)
      refine CallT.mono (CallT.sub (O' := oI vb 3 [(.int .i64 ((v : Nat) : Int))] :: oI xb 5 [(.int .u8 ((x : Nat) : Int))] :: (objI yl (lp yq none) :: [oI z6 3 [(.int .i64 ((toN M s x : Nat) : Int))], oI z5 37 [(.slice q0.b M.next[s].length q0.c)], oI z4 25 (dC M k9), dI 37 4 3 M k9, oI z3 29 [(.int .i64 0)], oI z2 4 [(.bool false)], oI z1 25 (dC a k)])) (Sub.pick [1, 1, 0, 0, 0, 0, 0, 0, 0, 0] rfl) (variF w xb vb v x (by omega) (by omega) (.func (.yield yl) #[] #[]) (fun i9 O => O = objI yl (lp yq none) :: [oI z6 3 [(.int .i64 ((toN M s x : Nat) : Int))], oI z5 37 [(.slice q0.b M.next[s].length q0.c)], oI z4 25 (dC M k9), dI 37 4 3 M k9, oI z3 29 [(.int .i64 0)], oI z2 4 [(.bool false)], oI z1 25 (dC a k)] ∧ (0 < i9 → toN M s (c0 v x) = toN M s x)) (fun O => O = objI yl (lp yq (some .ret)) :: [oI z6 3 [(.int .i64 ((toN M s x : Nat) : Int))], oI z5 37 [(.slice q0.b M.next[s].length q0.c)], oI z4 25 (dC M k9), dI 37 4 3 M k9, oI z3 29 [(.int .i64 0)], oI z2 4 [(.bool false)], oI z1 25 (dC a k)] ∧ ignB M v = false) ?_ _ ?_)) ?_
      · intro i y O hiy hJ
        obtain ⟨rfl, hJ0⟩ := hJ
        refine CallV.yield yhq rfl rfl ?_
        have hyy : y = c0 v x ∨ y = c1 v x := hiy.elim (fun h => .inl h.2) (fun h => .inr h.2)
        have hyl : y < letN M := by
          rcases hyy with rfl | rfl
          · exact c0_lt hxl
          · exact c1_lt (letN6 hMv.toVal) (by omega) hxl
        obtain ⟨hty, _, hyk1, hy1⟩ := hMv.toN_lt hsl hyl
        have hy1 : (ints M.next[s])[y]? = some (.int .i64 ((toN M s y : Nat) : Int)) := by rw [ints_get hyk1, hy1]
        refine T.rg ?_
        refine TO.qa rfl ?_
        refine TO.nl (T.block (T.s ?_))
        refine T.draws _ [(0, 0), (1, 0), (2, 0), (3, 0), (4, 0), (5, 0)] mixed (by kernel_rfl) (Sub.of (List.Sublist.refl _)) (fun _ _ _ h => h) ?_
        refine DO.q rfl (q_lb 1 underlying37 rfl rfl rfl rfl) (DO.q rfl (q_move rfl) (DO.q rfl (q_ix (i := y) underlying37 inf3 rfl rfl (dI_row (mG 3 rfl) hq0 hz0) hyk1 (by rw [List.length_map]; exact hyk1)) (DO.q rfl (q_ld underlying3 rfl rfl (dI_row (mG 3 rfl) hq0 hz0) hy1) ?_)))
        refine DO.q rfl (q_lb 0 underlying3 rfl rfl rfl rfl) (DO.q rfl (q_neq rfl rfl) ?_)
        refine DO.done ?_
        refine T.condP rfl (fun hc => ?_) (fun hc => ?_)
        · have hlt49 : toN M s y ≠ toN M s x := by omega
          refine T.s (T.rg ?_)
          refine TO.l rfl (l_sb (v := .bool false) (vs := [(.bool false)]) 5 inf4 rfl rfl rfl rfl rfl rfl (by simp [putL]) ?_)
          refine TO.l rfl (l_sb (v := .int .i64 0) (vs := [(.int .i64 0)]) 4 inf29 rfl rfl rfl rfl rfl rfl (by simp [putL]) ?_)
          refine TO.nl (T.ret ?_)
          exact .inr ⟨rfl, rfl, ign_no (by omega) (letN6 hMv.toVal) hsl hxl hyy (by omega)⟩
        have hge49 : ¬ toN M s y ≠ toN M s x := by omega
        refine T.skip ?_
        refine .inl ⟨rfl, rfl, fun _ => ?_⟩
        rcases hiy with ⟨rfl, rfl⟩ | ⟨rfl, rfl⟩
        · omega
        · exact hJ0 (by decide)
      · exact ⟨rfl, fun h => absurd h (by decide)⟩
      rintro v9 O' (⟨rfl, hx0⟩ | ⟨rfl, hno⟩)
      · refine ⟨none, _, rfl, ?_⟩
        have hx0 := hx0 (by decide)
        refine T.rg ?_
        refine TO.q (q_addN (a := x) (b := 1) rfl rfl (by omega)) (TO.qm rfl ?_)
        refine TO.nl ?_
        exact ⟨x + 1, by omega, [oI z5 37 [(.slice q0.b M.next[s].length q0.c)], oI z4 25 (dC M k9), dI 37 4 3 M k9, oI z3 29 [(.int .i64 0)], oI z2 4 [(.bool false)], oI z1 25 (dC a k)], (by exact Sub.d (.k (.k (.k (.k (.k (.k .z))))))), rfl, by omega, fun x1 h1 => (Nat.lt_succ_iff_lt_or_eq.1 h1).elim (fun h => hrow x1 h) (fun h => h ▸ hx0), ⟨rfl, rfl, rfl, rfl, rfl, rfl, rfl, rfl, rfl, rfl, rfl, rfl, rfl, rfl, trivial⟩⟩
      refine ⟨some .ret, _, rfl, ?_⟩
      refine Res.drop ?_
      refine Res.cell2s (i := 5) (j := 4) Tryz.results18 underlying4 rfl underlying29 rfl rfl rfl rfl rfl ?_
      rw [hno]
      exact ⟨[], Sub.z, rfl, rfl⟩
    have hge35 : ¬ x < M.next[s].length := by omega
    refine T.exit ?_
    refine T.rg ?_
    refine TO.q (q_addN (a := s) (b := 1) rfl rfl (by omega)) (TO.qm rfl ?_)
    refine TO.nl ?_
    have hxe : x = letN M := by omega
    exact ⟨s + 1, by omega, [oI z4 25 (dC M k9), dI 37 4 3 M k9, oI z3 29 [(.int .i64 0)], oI z2 4 [(.bool false)], oI z1 25 (dC a k)], (by exact Sub.d (.k (.k (.k (.k (.k .z)))))), rfl, by omega, fun s1 h1 x1 hx1 => (Nat.lt_succ_iff_lt_or_eq.1 h1).elim (fun h => hall s1 h x1 hx1) (fun h => h ▸ hrow x1 (by omega)), ⟨rfl, rfl, rfl, rfl, rfl, rfl, rfl, rfl, rfl, rfl, trivial⟩⟩
  have hge29 : ¬ s < M.next.length := by omega
  refine T.exit ?_
  refine T.s (T.rg ?_)
  refine TO.l rfl (l_sb (v := .bool true) (vs := [(.bool true)]) 3 inf4 rfl rfl rfl rfl rfl rfl (by simp [putL]) ?_)
  refine TO.l rfl (l_sb (v := .int .i64 0) (vs := [(.int .i64 0)]) 2 inf29 rfl rfl rfl rfl rfl rfl (by simp [putL]) ?_)
  refine TO.nl (T.ret (Res.drop ?_))
  refine Res.cell2s (i := 3) (j := 2) Tryz.results18 underlying4 rfl underlying29 rfl rfl rfl rfl rfl ?_
  rw [ign_yes (m := M) (v := v) (fun s1 h1 x1 hx1 => hall s1 (by omega) x1 hx1)]
  exact ⟨[], Sub.z, rfl, rfl⟩
theorem ignC (w : World) [Tab Tryz.prog w] (a : DFA) (k : DK) (ha : At w a k) (haa : a.next.length < 9223372036854775807) (haar : ∀ r ∈ a.next, r.length < 9223372036854775807) (haaf : a.final.length < 9223372036854775807) (v : Int) :
    PureT Tryz.prog 18 [dV a k, .int .i64 v] w fun r N => r = .tuple #[.bool (igV a v), .int .i64 (vE a v : Int)] ∧ N = [] := by
  by_cases he : vE a v = 0
  · obtain ⟨hv, h0, h1⟩ := vE_zero.1 he
    obtain ⟨n, rfl⟩ : ∃ n : Nat, v = n := ⟨v.toNat, by omega⟩
    rw [igV_ok he, he]
    exact ignOk w a k ha hv n h1 rfl
  · rw [igV_bad he]
    exact ignBad w a k ha haa haar haaf v he
end Go.Proofs.YtohkmggbfcnapaaGreatDoor


namespace Go.Proofs.YtohkmggbfcnapaaGreatDoor
open Go.Lx Go.RowKit _root_.Go.Proofs.Tryz
theorem pow2C (w : World) [Tab Tryz.prog w] :
    PureT Tryz.prog 149 [.int .i64 16] w fun v N => v = .bool true ∧ N = [] := by
  refine CallT.enter func149 rfl ntmps149 rfl ?_
  refine T.s (T.rg ?_)
  refine TO.qa rfl ?_
  refine TO.nl (T.s (T.rg ?_))
  refine TO.qm rfl (TO.qm rfl (TO.q (QT.cast (q_sub64 rfl rfl (by omega)) (v' := .int .i64 15) rfl) (TO.q (q_and16 rfl rfl) ?_)))
  refine TO.q (QT.toB (q_eql rfl rfl) (b' := true) rfl) (TO.qa rfl ?_)
  refine TO.nl (T.ret ?_)
  refine Res.one (.bool true) Tryz.results149 rfl ?_
  exact ⟨rfl, rfl⟩
theorem tz16 (w : World) [Tab Tryz.prog w] :
    PureT Tryz.prog 150 [.int .u64 16] w fun v N => v = .int .i64 4 ∧ N = [] := by
  refine CallT.enter func150 rfl ntmps150 rfl ?_
  refine T.s (T.rg ?_)
  refine TO.qa rfl ?_
  refine TO.nl (T.s ?_)
  refine T.cond0 rfl ?_
  refine T.skip (T.s (T.rg ?_))
  refine TO.qm rfl ?_
  have hk7 := fun (w1 : World) (hI : Inv w [] w1) => (haveI := Inv.tab (P := Tryz.prog) hI; (show PureT _ _ _ _ _ from by
      have h9 := tzC w1 16 (by decide) (by decide)
      rw [show Lib.ctz 64 16 = 4 by decide] at h9
      exact h9))
  refine TO.l rfl (l_call ent112 (CallT.op hk7) rfl ?_)
  clear hk7
  rintro vr O' ⟨N, rfl, rfl, rfl⟩
  refine TO.qa rfl ?_
  refine TO.nl (T.ret ?_)
  refine Res.one (.int .i64 4) Tryz.results150 rfl ?_
  exact ⟨rfl, rfl⟩
theorem fmtF (base : World) [Tab Tryz.prog base] (b : Option Addr) (c : Nat) (l : List Nat) (w0 : Nat) (hw : w0 < 18446744073709551616) (hl : l.length < 1000000) :
    CallT Tryz.prog base 130 [.slice b l.length c, .int .u64 ((w0 : Nat) : Int), .int .i64 16, .bool false, .bool true] [rowI b c 5 1 (byts l)] (fun v O' => ∃ b2 c2, v = .tuple #[.slice b2 (l.length + (hexL w0).length) c2, .string ⟨#[]⟩] ∧ O' = [rowI b2 c2 5 1 (byts l ++ byts (hexL w0))]) := by
  refine CallT.enter func130 rfl ntmps130 rfl ?_
  refine T.s (T.rg ?_)
  refine TO.qa rfl (TO.qa rfl ?_)
  refine TO.nl (T.s (T.s (T.rg ?_)))
  refine TO.qm rfl (TO.q (QT.toB (q_lss rfl rfl) (decide_eq_false (by decide))) (TO.qm rfl ?_))
  refine TO.gd rfl rfl rfl (LT.oq rfl rfl (q_move rfl) ?_)
  refine TO.gd rfl rfl rfl (LT.oq rfl rfl (QT.toB (q_eql rfl rfl) (decide_eq_false (by decide))) ?_)
  refine TO.q (q_pick0 rfl rfl) (TO.qm rfl ?_)
  refine TO.gd rfl rfl rfl (LT.oq rfl rfl (q_move rfl) ?_)
  refine TO.gd rfl rfl rfl (LT.oq rfl rfl (QT.toB (q_gtr rfl rfl) (decide_eq_false (by decide))) ?_)
  refine TO.q (q_pick0 rfl rfl) ?_
  refine TO.nl ?_
  refine T.cond0 rfl ?_
  refine T.skip (T.s (T.rg ?_))
  refine TO.l rfl (l_alloc inf180 rfl (fun z1 => ?_))
  refine TO.sub (O' := [oI z1 180 (List.replicate 65 (.int .u8 0)), rowI b c 5 1 (byts l)]) (by exact Sub.rf) ?_
  refine TO.nl (T.s (T.rg ?_))
  refine TO.qa rfl ?_
  refine TO.nl (T.s (T.s (T.rg ?_)))
  refine TO.qm rfl ?_
  refine TO.nl ?_
  refine T.cond0 rfl ?_
  refine T.skip (T.s (T.s (T.rg ?_)))
  refine TO.qm rfl ?_
  have hk34 := fun (w1 : World) (hI : Inv base [oI z1 180 (List.replicate 65 (.int .u8 0)), rowI b c 5 1 (byts l)] w1) => (haveI := Inv.tab (P := Tryz.prog) hI; pow2C w1)
  refine TO.l rfl (l_call ent149 (CallT.op hk34) rfl ?_)
  clear hk34
  rintro vr O' ⟨N, rfl, rfl, rfl⟩
  refine TO.nl ?_
  refine T.cond1 rfl ?_
  refine T.s (T.rg ?_)
  refine TO.qm rfl (TO.q (q_conv_id underlying3 underlying52 rfl rfl) ?_)
  have hk37 := fun (w1 : World) (hI : Inv base [oI z1 180 (List.replicate 65 (.int .u8 0)), rowI b c 5 1 (byts l)] w1) => (haveI := Inv.tab (P := Tryz.prog) hI; tz16 w1)
  refine TO.l rfl (l_call ent150 (CallT.op hk37) rfl ?_)
  clear hk37
  rintro vr O' ⟨N, rfl, rfl, rfl⟩
  refine TO.q (q_conv_id underlying3 underlying52 rfl rfl) (TO.qa rfl ?_)
  refine TO.nl (T.s (T.rg ?_))
  refine TO.qm rfl (TO.q (q_conv_id underlying3 underlying107 rfl rfl) (TO.qa rfl ?_))
  refine TO.nl (T.s (T.rg ?_))
  refine TO.qm rfl (TO.q (q_conv_id underlying3 underlying52 rfl rfl) (TO.q (QT.cast (q_subU (a := 16) (b := 1) .u64 rfl rfl (by decide) (by decide)) (v' := .int .u64 15) rfl) (TO.qa rfl ?_)))
  refine TO.nl (T.s (T.block ?_))
  refine T.loop (fun (u : Nat) ρ O => ∃ (ds : List Nat) (cs : List Value), O = [objI z1 (.cells (List.toArray cs) 180 (0, 0)), rowI b c 5 1 (byts l)] ∧ HexI w0 u ds ∧ ArrI cs ds ∧ Heads [(0, (.slice b l.length c)), (1, .int .u64 ((u : Nat) : Int)), (2, .int .i64 16), (3, .bool false), (4, .bool true), (10, (.slice none 0 0)), (11, .string ⟨#[]⟩), (12, (.pointer (some ⟨z1, 0, none⟩))), (13, .int .i64 ((65 - ds.length : Nat) : Int)), (14, .int .u64 4), (15, .int .u64 16), (16, .int .u64 15)] ρ) (fun u => u) w0 ?_ ?_
  · exact ⟨[], _, rfl, HexI.zero hw, ⟨by simp, fun q h => by cases h⟩, ⟨rfl, rfl, rfl, rfl, rfl, rfl, rfl, rfl, rfl, rfl, rfl, rfl, trivial⟩⟩
  rintro u ρ O ⟨ds, cs, rfl, hE, hA, hH⟩
  obtain ⟨ρ0, rfl⟩ := hH.elim
  clear hH
  have hu64 := hE.le
  have hdl : ds.length ≤ 15 := by obtain ⟨f9, _, _, h3, h4⟩ := hE; omega
  refine T.s (T.s (T.rg ?_))
  refine TO.qm rfl (TO.qm rfl (TO.q (QT.cast (q_geq rfl rfl) (v' := .bool (decide (16 ≤ u))) (congrArg Value.bool (decide_eq_decide.2 (by omega)))) ?_))
  refine TO.nl ?_
  refine T.condP rfl (fun hc => ?_) (fun hc => ?_)
  · have hge : 16 ≤ u := hc
    obtain ⟨b9, hb9, hm9⟩ := digS (u % 16) (by omega)
    refine T.skip (T.block (T.s (T.rg ?_)))
    refine TO.qm rfl (TO.q (QT.cast (q_sub64 rfl rfl (by omega)) (v' := .int .i64 ((65 - ds.length - 1 : Nat) : Int)) (congrArg (Value.int .i64) (by omega))) (TO.qa rfl ?_))
    refine TO.nl (T.s (T.rg ?_))
    refine TO.qm rfl (TO.qm rfl (TO.qm rfl (TO.q (QT.cast (q_and (a := u) (b := 15) .u64 rfl rfl (by simp only [IntKind.bits]; omega) (by decide)) (v' := .int .u64 ((u % 16 : Nat) : Int)) (by rw [show (15 : Nat) = 2 ^ 4 - 1 by decide, Nat.and_two_pow_sub_one_eq_mod])) ?_)))
    refine TO.q (q_idxStr (bs := digB) (i := u % 16) underlying9 rfl rfl hb9 hm9) (TO.q (QT.cast (q_ixArr (i := 65 - ds.length - 1) underlying180 inf5 rfl rfl (by omega)) (v' := (.pointer (some ⟨z1, 65 - ds.length - 1, none⟩))) (by rw [Nat.zero_add, Nat.mul_one])) ?_)
    refine TO.l rfl (l_sb (v := .int .u8 ((dgt (u % 16) : Nat) : Int)) (vs := [.int .u8 ((dgt (u % 16) : Nat) : Int)]) 0 inf5 rfl rfl rfl rfl rfl rfl (by have := hA.1; simp; omega) ?_)
    refine TO.nl (T.rg ?_)
    refine TO.qm rfl (TO.qm rfl (TO.q (QT.cast (q_shr (a := u) (b := 4) .u64 rfl rfl (by simp only [IntKind.bits]; omega) (by decide)) (v' := .int .u64 ((u / 16 : Nat) : Int)) (by rw [Nat.shiftRight_eq_div_pow])) (TO.qa rfl ?_)))
    refine TO.nl ?_
    obtain ⟨hE2, _⟩ := hE.step hge
    exact ⟨u / 16, by omega, _, _, rfl, hE2, hA.put hdl, ⟨rfl, rfl, rfl, rfl, rfl, rfl, rfl, rfl, (congrArg (fun n : Nat => Value.int .i64 (n : Int)) (by simp only [List.length_cons]; omega)), rfl, rfl, rfl, trivial⟩⟩
  have hlt16 : u < 16 := by have := hc; omega
  obtain ⟨b9, hb9, hm9⟩ := digS u hlt16
  obtain ⟨hx1, hx2⟩ := hE.done hlt16
  refine T.exit ?_
  refine T.s (T.rg ?_)
  refine TO.qm rfl (TO.q (QT.cast (q_sub64 rfl rfl (by omega)) (v' := .int .i64 ((65 - ds.length - 1 : Nat) : Int)) (congrArg (Value.int .i64) (by omega))) (TO.qa rfl ?_))
  refine TO.nl (T.rg ?_)
  refine TO.qm rfl (TO.qm rfl (TO.q (q_idxStr (bs := digB) (i := u) underlying9 rfl rfl hb9 hm9) (TO.q (QT.cast (q_ixArr (i := 65 - ds.length - 1) underlying180 inf5 rfl rfl (by omega)) (v' := (.pointer (some ⟨z1, 65 - ds.length - 1, none⟩))) (by rw [Nat.zero_add, Nat.mul_one])) ?_)))
  refine TO.l rfl (l_sb (v := .int .u8 ((dgt u : Nat) : Int)) (vs := [.int .u8 ((dgt u : Nat) : Int)]) 0 inf5 rfl rfl rfl rfl rfl rfl (by have := hA.1; simp; omega) ?_)
  refine TO.nl (T.s (T.s (T.rg ?_)))
  refine TO.qm rfl ?_
  refine TO.nl ?_
  refine T.cond0 rfl ?_
  refine T.skip (T.s (T.s (T.rg ?_)))
  refine TO.qm rfl ?_
  refine TO.nl ?_
  refine T.cond1 rfl ?_
  refine T.s (T.rg ?_)
  refine TO.qm rfl (TO.qm rfl (TO.q (q_sliceAF (l := 65 - ds.length - 1) underlying180 inf5 rfl rfl (by omega)) ?_))
  refine TO.l rfl (l_appendAF (new := byts (hexL w0)) (o := 65 - ds.length - 1) 0 1 underlying46 underlying46 inf5 rfl rfl rfl rfl (by simp) (by rw [hx1]; simp; omega) rfl (hA.fin hx2 hx1) (by simp [oneB]) (by omega) (by decide) (by decide) (fun b2 c2 => ?_))
  refine TO.qa rfl ?_
  refine TO.nl (T.ret (Res.drop ?_))
  refine Res.two (.slice b2 (l.length + (65 - (65 - ds.length - 1))) c2) (.string ⟨#[]⟩) Tryz.results130 rfl rfl ?_
  have hlen : (hexL w0).length = 65 - (65 - ds.length - 1) := by rw [hx1]; simp; omega
  exact ⟨[rowI b2 c2 5 1 (byts l ++ byts (hexL w0))], (by exact Sub.d (.k .z)), b2, c2, by rw [hlen], rfl⟩
theorem appF2 (base : World) [Tab Tryz.prog base] (b : Option Addr) (c : Nat) (l : List Nat) (w0 : Nat) (hw : w0 < 18446744073709551616) (hl : l.length < 1000000) :
    CallT Tryz.prog base 110 [.slice b l.length c, .int .u64 ((w0 : Nat) : Int), .int .i64 16] [rowI b c 5 1 (byts l)] (fun v O' => ∃ b2 c2, v = .slice b2 (l.length + (hexL w0).length) c2 ∧ O' = [rowI b2 c2 5 1 (byts l ++ byts (hexL w0))]) := by
  refine CallT.enter func110 rfl ntmps110 rfl ?_
  refine T.s (T.rg ?_)
  refine TO.qa rfl ?_
  refine TO.nl (T.s (T.s (T.rg ?_)))
  refine TO.qm rfl (TO.q (QT.toB (q_eql rfl rfl) (decide_eq_false (by decide))) ?_)
  refine TO.nl ?_
  refine T.cond0 rfl ?_
  refine T.skip (T.s (T.rg ?_))
  refine TO.qm rfl (TO.qm rfl (TO.qm rfl ?_))
  have hk32 := fmtF base b c l w0 hw hl
  refine TO.l rfl (l_call ent130 hk32 rfl ?_)
  clear hk32
  rintro vr O' ⟨b2, c2, rfl, rfl⟩
  refine TO.qm rfl (TO.q (q_extract (vs := _) rfl rfl) (TO.q (q_extract (vs := _) rfl rfl) (TO.qa rfl ?_)))
  refine TO.nl (T.s (T.rg ?_))
  refine TO.qm rfl (TO.qa rfl ?_)
  refine TO.nl (T.ret ?_)
  refine Res.one (.slice b2 (l.length + (hexL w0).length) c2) Tryz.results110 rfl ?_
  exact ⟨_, _, rfl, rfl⟩
theorem appF3 (base : World) [Tab Tryz.prog base] (b : Option Addr) (c : Nat) (l : List Nat) (w0 : Nat) (hw : w0 < 18446744073709551616) (hl : l.length < 1000000) :
    CallT Tryz.prog base 85 [.slice b l.length c, .int .u64 ((w0 : Nat) : Int), .int .i64 16] [rowI b c 5 1 (byts l)] (fun v O' => ∃ b2 c2, v = .slice b2 (l.length + (hexL w0).length) c2 ∧ O' = [rowI b2 c2 5 1 (byts l ++ byts (hexL w0))]) := by
  refine CallT.enter func85 rfl ntmps85 rfl ?_
  refine T.s (T.rg ?_)
  refine TO.qa rfl ?_
  refine TO.nl (T.s (T.rg ?_))
  refine TO.qm rfl (TO.qm rfl (TO.qm rfl ?_))
  have hk10 := appF2 base b c l w0 hw hl
  refine TO.l rfl (l_call ent110 hk10 rfl ?_)
  clear hk10
  rintro vr O' ⟨b2, c2, rfl, rfl⟩
  refine TO.qa rfl ?_
  refine TO.nl (T.ret ?_)
  refine Res.one (.slice b2 (l.length + (hexL w0).length) c2) Tryz.results85 rfl ?_
  exact ⟨_, _, rfl, rfl⟩
theorem keyC (w : World) [Tab Tryz.prog w] (b : Option Addr) (m : Nat) (hb : Sl w b (uns [m])) (hw : m < 18446744073709551616) :
    PureT Tryz.prog 50 [.slice b 1 1] w fun v N => v = str (keyM m) ∧ N = [] := by
  refine CallT.enter func50 rfl ntmps50 rfl ?_
  have hhl : (hexL m).length ≤ 16 := hexF_len 16 m
  refine T.s (T.rg ?_)
  refine TO.qa rfl ?_
  refine TO.nl (T.s (T.rg ?_))
  refine TO.qa rfl ?_
  refine TO.nl (T.s (T.s (T.rg ?_)))
  refine TO.qm rfl (TO.q (QT.cast (q_len underlying67 rfl) (v' := .int .i64 1) rfl) (TO.qm rfl ?_))
  refine TO.nl (T.block ?_)
  refine T.rounds 2 (T.round ?_)
  refine T.s (T.rg ?_)
  refine TO.q (QT.toB (q_lss rfl rfl) (b' := true) rfl) ?_
  refine TO.nl (T.s ?_)
  refine T.cond1 rfl ?_
  refine T.skip (T.s (T.block (T.s (T.rg ?_))))
  refine TO.q (q_ix (i := 0) underlying67 inf107 rfl rfl (Sl.o hb) (by decide) (by simp)) (TO.q (q_ld underlying107 rfl rfl (Sl.o hb) rfl) (TO.qa rfl ?_))
  refine TO.nl ?_
  refine T.nilRow 5 1 ?_
  refine T.rg ?_
  refine TO.qm rfl (TO.qm rfl ?_)
  have hk14 := appF3 w none 0 [] m hw (by decide)
  refine TO.l rfl (l_call ent85 hk14 rfl ?_)
  clear hk14
  rintro vr O' ⟨b2, c2, rfl, rfl⟩
  refine TO.l rfl (l_build1 (v := .int .u8 32) underlying46 inf5 rfl rfl rfl (fun bx1 => ?_))
  refine TO.l rfl (l_append 1 underlying46 underlying46 inf5 rfl rfl rfl rfl (by simp) (by decide) (Src.row (j := 0) rfl (by simp)) (by simp [oneB]) (by simp only [List.length_nil]; omega) (by decide) (by decide) (fun bx2 c3 => ?_))
  refine TO.qa rfl ?_
  refine TO.nl (T.rg ?_)
  refine TO.q (QT.cast (q_add64 rfl rfl (by omega)) (v' := .int .i64 1) rfl) (TO.qm rfl ?_)
  refine TO.nl ?_
  refine Rnd.reset [rowI (some ⟨bx1, 0, none⟩) 1 5 1 [.int .u8 32], rowI bx2 c3 5 1 ((byts [] ++ byts (hexL m)) ++ [.int .u8 32])] [(0, (.slice b 1 1)), (2, .string ⟨#[]⟩), (3, (.slice bx2 ((0 + (hexL m).length) + 1) c3)), (5, .int .u64 ((m : Nat) : Int)), (6, (.slice b 1 1)), (7, .int .i64 1), (8, .int .i64 1)] rfl ⟨rfl, rfl, rfl, rfl, rfl, rfl, rfl, trivial⟩ (fun ρ0 => ?_)
  refine T.round ?_
  refine T.s (T.rg ?_)
  refine TO.q (QT.toB (q_lss rfl rfl) (b' := false) rfl) ?_
  refine TO.nl (T.s ?_)
  refine T.cond0 rfl ?_
  refine T.exit ?_
  refine T.s ?_
  refine T.sub (O' := [rowI bx2 c3 5 1 (cells8 (keyM m))]) (by rw [← keyM_cells]; exact Sub.d (.k .z)) ?_
  refine T.rg ?_
  refine TO.qm rfl (TO.q (q_b2s (l := keyM m) underlying46 underlying9 underlying5 rfl (mG 0 rfl) (keyM_len m)) (TO.qa rfl ?_))
  refine TO.nl (T.ret (Res.drop ?_))
  refine Res.one (str (keyM m)) Tryz.results50 rfl ?_
  exact ⟨[], Sub.z, rfl, rfl⟩
end Go.Proofs.YtohkmggbfcnapaaGreatDoor


namespace Go.Proofs.YtohkmggbfcnapaaGreatDoor
open Go.Lx Go.RowKit _root_.Go.Proofs.Tryz
theorem exBad (w : World) [Tab Tryz.prog w] (a : DFA) (k : DK) (ha : At w a k) (haa : a.next.length < 9223372036854775807) (haar : ∀ r ∈ a.next, r.length < 9223372036854775807) (haaf : a.final.length < 9223372036854775807) (v B : Int) (he : vE a v ≠ 0) :
    PureT Tryz.prog 16 [dV a k, .int .i64 v, .int .i64 B] w fun v9 N => v9 = .tuple #[dV noD ⟨none, 0, none, 0, []⟩, .int .i64 (vE a v : Int)] ∧ N = [] := by
  refine CallT.enter func16 rfl ntmps16 rfl ?_
  refine T.s (T.rg ?_)
  refine TO.l rfl (l_box (v := (dV a k)) (cs := (dC a k)) rfl rfl (fun bx1 => ?_))
  refine TO.l rfl (l_alloc inf25 rfl (fun bx2 => ?_))
  refine TO.qa rfl ?_
  refine TO.nl (T.s (T.s (T.rg ?_)))
  refine TO.q (q_la 1 underlying25 rfl inf25 rfl rfl rfl) (TO.qm rfl ?_)
  have hk28 := fun (w1 : World) (hI : Inv w [oI bx2 25 [(.int .i64 0), (.int .i64 0), (.slice none 0 0), (.slice none 0 0)], oI bx1 25 (dC a k)] w1) => (haveI := tbz hI; pCheck w1 a k (hI.atB ha) haa haar haaf v)
  refine TO.l rfl (l_call ent48 (CallT.op hk28) rfl ?_)
  clear hk28
  rintro vr O' ⟨N, rfl, rfl, rfl⟩
  refine TO.qa rfl ?_
  refine TO.nl (T.s (T.rg ?_))
  refine TO.qm rfl (TO.q (QT.toB (q_neq rfl rfl) (decide_eq_true (by omega))) ?_)
  refine TO.nl ?_
  refine T.cond1 rfl ?_
  refine T.s (T.rg ?_)
  refine TO.q (q_build plan25 inf25 rfl) (TO.qm rfl ?_)
  refine TO.l rfl (l_sb (v := (.agg #[(.int .i64 0), (.int .i64 0), (.slice none 0 0), (.slice none 0 0)])) (vs := [(.int .i64 0), (.int .i64 0), (.slice none 0 0), (.slice none 0 0)]) 0 inf25 rfl rfl rfl rfl rfl rfl (by simp [putL]) ?_)
  refine TO.qa rfl ?_
  refine TO.nl (T.ret (Res.drop ?_))
  refine Res.cell1b (.int .i64 (vE a v : Int)) (i := 0) Tryz.results16 underlying25 rfl inf25 rfl rfl rfl rfl ?_
  exact ⟨[], Sub.z, rfl, rfl⟩
theorem exLo (w : World) [Tab Tryz.prog w] (a : DFA) (k : DK) (ha : At w a k) (haa : a.next.length < 9223372036854775807) (haar : ∀ r ∈ a.next, r.length < 9223372036854775807) (haaf : a.final.length < 9223372036854775807) (v B : Int) (he : vE a v = 0) (hB : B < 1) :
    PureT Tryz.prog 16 [dV a k, .int .i64 v, .int .i64 B] w fun v9 N => v9 = .tuple #[dV noD ⟨none, 0, none, 0, []⟩, .int .i64 1] ∧ N = [] := by
  refine CallT.enter func16 rfl ntmps16 rfl ?_
  refine T.s (T.rg ?_)
  refine TO.l rfl (l_box (v := (dV a k)) (cs := (dC a k)) rfl rfl (fun bx1 => ?_))
  refine TO.l rfl (l_alloc inf25 rfl (fun bx2 => ?_))
  refine TO.qa rfl ?_
  refine TO.nl (T.s (T.s (T.rg ?_)))
  refine TO.q (q_la 1 underlying25 rfl inf25 rfl rfl rfl) (TO.qm rfl ?_)
  have hk28 := fun (w1 : World) (hI : Inv w [oI bx2 25 [(.int .i64 0), (.int .i64 0), (.slice none 0 0), (.slice none 0 0)], oI bx1 25 (dC a k)] w1) => (haveI := tbz hI; pCheck w1 a k (hI.atB ha) haa haar haaf v)
  refine TO.l rfl (l_call ent48 (CallT.op hk28) rfl ?_)
  clear hk28
  rintro vr O' ⟨N, rfl, rfl, rfl⟩
  refine TO.qa rfl ?_
  refine TO.nl (T.s (T.rg ?_))
  refine TO.qm rfl (TO.q (QT.toB (q_neq rfl rfl) (decide_eq_false (by omega))) ?_)
  refine TO.nl ?_
  refine T.cond0 rfl ?_
  refine T.skip (T.s (T.s (T.rg ?_)))
  refine TO.qm rfl (TO.q (QT.toB (q_lss rfl rfl) (decide_eq_true (by omega))) (TO.qm rfl ?_))
  refine TO.pd rfl rfl ?_
  refine TO.pd rfl rfl ?_
  refine TO.q (q_pick1 rfl rfl) ?_
  refine TO.nl ?_
  refine T.cond1 rfl ?_
  refine T.s (T.rg ?_)
  refine TO.q (q_build plan25 inf25 rfl) ?_
  refine TO.l rfl (l_sb (v := (.agg #[(.int .i64 0), (.int .i64 0), (.slice none 0 0), (.slice none 0 0)])) (vs := [(.int .i64 0), (.int .i64 0), (.slice none 0 0), (.slice none 0 0)]) 0 inf25 rfl rfl rfl rfl rfl rfl (by simp [putL]) ?_)
  refine TO.qa rfl ?_
  refine TO.nl (T.ret (Res.drop ?_))
  refine Res.cell1b (.int .i64 1) (i := 0) Tryz.results16 underlying25 rfl inf25 rfl rfl rfl rfl ?_
  exact ⟨[], Sub.z, rfl, rfl⟩
theorem exHi (w : World) [Tab Tryz.prog w] (a : DFA) (k : DK) (ha : At w a k) (haa : a.next.length < 9223372036854775807) (haar : ∀ r ∈ a.next, r.length < 9223372036854775807) (haaf : a.final.length < 9223372036854775807) (v B : Int) (he : vE a v = 0) (hB : 4096 < B) :
    PureT Tryz.prog 16 [dV a k, .int .i64 v, .int .i64 B] w fun v9 N => v9 = .tuple #[dV noD ⟨none, 0, none, 0, []⟩, .int .i64 1] ∧ N = [] := by
  refine CallT.enter func16 rfl ntmps16 rfl ?_
  refine T.s (T.rg ?_)
  refine TO.l rfl (l_box (v := (dV a k)) (cs := (dC a k)) rfl rfl (fun bx1 => ?_))
  refine TO.l rfl (l_alloc inf25 rfl (fun bx2 => ?_))
  refine TO.qa rfl ?_
  refine TO.nl (T.s (T.s (T.rg ?_)))
  refine TO.q (q_la 1 underlying25 rfl inf25 rfl rfl rfl) (TO.qm rfl ?_)
  have hk28 := fun (w1 : World) (hI : Inv w [oI bx2 25 [(.int .i64 0), (.int .i64 0), (.slice none 0 0), (.slice none 0 0)], oI bx1 25 (dC a k)] w1) => (haveI := tbz hI; pCheck w1 a k (hI.atB ha) haa haar haaf v)
  refine TO.l rfl (l_call ent48 (CallT.op hk28) rfl ?_)
  clear hk28
  rintro vr O' ⟨N, rfl, rfl, rfl⟩
  refine TO.qa rfl ?_
  refine TO.nl (T.s (T.rg ?_))
  refine TO.qm rfl (TO.q (QT.toB (q_neq rfl rfl) (decide_eq_false (by omega))) ?_)
  refine TO.nl ?_
  refine T.cond0 rfl ?_
  refine T.skip (T.s (T.s (T.rg ?_)))
  refine TO.qm rfl (TO.q (QT.toB (q_lss rfl rfl) (decide_eq_false (by omega))) (TO.qm rfl ?_))
  refine TO.gd rfl rfl rfl (LT.oq rfl rfl (q_move rfl) ?_)
  refine TO.gd rfl rfl rfl (LT.oq rfl rfl (QT.toB (q_gtr rfl rfl) (decide_eq_true (by omega))) ?_)
  refine TO.q (q_pick0 rfl rfl) ?_
  refine TO.nl ?_
  refine T.cond1 rfl ?_
  refine T.s (T.rg ?_)
  refine TO.q (q_build plan25 inf25 rfl) ?_
  refine TO.l rfl (l_sb (v := (.agg #[(.int .i64 0), (.int .i64 0), (.slice none 0 0), (.slice none 0 0)])) (vs := [(.int .i64 0), (.int .i64 0), (.slice none 0 0), (.slice none 0 0)]) 0 inf25 rfl rfl rfl rfl rfl rfl (by simp [putL]) ?_)
  refine TO.qa rfl ?_
  refine TO.nl (T.ret (Res.drop ?_))
  refine Res.cell1b (.int .i64 1) (i := 0) Tryz.results16 underlying25 rfl inf25 rfl rfl rfl rfl ?_
  exact ⟨[], Sub.z, rfl, rfl⟩
theorem exOk (w : World) [Tab Tryz.prog w] (a : DFA) (k : DK) (ha : At w a k) (hv : Valid a) (hn : a.next.length ≤ 64) (v : Nat) (hva : (v : Int) < a.vars) (B : Int) (hB1 : 1 ≤ B) (hB2 : B ≤ 4096) :
    PureT Tryz.prog 16 [dV a k, .int .i64 ((v : Nat) : Int), .int .i64 B] w fun r N => ∃ k9 : DK, r = .tuple #[dV (xsV a (v : Int) B) k9, .int .i64 (xsE a (v : Int) B : Int)] ∧ N = [dI 37 4 3 (xsV a (v : Int) B) k9] := by
  refine CallT.enter func16 rfl ntmps16 rfl ?_
  have he := checkD_zero.2 hv
  have h4 := hv.n4
  have hww : letN a ≤ 64 := hv.width
  have hfin := hv.fin
  have hvl := ha.rows.1
  have hsl := start_lt hv.toVal
  have hs0 := hv.s0
  have hs1 := hv.s1
  have hve : vE a v = 0 := vE_zero.2 ⟨hv, by omega, hva⟩
  have hv6 := hv.v6
  have hv0 := hv.v0
  have hvv : v < a.vars.toNat := by omega
  have hse : a.start = ((a.start.toNat : Nat) : Int) := (Int.toNat_of_nonneg hv.s0).symm
  have hs64 : 2 ^ a.start.toNat < 18446744073709551616 := Nat.lt_of_lt_of_le (Nat.pow_lt_pow_right (by decide) (show a.start.toNat < 64 by omega)) (by decide)
  refine T.s (T.rg ?_)
  refine TO.l rfl (l_box (v := (dV a k)) (cs := (dC a k)) rfl rfl (fun z1 => ?_))
  refine TO.l rfl (l_alloc inf25 rfl (fun z2 => ?_))
  refine TO.qa rfl ?_
  refine TO.nl (T.s (T.s (T.rg ?_)))
  refine TO.q (q_la 1 underlying25 rfl inf25 rfl rfl rfl) (TO.qm rfl ?_)
  have hk28 := fun (w1 : World) (hI : Inv w [oI z2 25 [(.int .i64 0), (.int .i64 0), (.slice none 0 0), (.slice none 0 0)], oI z1 25 (dC a k)] w1) => (haveI := tbz hI; (show PureT _ _ _ _ _ from by
      have h9 := pCheck w1 a k (hI.atB ha) (by omega) hv.bound (by omega) (v : Int)
      rw [hve] at h9
      exact h9))
  refine TO.l rfl (l_call ent48 (CallT.op hk28) rfl ?_)
  clear hk28
  rintro vr O' ⟨N, rfl, rfl, rfl⟩
  refine TO.qa rfl ?_
  refine TO.nl (T.s (T.rg ?_))
  refine TO.qm rfl (TO.q (QT.toB (q_neq rfl rfl) (decide_eq_false (by omega))) ?_)
  refine TO.nl ?_
  refine T.cond0 rfl ?_
  refine T.skip (T.s (T.s (T.rg ?_)))
  refine TO.qm rfl (TO.q (QT.toB (q_lss rfl rfl) (decide_eq_false (by omega))) (TO.qm rfl ?_))
  refine TO.gd rfl rfl rfl (LT.oq rfl rfl (q_move rfl) ?_)
  refine TO.gd rfl rfl rfl (LT.oq rfl rfl (QT.toB (q_gtr rfl rfl) (decide_eq_false (by omega))) ?_)
  refine TO.q (q_pick0 rfl rfl) ?_
  refine TO.nl ?_
  refine T.cond0 rfl ?_
  refine T.skip (T.s (T.rg ?_))
  refine TO.q (q_fa underlying25 rfl inf3 rfl rfl) (TO.q (q_lb 1 underlying3 rfl rfl rfl rfl) ?_)
  refine TO.l rfl (l_build1 (v := (.int .i64 a.start)) underlying37 inf3 rfl rfl rfl (fun z3 => ?_))
  have hk43 := fun (w1 : World) (hI : Inv w [rowI (some ⟨z3, 0, none⟩) 1 3 1 [(.int .i64 a.start)], oI z2 25 [(.int .i64 0), (.int .i64 0), (.slice none 0 0), (.slice none 0 0)], oI z1 25 (dC a k)] w1) => (haveI := tbz hI; (show PureT _ _ _ _ _ from by
      have h8 := hI.slOf (mG 0 rfl)
      rw [hse] at h8
      have h9 := ofC w1 (some ⟨z3, 0, none⟩) 1 [a.start.toNat] h8 (by intro q hq; have := List.mem_singleton.1 hq; omega) (by simp) (show 1 < _ by decide)
      rw [mOf_one] at h9
      exact h9))
  refine TO.l rfl (l_call ent49 (CallT.op hk43) rfl ?_)
  clear hk43
  rintro vr O' ⟨N, rfl, sb1, sc1, rfl, rfl⟩
  refine TO.l rfl (l_build1 (v := (.slice sb1 1 1)) underlying69 inf67 rfl rfl rfl (fun z4 => ?_))
  refine TO.qa rfl ?_
  refine TO.nl ?_
  refine T.reset [rowI (some ⟨z4, 0, none⟩) 1 67 1 [(.slice sb1 1 1)], rowI sb1 sc1 107 1 (uns [2 ^ a.start.toNat]), rowI (some ⟨z3, 0, none⟩) 1 3 1 [(.int .i64 a.start)], oI z2 25 [(.int .i64 0), (.int .i64 0), (.slice none 0 0), (.slice none 0 0)], oI z1 25 (dC a k)] [(0, (dV a k)), (1, .int .i64 ((v : Nat) : Int)), (2, .int .i64 B), (3, (.pointer (some ⟨z1, 0, none⟩))), (6, (.pointer (some ⟨z2, 0, none⟩))), (7, .int .i64 0), (8, .int .i64 0), (9, (.slice (some ⟨z4, 0, none⟩) 1 1))] rfl ⟨rfl, rfl, rfl, rfl, rfl, rfl, rfl, rfl, trivial⟩ (fun ρ0 => ?_)
  refine T.s (T.rg ?_)
  refine TO.l rfl (l_makeMap str (fun n : Nat => Value.int .i64 (n : Int)) (fun mm5 => ?_))
  refine TO.qm rfl (TO.q (q_ix (i := 0) underlying69 inf67 rfl rfl (rowO (mG 1 rfl)) (by decide) (by simp)) (TO.q (q_ld underlying67 rfl rfl (rowO (mG 1 rfl)) rfl) ?_))
  have hk49 := fun (w1 : World) (hI : Inv w [mapI str (fun n : Nat => Value.int .i64 (n : Int)) mm5 [], rowI (some ⟨z4, 0, none⟩) 1 67 1 [(.slice sb1 1 1)], rowI sb1 sc1 107 1 (uns [2 ^ a.start.toNat]), rowI (some ⟨z3, 0, none⟩) 1 3 1 [(.int .i64 a.start)], oI z2 25 [(.int .i64 0), (.int .i64 0), (.slice none 0 0), (.slice none 0 0)], oI z1 25 (dC a k)] w1) => (haveI := tbz hI; keyC w1 sb1 (2 ^ a.start.toNat) (hI.slOf (mG 2 rfl)) hs64)
  refine TO.l rfl (l_call ent50 (CallT.op hk49) rfl ?_)
  clear hk49
  rintro vr O' ⟨N, rfl, rfl, rfl⟩
  refine TO.l rfl (l_mapInsert (a := keyM (2 ^ a.start.toNat)) (v := (0 : Nat)) 0 underlying71 (KeyOk.string underlying9) rfl rfl rfl rfl (by simp) ?_)
  refine TO.qm rfl (TO.qa rfl ?_)
  refine TO.nl (T.s (T.rg ?_))
  refine TO.q (q_fa underlying25 rfl inf3 rfl rfl) (TO.q (q_lb 5 underlying3 rfl rfl rfl rfl) (TO.q (q_build (cs := [(.int .i64 a.vars), (.int .i64 0), (.slice none 0 0), (.slice none 0 0)]) plan25 inf25 (by kernel_rfl)) ?_))
  refine TO.l rfl (l_alloc inf25 rfl (fun z6 => ?_))
  refine TO.l rfl (l_sb (v := (.agg #[(.int .i64 a.vars), (.int .i64 0), (.slice none 0 0), (.slice none 0 0)])) (vs := [(.int .i64 a.vars), (.int .i64 0), (.slice none 0 0), (.slice none 0 0)]) 0 inf25 rfl rfl rfl rfl rfl rfl (by simp [putL]) ?_)
  refine TO.nl ?_
  refine T.reset [oI z6 25 [(.int .i64 a.vars), (.int .i64 0), (.slice none 0 0), (.slice none 0 0)], mapI str (fun n : Nat => Value.int .i64 (n : Int)) mm5 [(keyM (2 ^ a.start.toNat), (0 : Nat))], rowI (some ⟨z4, 0, none⟩) 1 67 1 [(.slice sb1 1 1)], rowI sb1 sc1 107 1 (uns [2 ^ a.start.toNat]), rowI (some ⟨z3, 0, none⟩) 1 3 1 [(.int .i64 a.start)], oI z2 25 [(.int .i64 0), (.int .i64 0), (.slice none 0 0), (.slice none 0 0)], oI z1 25 (dC a k)] [(0, (dV a k)), (1, .int .i64 ((v : Nat) : Int)), (2, .int .i64 B), (3, (.pointer (some ⟨z1, 0, none⟩))), (6, (.pointer (some ⟨z2, 0, none⟩))), (7, .int .i64 0), (8, .int .i64 0), (9, (.slice (some ⟨z4, 0, none⟩) 1 1)), (10, (.map (some mm5))), (11, (.pointer (some ⟨z6, 0, none⟩)))] rfl ⟨rfl, rfl, rfl, rfl, rfl, rfl, rfl, rfl, rfl, rfl, trivial⟩ (fun ρ0 => ?_)
  refine T.s (T.s (T.rg ?_))
  refine TO.qa rfl ?_
  refine TO.nl (T.block ?_)
  refine T.nilD 37 4 3 ?_
  refine T.sub (O' := ([rowI (some ⟨z4, 0, none⟩) 1 67 1 [(.slice sb1 1 1)], rowI sb1 sc1 107 1 (uns [2 ^ a.start.toNat]), oI z1 25 (dC a k), oI z2 25 [(.int .i64 0), (.int .i64 0), (.slice none 0 0), (.slice none 0 0)], mapI str (fun n : Nat => Value.int .i64 (n : Int)) mm5 [(keyM (2 ^ a.start.toNat), (0 : Nat))], oI z6 25 [(.int .i64 a.vars), (.int .i64 0), (.slice none 0 0), (.slice none 0 0)], dI 37 4 3 noD k00])) (by exact Sub.pull [dI 37 4 3 noD k00, oI z6 25 [(.int .i64 a.vars), (.int .i64 0), (.slice none 0 0), (.slice none 0 0)], mapI str (fun n : Nat => Value.int .i64 (n : Int)) mm5 [(keyM (2 ^ a.start.toNat), (0 : Nat))]] _ (.pull [dI 37 4 3 noD k00, oI z6 25 [(.int .i64 a.vars), (.int .i64 0), (.slice none 0 0), (.slice none 0 0)], mapI str (fun n : Nat => Value.int .i64 (n : Int)) mm5 [(keyM (2 ^ a.start.toNat), (0 : Nat))]] _ (.pull [dI 37 4 3 noD k00, oI z6 25 [(.int .i64 a.vars), (.int .i64 0), (.slice none 0 0), (.slice none 0 0)], mapI str (fun n : Nat => Value.int .i64 (n : Int)) mm5 [(keyM (2 ^ a.start.toNat), (0 : Nat))], rowI (some ⟨z3, 0, none⟩) 1 3 1 [(.int .i64 a.start)], oI z2 25 [(.int .i64 0), (.int .i64 0), (.slice none 0 0), (.slice none 0 0)]] _ (.pull [dI 37 4 3 noD k00, oI z6 25 [(.int .i64 a.vars), (.int .i64 0), (.slice none 0 0), (.slice none 0 0)], mapI str (fun n : Nat => Value.int .i64 (n : Int)) mm5 [(keyM (2 ^ a.start.toNat), (0 : Nat))], rowI (some ⟨z3, 0, none⟩) 1 3 1 [(.int .i64 a.start)]] _ (.pull [dI 37 4 3 noD k00, oI z6 25 [(.int .i64 a.vars), (.int .i64 0), (.slice none 0 0), (.slice none 0 0)]] _ (.pull [dI 37 4 3 noD k00] _ (.k .z))))))) ?_
  refine T.sub (O' := ((rowI (some ⟨z4, 0, none⟩) 1 67 1 (svals [⟨sb1, sc1, 2 ^ a.start.toNat⟩]) :: sitms 107 [⟨sb1, sc1, 2 ^ a.start.toNat⟩]) ++ [oI z1 25 (dC a k), oI z2 25 [(.int .i64 0), (.int .i64 0), (.slice none 0 0), (.slice none 0 0)], mapI str (fun n : Nat => Value.int .i64 (n : Int)) mm5 [(keyM (2 ^ a.start.toNat), (0 : Nat))], oI z6 25 [(.int .i64 a.vars), (.int .i64 0), (.slice none 0 0), (.slice none 0 0)], dI 37 4 3 noD k00])) (by exact Sub.rf) ?_
  refine T.pack (φ := True) trivial ?_
  refine T.sub (O' := [oI z1 25 (dC a k), oI z2 25 [(.int .i64 0), (.int .i64 0), (.slice none 0 0), (.slice none 0 0)], setI 67 107 (some ⟨z4, 0, none⟩) 1 [⟨sb1, sc1, 2 ^ a.start.toNat⟩], mapI str (fun n : Nat => Value.int .i64 (n : Int)) mm5 [(keyM (2 ^ a.start.toNat), (0 : Nat))], oI z6 25 [(.int .i64 a.vars), (.int .i64 0), (.slice none 0 0), (.slice none 0 0)], dI 37 4 3 noD k00]) (by exact Sub.pull [setI 67 107 (some ⟨z4, 0, none⟩) 1 [⟨sb1, sc1, 2 ^ a.start.toNat⟩]] _ (.pull [setI 67 107 (some ⟨z4, 0, none⟩) 1 [⟨sb1, sc1, 2 ^ a.start.toNat⟩]] _ (.k (.k (.k (.k .z)))))) ?_
  refine T.loop (fun (i : Nat) ρ O => ∃ (sb : Option Addr) (sc : Nat) (us : List SRec) (km : DK), O = [oI z1 25 (dC a k), oI z2 25 [(.int .i64 0), (.int .i64 0), (.slice none 0 0), (.slice none 0 0)], setI 67 107 sb sc us, mapI str (fun n : Nat => Value.int .i64 (n : Int)) mm5 (keyZ (psN a v i)), oI z6 25 (dC (pdN a v i) km), dI 37 4 3 (pdN a v i) km] ∧ i ≤ us.length ∧ us.map SRec.w = psN a v i ∧ (us.length : Int) ≤ B ∧ Heads [(0, (dV a k)), (1, .int .i64 ((v : Nat) : Int)), (2, .int .i64 B), (3, (.pointer (some ⟨z1, 0, none⟩))), (6, (.pointer (some ⟨z2, 0, none⟩))), (8, .int .i64 0), (9, (.slice sb us.length sc)), (10, (.map (some mm5))), (11, (.pointer (some ⟨z6, 0, none⟩))), (12, .int .i64 ((i : Nat) : Int))] ρ) (fun i => 4097 - i) 0 ?_ ?_
  · exact ⟨_, 1, [⟨sb1, sc1, 2 ^ a.start.toNat⟩], k00, rfl, Nat.zero_le _, rfl, hB1, ⟨rfl, rfl, rfl, rfl, rfl, rfl, rfl, rfl, rfl, rfl, trivial⟩⟩
  rintro i ρ O ⟨sb, sc, us, km, rfl, hiu, hus, hul, hH⟩
  obtain ⟨ρ0, rfl⟩ := hH.elim
  clear hH
  have hpl : (psN a v i).length = us.length := by rw [← hus, List.length_map]
  refine T.s (T.s (T.rg ?_))
  refine TO.qm rfl (TO.qm rfl (TO.q (q_len underlying69 rfl) (TO.q (q_lss rfl rfl) ?_)))
  refine TO.nl ?_
  refine T.condP rfl (fun hc => ?_) (fun hc => ?_)
  · have hlt57 : i < us.length := by omega
    have hil : i < us.length := by omega
    obtain ⟨W, hW⟩ : ∃ W, pwA a v i = W := ⟨_, rfl⟩
    have hiW : (psN a v i)[i]? = some W := by rw [← hW]; exact pwA_get (by omega)
    obtain ⟨q9, hq9, hw9⟩ := setQ_at hus hiW
    have hgW : Gd a W := psN_gd hv.toVal hn hvv i _ (List.mem_of_getElem? hiW)
    have hW64 : W < 18446744073709551616 := hgW.l64 hn
    have hel : (elN W).length ≤ 64 := elN_len W
    refine T.skip (T.s (T.block (T.s (T.rg ?_))))
    refine TO.q (q_fa underlying25 rfl inf3 rfl rfl) (TO.q (q_lb 0 underlying3 rfl rfl rfl rfl) (TO.q (QT.cast (q_shl1 (v := a.vars.toNat) rfl (by show Value.int _ a.vars = _; rw [Int.toNat_of_nonneg hv0]) (by omega)) (v' := .int .i64 ((letN a : Nat) : Int)) rfl) ?_))
    refine TO.l rfl (l_makeSlice (m := letN a) underlying37 inf3 rfl rfl (by omega) (by omega) (fun z7 => ?_))
    refine TO.qa rfl (TO.qa rfl ?_)
    refine TO.nl (T.s (T.rg ?_))
    refine TO.qm rfl (TO.qm rfl (TO.q (q_ix (i := i) underlying69 inf67 rfl rfl (setO (mG 3 rfl)) hil (by rw [List.length_map]; exact hil)) (TO.q (q_ld underlying67 rfl rfl (setO (mG 3 rfl)) (svals_at hq9)) ?_)))
    have hk68 := fun (w1 : World) (hI : Inv w [rowI (some ⟨z7, 0, none⟩) (letN a) 3 1 (List.replicate (letN a) (.int .i64 0)), oI z1 25 (dC a k), oI z2 25 [(.int .i64 0), (.int .i64 0), (.slice none 0 0), (.slice none 0 0)], setI 67 107 sb sc us, mapI str (fun n : Nat => Value.int .i64 (n : Int)) mm5 (keyZ (psN a v i)), oI z6 25 (dC (pdN a v i) km), dI 37 4 3 (pdN a v i) km] w1) => (haveI := tbz hI; listC w1 q9.b W (by have h9 := setQ (mG 3 rfl) hq9 w1 hI; rw [hw9] at h9; exact h9) hW64)
    refine TO.l rfl (l_call ent51 (CallT.op hk68) rfl ?_)
    clear hk68
    rintro vr O' ⟨N, rfl, lb, lc, rfl, rfl⟩
    refine TO.qa rfl ?_
    refine TO.nl ?_
    refine T.reset [rowI lb lc 3 1 (intN (elN W)), rowI (some ⟨z7, 0, none⟩) (letN a) 3 1 (List.replicate (letN a) (.int .i64 0)), oI z1 25 (dC a k), oI z2 25 [(.int .i64 0), (.int .i64 0), (.slice none 0 0), (.slice none 0 0)], setI 67 107 sb sc us, mapI str (fun n : Nat => Value.int .i64 (n : Int)) mm5 (keyZ (psN a v i)), oI z6 25 (dC (pdN a v i) km), dI 37 4 3 (pdN a v i) km] [(0, (dV a k)), (1, .int .i64 ((v : Nat) : Int)), (2, .int .i64 B), (3, (.pointer (some ⟨z1, 0, none⟩))), (6, (.pointer (some ⟨z2, 0, none⟩))), (8, .int .i64 0), (9, (.slice sb us.length sc)), (10, (.map (some mm5))), (11, (.pointer (some ⟨z6, 0, none⟩))), (12, .int .i64 ((i : Nat) : Int)), (13, (.slice (some ⟨z7, 0, none⟩) (letN a) (letN a))), (14, .bool false), (15, (.slice lb ((elN W).length) lc))] rfl ⟨rfl, rfl, rfl, rfl, rfl, rfl, rfl, rfl, rfl, rfl, rfl, rfl, rfl, trivial⟩ (fun ρ0 => ?_)
    refine T.s (T.s (T.rg ?_))
    refine TO.qm rfl (TO.q (q_len underlying37 rfl) (TO.qm rfl ?_))
    refine TO.nl (T.block ?_)
    refine T.sub (O' := [oI z1 25 (dC a k), oI z2 25 [(.int .i64 0), (.int .i64 0), (.slice none 0 0), (.slice none 0 0)], setI 67 107 sb sc us, mapI str (fun n : Nat => Value.int .i64 (n : Int)) mm5 (keyZ (psN a v i)), oI z6 25 (dC (pdN a v i) km), dI 37 4 3 (pdN a v i) km, rowI (some ⟨z7, 0, none⟩) (letN a) 3 1 (List.replicate (letN a) (.int .i64 0)), rowI lb lc 3 1 (intN (elN W))]) (by exact Sub.pull [rowI lb lc 3 1 (intN (elN W)), rowI (some ⟨z7, 0, none⟩) (letN a) 3 1 (List.replicate (letN a) (.int .i64 0))] _ (.pull [rowI lb lc 3 1 (intN (elN W)), rowI (some ⟨z7, 0, none⟩) (letN a) 3 1 (List.replicate (letN a) (.int .i64 0))] _ (.pull [rowI lb lc 3 1 (intN (elN W)), rowI (some ⟨z7, 0, none⟩) (letN a) 3 1 (List.replicate (letN a) (.int .i64 0))] _ (.pull [rowI lb lc 3 1 (intN (elN W)), rowI (some ⟨z7, 0, none⟩) (letN a) 3 1 (List.replicate (letN a) (.int .i64 0))] _ (.pull [rowI lb lc 3 1 (intN (elN W)), rowI (some ⟨z7, 0, none⟩) (letN a) 3 1 (List.replicate (letN a) (.int .i64 0))] _ (.pull [rowI lb lc 3 1 (intN (elN W)), rowI (some ⟨z7, 0, none⟩) (letN a) 3 1 (List.replicate (letN a) (.int .i64 0))] _ (.pull [rowI lb lc 3 1 (intN (elN W))] _ (.k .z)))))))) ?_
    refine T.loopS (fun (x : Nat) ρ O => ∃ (sb2 : Option Addr) (sc2 : Nat) (us2 : List SRec), O = [oI z1 25 (dC a k), oI z2 25 [(.int .i64 0), (.int .i64 0), (.slice none 0 0), (.slice none 0 0)], setI 67 107 sb2 sc2 us2, mapI str (fun n : Nat => Value.int .i64 (n : Int)) mm5 (keyZ (psM a v i W x)), oI z6 25 (dC (pdN a v i) km), dI 37 4 3 (pdN a v i) km, rowI (some ⟨z7, 0, none⟩) (letN a) 3 1 (ints (rwP a v i W x)), rowI lb lc 3 1 (intN (elN W))] ∧ x ≤ letN a ∧ us2.map SRec.w = psM a v i W x ∧ Heads [(0, (dV a k)), (1, .int .i64 ((v : Nat) : Int)), (2, .int .i64 B), (3, (.pointer (some ⟨z1, 0, none⟩))), (6, (.pointer (some ⟨z2, 0, none⟩))), (8, .int .i64 0), (9, (.slice sb2 us2.length sc2)), (10, (.map (some mm5))), (11, (.pointer (some ⟨z6, 0, none⟩))), (12, .int .i64 ((i : Nat) : Int)), (13, (.slice (some ⟨z7, 0, none⟩) (letN a) (letN a))), (14, .bool false), (15, (.slice lb ((elN W).length) lc)), (70, .int .i64 (letN a : Int)), (71, .int .i64 ((x : Nat) : Int))] ρ) (fun x => letN a - x) 0 ?_ ?_
    · exact ⟨sb, sc, us, by rw [rwP_zero]; rfl, Nat.zero_le _, hus, ⟨rfl, rfl, rfl, rfl, rfl, rfl, rfl, rfl, rfl, rfl, rfl, rfl, rfl, rfl, rfl, trivial⟩⟩
    rintro x ρ O ⟨sb2, sc2, us2, rfl, hx, hus2, hH⟩
    obtain ⟨ρ0, rfl⟩ := hH.elim
    clear hH
    have hpl2 : (psM a v i W x).length = us2.length := by rw [← hus2, List.length_map]
    have hpl3 := psM_len a v i W x
    refine T.s (T.rg ?_)
    refine TO.q (q_lss rfl rfl) ?_
    refine TO.nl (T.s ?_)
    refine T.condP rfl (fun hc => ?_) (fun hc => ?_)
    · have hlt72 : x < letN a := by omega
      have hxl : x < letN a := by omega
      have hx64 : x < 64 := by omega
      obtain ⟨Y, hY⟩ : ∃ Y, pst a v W x = Y := ⟨_, rfl⟩
      have hgY : Gd a Y := hY ▸ hgW.step hv.toVal hn hvv hxl
      have hY64 : Y < 18446744073709551616 := hgY.l64 hn
      have hl64 : ∀ q ∈ psM a v i W x, q < 18446744073709551616 := fun q hq => (psM_gd hv.toVal hn hvv hgW x hx q hq).l64 hn
      obtain ⟨htl, htn⟩ := hgW.toL hv.toVal hvv hxl hn
      refine T.skip (T.s (T.block (T.s (T.rg ?_))))
      refine TO.qm rfl (TO.qa rfl ?_)
      refine TO.nl (T.s (T.rg ?_))
      refine TO.l rfl (l_alloc inf37 rfl (fun z8 => ?_))
      refine TO.nl (T.s (T.s (T.rg ?_)))
      refine TO.qm rfl (TO.q (q_len underlying37 rfl) (TO.qm rfl ?_))
      refine TO.nl (T.block ?_)
      refine T.nilRow 3 1 ?_
      refine T.sub (O' := [oI z1 25 (dC a k), oI z2 25 [(.int .i64 0), (.int .i64 0), (.slice none 0 0), (.slice none 0 0)], setI 67 107 sb2 sc2 us2, mapI str (fun n : Nat => Value.int .i64 (n : Int)) mm5 (keyZ (psM a v i W x)), oI z6 25 (dC (pdN a v i) km), dI 37 4 3 (pdN a v i) km, rowI (some ⟨z7, 0, none⟩) (letN a) 3 1 (ints (rwP a v i W x)), rowI lb lc 3 1 (intN (elN W)), oI z8 37 [(.slice none 0 0)], rowI none 0 3 1 []]) (by exact Sub.pull [rowI none 0 3 1 [], oI z8 37 [(.slice none 0 0)]] _ (.pull [rowI none 0 3 1 [], oI z8 37 [(.slice none 0 0)]] _ (.pull [rowI none 0 3 1 [], oI z8 37 [(.slice none 0 0)]] _ (.pull [rowI none 0 3 1 [], oI z8 37 [(.slice none 0 0)]] _ (.pull [rowI none 0 3 1 [], oI z8 37 [(.slice none 0 0)]] _ (.pull [rowI none 0 3 1 [], oI z8 37 [(.slice none 0 0)]] _ (.pull [rowI none 0 3 1 [], oI z8 37 [(.slice none 0 0)]] _ (.pull [rowI none 0 3 1 [], oI z8 37 [(.slice none 0 0)]] _ (.pull [rowI none 0 3 1 []] _ (.k .z)))))))))) ?_
      refine T.loopS (fun (j : Nat) ρ O => ∃ (tb : Option Addr) (tc : Nat), O = [oI z1 25 (dC a k), oI z2 25 [(.int .i64 0), (.int .i64 0), (.slice none 0 0), (.slice none 0 0)], setI 67 107 sb2 sc2 us2, mapI str (fun n : Nat => Value.int .i64 (n : Int)) mm5 (keyZ (psM a v i W x)), oI z6 25 (dC (pdN a v i) km), dI 37 4 3 (pdN a v i) km, rowI (some ⟨z7, 0, none⟩) (letN a) 3 1 (ints (rwP a v i W x)), rowI lb lc 3 1 (intN (elN W)), oI z8 37 [(.slice tb (2 * j) tc)], rowI tb tc 3 1 (intN (toL a v ((elN W).take j) x))] ∧ j ≤ (elN W).length ∧ Heads [(0, (dV a k)), (1, .int .i64 ((v : Nat) : Int)), (2, .int .i64 B), (3, (.pointer (some ⟨z1, 0, none⟩))), (6, (.pointer (some ⟨z2, 0, none⟩))), (8, .int .i64 0), (9, (.slice sb2 us2.length sc2)), (10, (.map (some mm5))), (11, (.pointer (some ⟨z6, 0, none⟩))), (12, .int .i64 ((i : Nat) : Int)), (13, (.slice (some ⟨z7, 0, none⟩) (letN a) (letN a))), (14, .bool false), (15, (.slice lb ((elN W).length) lc)), (16, .int .i64 ((x : Nat) : Int)), (17, (.pointer (some ⟨z8, 0, none⟩))), (70, .int .i64 (letN a : Int)), (71, .int .i64 ((x : Nat) : Int)), (74, (.slice lb ((elN W).length) lc)), (75, .int .i64 ((elN W).length : Int)), (76, .int .i64 ((j : Nat) : Int))] ρ) (fun j => (elN W).length - j) 0 ?_ ?_
      · exact ⟨none, 0, rfl, Nat.zero_le _, ⟨rfl, rfl, rfl, rfl, rfl, rfl, rfl, rfl, rfl, rfl, rfl, rfl, rfl, rfl, rfl, rfl, rfl, rfl, rfl, rfl, trivial⟩⟩
      rintro j ρ O ⟨tb, tc, rfl, hj, hH⟩
      obtain ⟨ρ0, rfl⟩ := hH.elim
      clear hH
      refine T.s (T.rg ?_)
      refine TO.q (q_lss rfl rfl) ?_
      refine TO.nl ?_
      refine T.reset [oI z1 25 (dC a k), oI z2 25 [(.int .i64 0), (.int .i64 0), (.slice none 0 0), (.slice none 0 0)], setI 67 107 sb2 sc2 us2, mapI str (fun n : Nat => Value.int .i64 (n : Int)) mm5 (keyZ (psM a v i W x)), oI z6 25 (dC (pdN a v i) km), dI 37 4 3 (pdN a v i) km, rowI (some ⟨z7, 0, none⟩) (letN a) 3 1 (ints (rwP a v i W x)), rowI lb lc 3 1 (intN (elN W)), oI z8 37 [(.slice tb (2 * j) tc)], rowI tb tc 3 1 (intN (toL a v ((elN W).take j) x))] [(0, (dV a k)), (1, .int .i64 ((v : Nat) : Int)), (2, .int .i64 B), (3, (.pointer (some ⟨z1, 0, none⟩))), (6, (.pointer (some ⟨z2, 0, none⟩))), (8, .int .i64 0), (9, (.slice sb2 us2.length sc2)), (10, (.map (some mm5))), (11, (.pointer (some ⟨z6, 0, none⟩))), (12, .int .i64 ((i : Nat) : Int)), (13, (.slice (some ⟨z7, 0, none⟩) (letN a) (letN a))), (14, .bool false), (15, (.slice lb ((elN W).length) lc)), (16, .int .i64 ((x : Nat) : Int)), (17, (.pointer (some ⟨z8, 0, none⟩))), (70, .int .i64 (letN a : Int)), (71, .int .i64 ((x : Nat) : Int)), (74, (.slice lb ((elN W).length) lc)), (75, .int .i64 ((elN W).length : Int)), (76, .int .i64 ((j : Nat) : Int)), (77, .bool (decide (((j : Nat) : Int) < ((elN W).length : Int))))] rfl ⟨rfl, rfl, rfl, rfl, rfl, rfl, rfl, rfl, rfl, rfl, rfl, rfl, rfl, rfl, rfl, rfl, rfl, rfl, rfl, rfl, rfl, trivial⟩ (fun ρ0 => ?_)
      refine T.s ?_
      refine T.condP rfl (fun hc => ?_) (fun hc => ?_)
      · have hlt77 : j < (elN W).length := by omega
        have hjl : j < (elN W).length := by omega
        obtain ⟨s, hsj⟩ : ∃ s, (elN W)[j]? = some s := ⟨_, List.getElem?_eq_getElem hjl⟩
        have hsl : s < a.next.length := hgW.st (List.mem_of_getElem? hsj)
        obtain ⟨v1, c1, g1, s1⟩ := ha.rows.get hsl
        have hl1 : a.next[s].length = letN a := hv.len _ (List.getElem_mem hsl)
        refine T.skip (T.s (T.block (T.s (T.rg ?_))))
        refine TO.q (q_ix (i := j) underlying37 inf3 rfl rfl (rowO (mG 7 rfl)) hjl (by rw [List.length_map]; exact hjl)) (TO.q (q_ld underlying3 rfl rfl (rowO (mG 7 rfl)) (intN_at hsj)) ?_)
        refine TO.l rfl (l_alloc inf3 rfl (fun z9 => ?_))
        refine TO.l rfl (l_sb (v := .int .i64 ((s : Nat) : Int)) (vs := [(.int .i64 ((s : Nat) : Int))]) 0 inf3 rfl rfl rfl rfl rfl rfl (by simp [putL]) ?_)
        refine TO.nl (T.s (T.rg ?_))
        refine TO.qm rfl (TO.q (q_conv_id underlying3 underlying5 rfl (wrap8 (by omega))) (TO.qm rfl ?_))
        have hk83 := fun (w1 : World) (hI : Inv w [oI z9 3 [(.int .i64 ((s : Nat) : Int))], oI z1 25 (dC a k), oI z2 25 [(.int .i64 0), (.int .i64 0), (.slice none 0 0), (.slice none 0 0)], setI 67 107 sb2 sc2 us2, mapI str (fun n : Nat => Value.int .i64 (n : Int)) mm5 (keyZ (psM a v i W x)), oI z6 25 (dC (pdN a v i) km), dI 37 4 3 (pdN a v i) km, rowI (some ⟨z7, 0, none⟩) (letN a) 3 1 (ints (rwP a v i W x)), rowI lb lc 3 1 (intN (elN W)), oI z8 37 [(.slice tb (2 * j) tc)], rowI tb tc 3 1 (intN (toL a v ((elN W).take j) x))] w1) => (haveI := tbz hI; variMk w1 x v)
        refine TO.l rfl (l_call ent52 (CallT.op hk83) rfl ?_)
        clear hk83
        rintro vr O' ⟨N, rfl, xb, vb, rfl, rfl⟩
        refine TO.nl (T.block ?_)
        refine T.rangeFunc (first := []) (caps := [(.pointer (some ⟨vb, 0, none⟩)), (.pointer (some ⟨xb, 0, none⟩))]) rfl ent87 (fun yl yq yhq => ?_)
        refine CallT.mono (CallT.sub (O' := oI vb 3 [(.int .i64 ((v : Nat) : Int))] :: oI xb 5 [(.int .u8 ((x : Nat) : Int))] :: (objI yl (lp yq none) :: [oI z9 3 [(.int .i64 ((s : Nat) : Int))], oI z1 25 (dC a k), oI z2 25 [(.int .i64 0), (.int .i64 0), (.slice none 0 0), (.slice none 0 0)], setI 67 107 sb2 sc2 us2, mapI str (fun n : Nat => Value.int .i64 (n : Int)) mm5 (keyZ (psM a v i W x)), oI z6 25 (dC (pdN a v i) km), dI 37 4 3 (pdN a v i) km, rowI (some ⟨z7, 0, none⟩) (letN a) 3 1 (ints (rwP a v i W x)), rowI lb lc 3 1 (intN (elN W)), oI z8 37 [(.slice tb (2 * j) tc)], rowI tb tc 3 1 (intN (toL a v ((elN W).take j) x))])) (Sub.pick [1, 1, 0, 0, 0, 0, 0, 0, 0, 0, 0, 0, 0, 0] rfl) (variF w xb vb v x (by omega) hx64 (.func (.yield yl) #[] #[]) (fun i9 O => ∃ (tb2 : Option Addr) (tc2 : Nat), O = objI yl (lp yq none) :: [oI z9 3 [(.int .i64 ((s : Nat) : Int))], oI z1 25 (dC a k), oI z2 25 [(.int .i64 0), (.int .i64 0), (.slice none 0 0), (.slice none 0 0)], setI 67 107 sb2 sc2 us2, mapI str (fun n : Nat => Value.int .i64 (n : Int)) mm5 (keyZ (psM a v i W x)), oI z6 25 (dC (pdN a v i) km), dI 37 4 3 (pdN a v i) km, rowI (some ⟨z7, 0, none⟩) (letN a) 3 1 (ints (rwP a v i W x)), rowI lb lc 3 1 (intN (elN W)), oI z8 37 [(.slice tb2 (2 * j + i9) tc2)], rowI tb2 tc2 3 1 (intN (toJ a v ((elN W).take j) s x i9))]) (fun _ => False) ?_ _ ?_)) ?_
        · intro i9 y O hiy hJ
          obtain ⟨tb2, tc2, rfl⟩ := hJ
          refine CallV.yield yhq rfl rfl ?_
          have hi2 : i9 < 2 := by rcases hiy with h | h <;> omega
          have hyl : y < letN a := by
            rcases hiy with ⟨_, rfl⟩ | ⟨_, rfl⟩
            · exact c0_lt hxl
            · exact c1_lt (letN6 hv.toVal) hvv hxl
          obtain ⟨hty, _, hyk1, hy1⟩ := hv.toN_lt hsl hyl
          have hy1 : (ints a.next[s])[y]? = some (.int .i64 ((toN a s y : Nat) : Int)) := by rw [ints_get hyk1, hy1]
          have hjn : (toJ a v ((elN W).take j) s x i9).length = 2 * j + i9 := by rw [toJ_len (by omega), List.length_take]; omega
          have htk : intN (toJ a v ((elN W).take j) s x i9) ++ [Value.int .i64 ((toN a s y : Nat) : Int)] = intN (toJ a v ((elN W).take j) s x (i9 + 1)) := by rw [← toJ_step hiy]; simp
          refine T.rg ?_
          refine TO.qa rfl ?_
          refine TO.nl (T.block ?_)
          refine T.draws _ [(0, 0), (1, 0), (2, 0), (3, 0), (4, 0), (5, 0), (6, 0), (7, 0), (8, 0), (9, 1), (10, 2), (11, 2)] mixed (drawF_ok (by kernel_rfl)) (Sub.of (List.Sublist.refl _)) (fun _ _ _ h => h) ?_
          refine DO.q rfl (q_lb 9 underlying37 rfl rfl rfl rfl) (DO.q rfl (q_fa underlying25 rfl inf22 rfl rfl) (DO.q rfl (q_lb 1 underlying22 rfl rfl rfl rfl) (DO.q rfl (q_lb 0 underlying3 rfl rfl rfl rfl) ?_)))
          refine DO.q rfl (q_ix (i := s) underlying22 inf37 rfl rfl (Sl.o ha.outer) hsl (hvl ▸ hsl)) (DO.q rfl (q_ld underlying37 rfl rfl (Sl.o ha.outer) g1) (DO.q rfl (q_move rfl) (DO.q rfl (q_ix (i := y) underlying37 inf3 rfl rfl (Sl.o s1) hyk1 (by rw [List.length_map]; exact hyk1)) ?_)))
          refine DO.q rfl (q_ld underlying3 rfl rfl (Sl.o s1) hy1) ?_
          refine DO.loud rfl rfl (l_build1 (v := .int .i64 ((toN a s y : Nat) : Int)) underlying37 inf3 rfl rfl rfl (fun z10 => ⟨by exact Sub.d (.k (.k (.k (.k (.k (.k (.k (.k (.k (.k (.k .z))))))))))), ?_⟩))
          refine DO.last rfl rfl (l_append 11 underlying37 underlying37 inf3 rfl rfl rfl rfl (by rw [List.length_map]; omega) (by decide) (Src.row (j := 0) rfl (by simp)) (by simp [oneB]) (by omega) (by decide) (by decide) (fun z11 zc12 => ?_))
          refine DO.last rfl rfl (l_sb (v := (.slice z11 ((2 * j + i9) + 1) zc12)) (vs := [(.slice z11 ((2 * j + i9) + 1) zc12)]) 10 inf37 rfl rfl rfl rfl rfl rfl (by simp [putL]) ?_)
          refine DO.sub (O' := [oI z9 3 [(.int .i64 ((s : Nat) : Int))], oI z1 25 (dC a k), oI z2 25 [(.int .i64 0), (.int .i64 0), (.slice none 0 0), (.slice none 0 0)], setI 67 107 sb2 sc2 us2, mapI str (fun n : Nat => Value.int .i64 (n : Int)) mm5 (keyZ (psM a v i W x)), oI z6 25 (dC (pdN a v i) km), dI 37 4 3 (pdN a v i) km, rowI (some ⟨z7, 0, none⟩) (letN a) 3 1 (ints (rwP a v i W x)), rowI lb lc 3 1 (intN (elN W)), oI z8 37 [(.slice z11 ((2 * j + i9) + 1) zc12)], rowI z11 zc12 3 1 ((intN (toJ a v ((elN W).take j) s x i9)) ++ [.int .i64 ((toN a s y : Nat) : Int)])]) (by exact Sub.d (.k (.k (.k (.k (.k (.k (.k (.k (.k (.k (.k .z)))))))))))) ?_
          refine DO.done ?_
          exact .inl ⟨rfl, z11, zc12, by rw [htk]; rfl⟩
        · exact ⟨tb, tc, by rw [toJ_zero]; rfl⟩
        rintro v9 O' (⟨tb2, tc2, rfl⟩ | hF)
        rotate_left
        · exact hF.elim
        refine ⟨none, _, rfl, ?_⟩
        refine T.rg ?_
        refine TO.q (q_addN (a := j) (b := 1) rfl rfl (by omega)) (TO.qm rfl ?_)
        refine TO.nl ?_
        exact ⟨j + 1, by omega, [oI z1 25 (dC a k), oI z2 25 [(.int .i64 0), (.int .i64 0), (.slice none 0 0), (.slice none 0 0)], setI 67 107 sb2 sc2 us2, mapI str (fun n : Nat => Value.int .i64 (n : Int)) mm5 (keyZ (psM a v i W x)), oI z6 25 (dC (pdN a v i) km), dI 37 4 3 (pdN a v i) km, rowI (some ⟨z7, 0, none⟩) (letN a) 3 1 (ints (rwP a v i W x)), rowI lb lc 3 1 (intN (elN W)), oI z8 37 [(.slice tb2 (2 * j + 2) tc2)], rowI tb2 tc2 3 1 (intN (toJ a v ((elN W).take j) s x 2))], (by exact Sub.d (.k (.k (.k (.k (.k (.k (.k (.k (.k (.k .z))))))))))), tb2, tc2, by rw [toJ_two hsj]; rfl, by omega, ⟨rfl, rfl, rfl, rfl, rfl, rfl, rfl, rfl, rfl, rfl, rfl, rfl, rfl, rfl, rfl, rfl, rfl, rfl, rfl, rfl, trivial⟩⟩
      have hge77 : ¬ j < (elN W).length := by omega
      refine T.exit ?_
      refine T.s ?_
      have htj : (elN W).take j = elN W := List.take_of_length_le (by omega)
      have hln2 : (toL a v ((elN W).take j) x).length = 2 * j := by rw [toL_len, List.length_take]; omega
      have hmo2 : mOf (toL a v ((elN W).take j) x) = Y := by rw [htj, pst_toL, hY]
      have htl2 : ∀ q ∈ toL a v ((elN W).take j) x, q < 64 := by rw [htj]; exact htl
      have htn2 : toL a v ((elN W).take j) x ≠ [] := by rw [htj]; exact htn
      refine T.rg ?_
      refine TO.q (q_lb 8 underlying37 rfl rfl rfl rfl) ?_
      have hk98 := fun (w1 : World) (hI : Inv w [oI z1 25 (dC a k), oI z2 25 [(.int .i64 0), (.int .i64 0), (.slice none 0 0), (.slice none 0 0)], setI 67 107 sb2 sc2 us2, mapI str (fun n : Nat => Value.int .i64 (n : Int)) mm5 (keyZ (psM a v i W x)), oI z6 25 (dC (pdN a v i) km), dI 37 4 3 (pdN a v i) km, rowI (some ⟨z7, 0, none⟩) (letN a) 3 1 (ints (rwP a v i W x)), rowI lb lc 3 1 (intN (elN W)), oI z8 37 [(.slice tb (2 * j) tc)], rowI tb tc 3 1 (intN (toL a v ((elN W).take j) x))] w1) => (haveI := tbz hI; (show PureT _ _ _ _ _ from by
          have h9 := ofC w1 tb tc (toL a v ((elN W).take j) x) (hI.slOf (mG 9 rfl)) htl2 htn2 (by rw [hln2]; omega)
          rw [hln2, hmo2] at h9
          exact h9))
      refine TO.l rfl (l_call ent49 (CallT.op hk98) rfl ?_)
      clear hk98
      rintro vr O' ⟨N, rfl, nb9, nc9, rfl, rfl⟩
      refine TO.qa rfl ?_
      refine TO.sub (O' := [oI z1 25 (dC a k), oI z2 25 [(.int .i64 0), (.int .i64 0), (.slice none 0 0), (.slice none 0 0)], setI 67 107 sb2 sc2 us2, mapI str (fun n : Nat => Value.int .i64 (n : Int)) mm5 (keyZ (psM a v i W x)), oI z6 25 (dC (pdN a v i) km), dI 37 4 3 (pdN a v i) km, rowI (some ⟨z7, 0, none⟩) (letN a) 3 1 (ints (rwP a v i W x)), rowI lb lc 3 1 (intN (elN W)), rowI nb9 nc9 107 1 (uns [Y])]) (by exact Sub.pull [rowI nb9 nc9 107 1 (uns [Y])] _ (.pull [rowI nb9 nc9 107 1 (uns [Y])] _ (.pull [rowI nb9 nc9 107 1 (uns [Y])] _ (.pull [rowI nb9 nc9 107 1 (uns [Y])] _ (.pull [rowI nb9 nc9 107 1 (uns [Y])] _ (.pull [rowI nb9 nc9 107 1 (uns [Y])] _ (.pull [rowI nb9 nc9 107 1 (uns [Y])] _ (.pull [rowI nb9 nc9 107 1 (uns [Y])] _ (.k .z))))))))) ?_
      refine TO.nl ?_
      refine T.reset [oI z1 25 (dC a k), oI z2 25 [(.int .i64 0), (.int .i64 0), (.slice none 0 0), (.slice none 0 0)], setI 67 107 sb2 sc2 us2, mapI str (fun n : Nat => Value.int .i64 (n : Int)) mm5 (keyZ (psM a v i W x)), oI z6 25 (dC (pdN a v i) km), dI 37 4 3 (pdN a v i) km, rowI (some ⟨z7, 0, none⟩) (letN a) 3 1 (ints (rwP a v i W x)), rowI lb lc 3 1 (intN (elN W)), rowI nb9 nc9 107 1 (uns [Y])] [(0, (dV a k)), (1, .int .i64 ((v : Nat) : Int)), (2, .int .i64 B), (3, (.pointer (some ⟨z1, 0, none⟩))), (6, (.pointer (some ⟨z2, 0, none⟩))), (8, .int .i64 0), (9, (.slice sb2 us2.length sc2)), (10, (.map (some mm5))), (11, (.pointer (some ⟨z6, 0, none⟩))), (12, .int .i64 ((i : Nat) : Int)), (13, (.slice (some ⟨z7, 0, none⟩) (letN a) (letN a))), (14, .bool false), (15, (.slice lb ((elN W).length) lc)), (16, .int .i64 ((x : Nat) : Int)), (17, (.pointer (some ⟨z8, 0, none⟩))), (21, (.slice nb9 1 1)), (70, .int .i64 (letN a : Int)), (71, .int .i64 ((x : Nat) : Int))] rfl ⟨rfl, rfl, rfl, rfl, rfl, rfl, rfl, rfl, rfl, rfl, rfl, rfl, rfl, rfl, rfl, rfl, rfl, rfl, trivial⟩ (fun ρ0 => ?_)
      refine T.s (T.rg ?_)
      refine TO.qm rfl (TO.qm rfl ?_)
      have hk102 := fun (w1 : World) (hI : Inv w [oI z1 25 (dC a k), oI z2 25 [(.int .i64 0), (.int .i64 0), (.slice none 0 0), (.slice none 0 0)], setI 67 107 sb2 sc2 us2, mapI str (fun n : Nat => Value.int .i64 (n : Int)) mm5 (keyZ (psM a v i W x)), oI z6 25 (dC (pdN a v i) km), dI 37 4 3 (pdN a v i) km, rowI (some ⟨z7, 0, none⟩) (letN a) 3 1 (ints (rwP a v i W x)), rowI lb lc 3 1 (intN (elN W)), rowI nb9 nc9 107 1 (uns [Y])] w1) => (haveI := tbz hI; keyC w1 nb9 Y (hI.slOf (mG 8 rfl)) hY64)
      refine TO.l rfl (l_call ent50 (CallT.op hk102) rfl ?_)
      clear hk102
      rintro vr O' ⟨N, rfl, rfl, rfl⟩
      refine TO.q (QT.cast (q_lookupOk (a := keyM Y) underlying71 inf3 (KeyOk.string underlying9) rfl rfl (mG 3 rfl)) (v' := (.tuple #[.int .i64 ((lkN Y (psM a v i W x) : Nat) : Int), .bool (decide (Y ∈ psM a v i W x))])) (by rw [keyL_look hl64 hY64]; by_cases h : Y ∈ psM a v i W x <;> simp [h, lkN])) (TO.qm rfl (TO.q (q_extract (vs := _) rfl rfl) (TO.q (q_extract (vs := _) rfl rfl) ?_)))
      refine TO.qa rfl (TO.qa rfl ?_)
      refine TO.nl (T.s (T.s (T.rg ?_)))
      refine TO.qm rfl (TO.q (q_not rfl) ?_)
      refine TO.nl ?_
      refine T.cond rfl (fun hc => ?_) (fun hc => ?_)
      · have hno : Y ∉ psM a v i W x := by simpa using hc
        have hpe : psM a v i W (x + 1) = psM a v i W x ++ [Y] := by rw [psM_step, hY]; exact if_neg hno
        have hval : ix (pst a v W x) (psM a v i W (x + 1)) = us2.length := by rw [hpe, hY, ix_append_right hno, hpl2]; simp [ix]
        refine T.s (T.rg ?_)
        refine TO.qm rfl (TO.q (q_len underlying69 rfl) (TO.qa rfl ?_))
        refine TO.nl ?_
        refine T.reset [oI z1 25 (dC a k), oI z2 25 [(.int .i64 0), (.int .i64 0), (.slice none 0 0), (.slice none 0 0)], setI 67 107 sb2 sc2 us2, mapI str (fun n : Nat => Value.int .i64 (n : Int)) mm5 (keyZ (psM a v i W x)), oI z6 25 (dC (pdN a v i) km), dI 37 4 3 (pdN a v i) km, rowI (some ⟨z7, 0, none⟩) (letN a) 3 1 (ints (rwP a v i W x)), rowI lb lc 3 1 (intN (elN W)), rowI nb9 nc9 107 1 (uns [Y])] [(0, (dV a k)), (1, .int .i64 ((v : Nat) : Int)), (2, .int .i64 B), (3, (.pointer (some ⟨z1, 0, none⟩))), (6, (.pointer (some ⟨z2, 0, none⟩))), (8, .int .i64 0), (9, (.slice sb2 us2.length sc2)), (10, (.map (some mm5))), (11, (.pointer (some ⟨z6, 0, none⟩))), (12, .int .i64 ((i : Nat) : Int)), (13, (.slice (some ⟨z7, 0, none⟩) (letN a) (letN a))), (14, .bool false), (15, (.slice lb ((elN W).length) lc)), (16, .int .i64 ((x : Nat) : Int)), (17, (.pointer (some ⟨z8, 0, none⟩))), (21, (.slice nb9 1 1)), (22, .int .i64 (us2.length : Int)), (23, .bool (decide (Y ∈ psM a v i W x))), (70, .int .i64 (letN a : Int)), (71, .int .i64 ((x : Nat) : Int))] rfl ⟨rfl, rfl, rfl, rfl, rfl, rfl, rfl, rfl, rfl, rfl, rfl, rfl, rfl, rfl, rfl, rfl, rfl, rfl, rfl, rfl, trivial⟩ (fun ρ0 => ?_)
        refine T.s (T.rg ?_)
        refine TO.qm rfl (TO.qm rfl ?_)
        have hk112 := fun (w1 : World) (hI : Inv w [oI z1 25 (dC a k), oI z2 25 [(.int .i64 0), (.int .i64 0), (.slice none 0 0), (.slice none 0 0)], setI 67 107 sb2 sc2 us2, mapI str (fun n : Nat => Value.int .i64 (n : Int)) mm5 (keyZ (psM a v i W x)), oI z6 25 (dC (pdN a v i) km), dI 37 4 3 (pdN a v i) km, rowI (some ⟨z7, 0, none⟩) (letN a) 3 1 (ints (rwP a v i W x)), rowI lb lc 3 1 (intN (elN W)), rowI nb9 nc9 107 1 (uns [Y])] w1) => (haveI := tbz hI; keyC w1 nb9 Y (hI.slOf (mG 8 rfl)) hY64)
        refine TO.l rfl (l_call ent50 (CallT.op hk112) rfl ?_)
        clear hk112
        rintro vr O' ⟨N, rfl, rfl, rfl⟩
        refine TO.qm rfl ?_
        refine TO.l rfl (l_mapPut (a := keyM Y) (v := us2.length) 3 underlying71 (KeyOk.string underlying9) rfl rfl rfl rfl (keyL_new hl64 hY64 hno) ?_)
        refine TO.nl ?_
        refine T.sub (O' := [oI z1 25 (dC a k), oI z2 25 [(.int .i64 0), (.int .i64 0), (.slice none 0 0), (.slice none 0 0)], setI 67 107 sb2 sc2 us2, mapI str (fun n : Nat => Value.int .i64 (n : Int)) mm5 (keyZ (psM a v i W (x + 1))), oI z6 25 (dC (pdN a v i) km), dI 37 4 3 (pdN a v i) km, rowI (some ⟨z7, 0, none⟩) (letN a) 3 1 (ints (rwP a v i W x)), rowI lb lc 3 1 (intN (elN W)), rowI nb9 nc9 107 1 (uns [Y])]) (by rw [hpe, keyL_snoc, hpl2]; exact Sub.rf) ?_
        refine T.sub (O' := [setI 67 107 sb2 sc2 us2, oI z1 25 (dC a k), oI z2 25 [(.int .i64 0), (.int .i64 0), (.slice none 0 0), (.slice none 0 0)], mapI str (fun n : Nat => Value.int .i64 (n : Int)) mm5 (keyZ (psM a v i W (x + 1))), oI z6 25 (dC (pdN a v i) km), dI 37 4 3 (pdN a v i) km, rowI (some ⟨z7, 0, none⟩) (letN a) 3 1 (ints (rwP a v i W x)), rowI lb lc 3 1 (intN (elN W)), rowI nb9 nc9 107 1 (uns [Y])]) (by exact Sub.pull [oI z1 25 (dC a k), oI z2 25 [(.int .i64 0), (.int .i64 0), (.slice none 0 0), (.slice none 0 0)]] _ (.k (.k (.k (.k (.k (.k (.k (.k .z))))))))) ?_
        refine T.unpack (fun _ => ?_)
        refine T.sub (O' := ([rowI sb2 sc2 67 1 (svals us2), oI z1 25 (dC a k), oI z2 25 [(.int .i64 0), (.int .i64 0), (.slice none 0 0), (.slice none 0 0)], mapI str (fun n : Nat => Value.int .i64 (n : Int)) mm5 (keyZ (psM a v i W (x + 1))), oI z6 25 (dC (pdN a v i) km), dI 37 4 3 (pdN a v i) km, rowI (some ⟨z7, 0, none⟩) (letN a) 3 1 (ints (rwP a v i W x)), rowI lb lc 3 1 (intN (elN W)), rowI nb9 nc9 107 1 (uns [Y])] ++ sitms 107 us2)) (by exact Sub.swap3 [rowI sb2 sc2 67 1 (svals us2)] [oI z1 25 (dC a k), oI z2 25 [(.int .i64 0), (.int .i64 0), (.slice none 0 0), (.slice none 0 0)], mapI str (fun n : Nat => Value.int .i64 (n : Int)) mm5 (keyZ (psM a v i W (x + 1))), oI z6 25 (dC (pdN a v i) km), dI 37 4 3 (pdN a v i) km, rowI (some ⟨z7, 0, none⟩) (letN a) 3 1 (ints (rwP a v i W x)), rowI lb lc 3 1 (intN (elN W)), rowI nb9 nc9 107 1 (uns [Y])] (sitms 107 us2)) ?_
        refine T.rg ?_
        refine TO.qm rfl (TO.qm rfl ?_)
        refine TO.l rfl (l_build1 (v := (.slice nb9 1 1)) underlying69 inf67 rfl rfl rfl (fun z13 => ?_))
        refine TO.l rfl (l_append 1 underlying69 underlying69 inf67 rfl rfl rfl rfl (by rw [List.length_map]; omega) (by decide) (Src.row (j := 0) rfl (by simp)) (by simp [oneB]) (by omega) (by decide) (by decide) (fun z14 zc15 => ?_))
        refine TO.qa rfl ?_
        refine TO.nl ?_
        refine T.sub (O' := ([rowI z14 zc15 67 1 ((svals us2) ++ [(.slice nb9 1 1)]), rowI nb9 nc9 107 1 (uns [Y]), oI z1 25 (dC a k), oI z2 25 [(.int .i64 0), (.int .i64 0), (.slice none 0 0), (.slice none 0 0)], mapI str (fun n : Nat => Value.int .i64 (n : Int)) mm5 (keyZ (psM a v i W (x + 1))), oI z6 25 (dC (pdN a v i) km), dI 37 4 3 (pdN a v i) km, rowI (some ⟨z7, 0, none⟩) (letN a) 3 1 (ints (rwP a v i W x)), rowI lb lc 3 1 (intN (elN W))] ++ sitms 107 us2)) (by exact Sub.d (.k (.pull [oI z1 25 (dC a k), oI z2 25 [(.int .i64 0), (.int .i64 0), (.slice none 0 0), (.slice none 0 0)], mapI str (fun n : Nat => Value.int .i64 (n : Int)) mm5 (keyZ (psM a v i W (x + 1))), oI z6 25 (dC (pdN a v i) km), dI 37 4 3 (pdN a v i) km, rowI (some ⟨z7, 0, none⟩) (letN a) 3 1 (ints (rwP a v i W x)), rowI lb lc 3 1 (intN (elN W))] _ (.k (.k (.k (.k (.k (.k (.k .rf)))))))))) ?_
        refine T.sub (O' := ((rowI z14 zc15 67 1 (svals (us2 ++ [⟨nb9, nc9, Y⟩])) :: sitms 107 (us2 ++ [⟨nb9, nc9, Y⟩])) ++ [oI z1 25 (dC a k), oI z2 25 [(.int .i64 0), (.int .i64 0), (.slice none 0 0), (.slice none 0 0)], mapI str (fun n : Nat => Value.int .i64 (n : Int)) mm5 (keyZ (psM a v i W (x + 1))), oI z6 25 (dC (pdN a v i) km), dI 37 4 3 (pdN a v i) km, rowI (some ⟨z7, 0, none⟩) (letN a) 3 1 (ints (rwP a v i W x)), rowI lb lc 3 1 (intN (elN W))])) (by rw [show svals (us2 ++ [⟨nb9, nc9, Y⟩]) = svals us2 ++ [.slice nb9 1 1] by simp [SRec.val]]; exact Sub.fold [rowI z14 zc15 67 1 (svals us2 ++ [.slice nb9 1 1])] (rowI nb9 nc9 107 1 (uns [Y])) [oI z1 25 (dC a k), oI z2 25 [(.int .i64 0), (.int .i64 0), (.slice none 0 0), (.slice none 0 0)], mapI str (fun n : Nat => Value.int .i64 (n : Int)) mm5 (keyZ (psM a v i W (x + 1))), oI z6 25 (dC (pdN a v i) km), dI 37 4 3 (pdN a v i) km, rowI (some ⟨z7, 0, none⟩) (letN a) 3 1 (ints (rwP a v i W x)), rowI lb lc 3 1 (intN (elN W))] (sitms 107 us2) (sitms 107 (us2 ++ [⟨nb9, nc9, Y⟩])) (by simp [SRec.itm])) ?_
        refine T.pack (φ := True) trivial ?_
        refine T.rg ?_
        refine TO.qm rfl (TO.qm rfl (TO.qm rfl (TO.q (q_ix (i := x) underlying37 inf3 rfl rfl (rowO (mG 6 rfl)) hxl (by rw [List.length_map, rwP_len]; exact hxl)) ?_)))
        refine TO.l rfl (l_st (j := x) (v := .int .i64 (us2.length : Int)) (vs := [(.int .i64 (us2.length : Int))]) (cs := ints (rwP a v i W x)) 6 inf3 rfl rfl rfl rfl rfl (by simp) rfl (by rw [List.length_map, rwP_len]; simp; omega) ?_)
        refine TO.sub (O' := [setI 67 107 z14 zc15 (us2 ++ [⟨nb9, nc9, Y⟩]), oI z1 25 (dC a k), oI z2 25 [(.int .i64 0), (.int .i64 0), (.slice none 0 0), (.slice none 0 0)], mapI str (fun n : Nat => Value.int .i64 (n : Int)) mm5 (keyZ (psM a v i W (x + 1))), oI z6 25 (dC (pdN a v i) km), dI 37 4 3 (pdN a v i) km, rowI (some ⟨z7, 0, none⟩) (letN a) 3 1 (ints (rwP a v i W (x + 1))), rowI lb lc 3 1 (intN (elN W))]) (by rw [show putL (ints (rwP a v i W x)) x [(.int .i64 (us2.length : Int))] = ints (rwP a v i W (x + 1)) from by rw [← rwP_set hxl, hval]; simp [putL]]; exact Sub.of (List.Sublist.refl _)) ?_
        refine TO.nl (T.rg ?_)
        refine TO.q (q_addN (a := x) (b := 1) rfl rfl (by omega)) (TO.qm rfl ?_)
        refine TO.nl ?_
        exact ⟨x + 1, by omega, [oI z1 25 (dC a k), oI z2 25 [(.int .i64 0), (.int .i64 0), (.slice none 0 0), (.slice none 0 0)], setI 67 107 z14 zc15 (us2 ++ [⟨nb9, nc9, Y⟩]), mapI str (fun n : Nat => Value.int .i64 (n : Int)) mm5 (keyZ (psM a v i W (x + 1))), oI z6 25 (dC (pdN a v i) km), dI 37 4 3 (pdN a v i) km, rowI (some ⟨z7, 0, none⟩) (letN a) 3 1 (ints (rwP a v i W (x + 1))), rowI lb lc 3 1 (intN (elN W))], (by exact Sub.pull [setI 67 107 z14 zc15 (us2 ++ [⟨nb9, nc9, Y⟩])] _ (.pull [setI 67 107 z14 zc15 (us2 ++ [⟨nb9, nc9, Y⟩])] _ (.k (.k (.k (.k (.k (.k .z)))))))), z14, zc15, us2 ++ [⟨nb9, nc9, Y⟩], rfl, by omega, by rw [List.map_append, hus2, hpe]; rfl, ⟨rfl, rfl, rfl, rfl, rfl, rfl, (by rw [List.length_append]; rfl), rfl, rfl, rfl, rfl, rfl, rfl, rfl, rfl, trivial⟩⟩
      have hno : Y ∈ psM a v i W x := by simpa using hc
      have hpe : psM a v i W (x + 1) = psM a v i W x := by rw [psM_step, hY]; exact if_pos hno
      have hval : ix (pst a v W x) (psM a v i W (x + 1)) = lkN Y (psM a v i W x) := by rw [hpe, hY]; unfold lkN; rw [if_pos hno]
      refine T.skip ?_
      skip
      refine T.rg ?_
      refine TO.qm rfl (TO.qm rfl (TO.qm rfl (TO.q (q_ix (i := x) underlying37 inf3 rfl rfl (rowO (mG 6 rfl)) hxl (by rw [List.length_map, rwP_len]; exact hxl)) ?_)))
      refine TO.l rfl (l_st (j := x) (v := .int .i64 ((lkN Y (psM a v i W x) : Nat) : Int)) (vs := [(.int .i64 ((lkN Y (psM a v i W x) : Nat) : Int))]) (cs := ints (rwP a v i W x)) 6 inf3 rfl rfl rfl rfl rfl (by simp) rfl (by rw [List.length_map, rwP_len]; simp; omega) ?_)
      refine TO.sub (O' := [oI z1 25 (dC a k), oI z2 25 [(.int .i64 0), (.int .i64 0), (.slice none 0 0), (.slice none 0 0)], setI 67 107 sb2 sc2 us2, mapI str (fun n : Nat => Value.int .i64 (n : Int)) mm5 (keyZ (psM a v i W x)), oI z6 25 (dC (pdN a v i) km), dI 37 4 3 (pdN a v i) km, rowI (some ⟨z7, 0, none⟩) (letN a) 3 1 (ints (rwP a v i W (x + 1))), rowI lb lc 3 1 (intN (elN W)), rowI nb9 nc9 107 1 (uns [Y])]) (by rw [show putL (ints (rwP a v i W x)) x [(.int .i64 ((lkN Y (psM a v i W x) : Nat) : Int))] = ints (rwP a v i W (x + 1)) from by rw [← rwP_set hxl, hval]; simp [putL]]; exact Sub.of (List.Sublist.refl _)) ?_
      refine TO.nl (T.rg ?_)
      refine TO.q (q_addN (a := x) (b := 1) rfl rfl (by omega)) (TO.qm rfl ?_)
      refine TO.nl ?_
      exact ⟨x + 1, by omega, [oI z1 25 (dC a k), oI z2 25 [(.int .i64 0), (.int .i64 0), (.slice none 0 0), (.slice none 0 0)], setI 67 107 sb2 sc2 us2, mapI str (fun n : Nat => Value.int .i64 (n : Int)) mm5 (keyZ (psM a v i W x)), oI z6 25 (dC (pdN a v i) km), dI 37 4 3 (pdN a v i) km, rowI (some ⟨z7, 0, none⟩) (letN a) 3 1 (ints (rwP a v i W (x + 1))), rowI lb lc 3 1 (intN (elN W))], (by exact Sub.k (.k (.k (.k (.k (.k (.k (.k .z)))))))), sb2, sc2, us2, by rw [hpe], by omega, by rw [hus2, hpe], ⟨rfl, rfl, rfl, rfl, rfl, rfl, rfl, rfl, rfl, rfl, rfl, rfl, rfl, rfl, rfl, trivial⟩⟩
    have hge72 : ¬ x < letN a := by omega
    refine T.exit ?_
    refine T.s (T.s ?_)
    have hxe : x = letN a := by omega
    have hus3 : us2.map SRec.w = psN a v (i + 1) := by rw [hus2, hxe]; exact psM_full hiW
    have hpl4 : (psN a v (i + 1)).length = us2.length := by rw [← hus3, List.length_map]
    have hui : i < us2.length := by
      have h9 := (gq_pre (psuc a v) (2 ^ a.start.toNat) (i := i) (m := i + 1) (by omega)).length_le
      have h8 : (psN a v i).length ≤ (psN a v (i + 1)).length := h9
      omega
    refine T.rg ?_
    refine TO.qm rfl (TO.q (q_len underlying69 rfl) (TO.qm rfl (TO.q (q_gtr rfl rfl) ?_)))
    refine TO.nl ?_
    refine T.condP rfl (fun hc => ?_) (fun hc => ?_)
    · refine T.s ?_
      refine T.nilD 37 4 3 ?_
      refine T.rg ?_
      refine TO.q (q_build plan25 inf25 rfl) ?_
      refine TO.l rfl (l_sb (v := (.agg #[(.int .i64 0), (.int .i64 0), (.slice none 0 0), (.slice none 0 0)])) (vs := [(.int .i64 0), (.int .i64 0), (.slice none 0 0), (.slice none 0 0)]) 2 inf25 rfl rfl rfl rfl rfl rfl (by simp [putL]) ?_)
      refine TO.qa rfl ?_
      refine TO.nl (T.ret (Res.drop ?_))
      refine Res.cell1b (.int .i64 10) (i := 2) Tryz.results16 underlying25 rfl inf25 rfl rfl rfl rfl ?_
      obtain ⟨e1, e2⟩ := ex_big (d := a) (v := (v : Int)) (B := B) (i := i + 1) hve hB1 hB2 (by omega) (by show B < ((psN a v (i + 1)).length : Int); omega)
      rw [e1, e2]
      exact ⟨[dI 37 4 3 noD k00], (by exact Sub.k .z), k00, rfl, rfl⟩
    refine T.skip (T.s (T.s (T.rg ?_)))
    refine TO.qm rfl (TO.q (q_len underlying37 rfl) (TO.qm rfl ?_))
    refine TO.nl (T.block ?_)
    refine T.loop (fun (j : Nat) ρ O => O = [oI z1 25 (dC a k), oI z2 25 [(.int .i64 0), (.int .i64 0), (.slice none 0 0), (.slice none 0 0)], setI 67 107 sb2 sc2 us2, mapI str (fun n : Nat => Value.int .i64 (n : Int)) mm5 (keyZ (psM a v i W x)), oI z6 25 (dC (pdN a v i) km), dI 37 4 3 (pdN a v i) km, rowI (some ⟨z7, 0, none⟩) (letN a) 3 1 (ints (rwP a v i W x)), rowI lb lc 3 1 (intN (elN W))] ∧ j ≤ (elN W).length ∧ Heads [(0, (dV a k)), (1, .int .i64 ((v : Nat) : Int)), (2, .int .i64 B), (3, (.pointer (some ⟨z1, 0, none⟩))), (6, (.pointer (some ⟨z2, 0, none⟩))), (8, .int .i64 0), (9, (.slice sb2 us2.length sc2)), (10, (.map (some mm5))), (11, (.pointer (some ⟨z6, 0, none⟩))), (12, .int .i64 ((i : Nat) : Int)), (13, (.slice (some ⟨z7, 0, none⟩) (letN a) (letN a))), (14, .bool (((elN W).take j).any (finN a))), (15, (.slice lb ((elN W).length) lc)), (128, (.slice lb ((elN W).length) lc)), (129, .int .i64 ((elN W).length : Int)), (130, .int .i64 ((j : Nat) : Int))] ρ) (fun j => (elN W).length - j) 0 ?_ ?_
    · exact ⟨rfl, Nat.zero_le _, ⟨rfl, rfl, rfl, rfl, rfl, rfl, rfl, rfl, rfl, rfl, rfl, rfl, rfl, rfl, rfl, rfl, trivial⟩⟩
    rintro j ρ O ⟨rfl, hj, hH⟩
    obtain ⟨ρ0, rfl⟩ := hH.elim
    clear hH
    refine T.s (T.rg ?_)
    refine TO.q (q_lss rfl rfl) ?_
    refine TO.nl (T.s ?_)
    refine T.condP rfl (fun hc => ?_) (fun hc => ?_)
    · have hlt131 : j < (elN W).length := by omega
      have hjl : j < (elN W).length := by omega
      obtain ⟨s, hsj⟩ : ∃ s, (elN W)[j]? = some s := ⟨_, List.getElem?_eq_getElem hjl⟩
      have hsl : s < a.next.length := hgW.st (List.mem_of_getElem? hsj)
      have hfs := finN_at hv hsl
      refine T.skip (T.s (T.block (T.s (T.rg ?_))))
      refine TO.q (q_ix (i := j) underlying37 inf3 rfl rfl (rowO (mG 7 rfl)) hjl (by rw [List.length_map]; exact hjl)) (TO.q (q_ld underlying3 rfl rfl (rowO (mG 7 rfl)) (intN_at hsj)) (TO.qa rfl ?_))
      refine TO.nl ?_
      refine T.reset [oI z1 25 (dC a k), oI z2 25 [(.int .i64 0), (.int .i64 0), (.slice none 0 0), (.slice none 0 0)], setI 67 107 sb2 sc2 us2, mapI str (fun n : Nat => Value.int .i64 (n : Int)) mm5 (keyZ (psM a v i W x)), oI z6 25 (dC (pdN a v i) km), dI 37 4 3 (pdN a v i) km, rowI (some ⟨z7, 0, none⟩) (letN a) 3 1 (ints (rwP a v i W x)), rowI lb lc 3 1 (intN (elN W))] [(0, (dV a k)), (1, .int .i64 ((v : Nat) : Int)), (2, .int .i64 B), (3, (.pointer (some ⟨z1, 0, none⟩))), (6, (.pointer (some ⟨z2, 0, none⟩))), (8, .int .i64 0), (9, (.slice sb2 us2.length sc2)), (10, (.map (some mm5))), (11, (.pointer (some ⟨z6, 0, none⟩))), (12, .int .i64 ((i : Nat) : Int)), (13, (.slice (some ⟨z7, 0, none⟩) (letN a) (letN a))), (14, .bool (((elN W).take j).any (finN a))), (15, (.slice lb ((elN W).length) lc)), (25, .int .i64 ((s : Nat) : Int)), (128, (.slice lb ((elN W).length) lc)), (129, .int .i64 ((elN W).length : Int)), (130, .int .i64 ((j : Nat) : Int))] rfl ⟨rfl, rfl, rfl, rfl, rfl, rfl, rfl, rfl, rfl, rfl, rfl, rfl, rfl, rfl, rfl, rfl, rfl, trivial⟩ (fun ρ0 => ?_)
      refine T.rg ?_
      refine TO.qm rfl ?_
      by_cases hs135 : ((elN W).take j).any (finN a) = true
      · refine TO.q (QT.toB (q_move rfl) (hs135)) ?_
        refine TO.pd rfl rfl ?_
        refine TO.pd rfl rfl ?_
        refine TO.pd rfl rfl ?_
        refine TO.pd rfl rfl ?_
        refine TO.pd rfl rfl ?_
        refine TO.q (q_pick1 rfl rfl) (TO.qa rfl ?_)
        refine TO.nl (T.rg ?_)
        refine TO.q (q_addN (a := j) (b := 1) rfl rfl (by omega)) (TO.qm rfl ?_)
        refine TO.nl ?_
        exact ⟨j + 1, by omega, rfl, by omega, ⟨rfl, rfl, rfl, rfl, rfl, rfl, rfl, rfl, rfl, rfl, rfl, (congrArg Value.bool (by rw [any_step hsj]; simp [hs135])), rfl, rfl, rfl, rfl, trivial⟩⟩
      refine TO.q (QT.toB (q_move rfl) (Bool.eq_false_iff.2 hs135)) ?_
      refine TO.gd rfl rfl rfl (LT.oq rfl rfl (q_fa underlying25 rfl inf23 rfl rfl) ?_)
      refine TO.gd rfl rfl rfl (LT.oq rfl rfl (q_lb 0 underlying23 rfl rfl rfl rfl) ?_)
      refine TO.gd rfl rfl rfl (LT.oq rfl rfl (q_move rfl) ?_)
      refine TO.gd rfl rfl rfl (LT.oq rfl rfl (q_ix (i := s) underlying23 inf4 rfl rfl (Sl.o ha.final) (by omega) (by rw [List.length_map]; omega)) ?_)
      refine TO.gd rfl rfl rfl (LT.oq rfl rfl (q_ld underlying4 rfl rfl (Sl.o ha.final) hfs) ?_)
      refine TO.q (q_pick0 rfl rfl) (TO.qa rfl ?_)
      refine TO.nl (T.rg ?_)
      refine TO.q (q_addN (a := j) (b := 1) rfl rfl (by omega)) (TO.qm rfl ?_)
      refine TO.nl ?_
      exact ⟨j + 1, by omega, rfl, by omega, ⟨rfl, rfl, rfl, rfl, rfl, rfl, rfl, rfl, rfl, rfl, rfl, (congrArg Value.bool (by rw [any_step hsj]; simp [hs135])), rfl, rfl, rfl, rfl, trivial⟩⟩
    have hge131 : ¬ j < (elN W).length := by omega
    refine T.exit ?_
    have hje : j = (elN W).length := by omega
    refine T.sub (O' := [dI 37 4 3 (pdN a v i) km, oI z1 25 (dC a k), oI z2 25 [(.int .i64 0), (.int .i64 0), (.slice none 0 0), (.slice none 0 0)], setI 67 107 sb2 sc2 us2, mapI str (fun n : Nat => Value.int .i64 (n : Int)) mm5 (keyZ (psM a v i W x)), oI z6 25 (dC (pdN a v i) km), rowI (some ⟨z7, 0, none⟩) (letN a) 3 1 (ints (rwP a v i W x)), rowI lb lc 3 1 (intN (elN W))]) (by exact Sub.pull [oI z1 25 (dC a k), oI z2 25 [(.int .i64 0), (.int .i64 0), (.slice none 0 0), (.slice none 0 0)], setI 67 107 sb2 sc2 us2, mapI str (fun n : Nat => Value.int .i64 (n : Int)) mm5 (keyZ (psM a v i W x)), oI z6 25 (dC (pdN a v i) km)] _ (.k (.k (.k (.k (.k (.k (.k .z)))))))) ?_
    refine T.unpack (fun hkq => ?_)
    refine T.sub (O' := ([rowI km.nb km.nc 37 1 (vals km.qs), rowI km.fb km.fc 4 1 (bools (pdN a v i).final), oI z1 25 (dC a k), oI z2 25 [(.int .i64 0), (.int .i64 0), (.slice none 0 0), (.slice none 0 0)], setI 67 107 sb2 sc2 us2, mapI str (fun n : Nat => Value.int .i64 (n : Int)) mm5 (keyZ (psM a v i W x)), oI z6 25 (dC (pdN a v i) km), rowI (some ⟨z7, 0, none⟩) (letN a) 3 1 (ints (rwP a v i W x)), rowI lb lc 3 1 (intN (elN W))] ++ itms 3 km.qs)) (by exact Sub.swap3 [rowI km.nb km.nc 37 1 (vals km.qs), rowI km.fb km.fc 4 1 (bools (pdN a v i).final)] [oI z1 25 (dC a k), oI z2 25 [(.int .i64 0), (.int .i64 0), (.slice none 0 0), (.slice none 0 0)], setI 67 107 sb2 sc2 us2, mapI str (fun n : Nat => Value.int .i64 (n : Int)) mm5 (keyZ (psM a v i W x)), oI z6 25 (dC (pdN a v i) km), rowI (some ⟨z7, 0, none⟩) (letN a) 3 1 (ints (rwP a v i W x)), rowI lb lc 3 1 (intN (elN W))] (itms 3 km.qs)) ?_
    have hkl : km.qs.length = i := by
      have h9 := congrArg List.length hkq
      rw [pdN_nl] at h9; simpa using h9
    have hpn := pdN_nl a v i
    have hpf := pdN_fl a v i
    refine T.cut1 (fun ρ O => ∃ (nb2 : Option Addr) (nc2 : Nat) (fb2 : Option Addr) (fc2 : Nat), O = ([rowI nb2 nc2 37 1 ((vals km.qs) ++ [(.slice (some ⟨z7, 0, none⟩) (letN a) (letN a))]), rowI fb2 fc2 4 1 ((bools (pdN a v i).final) ++ [.bool (((elN W).take j).any (finN a))]), oI z1 25 (dC a k), oI z2 25 [(.int .i64 0), (.int .i64 0), (.slice none 0 0), (.slice none 0 0)], setI 67 107 sb2 sc2 us2, mapI str (fun n : Nat => Value.int .i64 (n : Int)) mm5 (keyZ (psM a v i W x)), oI z6 25 [(.int .i64 (pdN a v i).vars), (.int .i64 (pdN a v i).start), (.slice nb2 (((pdN a v i).next.length) + 1) nc2), (.slice fb2 (((pdN a v i).final.length) + 1) fc2)], rowI (some ⟨z7, 0, none⟩) (letN a) 3 1 (ints (rwP a v i W x)), rowI lb lc 3 1 (intN (elN W))] ++ (itms 3 km.qs)) ∧ Heads [(0, (dV a k)), (1, .int .i64 ((v : Nat) : Int)), (2, .int .i64 B), (3, (.pointer (some ⟨z1, 0, none⟩))), (6, (.pointer (some ⟨z2, 0, none⟩))), (8, .int .i64 0), (9, (.slice sb2 us2.length sc2)), (10, (.map (some mm5))), (11, (.pointer (some ⟨z6, 0, none⟩))), (12, .int .i64 ((i : Nat) : Int)), (13, (.slice (some ⟨z7, 0, none⟩) (letN a) (letN a))), (14, .bool (((elN W).take j).any (finN a))), (15, (.slice lb ((elN W).length) lc))] ρ) ?_ ?_
    · refine T.treeT [oI z1 25 (dC a k), oI z2 25 [(.int .i64 0), (.int .i64 0), (.slice none 0 0), (.slice none 0 0)], oI z6 25 (dC (pdN a v i) km)] [11, 13] 14 mixed rfl (by exact Sub.d (.d (.k (.k (.d (.d (.k .z))))))) (fun _ _ _ h => h) ?_
      refine RO.quietTT 0 rfl (by kernel_rfl) (q_fa underlying25 rfl inf22 rfl rfl) ?_
      refine RO.quietTT 1 rfl (by kernel_rfl) (q_lb 2 underlying22 rfl rfl rfl rfl) ?_
      refine RO.quietTT 2 rfl (by kernel_rfl) (q_move rfl) ?_
      refine RO.quietTT 5 rfl (by kernel_rfl) (q_fa underlying25 rfl inf23 rfl rfl) ?_
      refine RO.quietTT 6 rfl (by kernel_rfl) (q_lb 2 underlying23 rfl rfl rfl rfl) ?_
      refine RO.quietTT 7 rfl (by kernel_rfl) (q_move rfl) ?_
      refine RO.forkT [3, 8] (by kernel_rfl) rfl ⟨⟨_, rfl, rfl, l_build1 (v := (.slice (some ⟨z7, 0, none⟩) (letN a) (letN a))) underlying22 inf37 rfl rfl rfl (fun tr => ⟨.inr (by exact Sub.d (.d (.d (.k (.k (.d (.d (.k .z)))))))), ?_⟩)⟩, ⟨_, rfl, rfl, l_build1 (v := .bool (((elN W).take j).any (finN a))) underlying23 inf4 rfl rfl rfl (fun tf => ⟨.inr (by exact Sub.d (.d (.d (.k (.k (.d (.d (.k .z)))))))), ?_⟩)⟩, trivial⟩ (by kernel_rfl)
      · refine RO.forkT [4, 8] (by kernel_rfl) rfl ⟨⟨_, rfl, rfl, l_append 1 underlying22 underlying22 inf37 rfl rfl rfl rfl (by rw [List.length_map]; omega) (by decide) (Src.row (j := 0) rfl (by simp)) (by simp [oneB]) (by omega) (by decide) (by decide) (fun nb2 nc2 => ⟨.inr (by exact Sub.d (.d (.d (.k (.k (.d (.d (.k .z)))))))), ?_⟩)⟩, ⟨_, rfl, rfl, l_build1 (v := .bool (((elN W).take j).any (finN a))) underlying23 inf4 rfl rfl rfl (fun tf => ⟨.inr (by exact Sub.d (.d (.d (.d (.k (.k (.d (.d (.k .z))))))))), ?_⟩)⟩, trivial⟩ (by kernel_rfl)
        · refine RO.quietTT 10 rfl (by kernel_rfl) (q_fa underlying25 rfl inf22 rfl rfl) ?_
          refine RO.forkT [8] (by kernel_rfl) rfl ⟨⟨_, rfl, rfl, l_build1 (v := .bool (((elN W).take j).any (finN a))) underlying23 inf4 rfl rfl rfl (fun tf => ⟨.inr (by exact Sub.d (.d (.d (.d (.k (.k (.d (.d (.k .z))))))))), ?_⟩)⟩, trivial⟩ (by kernel_rfl)
          refine RO.forkT [9] (by kernel_rfl) rfl ⟨⟨_, rfl, rfl, l_append 3 underlying23 underlying23 inf4 rfl rfl rfl rfl (by rw [List.length_map]; omega) (by decide) (Src.row (j := 0) rfl (by simp)) (by simp [oneB]) (by omega) (by decide) (by decide) (fun fb2 fc2 => ⟨.inr (by exact Sub.d (.d (.d (.d (.k (.k (.d (.d (.k .z))))))))), ?_⟩)⟩, trivial⟩ (by kernel_rfl)
          refine RO.forkT [11] (by kernel_rfl) rfl ⟨⟨_, rfl, rfl, l_sb (v := (.slice nb2 (((pdN a v i).next.length) + 1) nc2)) (vs := [(.slice nb2 (((pdN a v i).next.length) + 1) nc2)]) 8 inf22 rfl rfl rfl rfl rfl rfl (by simp [putL]) ⟨.inl (by decide), ?_⟩⟩, trivial⟩ (by kernel_rfl)
          refine RO.quietE 12 rfl (by kernel_rfl) (q_fa underlying25 rfl inf23 rfl rfl) ?_
          refine RO.forkT [13] (by kernel_rfl) rfl ⟨⟨_, rfl, rfl, l_sb (v := (.slice fb2 (((pdN a v i).final.length) + 1) fc2)) (vs := [(.slice fb2 (((pdN a v i).final.length) + 1) fc2)]) 8 inf23 rfl rfl rfl rfl rfl rfl (by simp [putL]) ⟨.inl (by decide), ?_⟩⟩, trivial⟩ (by kernel_rfl)
          exact RO.fin (by kernel_rfl) ⟨nb2, nc2, fb2, fc2, rfl, ⟨rfl, rfl, rfl, rfl, rfl, rfl, rfl, rfl, rfl, rfl, rfl, rfl, rfl, trivial⟩⟩ (by exact Sub.d (.d (.k (.k (.k (.k (.k (.k (.k (.k (.k .rf)))))))))))
        refine RO.forkT [4] (by kernel_rfl) rfl ⟨⟨_, rfl, rfl, l_append 2 underlying22 underlying22 inf37 rfl rfl rfl rfl (by rw [List.length_map]; omega) (by decide) (Src.row (j := 1) rfl (by simp)) (by simp [oneB]) (by omega) (by decide) (by decide) (fun nb2 nc2 => ⟨.inr (by exact Sub.d (.d (.d (.d (.k (.k (.d (.d (.k .z))))))))), ?_⟩)⟩, trivial⟩ (by kernel_rfl)
        refine RO.quietTT 10 rfl (by kernel_rfl) (q_fa underlying25 rfl inf22 rfl rfl) ?_
        refine RO.forkT [9] (by kernel_rfl) rfl ⟨⟨_, rfl, rfl, l_append 3 underlying23 underlying23 inf4 rfl rfl rfl rfl (by rw [List.length_map]; omega) (by decide) (Src.row (j := 0) rfl (by simp)) (by simp [oneB]) (by omega) (by decide) (by decide) (fun fb2 fc2 => ⟨.inr (by exact Sub.d (.d (.d (.d (.k (.k (.d (.d (.k .z))))))))), ?_⟩)⟩, trivial⟩ (by kernel_rfl)
        refine RO.forkT [11] (by kernel_rfl) rfl ⟨⟨_, rfl, rfl, l_sb (v := (.slice nb2 (((pdN a v i).next.length) + 1) nc2)) (vs := [(.slice nb2 (((pdN a v i).next.length) + 1) nc2)]) 8 inf22 rfl rfl rfl rfl rfl rfl (by simp [putL]) ⟨.inl (by decide), ?_⟩⟩, trivial⟩ (by kernel_rfl)
        refine RO.quietE 12 rfl (by kernel_rfl) (q_fa underlying25 rfl inf23 rfl rfl) ?_
        refine RO.forkT [13] (by kernel_rfl) rfl ⟨⟨_, rfl, rfl, l_sb (v := (.slice fb2 (((pdN a v i).final.length) + 1) fc2)) (vs := [(.slice fb2 (((pdN a v i).final.length) + 1) fc2)]) 8 inf23 rfl rfl rfl rfl rfl rfl (by simp [putL]) ⟨.inl (by decide), ?_⟩⟩, trivial⟩ (by kernel_rfl)
        exact RO.fin (by kernel_rfl) ⟨nb2, nc2, fb2, fc2, rfl, ⟨rfl, rfl, rfl, rfl, rfl, rfl, rfl, rfl, rfl, rfl, rfl, rfl, rfl, trivial⟩⟩ (by exact Sub.d (.d (.k (.k (.k (.k (.k (.k (.k (.k (.k .rf)))))))))))
      refine RO.forkT [3] (by kernel_rfl) rfl ⟨⟨_, rfl, rfl, l_build1 (v := (.slice (some ⟨z7, 0, none⟩) (letN a) (letN a))) underlying22 inf37 rfl rfl rfl (fun tr => ⟨.inr (by exact Sub.d (.d (.d (.d (.k (.k (.d (.d (.k .z))))))))), ?_⟩)⟩, trivial⟩ (by kernel_rfl)
      refine RO.forkT [4] (by kernel_rfl) rfl ⟨⟨_, rfl, rfl, l_append 2 underlying22 underlying22 inf37 rfl rfl rfl rfl (by rw [List.length_map]; omega) (by decide) (Src.row (j := 0) rfl (by simp)) (by simp [oneB]) (by omega) (by decide) (by decide) (fun nb2 nc2 => ⟨.inr (by exact Sub.d (.d (.d (.d (.k (.k (.d (.d (.k .z))))))))), ?_⟩)⟩, trivial⟩ (by kernel_rfl)
      refine RO.quietTT 10 rfl (by kernel_rfl) (q_fa underlying25 rfl inf22 rfl rfl) ?_
      refine RO.forkT [9] (by kernel_rfl) rfl ⟨⟨_, rfl, rfl, l_append 3 underlying23 underlying23 inf4 rfl rfl rfl rfl (by rw [List.length_map]; omega) (by decide) (Src.row (j := 1) rfl (by simp)) (by simp [oneB]) (by omega) (by decide) (by decide) (fun fb2 fc2 => ⟨.inr (by exact Sub.d (.d (.d (.d (.k (.k (.d (.d (.k .z))))))))), ?_⟩)⟩, trivial⟩ (by kernel_rfl)
      refine RO.forkT [11] (by kernel_rfl) rfl ⟨⟨_, rfl, rfl, l_sb (v := (.slice nb2 (((pdN a v i).next.length) + 1) nc2)) (vs := [(.slice nb2 (((pdN a v i).next.length) + 1) nc2)]) 8 inf22 rfl rfl rfl rfl rfl rfl (by simp [putL]) ⟨.inl (by decide), ?_⟩⟩, trivial⟩ (by kernel_rfl)
      refine RO.quietE 12 rfl (by kernel_rfl) (q_fa underlying25 rfl inf23 rfl rfl) ?_
      refine RO.forkT [13] (by kernel_rfl) rfl ⟨⟨_, rfl, rfl, l_sb (v := (.slice fb2 (((pdN a v i).final.length) + 1) fc2)) (vs := [(.slice fb2 (((pdN a v i).final.length) + 1) fc2)]) 8 inf23 rfl rfl rfl rfl rfl rfl (by simp [putL]) ⟨.inl (by decide), ?_⟩⟩, trivial⟩ (by kernel_rfl)
      exact RO.fin (by kernel_rfl) ⟨nb2, nc2, fb2, fc2, rfl, ⟨rfl, rfl, rfl, rfl, rfl, rfl, rfl, rfl, rfl, rfl, rfl, rfl, rfl, trivial⟩⟩ (by exact Sub.d (.d (.k (.k (.k (.k (.k (.k (.k (.k (.k .rf)))))))))))
    rintro ρ O ⟨nb2, nc2, fb2, fc2, rfl, hH⟩
    obtain ⟨ρ0, rfl⟩ := hH.elim
    clear hH
    have hvq : vals (km.qs ++ [⟨some ⟨z7, 0, none⟩, letN a, rwN a v i W⟩]) = vals km.qs ++ [(.slice (some ⟨z7, 0, none⟩) (letN a) (letN a))] := by simp [Rec.val, rwN_len]
    have hbq : bools (pdN a v (i + 1)).final = bools (pdN a v i).final ++ [(.bool (((elN W).take j).any (finN a)))] := by rw [pdN_final, hW, List.take_of_length_le (by omega)]; simp
    have hnl2 : (pdN a v (i + 1)).next.length = (pdN a v i).next.length + 1 := by rw [pdN_nl, pdN_nl]
    have hfl2 : (pdN a v (i + 1)).final.length = (pdN a v i).final.length + 1 := by rw [pdN_fl, pdN_fl]
    have hnq : nums (km.qs ++ [⟨some ⟨z7, 0, none⟩, letN a, rwN a v i W⟩]) = (pdN a v (i + 1)).next := by
      show List.map Rec.xs (km.qs ++ [_]) = _
      rw [List.map_append, show List.map Rec.xs km.qs = _ from hkq, pdN_next, hW]; rfl
    obtain ⟨z9, hz9⟩ : ∃ z : DK, z = ⟨nb2, nc2, fb2, fc2, km.qs ++ [⟨some ⟨z7, 0, none⟩, letN a, rwN a v i W⟩]⟩ := ⟨_, rfl⟩
    refine T.sub (O' := ([rowI nb2 nc2 37 1 ((vals km.qs) ++ [(.slice (some ⟨z7, 0, none⟩) (letN a) (letN a))]), rowI fb2 fc2 4 1 ((bools (pdN a v i).final) ++ [.bool (((elN W).take j).any (finN a))]), rowI (some ⟨z7, 0, none⟩) (letN a) 3 1 (ints (rwP a v i W x)), oI z6 25 [(.int .i64 (pdN a v i).vars), (.int .i64 (pdN a v i).start), (.slice nb2 (((pdN a v i).next.length) + 1) nc2), (.slice fb2 (((pdN a v i).final.length) + 1) fc2)], oI z1 25 (dC a k), oI z2 25 [(.int .i64 0), (.int .i64 0), (.slice none 0 0), (.slice none 0 0)], setI 67 107 sb2 sc2 us2, mapI str (fun n : Nat => Value.int .i64 (n : Int)) mm5 (keyZ (psM a v i W x))] ++ itms 3 km.qs)) (by exact Sub.k (.k (.pull [oI z1 25 (dC a k), oI z2 25 [(.int .i64 0), (.int .i64 0), (.slice none 0 0), (.slice none 0 0)], setI 67 107 sb2 sc2 us2, mapI str (fun n : Nat => Value.int .i64 (n : Int)) mm5 (keyZ (psM a v i W x)), oI z6 25 [(.int .i64 (pdN a v i).vars), (.int .i64 (pdN a v i).start), (.slice nb2 (((pdN a v i).next.length) + 1) nc2), (.slice fb2 (((pdN a v i).final.length) + 1) fc2)]] _ (.pull [oI z1 25 (dC a k), oI z2 25 [(.int .i64 0), (.int .i64 0), (.slice none 0 0), (.slice none 0 0)], setI 67 107 sb2 sc2 us2, mapI str (fun n : Nat => Value.int .i64 (n : Int)) mm5 (keyZ (psM a v i W x))] _ (.k (.k (.k (.k (.d .rf))))))))) ?_
    refine T.sub (O' := ([rowI nb2 nc2 37 1 ((vals km.qs) ++ [(.slice (some ⟨z7, 0, none⟩) (letN a) (letN a))]), rowI fb2 fc2 4 1 ((bools (pdN a v i).final) ++ [.bool (((elN W).take j).any (finN a))]), rowI (some ⟨z7, 0, none⟩) (letN a) 3 1 (ints (rwN a v i W)), oI z6 25 [(.int .i64 (pdN a v i).vars), (.int .i64 (pdN a v i).start), (.slice nb2 (((pdN a v i).next.length) + 1) nc2), (.slice fb2 (((pdN a v i).final.length) + 1) fc2)], oI z1 25 (dC a k), oI z2 25 [(.int .i64 0), (.int .i64 0), (.slice none 0 0), (.slice none 0 0)], setI 67 107 sb2 sc2 us2, mapI str (fun n : Nat => Value.int .i64 (n : Int)) mm5 (keyZ (psN a v (i + 1)))] ++ itms 3 km.qs)) (by rw [← rwP_full, ← psM_full hiW, ← hxe]; exact Sub.rf) ?_
    refine T.sub (O' := (([rowI nb2 nc2 37 1 (vals (km.qs ++ [⟨some ⟨z7, 0, none⟩, letN a, rwN a v i W⟩])), rowI fb2 fc2 4 1 (bools (pdN a v (i + 1)).final)] ++ itms 3 (km.qs ++ [⟨some ⟨z7, 0, none⟩, letN a, rwN a v i W⟩])) ++ [oI z6 25 [(.int .i64 (pdN a v (i + 1)).vars), (.int .i64 (pdN a v (i + 1)).start), (.slice nb2 ((pdN a v (i + 1)).next.length) nc2), (.slice fb2 ((pdN a v (i + 1)).final.length) fc2)], oI z1 25 (dC a k), oI z2 25 [(.int .i64 0), (.int .i64 0), (.slice none 0 0), (.slice none 0 0)], setI 67 107 sb2 sc2 us2, mapI str (fun n : Nat => Value.int .i64 (n : Int)) mm5 (keyZ (psN a v (i + 1)))])) (by rw [hvq, hbq, hnl2, hfl2]; exact Sub.fold [rowI nb2 nc2 37 1 ((vals km.qs) ++ [(.slice (some ⟨z7, 0, none⟩) (letN a) (letN a))]), rowI fb2 fc2 4 1 ((bools (pdN a v i).final) ++ [.bool (((elN W).take j).any (finN a))])] (rowI (some ⟨z7, 0, none⟩) (letN a) 3 1 (ints (rwN a v i W))) [oI z6 25 [(.int .i64 (pdN a v i).vars), (.int .i64 (pdN a v i).start), (.slice nb2 (((pdN a v i).next.length) + 1) nc2), (.slice fb2 (((pdN a v i).final.length) + 1) fc2)], oI z1 25 (dC a k), oI z2 25 [(.int .i64 0), (.int .i64 0), (.slice none 0 0), (.slice none 0 0)], setI 67 107 sb2 sc2 us2, mapI str (fun n : Nat => Value.int .i64 (n : Int)) mm5 (keyZ (psN a v (i + 1)))] (itms 3 km.qs) _ (itms_snoc 3 km.qs ⟨some ⟨z7, 0, none⟩, letN a, rwN a v i W⟩)) ?_
    refine T.pack (φ := nums (km.qs ++ [⟨some ⟨z7, 0, none⟩, letN a, rwN a v i W⟩]) = (pdN a v (i + 1)).next) hnq ?_
    refine T.sub (O' := [dI 37 4 3 (pdN a v (i + 1)) z9, oI z6 25 (dC (pdN a v (i + 1)) z9), oI z1 25 (dC a k), oI z2 25 [(.int .i64 0), (.int .i64 0), (.slice none 0 0), (.slice none 0 0)], setI 67 107 sb2 sc2 us2, mapI str (fun n : Nat => Value.int .i64 (n : Int)) mm5 (keyZ (psN a v (i + 1)))]) (by subst hz9; exact Sub.rf) ?_
    refine T.sub (O' := [oI z1 25 (dC a k), oI z2 25 [(.int .i64 0), (.int .i64 0), (.slice none 0 0), (.slice none 0 0)], setI 67 107 sb2 sc2 us2, mapI str (fun n : Nat => Value.int .i64 (n : Int)) mm5 (keyZ (psN a v (i + 1))), oI z6 25 (dC (pdN a v (i + 1)) z9), dI 37 4 3 (pdN a v (i + 1)) z9]) (by exact Sub.pull [dI 37 4 3 (pdN a v (i + 1)) z9, oI z6 25 (dC (pdN a v (i + 1)) z9)] _ (.pull [dI 37 4 3 (pdN a v (i + 1)) z9, oI z6 25 (dC (pdN a v (i + 1)) z9)] _ (.pull [dI 37 4 3 (pdN a v (i + 1)) z9, oI z6 25 (dC (pdN a v (i + 1)) z9)] _ (.pull [dI 37 4 3 (pdN a v (i + 1)) z9, oI z6 25 (dC (pdN a v (i + 1)) z9)] _ (.pull [dI 37 4 3 (pdN a v (i + 1)) z9] _ (.k .z)))))) ?_
    refine T.rg ?_
    refine TO.qm rfl (TO.q (q_addN (a := i) (b := 1) rfl rfl (by omega)) (TO.qa rfl ?_))
    refine TO.nl ?_
    exact ⟨i + 1, by omega, sb2, sc2, us2, z9, rfl, by omega, hus3, by omega, ⟨rfl, rfl, rfl, rfl, rfl, rfl, rfl, rfl, rfl, rfl, trivial⟩⟩
  have hge57 : ¬ i < us.length := by omega
  refine T.exit ?_
  refine T.s ?_
  have hie : us.length = i := by omega
  obtain ⟨e1, e2⟩ := ex_end (d := a) (v := (v : Int)) (B := B) (i := i) hve hB1 hB2 (by show (psN a v i).length ≤ i; omega) (by omega) (by show ((psN a v i).length : Int) ≤ B; omega)
  have hpe9 : pdN a v i = exM a v (psN a v i) := pdN_end (by omega)
  obtain ⟨Tz, hT⟩ : ∃ T, T = pdN a v i := ⟨_, rfl⟩
  have hTv : Valid Tz := by
    refine ⟨?_, by rw [hT, pdN_nl]; omega⟩
    rw [hT, hpe9]; exact ex_val hv.toVal (exL_of hv.toVal hn hvv (by omega))
  have hTn : Tz.next.length = i := by rw [hT, pdN_nl]
  refine T.rg ?_
  refine TO.q (q_la 4 underlying25 rfl inf25 rfl rfl rfl) ?_
  have hk156 := fun (w1 : World) (hI : Inv w [oI z1 25 (dC a k), oI z2 25 [(.int .i64 0), (.int .i64 0), (.slice none 0 0), (.slice none 0 0)], setI 67 107 sb sc us, mapI str (fun n : Nat => Value.int .i64 (n : Int)) mm5 (keyZ (psN a v i)), oI z6 25 (dC (pdN a v i) km), dI 37 4 3 (pdN a v i) km] w1) => (haveI := tbz hI; minKE w1 (pdN a v i) km (hI.at (k := km) (mG 5 rfl)) (hT ▸ hTv) (by rw [pdN_nl]; omega) (M := xsV a (v : Int) B) (by rw [e2, hpe9]; rfl))
  refine TO.l rfl (l_call ent34 (CallT.op hk156) rfl ?_)
  clear hk156
  rintro vr O' ⟨N, rfl, k9, rfl, rfl⟩
  refine TO.q (q_extract (vs := _) rfl rfl) (TO.q (q_extract (vs := _) rfl rfl) ?_)
  refine TO.l rfl (l_sb (v := (dV (xsV a (v : Int) B) k9)) (vs := (dC (xsV a (v : Int) B) k9)) 2 inf25 rfl rfl rfl rfl rfl rfl (by simp [putL]) ?_)
  refine TO.qa rfl ?_
  refine TO.nl (T.ret (Res.drop ?_))
  refine Res.cell1b (.int .i64 0) (i := 2) Tryz.results16 underlying25 rfl inf25 rfl rfl rfl rfl ?_
  rw [e1]
  exact ⟨[dI 37 4 3 (xsV a (v : Int) B) k9], (by exact Sub.k .z), k9, rfl, rfl⟩
theorem exC (w : World) [Tab Tryz.prog w] (a : DFA) (k : DK) (ha : At w a k) (v B : Int) (haa : a.next.length < 9223372036854775807) (haar : ∀ r ∈ a.next, r.length < 9223372036854775807) (haaf : a.final.length < 9223372036854775807) (hn : vE a v = 0 → a.next.length ≤ 64) :
    PureT Tryz.prog 16 [dV a k, .int .i64 v, .int .i64 B] w fun r N => ∃ k9 : DK, r = .tuple #[dV (xsV a v B) k9, .int .i64 (xsE a v B : Int)] ∧ N = [dI 37 4 3 (xsV a v B) k9] := by
  by_cases he : vE a v = 0
  · by_cases hB : B < 1 ∨ 4096 < B
    · have e1 := xsE_arg (B := B) he hB
      have e2 : xsV a v B = noD := xsV_bad (by omega)
      rw [e1, e2]
      by_cases h1 : B < 1
      · refine (CallT.nilD 37 4 3 (exLo w a k ha haa haar haaf v B he h1)).mono ?_
        rintro v9 N ⟨O2, rfl, rfl, rfl⟩
        exact ⟨k00, rfl, rfl⟩
      · refine (CallT.nilD 37 4 3 (exHi w a k ha haa haar haaf v B he (by omega))).mono ?_
        rintro v9 N ⟨O2, rfl, rfl, rfl⟩
        exact ⟨k00, rfl, rfl⟩
    · obtain ⟨hv, h0, h1⟩ := vE_zero.1 he
      obtain ⟨n, rfl⟩ : ∃ n : Nat, v = n := ⟨v.toNat, by omega⟩
      exact exOk w a k ha hv (hn he) n h1 B (by omega) (by omega)
  · have e1 : xsE a v B = vE a v := xsE_bad he
    have e2 : xsV a v B = noD := xsV_bad (by omega)
    rw [e1, e2]
    refine (CallT.nilD 37 4 3 (exBad w a k ha haa haar haaf v B he)).mono ?_
    rintro v9 N ⟨O2, rfl, rfl, rfl⟩
    exact ⟨k00, rfl, rfl⟩
end Go.Proofs.YtohkmggbfcnapaaGreatDoor


namespace Go.Proofs.YtohkmggbfcnapaaGreatDoor
open Go.Lx Go.RowKit _root_.Go.Proofs.Tryz
theorem notM (w : World) [Tab Tryz.prog w] (a : DFA) (k : DK) (ha : At w a k) (haa : a.next.length < 9223372036854775807) (haar : ∀ r ∈ a.next, r.length < 9223372036854775807) (haaf : a.final.length < 9223372036854775807) :
    PureT Tryz.prog 31 [dV a k] w fun v N => ∃ k' : DK, v = .tuple #[dV (minV (flipD a)) k', .int .i64 (checkD a : Int)] ∧ N = [dI 37 4 3 (minV (flipD a)) k'] := by
  have h := notC w a k ha haa haar haaf
  rwa [notV_eq] at h
theorem notMK (w : World) [Tab Tryz.prog w] (a : DFA) (k : DK) (ha : At w a k) (hv : Valid a) {M : DFA} (hM : minD (flipD a) = M) :
    PureT Tryz.prog 31 [dV a k] w fun v N => ∃ k' : DK, v = .tuple #[dV M k', .int .i64 0] ∧ N = [dI 37 4 3 M k'] := by
  have h := notM w a k ha (by have := hv.n4; omega) hv.bound (by have := hv.fin; have := hv.n4; omega)
  rw [minV_valid (flip_valid hv), hM, checkD_zero.2 hv] at h
  exact h
theorem alBad (w : World) [Tab Tryz.prog w] (a : DFA) (k : DK) (ha : At w a k) (haa : a.next.length < 9223372036854775807) (haar : ∀ r ∈ a.next, r.length < 9223372036854775807) (haaf : a.final.length < 9223372036854775807) (v B : Int) (he : checkD a ≠ 0) :
    PureT Tryz.prog 17 [dV a k, .int .i64 v, .int .i64 B] w fun v9 N => v9 = .tuple #[dV noD ⟨none, 0, none, 0, []⟩, .int .i64 (checkD a : Int)] ∧ N = [] := by
  refine CallT.enter func17 rfl ntmps17 rfl ?_
  refine T.s (T.rg ?_)
  refine TO.l rfl (l_box (v := (dV a k)) (cs := (dC a k)) rfl rfl (fun bx1 => ?_))
  refine TO.l rfl (l_alloc inf25 rfl (fun bx2 => ?_))
  refine TO.qa rfl ?_
  refine TO.nl (T.s (T.rg ?_))
  refine TO.q (q_la 1 underlying25 rfl inf25 rfl rfl rfl) ?_
  have hk13 := fun (w1 : World) (hI : Inv w [oI bx2 25 [(.int .i64 0), (.int .i64 0), (.slice none 0 0), (.slice none 0 0)], oI bx1 25 (dC a k)] w1) => (haveI := tbz hI; notM w1 a k (hI.atB ha) haa haar haaf)
  refine TO.l rfl (l_call ent31 (CallT.op hk13) rfl ?_)
  clear hk13
  rintro vr O' ⟨N, rfl, k1, rfl, rfl⟩
  refine TO.qm rfl (TO.q (q_extract (vs := _) rfl rfl) (TO.q (q_extract (vs := _) rfl rfl) ?_))
  refine TO.l rfl (l_alloc inf25 rfl (fun bx3 => ?_))
  refine TO.l rfl (l_sb (v := (dV (minV (flipD a)) k1)) (vs := (dC (minV (flipD a)) k1)) 0 inf25 rfl rfl rfl rfl rfl rfl (by simp [putL]) ?_)
  refine TO.qa rfl ?_
  refine TO.nl ?_
  refine T.reset [oI bx3 25 (dC (minV (flipD a)) k1), dI 37 4 3 (minV (flipD a)) k1, oI bx2 25 [(.int .i64 0), (.int .i64 0), (.slice none 0 0), (.slice none 0 0)], oI bx1 25 (dC a k)] [(0, (dV a k)), (1, .int .i64 v), (2, .int .i64 B), (3, (.pointer (some ⟨bx1, 0, none⟩))), (6, (.pointer (some ⟨bx2, 0, none⟩))), (7, .int .i64 0), (8, (.pointer (some ⟨bx3, 0, none⟩))), (9, .int .i64 (checkD a : Int))] rfl ⟨rfl, rfl, rfl, rfl, rfl, rfl, rfl, rfl, trivial⟩ (fun ρ0 => ?_)
  refine T.s (T.s (T.rg ?_))
  refine TO.qm rfl (TO.q (QT.toB (q_neq rfl rfl) (decide_eq_true (by omega))) ?_)
  refine TO.nl ?_
  refine T.cond1 rfl ?_
  refine T.s (T.rg ?_)
  refine TO.q (q_build plan25 inf25 rfl) (TO.qm rfl ?_)
  refine TO.l rfl (l_sb (v := (.agg #[(.int .i64 0), (.int .i64 0), (.slice none 0 0), (.slice none 0 0)])) (vs := [(.int .i64 0), (.int .i64 0), (.slice none 0 0), (.slice none 0 0)]) 2 inf25 rfl rfl rfl rfl rfl rfl (by simp [putL]) ?_)
  refine TO.qa rfl ?_
  refine TO.nl (T.ret (Res.drop ?_))
  refine Res.cell1b (.int .i64 (checkD a : Int)) (i := 2) Tryz.results17 underlying25 rfl inf25 rfl rfl rfl rfl ?_
  exact ⟨[], Sub.z, rfl, rfl⟩
theorem alOk (w : World) [Tab Tryz.prog w] (a : DFA) (k : DK) (ha : At w a k) (hv : Valid a) (hn : a.next.length ≤ 64) (v B : Int) :
    PureT Tryz.prog 17 [dV a k, .int .i64 v, .int .i64 B] w fun r N => ∃ k9 : DK, r = .tuple #[dV (alV a v B) k9, .int .i64 (alE a v B : Int)] ∧ N = [dI 37 4 3 (alV a v B) k9] := by
  refine CallT.enter func17 rfl ntmps17 rfl ?_
  obtain ⟨N1, hN1⟩ : ∃ m, minD (flipD a) = m := ⟨_, rfl⟩
  have hNv : Valid N1 := hN1 ▸ minD_valid (flip_valid hv)
  have hNn : N1.next.length ≤ 64 := by rw [← hN1]; exact Nat.le_trans (minD_len (flip_val hv.toVal)) hn
  have e1 : alE a v B = xsE N1 v B := by rw [← hN1]; exact alE_val hv
  obtain ⟨X, hX⟩ : ∃ m, xsV N1 v B = m := ⟨_, rfl⟩
  obtain ⟨e, hE⟩ : ∃ m, xsE N1 v B = m := ⟨_, rfl⟩
  refine T.s (T.rg ?_)
  refine TO.l rfl (l_box (v := (dV a k)) (cs := (dC a k)) rfl rfl (fun z1 => ?_))
  refine TO.l rfl (l_alloc inf25 rfl (fun z2 => ?_))
  refine TO.qa rfl ?_
  refine TO.nl (T.s (T.rg ?_))
  refine TO.q (q_la 1 underlying25 rfl inf25 rfl rfl rfl) ?_
  have hk13 := fun (w1 : World) (hI : Inv w [oI z2 25 [(.int .i64 0), (.int .i64 0), (.slice none 0 0), (.slice none 0 0)], oI z1 25 (dC a k)] w1) => (haveI := tbz hI; notMK w1 a k (hI.atB ha) hv hN1)
  refine TO.l rfl (l_call ent31 (CallT.op hk13) rfl ?_)
  clear hk13
  rintro vr O' ⟨N, rfl, k1, rfl, rfl⟩
  refine TO.qm rfl (TO.q (q_extract (vs := _) rfl rfl) (TO.q (q_extract (vs := _) rfl rfl) ?_))
  refine TO.l rfl (l_alloc inf25 rfl (fun z3 => ?_))
  refine TO.l rfl (l_sb (v := (dV N1 k1)) (vs := (dC N1 k1)) 0 inf25 rfl rfl rfl rfl rfl rfl (by simp [putL]) ?_)
  refine TO.qa rfl ?_
  refine TO.nl ?_
  refine T.reset [oI z3 25 (dC N1 k1), dI 37 4 3 N1 k1, oI z2 25 [(.int .i64 0), (.int .i64 0), (.slice none 0 0), (.slice none 0 0)], oI z1 25 (dC a k)] [(0, (dV a k)), (1, .int .i64 v), (2, .int .i64 B), (3, (.pointer (some ⟨z1, 0, none⟩))), (6, (.pointer (some ⟨z2, 0, none⟩))), (7, .int .i64 0), (8, (.pointer (some ⟨z3, 0, none⟩))), (9, .int .i64 0)] rfl ⟨rfl, rfl, rfl, rfl, rfl, rfl, rfl, rfl, trivial⟩ (fun ρ0 => ?_)
  refine T.s (T.s (T.rg ?_))
  refine TO.qm rfl (TO.q (QT.toB (q_neq rfl rfl) (decide_eq_false (fun h => h rfl))) ?_)
  refine TO.nl ?_
  refine T.cond0 rfl ?_
  refine T.skip (T.s (T.rg ?_))
  refine TO.q (q_la 0 underlying25 rfl inf25 rfl rfl rfl) (TO.qm rfl (TO.qm rfl ?_))
  have hk24 := fun (w1 : World) (hI : Inv w [oI z3 25 (dC N1 k1), dI 37 4 3 N1 k1, oI z2 25 [(.int .i64 0), (.int .i64 0), (.slice none 0 0), (.slice none 0 0)], oI z1 25 (dC a k)] w1) => (haveI := tbz hI; (show PureT _ _ _ _ _ from by
      have h9 := exC w1 N1 k1 (hI.at (k := k1) (mG 1 rfl)) v B (by have := hNv.n4; omega) hNv.bound (by have := hNv.fin; have := hNv.n4; omega) (fun _ => hNn)
      rw [hX, hE] at h9
      exact h9))
  refine TO.l rfl (l_call ent16 (CallT.op hk24) rfl ?_)
  clear hk24
  rintro vr O' ⟨N, rfl, k2, rfl, rfl⟩
  refine TO.qm rfl (TO.q (q_extract (vs := _) rfl rfl) (TO.q (q_extract (vs := _) rfl rfl) ?_))
  refine TO.l rfl (l_alloc inf25 rfl (fun z4 => ?_))
  refine TO.l rfl (l_sb (v := (dV X k2)) (vs := (dC X k2)) 0 inf25 rfl rfl rfl rfl rfl rfl (by simp [putL]) ?_)
  refine TO.qa rfl ?_
  refine TO.nl (T.s (T.s (T.rg ?_)))
  refine TO.qm rfl (TO.q (q_neq rfl rfl) ?_)
  refine TO.nl ?_
  refine T.condP rfl (fun hc => ?_) (fun hc => ?_)
  · have hlt28 : e ≠ 0 := by omega
    have he0 : e ≠ 0 := by omega
    refine T.s ?_
    refine T.nilD 37 4 3 ?_
    refine T.rg ?_
    refine TO.q (q_build plan25 inf25 rfl) (TO.qm rfl ?_)
    refine TO.l rfl (l_sb (v := (.agg #[(.int .i64 0), (.int .i64 0), (.slice none 0 0), (.slice none 0 0)])) (vs := [(.int .i64 0), (.int .i64 0), (.slice none 0 0), (.slice none 0 0)]) 5 inf25 rfl rfl rfl rfl rfl rfl (by simp [putL]) ?_)
    refine TO.qa rfl ?_
    refine TO.nl (T.ret (Res.drop ?_))
    refine Res.cell1b (.int .i64 (e : Int)) (i := 5) Tryz.results17 underlying25 rfl inf25 rfl rfl rfl rfl ?_
    rw [show alV a v B = noD from if_neg (by omega), e1, hE]
    exact ⟨[dI 37 4 3 noD k00], (by exact Sub.k .z), k00, rfl, rfl⟩
  have hge28 : ¬ e ≠ 0 := by omega
  have he0 : e = 0 := by omega
  have hXv := (xsV_valid hNn (v := v) (B := B) (by omega)).1
  rw [hX] at hXv
  obtain ⟨Y, hY⟩ : ∃ m, minD (flipD X) = m := ⟨_, rfl⟩
  refine T.skip (T.s (T.rg ?_))
  refine TO.q (q_la 0 underlying25 rfl inf25 rfl rfl rfl) ?_
  have hk32 := fun (w1 : World) (hI : Inv w [oI z4 25 (dC X k2), dI 37 4 3 X k2, oI z3 25 (dC N1 k1), dI 37 4 3 N1 k1, oI z2 25 [(.int .i64 0), (.int .i64 0), (.slice none 0 0), (.slice none 0 0)], oI z1 25 (dC a k)] w1) => (haveI := tbz hI; notMK w1 X k2 (hI.at (k := k2) (mG 1 rfl)) hXv hY)
  refine TO.l rfl (l_call ent31 (CallT.op hk32) rfl ?_)
  clear hk32
  rintro vr O' ⟨N, rfl, k3, rfl, rfl⟩
  refine TO.q (q_extract (vs := _) rfl rfl) (TO.q (q_extract (vs := _) rfl rfl) ?_)
  refine TO.l rfl (l_sb (v := (dV Y k3)) (vs := (dC Y k3)) 5 inf25 rfl rfl rfl rfl rfl rfl (by simp [putL]) ?_)
  refine TO.qa rfl ?_
  refine TO.nl (T.ret (Res.drop ?_))
  refine Res.cell1b (.int .i64 0) (i := 5) Tryz.results17 underlying25 rfl inf25 rfl rfl rfl rfl ?_
  rw [show alV a v B = Y by unfold alV; rw [if_pos (by omega), hN1, hX, hY], e1, hE, he0]
  exact ⟨[dI 37 4 3 Y k3], (by exact Sub.k .z), k3, rfl, rfl⟩
theorem alC (w : World) [Tab Tryz.prog w] (a : DFA) (k : DK) (ha : At w a k) (v B : Int) (haa : a.next.length < 9223372036854775807) (haar : ∀ r ∈ a.next, r.length < 9223372036854775807) (haaf : a.final.length < 9223372036854775807) (hn : Valid a → a.next.length ≤ 64) :
    PureT Tryz.prog 17 [dV a k, .int .i64 v, .int .i64 B] w fun r N => ∃ k9 : DK, r = .tuple #[dV (alV a v B) k9, .int .i64 (alE a v B : Int)] ∧ N = [dI 37 4 3 (alV a v B) k9] := by
  by_cases he : checkD a = 0
  · have hv := checkD_zero.1 he
    exact alOk w a k ha hv (hn hv) v B
  · obtain ⟨e1, e2⟩ := alE_bad (v := v) (B := B) he
    rw [e1, e2]
    refine (CallT.nilD 37 4 3 (alBad w a k ha haa haar haaf v B he)).mono ?_
    rintro v9 N ⟨O2, rfl, rfl, rfl⟩
    exact ⟨k00, rfl, rfl⟩
theorem drBad (w : World) [Tab Tryz.prog w] (a : DFA) (k : DK) (ha : At w a k) (haa : a.next.length < 9223372036854775807) (haar : ∀ r ∈ a.next, r.length < 9223372036854775807) (haaf : a.final.length < 9223372036854775807) (v : Int) (he : vE a v ≠ 0) :
    PureT Tryz.prog 26 [dV a k, .int .i64 v] w fun v9 N => v9 = .tuple #[dV noD ⟨none, 0, none, 0, []⟩, .int .i64 (vE a v : Int)] ∧ N = [] := by
  refine CallT.enter func26 rfl ntmps26 rfl ?_
  refine T.s (T.rg ?_)
  refine TO.l rfl (l_box (v := (dV a k)) (cs := (dC a k)) rfl rfl (fun bx1 => ?_))
  refine TO.l rfl (l_alloc inf25 rfl (fun bx2 => ?_))
  refine TO.qa rfl ?_
  refine TO.nl (T.s (T.rg ?_))
  refine TO.q (q_la 1 underlying25 rfl inf25 rfl rfl rfl) (TO.qm rfl ?_)
  have hk12 := fun (w1 : World) (hI : Inv w [oI bx2 25 [(.int .i64 0), (.int .i64 0), (.slice none 0 0), (.slice none 0 0)], oI bx1 25 (dC a k)] w1) => (haveI := tbz hI; ignC w1 a k (hI.atB ha) haa haar haaf v)
  refine TO.l rfl (l_call ent18 (CallT.op hk12) rfl ?_)
  clear hk12
  rintro vr O' ⟨N, rfl, rfl, rfl⟩
  refine TO.qm rfl (TO.q (q_extract (vs := _) rfl rfl) (TO.q (q_extract (vs := _) rfl rfl) (TO.qa rfl ?_)))
  refine TO.qa rfl ?_
  refine TO.nl ?_
  refine T.reset [oI bx2 25 [(.int .i64 0), (.int .i64 0), (.slice none 0 0), (.slice none 0 0)], oI bx1 25 (dC a k)] [(0, (dV a k)), (1, .int .i64 v), (2, (.pointer (some ⟨bx1, 0, none⟩))), (4, (.pointer (some ⟨bx2, 0, none⟩))), (5, .int .i64 0), (6, .bool (igV a v)), (7, .int .i64 (vE a v : Int))] rfl ⟨rfl, rfl, rfl, rfl, rfl, rfl, rfl, trivial⟩ (fun ρ0 => ?_)
  refine T.s (T.block (T.s (T.rg ?_)))
  refine TO.qm rfl (TO.q (QT.toB (q_neq rfl rfl) (decide_eq_true (by omega))) (TO.qa rfl ?_))
  refine TO.nl ?_
  refine T.cond1 rfl ?_
  refine T.s (T.rg ?_)
  refine TO.q (q_build plan25 inf25 rfl) (TO.qm rfl ?_)
  refine TO.l rfl (l_sb (v := (.agg #[(.int .i64 0), (.int .i64 0), (.slice none 0 0), (.slice none 0 0)])) (vs := [(.int .i64 0), (.int .i64 0), (.slice none 0 0), (.slice none 0 0)]) 0 inf25 rfl rfl rfl rfl rfl rfl (by simp [putL]) ?_)
  refine TO.qa rfl ?_
  refine TO.nl (T.ret (Res.drop ?_))
  refine Res.cell1b (.int .i64 (vE a v : Int)) (i := 0) Tryz.results26 underlying25 rfl inf25 rfl rfl rfl rfl ?_
  exact ⟨[], Sub.z, rfl, rfl⟩
theorem drNo (w : World) [Tab Tryz.prog w] (a : DFA) (k : DK) (ha : At w a k) (haa : a.next.length < 9223372036854775807) (haar : ∀ r ∈ a.next, r.length < 9223372036854775807) (haaf : a.final.length < 9223372036854775807) (v : Int) (he : vE a v = 0) (hi : igV a v = false) :
    PureT Tryz.prog 26 [dV a k, .int .i64 v] w fun v9 N => v9 = .tuple #[dV noD ⟨none, 0, none, 0, []⟩, .int .i64 7] ∧ N = [] := by
  refine CallT.enter func26 rfl ntmps26 rfl ?_
  refine T.s (T.rg ?_)
  refine TO.l rfl (l_box (v := (dV a k)) (cs := (dC a k)) rfl rfl (fun bx1 => ?_))
  refine TO.l rfl (l_alloc inf25 rfl (fun bx2 => ?_))
  refine TO.qa rfl ?_
  refine TO.nl (T.s (T.rg ?_))
  refine TO.q (q_la 1 underlying25 rfl inf25 rfl rfl rfl) (TO.qm rfl ?_)
  have hk12 := fun (w1 : World) (hI : Inv w [oI bx2 25 [(.int .i64 0), (.int .i64 0), (.slice none 0 0), (.slice none 0 0)], oI bx1 25 (dC a k)] w1) => (haveI := tbz hI; (show PureT _ _ _ _ _ from by
      have h9 := ignC w1 a k (hI.atB ha) haa haar haaf v
      rw [hi, he] at h9
      exact h9))
  refine TO.l rfl (l_call ent18 (CallT.op hk12) rfl ?_)
  clear hk12
  rintro vr O' ⟨N, rfl, rfl, rfl⟩
  refine TO.qm rfl (TO.q (q_extract (vs := _) rfl rfl) (TO.q (q_extract (vs := _) rfl rfl) (TO.qa rfl ?_)))
  refine TO.qa rfl ?_
  refine TO.nl ?_
  refine T.reset [oI bx2 25 [(.int .i64 0), (.int .i64 0), (.slice none 0 0), (.slice none 0 0)], oI bx1 25 (dC a k)] [(0, (dV a k)), (1, .int .i64 v), (2, (.pointer (some ⟨bx1, 0, none⟩))), (4, (.pointer (some ⟨bx2, 0, none⟩))), (5, .int .i64 0), (6, .bool false), (7, .int .i64 0)] rfl ⟨rfl, rfl, rfl, rfl, rfl, rfl, rfl, trivial⟩ (fun ρ0 => ?_)
  refine T.s (T.block (T.s (T.rg ?_)))
  refine TO.qm rfl (TO.q (QT.toB (q_neq rfl rfl) (decide_eq_false (fun h => h rfl))) (TO.qa rfl ?_))
  refine TO.nl ?_
  refine T.cond0 rfl ?_
  refine T.s (T.rg ?_)
  refine TO.qm rfl (TO.q (q_not rfl) (TO.qa rfl ?_))
  refine TO.nl ?_
  refine T.cond1 rfl ?_
  refine T.s (T.rg ?_)
  refine TO.q (q_build plan25 inf25 rfl) ?_
  refine TO.l rfl (l_sb (v := (.agg #[(.int .i64 0), (.int .i64 0), (.slice none 0 0), (.slice none 0 0)])) (vs := [(.int .i64 0), (.int .i64 0), (.slice none 0 0), (.slice none 0 0)]) 0 inf25 rfl rfl rfl rfl rfl rfl (by simp [putL]) ?_)
  refine TO.qa rfl ?_
  refine TO.nl (T.ret (Res.drop ?_))
  refine Res.cell1b (.int .i64 7) (i := 0) Tryz.results26 underlying25 rfl inf25 rfl rfl rfl rfl ?_
  exact ⟨[], Sub.z, rfl, rfl⟩
theorem drOk (w : World) [Tab Tryz.prog w] (a : DFA) (k : DK) (ha : At w a k) (hv : Valid a) (v : Nat) (hva : (v : Int) < a.vars) (hi : igV a v = true) {M : DFA} (hM : ∀ m : Nat, a.vars = ((m + 1 : Nat) : Int) → minD (reD a ((m : Nat) : Int) (drp v)) = M) :
    PureT Tryz.prog 26 [dV a k, .int .i64 ((v : Nat) : Int)] w fun v9 N => ∃ k9 : DK, v9 = .tuple #[dV M k9, .int .i64 0] ∧ N = [dI 37 4 3 M k9] := by
  refine CallT.enter func26 rfl ntmps26 rfl ?_
  have he := checkD_zero.2 hv
  have h4 := hv.n4
  have hww : letN a ≤ 64 := hv.width
  have hfin := hv.fin
  have hvl := ha.rows.1
  have hsl := start_lt hv.toVal
  have hs0 := hv.s0
  have hs1 := hv.s1
  have hv6 := hv.v6
  have hve : vE a v = 0 := vE_zero.2 ⟨hv, by omega, hva⟩
  obtain ⟨m, hm⟩ : ∃ m : Nat, a.vars = ((m + 1 : Nat) : Int) := ⟨a.vars.toNat - 1, by omega⟩
  have hmn : a.vars.toNat = m + 1 := by omega
  have hl : letN a = 2 ^ (m + 1) := by unfold letN; rw [hmn]
  have hm32 : 2 ^ m ≤ 2 ^ 5 := Nat.pow_le_pow_right (by decide) (by omega)
  have hp : 2 ^ v ≤ 2 ^ 5 := Nat.pow_le_pow_right (by decide) (by omega)
  have hp0 : 0 < 2 ^ v := Nat.pow_pos (by decide)
  refine T.s (T.rg ?_)
  refine TO.l rfl (l_box (v := (dV a k)) (cs := (dC a k)) rfl rfl (fun z1 => ?_))
  refine TO.l rfl (l_alloc inf25 rfl (fun z2 => ?_))
  refine TO.qa rfl ?_
  refine TO.nl (T.s (T.rg ?_))
  refine TO.q (q_la 1 underlying25 rfl inf25 rfl rfl rfl) (TO.qm rfl ?_)
  have hk12 := fun (w1 : World) (hI : Inv w [oI z2 25 [(.int .i64 0), (.int .i64 0), (.slice none 0 0), (.slice none 0 0)], oI z1 25 (dC a k)] w1) => (haveI := tbz hI; (show PureT _ _ _ _ _ from by
      have h9 := ignC w1 a k (hI.atB ha) (by omega) hv.bound (by omega) (v : Int)
      rw [hi, hve] at h9
      exact h9))
  refine TO.l rfl (l_call ent18 (CallT.op hk12) rfl ?_)
  clear hk12
  rintro vr O' ⟨N, rfl, rfl, rfl⟩
  refine TO.qm rfl (TO.q (q_extract (vs := _) rfl rfl) (TO.q (q_extract (vs := _) rfl rfl) (TO.qa rfl ?_)))
  refine TO.qa rfl ?_
  refine TO.nl ?_
  refine T.reset [oI z2 25 [(.int .i64 0), (.int .i64 0), (.slice none 0 0), (.slice none 0 0)], oI z1 25 (dC a k)] [(0, (dV a k)), (1, .int .i64 ((v : Nat) : Int)), (2, (.pointer (some ⟨z1, 0, none⟩))), (4, (.pointer (some ⟨z2, 0, none⟩))), (5, .int .i64 0), (6, .bool true), (7, .int .i64 0)] rfl ⟨rfl, rfl, rfl, rfl, rfl, rfl, rfl, trivial⟩ (fun ρ0 => ?_)
  refine T.s (T.block (T.s (T.rg ?_)))
  refine TO.qm rfl (TO.q (QT.toB (q_neq rfl rfl) (decide_eq_false (fun h => h rfl))) (TO.qa rfl ?_))
  refine TO.nl ?_
  refine T.cond0 rfl ?_
  refine T.s (T.rg ?_)
  refine TO.qm rfl (TO.q (q_not rfl) (TO.qa rfl ?_))
  refine TO.nl ?_
  refine T.cond0 rfl ?_
  refine T.skip (T.s (T.rg ?_))
  refine TO.qm rfl (TO.q (QT.cast (q_shlU (a := 1) (b := v) .u8 rfl rfl (by simp only [IntKind.bits]; omega) (by simp only [IntKind.bits]; omega)) (v' := .int .u8 ((2 ^ v : Nat) : Int)) (by rw [Nat.one_mul])) (TO.q (q_subU (a := 2 ^ v) (b := 1) .u8 rfl rfl (by simp only [IntKind.bits]; omega) (by omega)) ?_))
  refine TO.l rfl (l_alloc inf5 rfl (fun z3 => ?_))
  refine TO.l rfl (l_sb (v := .int .u8 ((2 ^ v - 1 : Nat) : Int)) (vs := [(.int .u8 ((2 ^ v - 1 : Nat) : Int))]) 0 inf5 rfl rfl rfl rfl rfl rfl (by simp [putL]) ?_)
  refine TO.nl (T.s (T.rg ?_))
  refine TO.q (q_la 2 underlying25 rfl inf25 rfl rfl rfl) (TO.q (q_fa underlying25 rfl inf3 rfl rfl) (TO.q (q_lb 2 underlying3 rfl rfl rfl rfl) (TO.q (QT.cast (q_sub64 rfl rfl (by omega)) (v' := .int .i64 ((m : Nat) : Int)) (congrArg (Value.int .i64) (by omega))) ?_)))
  refine TO.q (q_makeFunc) ?_
  have hk32 := CallT.under (A := [oI z3 5 [(.int .u8 ((2 ^ v - 1 : Nat) : Int))]]) (B := [oI z2 25 [(.int .i64 0), (.int .i64 0), (.slice none 0 0), (.slice none 0 0)], oI z1 25 (dC a k)]) (O := [oI z3 5 [(.int .u8 ((2 ^ v - 1 : Nat) : Int))], oI z2 25 [(.int .i64 0), (.int .i64 0), (.slice none 0 0), (.slice none 0 0)], oI z1 25 (dC a k)]) (rebF w a k ha hv m (by omega) _ rfl (drp v) (fun x hx => by rw [hl]; exact drp_lt m (by omega) v (by omega) x hx) (.func (.func 63) #[] #[(.pointer (some ⟨z3, 0, none⟩))]) [oI z3 5 [(.int .u8 ((2 ^ v - 1 : Nat) : Int))]] (fun x hx => CallV.of_fn (first := []) (args := [.int .u8 ((x : Nat) : Int)]) (caps := [(.pointer (some ⟨z3, 0, none⟩))]) ent63 (dropF w z3 v x (by omega) (by omega))) (hM m hm)) (by exact Sub.rf)
  refine TO.l rfl (l_call ent62 hk32 rfl ?_)
  clear hk32
  rintro vr O' ⟨A1, rfl, k9, rfl, rfl⟩
  refine TO.q (q_extract (vs := _) rfl rfl) (TO.q (q_extract (vs := _) rfl rfl) ?_)
  refine TO.l rfl (l_sb (v := (dV M k9)) (vs := (dC M k9)) 1 inf25 rfl rfl rfl rfl rfl rfl (by simp [putL]) ?_)
  refine TO.qa rfl ?_
  refine TO.nl (T.ret (Res.drop ?_))
  refine Res.cell1b (.int .i64 0) (i := 1) Tryz.results26 underlying25 rfl inf25 rfl rfl rfl rfl ?_
  exact ⟨[dI 37 4 3 M k9], (by exact Sub.k .z), k9, rfl, rfl⟩
theorem drC (w : World) [Tab Tryz.prog w] (a : DFA) (k : DK) (ha : At w a k) (haa : a.next.length < 9223372036854775807) (haar : ∀ r ∈ a.next, r.length < 9223372036854775807) (haaf : a.final.length < 9223372036854775807) (v : Int) :
    PureT Tryz.prog 26 [dV a k, .int .i64 v] w fun v9 N => ∃ k9 : DK, v9 = .tuple #[dV (drV a v) k9, .int .i64 (drE a v : Int)] ∧ N = [dI 37 4 3 (drV a v) k9] := by
  by_cases he : vE a v = 0
  · cases hi : igV a v with
    | false =>
      obtain ⟨e1, e2⟩ := drE_no he hi
      rw [e1, e2]
      refine (CallT.nilD 37 4 3 (drNo w a k ha haa haar haaf v he hi)).mono ?_
      rintro v9 N ⟨O2, rfl, rfl, rfl⟩
      exact ⟨k00, rfl, rfl⟩
    | true =>
      obtain ⟨e1, e2⟩ := drE_ok he hi
      rw [e1, e2]
      obtain ⟨hv, h0, h1⟩ := vE_zero.1 he
      obtain ⟨n, rfl⟩ : ∃ n : Nat, v = n := ⟨v.toNat, by omega⟩
      exact drOk w a k ha hv n h1 hi (fun m hm => by rw [hm, show ((m + 1 : Nat) : Int) - 1 = (m : Int) by omega]; rfl)
  · obtain ⟨e1, e2⟩ := drE_bad he
    rw [e1, e2]
    refine (CallT.nilD 37 4 3 (drBad w a k ha haa haar haaf v he)).mono ?_
    rintro v9 N ⟨O2, rfl, rfl, rfl⟩
    exact ⟨k00, rfl, rfl⟩
end Go.Proofs.YtohkmggbfcnapaaGreatDoor


namespace Go.Lx
open Go.RowKit Go.Sort
theorem putCells_size {α : Type} [Inhabited α] (enc : α → Value) (off : Nat) (d : Array α) (c : Array Value) : (putCells enc off d c).size = c.size := by simp [putCells]
theorem putCells_at {α : Type} [Inhabited α] (enc : α → Value) (off : Nat) (d : Array α) (c : Array Value) {i : Nat} (hi : i < d.size) (hc : off + i < c.size) : (putCells enc off d c)[off + i]? = some (enc d[i]!) := by
  simp only [putCells, Array.getElem?_mapIdx, Array.getElem?_eq_getElem hc, Option.map_some]
  rw [if_pos ⟨by omega, by omega⟩, show off + i - off = i by omega]
theorem Inv.sorted {base w : World} {O : List Item} {i blk off cap : Nat} {T : TypeId} {zs ys : List Int} (hI : Inv base O w) (hO : O[i]? = some (rowI (some ⟨blk, off, none⟩) cap T 1 (ints zs))) (hl : ys.length = zs.length) (n : Nat) (os : Array Obj) :
    Inv base (O.set i (rowI (some ⟨blk, off, none⟩) cap T 1 (ints ys))) (Go.Sort.grow (putRow (Value.int .i64) (Sort.ahead w n) blk off ys.toArray) os) := by
  obtain ⟨_, full, hb, hcl, hfu, hat⟩ := hI.row hO
  have hlt : blk < w.heap.size := (Array.getElem?_eq_some_iff.1 hb).1
  have hheap : (Go.Sort.grow (putRow (Value.int .i64) (Sort.ahead w n) blk off ys.toArray) os).heap = (w.heap.modify blk (onCells (putCells (Value.int .i64) off ys.toArray))) ++ os := rfl
  refine hI.stepAt hO rfl rfl rfl ?_ (fun b hlb hk => ?_) ⟨rfl, putCells (Value.int .i64) off ys.toArray full, ?_, ?_, ?_, fun j hj => ?_⟩ (fun k hk => .inl hk) (by simp [rowI])
  · rw [hheap]; simp
  · rw [hheap, Array.getElem?_append_left (by simpa using hlb), Array.getElem?_modify, if_neg (fun e => hk (by simp [rowI, e]))]
  · rw [hheap, Array.getElem?_append_left (by simpa using hlt), Array.getElem?_modify, if_pos rfl, hb]; rfl
  · simp only [List.length_map] at hcl ⊢; omega
  · rw [putCells_size]; exact hfu
  · have hj2 : j < ys.length := by simpa using hj
    have hcl2 : zs.length ≤ cap * 1 := by simpa using hcl
    have hfu2 : off + cap * 1 ≤ full.size := hfu
    show (putCells (Value.int .i64) off ys.toArray full)[off + j]? = _
    rw [putCells_at _ _ _ _ (by simpa using hj2) (by omega)]
    simp [hj2]
theorem row_holds {base w : World} {O : List Item} {i blk off cap : Nat} {T : TypeId} {zs : List Int} (hI : Inv base O w) (hO : O[i]? = some (rowI (some ⟨blk, off, none⟩) cap T 1 (ints zs))) : Holds (Value.int .i64) w blk off zs.toArray ∧ blk < w.heap.size := by
  obtain ⟨_, full, hb, hcl, hfu, hat⟩ := hI.row hO
  refine ⟨fun j hj => ?_, (Array.getElem?_eq_some_iff.1 hb).1⟩
  have hj2 : j < zs.length := by simpa using hj
  have h9 := hat j (by simpa using hj2)
  constructor
  · simp only [World.cell?, hb]
    simp at h9
    simp [h9, hj2]
  · simp [World.frozen?, hb]
end Go.Lx


namespace Go.Proofs
open Go.Shelf
def Tryz.lays189_ren : Go.Shelf.Ren := ⟨fun | 189 => 91 | 125 => 115 | 257 => 114 | 128 => 140 | 129 => 141 | 294 => 131 | 295 => 132 | 296 => 133 | 297 => 134 | 298 => 135 | 299 => 136 | 216 => 137 | 300 => 138 | 301 => 139 | 328 => 151 | 329 => 152 | 330 => 153 | 331 => 154 | 332 => 155 | 215 => 156 | 343 => 159 | n => n, fun | 28 => 37 | 3 => 3 | 46 => 52 | 0 => 0 | 51 => 173 | 53 => 107 | 4 => 4 | 183 => 166 | 182 => 165 | 131 => 76 | 5 => 5 | 9 => 9 | 218 => 181 | 222 => 185 | 228 => 187 | 229 => 188 | n => n, fun | n => n⟩
theorem Tryz.lays189 : Go.Proofs.Lays.n189 Tryz.prog Tryz.lays189_ren := {
  mixed := by kernel_rfl
  f125 := func115.trans (congrArg some (by kernel_rfl))
  f128 := func140.trans (congrArg some (by kernel_rfl))
  f129 := func141.trans (congrArg some (by kernel_rfl))
  f189 := func91.trans (congrArg some (by kernel_rfl))
  f215 := func156.trans (congrArg some (by kernel_rfl))
  f216 := func137.trans (congrArg some (by kernel_rfl))
  f257 := func114.trans (congrArg some (by kernel_rfl))
  f294 := func131.trans (congrArg some (by kernel_rfl))
  f295 := func132.trans (congrArg some (by kernel_rfl))
  f296 := func133.trans (congrArg some (by kernel_rfl))
  f297 := func134.trans (congrArg some (by kernel_rfl))
  f298 := func135.trans (congrArg some (by kernel_rfl))
  f299 := func136.trans (congrArg some (by kernel_rfl))
  f300 := func138.trans (congrArg some (by kernel_rfl))
  f301 := func139.trans (congrArg some (by kernel_rfl))
  f328 := func151.trans (congrArg some (by kernel_rfl))
  f329 := func152.trans (congrArg some (by kernel_rfl))
  f330 := func153.trans (congrArg some (by kernel_rfl))
  f331 := func154.trans (congrArg some (by kernel_rfl))
  f332 := func155.trans (congrArg some (by kernel_rfl))
  f343 := func159.trans (congrArg some (by kernel_rfl))
  t0 := underlying0
  a0 := Tryz.isAgg0
  z0 := Tryz.sizeOf0
  v0 := Tryz.zeroValue0
  t3 := underlying3
  a3 := Tryz.isAgg3
  z3 := Tryz.sizeOf3
  v3 := Tryz.zeroValue3
  t4 := underlying4
  a4 := Tryz.isAgg4
  z4 := Tryz.sizeOf4
  v4 := Tryz.zeroValue4
  t5 := underlying5
  a5 := Tryz.isAgg5
  z5 := Tryz.sizeOf5
  v5 := Tryz.zeroValue5
  t9 := underlying9
  a9 := Tryz.isAgg9
  z9 := Tryz.sizeOf9
  v9 := Tryz.zeroValue9
  t28 := underlying37
  a28 := Tryz.isAgg37
  z28 := Tryz.sizeOf37
  v28 := Tryz.zeroValue37
  t46 := underlying52
  a46 := Tryz.isAgg52
  z46 := Tryz.sizeOf52
  v46 := Tryz.zeroValue52
  t51 := underlying173
  a51 := Tryz.isAgg173
  z51 := Tryz.sizeOf173
  v51 := Tryz.zeroValue173
  t53 := underlying107
  a53 := Tryz.isAgg107
  z53 := Tryz.sizeOf107
  v53 := Tryz.zeroValue107
  t131 := underlying76
  a131 := Tryz.isAgg76
  z131 := Tryz.sizeOf76
  v131 := Tryz.zeroValue76
  t182 := underlying165
  a182 := Tryz.isAgg165
  z182 := Tryz.sizeOf165
  v182 := Tryz.zeroValue165
  t183 := underlying166
  a183 := Tryz.isAgg166
  z183 := Tryz.sizeOf166
  v183 := Tryz.zeroValue166
  t218 := underlying181
  a218 := Tryz.isAgg181
  z218 := Tryz.sizeOf181
  v218 := Tryz.zeroValue181
  t222 := underlying185
  a222 := Tryz.isAgg185
  z222 := Tryz.sizeOf185
  v222 := Tryz.zeroValue185
  t228 := underlying187
  a228 := Tryz.isAgg187
  z228 := Tryz.sizeOf187
  v228 := Tryz.zeroValue187
  t229 := underlying188
  a229 := Tryz.isAgg188
  z229 := Tryz.sizeOf188
  v229 := Tryz.zeroValue188 }
open Go.RowKit Go.Sort Go.Lib in
theorem Tryz.slices_Sort_int (blk off cap : Nat) (zs : List Int) (w : World) (hH : Holds (Value.int .i64) w blk off zs.toArray) (hblk : blk < w.heap.size) (hsz : zs.length < 4611686018427387904) :
    Calls Tryz.prog 91 #[.slice (some ⟨blk, off, none⟩) zs.length cap] w fun e w' =>
      e = .returned (.tuple #[]) ∧ ∃ n os, w' = grow (putRow (Value.int .i64) (Sort.ahead w n) blk off (zs.mergeSort fun x y => decide (x ≤ y)).toArray) os := Any.slices_Sort_int Tryz.lays189 blk off cap zs w hH hblk hsz
end Go.Proofs
namespace Go.Proofs.YtohkmggbfcnapaaGreatDoor
open Go.Lx Go.RowKit Go.Proofs _root_.Go.Proofs.Tryz
theorem sortC (base : World) (b : Option Addr) (c : Nat) (zs : List Int) (hsz : zs.length < 4611686018427387904) : CallT Tryz.prog base 91 [.slice b zs.length c] [rowI b c 3 1 (ints zs)] (fun v O' => v = .tuple #[] ∧ O' = [rowI b c 3 1 (ints (sortZ zs))]) := fun w M hI => by
  have hO : (([rowI b c 3 1 (ints zs)] ++ M : List Lx.Item))[0]? = some (rowI b c 3 1 (ints zs)) := rfl
  cases b with
  | none =>
    have hz : zs = [] := by
      have h := (hI.row hO).1
      cases zs with
      | nil => rfl
      | cons _ _ => cases h
    subst hz
    refine (Any.slices_Sort_int_none Tryz.lays189 none c w).mono ?_
    rintro e w' ⟨rfl, rfl⟩
    refine ⟨_, _, rfl, ?_, rfl, rfl⟩
    have h9 : sortZ [] = [] := by simp [sortZ]
    rw [h9]; exact hI
  | some a =>
    obtain ⟨blk, off, sp⟩ := a
    have hsp : sp = none := (hI.row hO).1
    subst hsp
    obtain ⟨hH, hb⟩ := row_holds hI hO
    refine (Tryz.slices_Sort_int blk off c zs w hH hb hsz).mono ?_
    rintro e w' ⟨rfl, n, os, rfl⟩
    refine ⟨_, _, rfl, ?_, rfl, rfl⟩
    exact hI.sorted (ys := sortZ zs) hO (List.length_mergeSort zs) n os
end Go.Proofs.YtohkmggbfcnapaaGreatDoor


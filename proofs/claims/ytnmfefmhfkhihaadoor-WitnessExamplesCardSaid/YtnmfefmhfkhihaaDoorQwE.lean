/- Contracts of functions of the program (QwE): what each call answers and that it leaves memory as it was. Conditions: those each theorem names. -/
import Derived.Test.YtnmfefmhfkhihaaDoorCoreV
import Derived.Test.YtnmfefmhfkhihaaDoorEnd
import Derived.Test.YtnmfefmhfkhihaaDoorWtX
set_option linter.unusedSectionVars false
set_option linter.unusedSimpArgs false
set_option linter.unusedVariables false
set_option linter.unnecessarySimpa false
namespace Go.Proofs.YtnmfefmhfkhihaaDoor
open Go.Lx Go.RowKit
set_option linter.unusedVariables false
set_option linter.unusedSimpArgs false
theorem shoL (w : World) [Tab Tryd.prog w] (k : DK) (ha : At w exL k) :
    PureT Tryd.prog 20 [dV exL k] w fun v N => ∃ wb wc, v = .tuple #[.slice wb 78 wc, .bool true, .int .i64 0] ∧ N = [rowI wb wc 5 1 (byts (List.replicate 78 0))] := by
  refine (shoC w exL k ha bd_exL.1 bd_exL.2.1 bd_exL.2.2).mono ?_
  rintro v N ⟨res, wb, wc, h1, _, h3, h4⟩
  have e := exL_least (h1 exL_ck)
  subst e
  rw [exL_ck, show ((some (List.replicate 78 0)).getD []).length = 78 from by simp] at h3
  exact ⟨wb, wc, h3, h4⟩
theorem finL (w : World) [Tab Tryd.prog w] (k : DK) (ha : At w exL k) :
    PureT Tryd.prog 21 [dV exL k] w fun v N => v = .tuple #[.bool true, .int .i64 0] ∧ N = [] := by
  refine (finC w exL k ha bd_exL.1 bd_exL.2.1 bd_exL.2.2).mono ?_
  rintro v N ⟨b, h1, h2, h3, _⟩
  rw [exL_ck] at h1
  cases b with
  | true => exact ⟨h1, h2⟩
  | false => exact absurd ((h3 exL_ck).2 exL_inf) (by decide)
theorem nthL (w : World) [Tab Tryd.prog w] (k : DK) (ha : At w exL k) :
    PureT Tryd.prog 14 [dV exL k, .int .u64 0] w fun v N => ∃ wb wc, v = .tuple #[.slice wb 0 wc, .bool false, .int .i64 0] ∧ N = [rowI wb wc 5 1 (byts [])] := by
  have h := nthC w exL k ha bd_exL.1 bd_exL.2.1 bd_exL.2.2 0
  rw [exL_nth, exL_nthE] at h
  exact h
theorem nthB (w : World) [Tab Tryd.prog w] (k : DK) (ha : At w exB k) :
    PureT Tryd.prog 14 [dV exB k, .int .u64 9223372036854775808] w fun v N => ∃ wb wc, v = .tuple #[.slice wb 0 wc, .bool false, .int .i64 7] ∧ N = [rowI wb wc 5 1 (byts [])] := by
  have h := nthC w exB k ha bd_exB.1 bd_exB.2.1 bd_exB.2.2 9223372036854775808
  rw [exB_nth, exB_nthE] at h
  exact h
theorem nthG (w : World) [Tab Tryd.prog w] (k : DK) (ha : At w ex2 k) :
    PureT Tryd.prog 14 [dV ex2 k, .int .u64 4611686018427387904] w fun v N => ∃ wb wc, v = .tuple #[.slice wb 0 wc, .bool false, .int .i64 1] ∧ N = [rowI wb wc 5 1 (byts [])] := by
  have h := nthC w ex2 k ha bd_ex2.1 bd_ex2.2.1 bd_ex2.2.2 4611686018427387904
  rw [ex2_nthBV, ex2_nthB] at h
  exact h
theorem nthH (w : World) [Tab Tryd.prog w] (k : DK) (ha : At w ex2 k) :
    PureT Tryd.prog 14 [dV ex2 k, .int .u64 4611686018427387903] w fun v N => ∃ wb wc xs, v = .tuple #[.slice wb (List.length xs) wc, .bool true, .int .i64 0] ∧ N = [rowI wb wc 5 1 (byts xs)] := by
  have h := nthC w ex2 k ha bd_ex2.1 bd_ex2.2.1 bd_ex2.2.2 4611686018427387903
  rw [ex2_nthHV, ex2_nthH] at h
  exact h.mono fun v N ⟨wb, wc, h1, h2⟩ => ⟨wb, wc, _, h1, h2⟩
theorem cntB (w : World) [Tab Tryd.prog w] (k : DK) (ha : At w exB k) :
    PureT Tryd.prog 22 [dV exB k, .int .i64 (-1)] w fun v N => v = .tuple #[.int .u64 0, .int .i64 7] ∧ N = [] := by
  have h := countC w exB k ha bd_exB.1 bd_exB.2.1 bd_exB.2.2 (-1)
  rw [exB_cnt, exB_cntE] at h
  exact h
theorem cntG (w : World) [Tab Tryd.prog w] (k : DK) (ha : At w ex2 k) :
    PureT Tryd.prog 22 [dV ex2 k, .int .i64 (-1)] w fun v N => v = .tuple #[.int .u64 0, .int .i64 1] ∧ N = [] := by
  have h := countC w ex2 k ha bd_ex2.1 bd_ex2.2.1 bd_ex2.2.2 (-1)
  rw [ex2_cntLV, ex2_cntL] at h
  exact h
theorem cntH (w : World) [Tab Tryd.prog w] (k : DK) (ha : At w ex2 k) :
    PureT Tryd.prog 22 [dV ex2 k, .int .i64 65] w fun v N => v = .tuple #[.int .u64 0, .int .i64 1] ∧ N = [] := by
  have h := countC w ex2 k ha bd_ex2.1 bd_ex2.2.1 bd_ex2.2.2 65
  rw [ex2_cntHV, ex2_cntH] at h
  exact h
theorem cntM (w : World) [Tab Tryd.prog w] (k : DK) (ha : At w ex2 k) :
    PureT Tryd.prog 22 [dV ex2 k, .int .i64 64] w fun v N => v = .tuple #[.int .u64 9223372036854775808, .int .i64 0] ∧ N = [] := by
  have h := countC w ex2 k ha bd_ex2.1 bd_ex2.2.1 bd_ex2.2.2 64
  rw [ex2_cntMV, ex2_cntM] at h
  exact h
theorem wdsL (w : World) [Tab Tryd.prog w] (k : DK) (ha : At w exL k) :
    PureT Tryd.prog 15 [dV exL k, .int .i64 5] w fun v N => ∃ ws lb lc, ws.length = 0 ∧ v = .tuple #[.slice lb ws.length lc, .int .i64 0] ∧ N = [wlI 29 5 lb lc ws] := by
  refine (wdsC w exL k ha bd_exL.1 bd_exL.2.1 bd_exL.2.2 5).mono ?_
  rintro v N ⟨ws, lb, lc, h1, h2, h3⟩
  rw [exL_wdsE] at h2
  have h4 := congrArg List.length h1
  rw [exL_wds, List.length_map] at h4
  exact ⟨ws, lb, lc, h4, h2, h3⟩
theorem wdsB (w : World) [Tab Tryd.prog w] (k : DK) (ha : At w exB k) :
    PureT Tryd.prog 15 [dV exB k, .int .i64 (-1)] w fun v N => ∃ ws lb lc, ws.length = 0 ∧ v = .tuple #[.slice lb ws.length lc, .int .i64 7] ∧ N = [wlI 29 5 lb lc ws] := by
  refine (wdsC w exB k ha bd_exB.1 bd_exB.2.1 bd_exB.2.2 (-1)).mono ?_
  rintro v N ⟨ws, lb, lc, h1, h2, h3⟩
  rw [exB_wdsE] at h2
  have h4 := congrArg List.length h1
  rw [exB_wds, List.length_map] at h4
  exact ⟨ws, lb, lc, h4, h2, h3⟩
theorem wdsG (w : World) [Tab Tryd.prog w] (k : DK) (ha : At w ex2 k) :
    PureT Tryd.prog 15 [dV ex2 k, .int .i64 (-1)] w fun v N => ∃ ws lb lc, ws.length = 0 ∧ v = .tuple #[.slice lb ws.length lc, .int .i64 1] ∧ N = [wlI 29 5 lb lc ws] := by
  refine (wdsC w ex2 k ha bd_ex2.1 bd_ex2.2.1 bd_ex2.2.2 (-1)).mono ?_
  rintro v N ⟨ws, lb, lc, h1, h2, h3⟩
  rw [ex2_wdsL] at h2
  have h4 := congrArg List.length h1
  rw [ex2_wdsLV, List.length_map] at h4
  exact ⟨ws, lb, lc, h4, h2, h3⟩
theorem wdsH (w : World) [Tab Tryd.prog w] (k : DK) (ha : At w ex2 k) :
    PureT Tryd.prog 15 [dV ex2 k, .int .i64 257] w fun v N => ∃ ws lb lc, ws.length = 0 ∧ v = .tuple #[.slice lb ws.length lc, .int .i64 1] ∧ N = [wlI 29 5 lb lc ws] := by
  refine (wdsC w ex2 k ha bd_ex2.1 bd_ex2.2.1 bd_ex2.2.2 257).mono ?_
  rintro v N ⟨ws, lb, lc, h1, h2, h3⟩
  rw [ex2_wdsH] at h2
  have h4 := congrArg List.length h1
  rw [ex2_wdsHV, List.length_map] at h4
  exact ⟨ws, lb, lc, h4, h2, h3⟩
theorem wdsM (w : World) [Tab Tryd.prog w] (k : DK) (ha : At w ex2 k) :
    PureT Tryd.prog 15 [dV ex2 k, .int .i64 256] w fun v N => ∃ ws lb lc, List.length ws = 256 ∧ v = .tuple #[.slice lb ws.length lc, .int .i64 0] ∧ N = [wlI 29 5 lb lc ws] := by
  refine (wdsC w ex2 k ha bd_ex2.1 bd_ex2.2.1 bd_ex2.2.2 256).mono ?_
  rintro v N ⟨ws, lb, lc, h1, h2, h3⟩
  rw [ex2_wdsM] at h2
  have h4 := congrArg List.length h1
  rw [ex2_wdsMV, List.length_map] at h4
  exact ⟨ws, lb, lc, h4, h2, h3⟩
theorem wdsZ (w : World) [Tab Tryd.prog w] (k : DK) (ha : At w ex2 k) :
    PureT Tryd.prog 15 [dV ex2 k, .int .i64 0] w fun v N => ∃ ws lb lc, ws.length = 0 ∧ v = .tuple #[.slice lb ws.length lc, .int .i64 0] ∧ N = [wlI 29 5 lb lc ws] := by
  refine (wdsC w ex2 k ha bd_ex2.1 bd_ex2.2.1 bd_ex2.2.2 0).mono ?_
  rintro v N ⟨ws, lb, lc, h1, h2, h3⟩
  rw [ex2_wdsZ] at h2
  have h4 := congrArg List.length h1
  rw [ex2_wdsZV, List.length_map] at h4
  exact ⟨ws, lb, lc, h4, h2, h3⟩
set_option maxHeartbeats 8000000 in
set_option maxRecDepth 20000 in
theorem examplesC (w : World) [Tab Tryd.prog w] :
    PureT Tryd.prog 4 [] w fun v N => v = .bool true ∧ N = [] := by
  refine CallT.enter Tryd.func4 rfl Tryd.ntmps4 rfl ?_
  refine T.seq (T.region ?_)
  refine TO.quiet (q_assign rfl) ?_
  refine TO.nil (T.seq (T.seq (T.region ?_)))
  have hk41 := fun (w1 : World) (hI : Inv w [] w1) => (haveI := Inv.tab (P := Tryd.prog) hI; awakeC w1)
  refine TO.loud rfl (l_call ent11 (CallT.of_pure hk41) rfl ?_)
  clear hk41
  rintro vr O' ⟨N, rfl, rfl, rfl⟩
  refine TO.quiet (q_not rfl) (TO.quiet (q_move rfl) (TO.quiet (q_pick0 rfl rfl) ?_))
  refine TO.nil ?_
  refine T.cond0 rfl ?_
  refine T.skip (T.seq (T.region ?_))
  refine TO.loud rfl (l_alloc inf25 rfl (fun z1 => ?_))
  refine TO.nil (T.seq (T.seq (T.region ?_)))
  refine TO.quiet (q_assign rfl) ?_
  refine TO.nil (T.block ?_)
  refine T.nilRow 4 1 ?_
  refine T.nilRow 41 1 ?_
  refine T.sub (O' := [oI z1 25 [(.int .i64 0), (.int .i64 0), (.slice none 0 0), (.slice none 0 0)], rowI none 0 41 1 (vals []), rowI none 0 4 1 (bools [])]) (by exact Sub.pull [rowI none 0 41 1 [], rowI none 0 4 1 []] _ (.k (.k .z))) ?_
  refine T.loop (fun (s : Nat) ρ O => ∃ (nb fb : Option Addr) (nc fc : Nat) (qs : List Rec) (fs : List Bool), O = ([oI z1 25 [(.int .i64 0), (.int .i64 0), (.slice nb s nc), (.slice fb s fc)], rowI nb nc 41 1 (vals qs), rowI fb fc 4 1 (bools fs)] ++ (itms 3 qs)) ∧ s ≤ 80 ∧ qs.length = s ∧ fs = (List.range s).map (fun s => decide (s = 78)) ∧ nums qs = (List.range s).map (fun s => [((min (s + 1) 79 : Nat) : Int)]) ∧ Heads [(0, .bool false), (1, (.pointer (some ⟨z1, 0, none⟩))), (2, .int .i64 ((s : Nat) : Int))] ρ) (fun s => 80 - s) 0 ?_ ?_
  · exact ⟨none, none, 0, 0, [], [], rfl, Nat.zero_le _, rfl, rfl, rfl, ⟨rfl, rfl, rfl, trivial⟩⟩
  rintro s ρ O ⟨nb, fb, nc, fc, qs, fs, rfl, hs, hql, hfs, hqs, hH⟩
  obtain ⟨ρ0, rfl⟩ := hH.elim
  clear hH
  have hfl : fs.length = s := by rw [hfs]; simp
  refine T.seq (T.seq (T.region ?_))
  refine TO.quiet (q_move rfl) (TO.quiet (q_lss rfl rfl) ?_)
  refine TO.nil ?_
  refine T.condP rfl (fun hc => ?_) (fun hc => ?_)
  · have hlt46 : s < 80 := by omega
    refine T.skip (T.seq (T.block ?_))
    refine T.cut1 (fun ρ O => ∃ (b5 b6 b12 : Nat) (nb9 fb9 : Option Addr) (nc9 fc9 : Nat), O = ([oI z1 25 [(.int .i64 0), (.int .i64 0), (.slice nb9 (s + 1) nc9), (.slice fb9 (s + 1) fc9)], rowI nb9 nc9 41 1 ((vals qs) ++ [(.slice (some ⟨b5, 0, none⟩) 1 1)]), rowI fb9 fc9 4 1 ((bools fs) ++ [.bool (decide (s = 78))]), rowI (some ⟨b5, 0, none⟩) 1 3 1 [.int .i64 ((min (s + 1) 79 : Nat) : Int)]] ++ (itms 3 qs)) ∧ Heads [(0, .bool false), (1, (.pointer (some ⟨z1, 0, none⟩))), (2, .int .i64 ((s : Nat) : Int))] ρ) ?_ ?_
    · refine T.treeT [oI z1 25 [(.int .i64 0), (.int .i64 0), (.slice nb s nc), (.slice fb s fc)]] [15, 17] 18 mixed rfl (by exact Sub.k .z) (fun _ _ _ h => h) ?_
      refine RO.quietTT 0 rfl (by kernel_rfl) (q_fieldAddr Tryd.underlying25 rfl inf22 rfl rfl) ?_
      refine RO.quietTT 1 rfl (by kernel_rfl) (q_load_box 0 Tryd.underlying22 rfl rfl rfl rfl) ?_
      refine RO.quietTT 2 rfl (by kernel_rfl) (q_move rfl) ?_
      refine RO.quietTT 3 rfl (by kernel_rfl) (QT.cast (q_add64 rfl rfl (by omega)) (v' := .int .i64 ((s + 1 : Nat) : Int)) (congrArg (Value.int .i64) (by omega))) ?_
      refine RO.quietTT 4 rfl (by kernel_rfl) (q_minN (a := (s + 1)) (b := 79) rfl rfl) ?_
      refine RO.quietTT 8 rfl (by kernel_rfl) (q_fieldAddr Tryd.underlying25 rfl inf23 rfl rfl) ?_
      refine RO.quietTT 9 rfl (by kernel_rfl) (q_load_box 0 Tryd.underlying23 rfl rfl rfl rfl) ?_
      refine RO.quietTT 10 rfl (by kernel_rfl) (q_move rfl) ?_
      refine RO.quietTT 11 rfl (by kernel_rfl) (QT.cast (q_eql rfl rfl) (v' := .bool (decide (s = 78))) (congrArg Value.bool (decide_eq_decide.2 (by omega)))) ?_
      refine RO.forkT [5, 12] (by kernel_rfl) rfl ⟨⟨_, rfl, rfl, l_build1 (v := .int .i64 ((min (s + 1) 79 : Nat) : Int)) Tryd.underlying41 inf3 rfl rfl rfl (fun b5 => ⟨.inr (by exact Sub.d (.k .z)), ?_⟩)⟩, ⟨_, rfl, rfl, l_build1 (v := .bool (decide (s = 78))) Tryd.underlying23 inf4 rfl rfl rfl (fun b12 => ⟨.inr (by exact Sub.d (.k .z)), ?_⟩)⟩, trivial⟩ (by kernel_rfl)
      · refine RO.forkT [6, 12] (by kernel_rfl) rfl ⟨⟨_, rfl, rfl, l_build1 (v := (.slice (some ⟨b5, 0, none⟩) 1 1)) Tryd.underlying22 inf41 rfl rfl rfl (fun b6 => ⟨.inr (by exact Sub.d (.d (.k .z))), ?_⟩)⟩, ⟨_, rfl, rfl, l_build1 (v := .bool (decide (s = 78))) Tryd.underlying23 inf4 rfl rfl rfl (fun b12 => ⟨.inr (by exact Sub.d (.d (.k .z))), ?_⟩)⟩, trivial⟩ (by kernel_rfl)
        · refine RO.forkT [7, 12] (by kernel_rfl) rfl ⟨⟨_, rfl, rfl, l_append 3 Tryd.underlying22 Tryd.underlying22 inf41 rfl rfl rfl rfl (by rw [List.length_map]; omega) (by decide) (Src.row (j := 0) rfl (by simp)) (by simp [oneB]) (by omega) (by decide) (by decide) (fun nb9 nc9 => ⟨.inr (by exact Sub.d (.d (.k .z))), ?_⟩)⟩, ⟨_, rfl, rfl, l_build1 (v := .bool (decide (s = 78))) Tryd.underlying23 inf4 rfl rfl rfl (fun b12 => ⟨.inr (by exact Sub.d (.d (.d (.k .z)))), ?_⟩)⟩, trivial⟩ (by kernel_rfl)
          · refine RO.quietTT 14 rfl (by kernel_rfl) (q_fieldAddr Tryd.underlying25 rfl inf22 rfl rfl) ?_
            refine RO.forkT [12] (by kernel_rfl) rfl ⟨⟨_, rfl, rfl, l_build1 (v := .bool (decide (s = 78))) Tryd.underlying23 inf4 rfl rfl rfl (fun b12 => ⟨.inr (by exact Sub.d (.d (.d (.k .z)))), ?_⟩)⟩, trivial⟩ (by kernel_rfl)
            refine RO.forkT [13] (by kernel_rfl) rfl ⟨⟨_, rfl, rfl, l_append 5 Tryd.underlying23 Tryd.underlying23 inf4 rfl rfl rfl rfl (by rw [List.length_map]; omega) (by decide) (Src.row (j := 0) rfl (by simp)) (by simp [oneB]) (by omega) (by decide) (by decide) (fun fb9 fc9 => ⟨.inr (by exact Sub.d (.d (.d (.k .z)))), ?_⟩)⟩, trivial⟩ (by kernel_rfl)
            refine RO.forkT [15] (by kernel_rfl) rfl ⟨⟨_, rfl, rfl, l_store_box (v := (.slice nb9 (s + 1) nc9)) (vs := [(.slice nb9 (s + 1) nc9)]) 3 inf22 rfl rfl rfl rfl rfl rfl (by simp [putL]) ⟨.inl (by decide), ?_⟩⟩, trivial⟩ (by kernel_rfl)
            refine RO.quietE 16 rfl (by kernel_rfl) (q_fieldAddr Tryd.underlying25 rfl inf23 rfl rfl) ?_
            refine RO.forkT [17] (by kernel_rfl) rfl ⟨⟨_, rfl, rfl, l_store_box (v := (.slice fb9 (s + 1) fc9)) (vs := [(.slice fb9 (s + 1) fc9)]) 3 inf23 rfl rfl rfl rfl rfl rfl (by simp [putL]) ⟨.inl (by decide), ?_⟩⟩, trivial⟩ (by kernel_rfl)
            exact RO.fin (by kernel_rfl) ⟨b5, b6, b12, nb9, fb9, nc9, fc9, rfl, ⟨rfl, rfl, rfl, trivial⟩⟩ (by exact Sub.d (.d (.pull [rowI (some ⟨b5, 0, none⟩) 1 3 1 [.int .i64 ((min (s + 1) 79 : Nat) : Int)]] _ (.pull [rowI (some ⟨b5, 0, none⟩) 1 3 1 [.int .i64 ((min (s + 1) 79 : Nat) : Int)]] _ (.pull [rowI (some ⟨b5, 0, none⟩) 1 3 1 [.int .i64 ((min (s + 1) 79 : Nat) : Int)]] _ (.k .rf))))))
          refine RO.forkT [7] (by kernel_rfl) rfl ⟨⟨_, rfl, rfl, l_append 4 Tryd.underlying22 Tryd.underlying22 inf41 rfl rfl rfl rfl (by rw [List.length_map]; omega) (by decide) (Src.row (j := 1) rfl (by simp)) (by simp [oneB]) (by omega) (by decide) (by decide) (fun nb9 nc9 => ⟨.inr (by exact Sub.d (.d (.d (.k .z)))), ?_⟩)⟩, trivial⟩ (by kernel_rfl)
          refine RO.quietTT 14 rfl (by kernel_rfl) (q_fieldAddr Tryd.underlying25 rfl inf22 rfl rfl) ?_
          refine RO.forkT [13] (by kernel_rfl) rfl ⟨⟨_, rfl, rfl, l_append 5 Tryd.underlying23 Tryd.underlying23 inf4 rfl rfl rfl rfl (by rw [List.length_map]; omega) (by decide) (Src.row (j := 0) rfl (by simp)) (by simp [oneB]) (by omega) (by decide) (by decide) (fun fb9 fc9 => ⟨.inr (by exact Sub.d (.d (.d (.k .z)))), ?_⟩)⟩, trivial⟩ (by kernel_rfl)
          refine RO.forkT [15] (by kernel_rfl) rfl ⟨⟨_, rfl, rfl, l_store_box (v := (.slice nb9 (s + 1) nc9)) (vs := [(.slice nb9 (s + 1) nc9)]) 3 inf22 rfl rfl rfl rfl rfl rfl (by simp [putL]) ⟨.inl (by decide), ?_⟩⟩, trivial⟩ (by kernel_rfl)
          refine RO.quietE 16 rfl (by kernel_rfl) (q_fieldAddr Tryd.underlying25 rfl inf23 rfl rfl) ?_
          refine RO.forkT [17] (by kernel_rfl) rfl ⟨⟨_, rfl, rfl, l_store_box (v := (.slice fb9 (s + 1) fc9)) (vs := [(.slice fb9 (s + 1) fc9)]) 3 inf23 rfl rfl rfl rfl rfl rfl (by simp [putL]) ⟨.inl (by decide), ?_⟩⟩, trivial⟩ (by kernel_rfl)
          exact RO.fin (by kernel_rfl) ⟨b5, b6, b12, nb9, fb9, nc9, fc9, rfl, ⟨rfl, rfl, rfl, trivial⟩⟩ (by exact Sub.d (.d (.pull [rowI (some ⟨b5, 0, none⟩) 1 3 1 [.int .i64 ((min (s + 1) 79 : Nat) : Int)]] _ (.pull [rowI (some ⟨b5, 0, none⟩) 1 3 1 [.int .i64 ((min (s + 1) 79 : Nat) : Int)]] _ (.pull [rowI (some ⟨b5, 0, none⟩) 1 3 1 [.int .i64 ((min (s + 1) 79 : Nat) : Int)]] _ (.k .rf))))))
        refine RO.forkT [6] (by kernel_rfl) rfl ⟨⟨_, rfl, rfl, l_build1 (v := (.slice (some ⟨b5, 0, none⟩) 1 1)) Tryd.underlying22 inf41 rfl rfl rfl (fun b6 => ⟨.inr (by exact Sub.d (.d (.d (.k .z)))), ?_⟩)⟩, trivial⟩ (by kernel_rfl)
        refine RO.forkT [7] (by kernel_rfl) rfl ⟨⟨_, rfl, rfl, l_append 4 Tryd.underlying22 Tryd.underlying22 inf41 rfl rfl rfl rfl (by rw [List.length_map]; omega) (by decide) (Src.row (j := 0) rfl (by simp)) (by simp [oneB]) (by omega) (by decide) (by decide) (fun nb9 nc9 => ⟨.inr (by exact Sub.d (.d (.d (.k .z)))), ?_⟩)⟩, trivial⟩ (by kernel_rfl)
        refine RO.quietTT 14 rfl (by kernel_rfl) (q_fieldAddr Tryd.underlying25 rfl inf22 rfl rfl) ?_
        refine RO.forkT [13] (by kernel_rfl) rfl ⟨⟨_, rfl, rfl, l_append 5 Tryd.underlying23 Tryd.underlying23 inf4 rfl rfl rfl rfl (by rw [List.length_map]; omega) (by decide) (Src.row (j := 1) rfl (by simp)) (by simp [oneB]) (by omega) (by decide) (by decide) (fun fb9 fc9 => ⟨.inr (by exact Sub.d (.d (.d (.k .z)))), ?_⟩)⟩, trivial⟩ (by kernel_rfl)
        refine RO.forkT [15] (by kernel_rfl) rfl ⟨⟨_, rfl, rfl, l_store_box (v := (.slice nb9 (s + 1) nc9)) (vs := [(.slice nb9 (s + 1) nc9)]) 3 inf22 rfl rfl rfl rfl rfl rfl (by simp [putL]) ⟨.inl (by decide), ?_⟩⟩, trivial⟩ (by kernel_rfl)
        refine RO.quietE 16 rfl (by kernel_rfl) (q_fieldAddr Tryd.underlying25 rfl inf23 rfl rfl) ?_
        refine RO.forkT [17] (by kernel_rfl) rfl ⟨⟨_, rfl, rfl, l_store_box (v := (.slice fb9 (s + 1) fc9)) (vs := [(.slice fb9 (s + 1) fc9)]) 3 inf23 rfl rfl rfl rfl rfl rfl (by simp [putL]) ⟨.inl (by decide), ?_⟩⟩, trivial⟩ (by kernel_rfl)
        exact RO.fin (by kernel_rfl) ⟨b5, b6, b12, nb9, fb9, nc9, fc9, rfl, ⟨rfl, rfl, rfl, trivial⟩⟩ (by exact Sub.d (.d (.pull [rowI (some ⟨b5, 0, none⟩) 1 3 1 [.int .i64 ((min (s + 1) 79 : Nat) : Int)]] _ (.pull [rowI (some ⟨b5, 0, none⟩) 1 3 1 [.int .i64 ((min (s + 1) 79 : Nat) : Int)]] _ (.pull [rowI (some ⟨b5, 0, none⟩) 1 3 1 [.int .i64 ((min (s + 1) 79 : Nat) : Int)]] _ (.k .rf))))))
      refine RO.forkT [5] (by kernel_rfl) rfl ⟨⟨_, rfl, rfl, l_build1 (v := .int .i64 ((min (s + 1) 79 : Nat) : Int)) Tryd.underlying41 inf3 rfl rfl rfl (fun b5 => ⟨.inr (by exact Sub.d (.d (.k .z))), ?_⟩)⟩, trivial⟩ (by kernel_rfl)
      refine RO.forkT [6] (by kernel_rfl) rfl ⟨⟨_, rfl, rfl, l_build1 (v := (.slice (some ⟨b5, 0, none⟩) 1 1)) Tryd.underlying22 inf41 rfl rfl rfl (fun b6 => ⟨.inr (by exact Sub.d (.d (.d (.k .z)))), ?_⟩)⟩, trivial⟩ (by kernel_rfl)
      refine RO.forkT [7] (by kernel_rfl) rfl ⟨⟨_, rfl, rfl, l_append 4 Tryd.underlying22 Tryd.underlying22 inf41 rfl rfl rfl rfl (by rw [List.length_map]; omega) (by decide) (Src.row (j := 0) rfl (by simp)) (by simp [oneB]) (by omega) (by decide) (by decide) (fun nb9 nc9 => ⟨.inr (by exact Sub.d (.d (.d (.k .z)))), ?_⟩)⟩, trivial⟩ (by kernel_rfl)
      refine RO.quietTT 14 rfl (by kernel_rfl) (q_fieldAddr Tryd.underlying25 rfl inf22 rfl rfl) ?_
      refine RO.forkT [13] (by kernel_rfl) rfl ⟨⟨_, rfl, rfl, l_append 5 Tryd.underlying23 Tryd.underlying23 inf4 rfl rfl rfl rfl (by rw [List.length_map]; omega) (by decide) (Src.row (j := 2) rfl (by simp)) (by simp [oneB]) (by omega) (by decide) (by decide) (fun fb9 fc9 => ⟨.inr (by exact Sub.d (.d (.d (.k .z)))), ?_⟩)⟩, trivial⟩ (by kernel_rfl)
      refine RO.forkT [15] (by kernel_rfl) rfl ⟨⟨_, rfl, rfl, l_store_box (v := (.slice nb9 (s + 1) nc9)) (vs := [(.slice nb9 (s + 1) nc9)]) 3 inf22 rfl rfl rfl rfl rfl rfl (by simp [putL]) ⟨.inl (by decide), ?_⟩⟩, trivial⟩ (by kernel_rfl)
      refine RO.quietE 16 rfl (by kernel_rfl) (q_fieldAddr Tryd.underlying25 rfl inf23 rfl rfl) ?_
      refine RO.forkT [17] (by kernel_rfl) rfl ⟨⟨_, rfl, rfl, l_store_box (v := (.slice fb9 (s + 1) fc9)) (vs := [(.slice fb9 (s + 1) fc9)]) 3 inf23 rfl rfl rfl rfl rfl rfl (by simp [putL]) ⟨.inl (by decide), ?_⟩⟩, trivial⟩ (by kernel_rfl)
      exact RO.fin (by kernel_rfl) ⟨b5, b6, b12, nb9, fb9, nc9, fc9, rfl, ⟨rfl, rfl, rfl, trivial⟩⟩ (by exact Sub.d (.pull [rowI (some ⟨b5, 0, none⟩) 1 3 1 [.int .i64 ((min (s + 1) 79 : Nat) : Int)], rowI (some ⟨b12, 0, none⟩) 1 4 1 [.bool (decide (s = 78))]] _ (.pull [rowI (some ⟨b5, 0, none⟩) 1 3 1 [.int .i64 ((min (s + 1) 79 : Nat) : Int)], rowI (some ⟨b12, 0, none⟩) 1 4 1 [.bool (decide (s = 78))]] _ (.pull [rowI (some ⟨b5, 0, none⟩) 1 3 1 [.int .i64 ((min (s + 1) 79 : Nat) : Int)], rowI (some ⟨b12, 0, none⟩) 1 4 1 [.bool (decide (s = 78))]] _ (.k (.d .rf))))))
    rintro ρ O ⟨b5, b6, b12, nb9, fb9, nc9, fc9, rfl, hH⟩
    obtain ⟨ρ0, rfl⟩ := hH.elim
    clear hH
    have hvq : vals (qs ++ [⟨some ⟨b5, 0, none⟩, 1, [((min (s + 1) 79 : Nat) : Int)]⟩]) = (vals qs) ++ [(.slice (some ⟨b5, 0, none⟩) 1 1)] := by simp [Rec.val]
    have hbq : bools (fs ++ [decide (s = 78)]) = (bools fs) ++ [(.bool (decide (s = 78)))] := by simp
    refine T.sub (O' := ([oI z1 25 [(.int .i64 0), (.int .i64 0), (.slice nb9 (s + 1) nc9), (.slice fb9 (s + 1) fc9)], rowI nb9 nc9 41 1 (vals (qs ++ [⟨some ⟨b5, 0, none⟩, 1, [((min (s + 1) 79 : Nat) : Int)]⟩])), rowI fb9 fc9 4 1 (bools (fs ++ [decide (s = 78)]))] ++ itms 3 (qs ++ [⟨some ⟨b5, 0, none⟩, 1, [((min (s + 1) 79 : Nat) : Int)]⟩]))) (by rw [hvq, hbq]; exact Sub.foldN [oI z1 25 [(.int .i64 0), (.int .i64 0), (.slice nb9 (s + 1) nc9), (.slice fb9 (s + 1) fc9)], rowI nb9 nc9 41 1 ((vals qs) ++ [(.slice (some ⟨b5, 0, none⟩) 1 1)]), rowI fb9 fc9 4 1 ((bools fs) ++ [.bool (decide (s = 78))])] (rowI (some ⟨b5, 0, none⟩) 1 3 1 (ints [((min (s + 1) 79 : Nat) : Int)])) (itms 3 qs) _ (itms_snoc 3 qs ⟨some ⟨b5, 0, none⟩, 1, [((min (s + 1) 79 : Nat) : Int)]⟩)) ?_
    refine T.region ?_
    refine TO.quiet (q_move rfl) (TO.quiet (q_addN (a := s) (b := 1) rfl rfl (by omega)) (TO.quiet (q_assign rfl) ?_))
    refine TO.nil ?_
    exact ⟨s + 1, by omega, nb9, fb9, nc9, fc9, qs ++ [⟨some ⟨b5, 0, none⟩, 1, [((min (s + 1) 79 : Nat) : Int)]⟩], fs ++ [decide (s = 78)], rfl, by omega, by simp [hql], by rw [hfs, List.range_succ, List.map_append]; rfl, by rw [List.range_succ, List.map_append, ← hqs]; simp, ⟨rfl, rfl, rfl, trivial⟩⟩
  have hge46 : ¬ s < 80 := by omega
  refine T.exit ?_
  refine T.seq ?_
  have hsm : s = 80 := by omega
  obtain ⟨Tz, hT⟩ : ∃ T, T = exL := ⟨_, rfl⟩
  have e1 : nums qs = Tz.next := by rw [hT, hqs, hsm]; rfl
  have e2 : fs = Tz.final := by rw [hT, hfs, hsm]; rfl
  have e3 : Tz.vars = 0 := by rw [hT]; rfl
  have e4 : Tz.start = 0 := by rw [hT]; rfl
  have e5 : Tz.next.length = s := by rw [hT, hsm]; simp [exL]
  have e6 : Tz.final.length = s := by rw [hT, hsm]; simp [exL]
  subst e2
  obtain ⟨z9, hz9⟩ : ∃ z : DK, z = ⟨nb, nc, fb, fc, qs⟩ := ⟨_, rfl⟩
  obtain ⟨kB, hkB⟩ : ∃ z : DK, z = ⟨none, 0, none, 0, []⟩ := ⟨_, rfl⟩
  refine T.sub (O' := ([rowI nb nc 41 1 (vals qs), rowI fb fc 4 1 (bools Tz.final), oI z1 25 [(.int .i64 0), (.int .i64 0), (.slice nb Tz.next.length nc), (.slice fb Tz.final.length fc)]] ++ itms 3 qs)) (by rw [e5, e6]; exact Sub.pull [oI z1 25 [(.int .i64 0), (.int .i64 0), (.slice nb s nc), (.slice fb s fc)]] _ (.pull [oI z1 25 [(.int .i64 0), (.int .i64 0), (.slice nb s nc), (.slice fb s fc)]] _ (.k .rf))) ?_
  refine T.sub (O' := (([rowI nb nc 41 1 (vals qs), rowI fb fc 4 1 (bools Tz.final)] ++ itms 3 qs) ++ [oI z1 25 [(.int .i64 0), (.int .i64 0), (.slice nb Tz.next.length nc), (.slice fb Tz.final.length fc)]])) (by exact Sub.swap3 [rowI nb nc 41 1 (vals qs), rowI fb fc 4 1 (bools Tz.final)] (itms 3 qs) [oI z1 25 [(.int .i64 0), (.int .i64 0), (.slice nb Tz.next.length nc), (.slice fb Tz.final.length fc)]]) ?_
  refine T.pack (φ := nums qs = Tz.next) e1 ?_
  refine T.sub (O' := [dI 41 4 3 exL z9, oI z1 25 (dC exL z9)]) (by subst hz9; rw [← hT]; unfold dC dfaCells; rw [e3, e4]; exact Sub.rf) ?_
  refine T.region ?_
  refine TO.quiet (q_build (cs := [.int .i64 9, (.int .i64 0), (.slice none 0 0), (.slice none 0 0)]) plan25 inf25 (by kernel_rfl)) ?_
  refine TO.loud rfl (l_alloc inf25 rfl (fun z2 => ?_))
  refine TO.loud rfl (l_store_box (v := (.agg #[.int .i64 9, (.int .i64 0), (.slice none 0 0), (.slice none 0 0)])) (vs := [.int .i64 9, (.int .i64 0), (.slice none 0 0), (.slice none 0 0)]) 0 inf25 rfl rfl rfl rfl rfl rfl (by simp [putL]) ?_)
  refine TO.sub (O' := [oI z2 25 (dC exB kB), dI 41 4 3 exL z9, oI z1 25 (dC exL z9)]) (by subst hkB; exact Sub.rf) ?_
  refine TO.nil (T.seq (T.region ?_))
  refine TO.quiet (q_load_boxAgg 2 Tryd.underlying25 rfl inf25 rfl rfl rfl) ?_
  have hk68 := fun (w1 : World) (hI : Inv w [oI z2 25 (dC exB kB), dI 41 4 3 exL z9, oI z1 25 (dC exL z9)] w1) => (haveI := Inv.tab (P := Tryd.prog) hI; shoL w1 z9 (hI.at (k := z9) (List.mem_of_getElem? (i := 1) rfl)))
  refine TO.loud rfl (l_call ent20 (CallT.of_pure hk68) rfl ?_)
  clear hk68
  rintro vr O' ⟨N, rfl, wb1, wc1, rfl, rfl⟩
  refine TO.quiet (q_move rfl) (TO.quiet (q_extract (vs := _) rfl rfl) (TO.quiet (q_extract (vs := _) rfl rfl) (TO.quiet (q_extract (vs := _) rfl rfl) ?_)))
  refine TO.quiet (q_assign rfl) (TO.quiet (q_assign rfl) (TO.quiet (q_assign rfl) ?_))
  refine TO.nil (T.seq (T.region ?_))
  refine TO.quiet (q_load_boxAgg 3 Tryd.underlying25 rfl inf25 rfl rfl rfl) ?_
  have hk74 := fun (w1 : World) (hI : Inv w [rowI wb1 wc1 5 1 (byts (List.replicate 78 0)), oI z2 25 (dC exB kB), dI 41 4 3 exL z9, oI z1 25 (dC exL z9)] w1) => (haveI := Inv.tab (P := Tryd.prog) hI; nthL w1 z9 (hI.at (k := z9) (List.mem_of_getElem? (i := 2) rfl)))
  refine TO.loud rfl (l_call ent14 (CallT.of_pure hk74) rfl ?_)
  clear hk74
  rintro vr O' ⟨N, rfl, wb2, wc2, rfl, rfl⟩
  refine TO.quiet (q_move rfl) (TO.quiet (q_extract (vs := _) rfl rfl) (TO.quiet (q_extract (vs := _) rfl rfl) (TO.quiet (q_extract (vs := _) rfl rfl) ?_)))
  refine TO.quiet (q_assign rfl) (TO.quiet (q_assign rfl) (TO.quiet (q_assign rfl) ?_))
  refine TO.nil (T.seq (T.region ?_))
  refine TO.quiet (q_load_boxAgg 4 Tryd.underlying25 rfl inf25 rfl rfl rfl) ?_
  have hk80 := fun (w1 : World) (hI : Inv w [rowI wb2 wc2 5 1 (byts []), rowI wb1 wc1 5 1 (byts (List.replicate 78 0)), oI z2 25 (dC exB kB), dI 41 4 3 exL z9, oI z1 25 (dC exL z9)] w1) => (haveI := Inv.tab (P := Tryd.prog) hI; wdsL w1 z9 (hI.at (k := z9) (List.mem_of_getElem? (i := 3) rfl)))
  refine TO.loud rfl (l_call ent15 (CallT.of_pure hk80) rfl ?_)
  clear hk80
  rintro vr O' ⟨N, rfl, ws1, lb1, lc1, hl1, rfl, rfl⟩
  refine TO.quiet (q_move rfl) (TO.quiet (q_extract (vs := _) rfl rfl) (TO.quiet (q_extract (vs := _) rfl rfl) (TO.quiet (q_assign rfl) ?_)))
  refine TO.quiet (q_assign rfl) ?_
  refine TO.nil (T.seq (T.region ?_))
  refine TO.quiet (q_load_boxAgg 5 Tryd.underlying25 rfl inf25 rfl rfl rfl) ?_
  have hk85 := fun (w1 : World) (hI : Inv w [wlI 29 5 lb1 lc1 ws1, rowI wb2 wc2 5 1 (byts []), rowI wb1 wc1 5 1 (byts (List.replicate 78 0)), oI z2 25 (dC exB kB), dI 41 4 3 exL z9, oI z1 25 (dC exL z9)] w1) => (haveI := Inv.tab (P := Tryd.prog) hI; finL w1 z9 (hI.at (k := z9) (List.mem_of_getElem? (i := 4) rfl)))
  refine TO.loud rfl (l_call ent21 (CallT.of_pure hk85) rfl ?_)
  clear hk85
  rintro vr O' ⟨N, rfl, rfl, rfl⟩
  refine TO.quiet (q_move rfl) (TO.quiet (q_extract (vs := _) rfl rfl) (TO.quiet (q_extract (vs := _) rfl rfl) (TO.quiet (q_assign rfl) ?_)))
  refine TO.quiet (q_assign rfl) ?_
  refine TO.nil (T.seq (T.region ?_))
  refine TO.quiet (q_load_boxAgg 3 Tryd.underlying25 rfl inf25 rfl rfl rfl) ?_
  have hk90 := fun (w1 : World) (hI : Inv w [wlI 29 5 lb1 lc1 ws1, rowI wb2 wc2 5 1 (byts []), rowI wb1 wc1 5 1 (byts (List.replicate 78 0)), oI z2 25 (dC exB kB), dI 41 4 3 exL z9, oI z1 25 (dC exL z9)] w1) => (haveI := Inv.tab (P := Tryd.prog) hI; cntB w1 kB (show At w1 exB kB from (by rw [hkB]; exact ⟨Sl.nil _ none, ⟨rfl, fun i r h9 => by simp [exB] at h9⟩, Sl.nil _ none⟩)))
  refine TO.loud rfl (l_call ent22 (CallT.of_pure hk90) rfl ?_)
  clear hk90
  rintro vr O' ⟨N, rfl, rfl, rfl⟩
  refine TO.quiet (q_move rfl) (TO.quiet (q_extract (vs := _) rfl rfl) (TO.quiet (q_extract (vs := _) rfl rfl) (TO.quiet (q_assign rfl) ?_)))
  refine TO.quiet (q_assign rfl) ?_
  refine TO.nil (T.seq (T.region ?_))
  have hk94 := fun (w1 : World) (hI : Inv w [wlI 29 5 lb1 lc1 ws1, rowI wb2 wc2 5 1 (byts []), rowI wb1 wc1 5 1 (byts (List.replicate 78 0)), oI z2 25 (dC exB kB), dI 41 4 3 exL z9, oI z1 25 (dC exL z9)] w1) => (haveI := Inv.tab (P := Tryd.prog) hI; secondK w1)
  refine TO.loud rfl (l_call ent23 (CallT.of_pure hk94) rfl ?_)
  clear hk94
  rintro vr O' ⟨N, rfl, kc0, rfl, rfl⟩
  have hk95 := fun (w1 : World) (hI : Inv w [dI 41 4 3 ex2 kc0, wlI 29 5 lb1 lc1 ws1, rowI wb2 wc2 5 1 (byts []), rowI wb1 wc1 5 1 (byts (List.replicate 78 0)), oI z2 25 (dC exB kB), dI 41 4 3 exL z9, oI z1 25 (dC exL z9)] w1) => (haveI := Inv.tab (P := Tryd.prog) hI; cntG w1 kc0 (hI.at (k := kc0) (List.mem_of_getElem? (i := 0) rfl)))
  refine TO.loud rfl (l_call ent22 (CallT.of_pure hk95) rfl ?_)
  clear hk95
  rintro vr O' ⟨N, rfl, rfl, rfl⟩
  refine TO.quiet (q_move rfl) (TO.quiet (q_extract (vs := _) rfl rfl) (TO.quiet (q_extract (vs := _) rfl rfl) (TO.quiet (q_assign rfl) ?_)))
  refine TO.quiet (q_assign rfl) ?_
  refine TO.sub (O' := [wlI 29 5 lb1 lc1 ws1, rowI wb2 wc2 5 1 (byts []), rowI wb1 wc1 5 1 (byts (List.replicate 78 0)), oI z2 25 (dC exB kB), dI 41 4 3 exL z9, oI z1 25 (dC exL z9)]) (by exact Sub.d (.k (.k (.k (.k (.k (.k .z))))))) ?_
  refine TO.nil (T.seq (T.region ?_))
  have hk99 := fun (w1 : World) (hI : Inv w [wlI 29 5 lb1 lc1 ws1, rowI wb2 wc2 5 1 (byts []), rowI wb1 wc1 5 1 (byts (List.replicate 78 0)), oI z2 25 (dC exB kB), dI 41 4 3 exL z9, oI z1 25 (dC exL z9)] w1) => (haveI := Inv.tab (P := Tryd.prog) hI; secondK w1)
  refine TO.loud rfl (l_call ent23 (CallT.of_pure hk99) rfl ?_)
  clear hk99
  rintro vr O' ⟨N, rfl, kc1, rfl, rfl⟩
  have hk100 := fun (w1 : World) (hI : Inv w [dI 41 4 3 ex2 kc1, wlI 29 5 lb1 lc1 ws1, rowI wb2 wc2 5 1 (byts []), rowI wb1 wc1 5 1 (byts (List.replicate 78 0)), oI z2 25 (dC exB kB), dI 41 4 3 exL z9, oI z1 25 (dC exL z9)] w1) => (haveI := Inv.tab (P := Tryd.prog) hI; cntH w1 kc1 (hI.at (k := kc1) (List.mem_of_getElem? (i := 0) rfl)))
  refine TO.loud rfl (l_call ent22 (CallT.of_pure hk100) rfl ?_)
  clear hk100
  rintro vr O' ⟨N, rfl, rfl, rfl⟩
  refine TO.quiet (q_move rfl) (TO.quiet (q_extract (vs := _) rfl rfl) (TO.quiet (q_extract (vs := _) rfl rfl) (TO.quiet (q_assign rfl) ?_)))
  refine TO.quiet (q_assign rfl) ?_
  refine TO.sub (O' := [wlI 29 5 lb1 lc1 ws1, rowI wb2 wc2 5 1 (byts []), rowI wb1 wc1 5 1 (byts (List.replicate 78 0)), oI z2 25 (dC exB kB), dI 41 4 3 exL z9, oI z1 25 (dC exL z9)]) (by exact Sub.d (.k (.k (.k (.k (.k (.k .z))))))) ?_
  refine TO.nil (T.seq (T.region ?_))
  have hk104 := fun (w1 : World) (hI : Inv w [wlI 29 5 lb1 lc1 ws1, rowI wb2 wc2 5 1 (byts []), rowI wb1 wc1 5 1 (byts (List.replicate 78 0)), oI z2 25 (dC exB kB), dI 41 4 3 exL z9, oI z1 25 (dC exL z9)] w1) => (haveI := Inv.tab (P := Tryd.prog) hI; secondK w1)
  refine TO.loud rfl (l_call ent23 (CallT.of_pure hk104) rfl ?_)
  clear hk104
  rintro vr O' ⟨N, rfl, kc2, rfl, rfl⟩
  have hk105 := fun (w1 : World) (hI : Inv w [dI 41 4 3 ex2 kc2, wlI 29 5 lb1 lc1 ws1, rowI wb2 wc2 5 1 (byts []), rowI wb1 wc1 5 1 (byts (List.replicate 78 0)), oI z2 25 (dC exB kB), dI 41 4 3 exL z9, oI z1 25 (dC exL z9)] w1) => (haveI := Inv.tab (P := Tryd.prog) hI; cntM w1 kc2 (hI.at (k := kc2) (List.mem_of_getElem? (i := 0) rfl)))
  refine TO.loud rfl (l_call ent22 (CallT.of_pure hk105) rfl ?_)
  clear hk105
  rintro vr O' ⟨N, rfl, rfl, rfl⟩
  refine TO.quiet (q_move rfl) (TO.quiet (q_extract (vs := _) rfl rfl) (TO.quiet (q_extract (vs := _) rfl rfl) (TO.quiet (q_assign rfl) ?_)))
  refine TO.quiet (q_assign rfl) ?_
  refine TO.sub (O' := [wlI 29 5 lb1 lc1 ws1, rowI wb2 wc2 5 1 (byts []), rowI wb1 wc1 5 1 (byts (List.replicate 78 0)), oI z2 25 (dC exB kB), dI 41 4 3 exL z9, oI z1 25 (dC exL z9)]) (by exact Sub.d (.k (.k (.k (.k (.k (.k .z))))))) ?_
  refine TO.nil (T.seq (T.region ?_))
  refine TO.quiet (q_load_boxAgg 3 Tryd.underlying25 rfl inf25 rfl rfl rfl) ?_
  have hk110 := fun (w1 : World) (hI : Inv w [wlI 29 5 lb1 lc1 ws1, rowI wb2 wc2 5 1 (byts []), rowI wb1 wc1 5 1 (byts (List.replicate 78 0)), oI z2 25 (dC exB kB), dI 41 4 3 exL z9, oI z1 25 (dC exL z9)] w1) => (haveI := Inv.tab (P := Tryd.prog) hI; wdsB w1 kB (show At w1 exB kB from (by rw [hkB]; exact ⟨Sl.nil _ none, ⟨rfl, fun i r h9 => by simp [exB] at h9⟩, Sl.nil _ none⟩)))
  refine TO.loud rfl (l_call ent15 (CallT.of_pure hk110) rfl ?_)
  clear hk110
  rintro vr O' ⟨N, rfl, ws2, lb2, lc2, hl2, rfl, rfl⟩
  refine TO.quiet (q_move rfl) (TO.quiet (q_extract (vs := _) rfl rfl) (TO.quiet (q_extract (vs := _) rfl rfl) (TO.quiet (q_assign rfl) ?_)))
  refine TO.quiet (q_assign rfl) ?_
  refine TO.nil (T.seq (T.region ?_))
  have hk114 := fun (w1 : World) (hI : Inv w [wlI 29 5 lb2 lc2 ws2, wlI 29 5 lb1 lc1 ws1, rowI wb2 wc2 5 1 (byts []), rowI wb1 wc1 5 1 (byts (List.replicate 78 0)), oI z2 25 (dC exB kB), dI 41 4 3 exL z9, oI z1 25 (dC exL z9)] w1) => (haveI := Inv.tab (P := Tryd.prog) hI; secondK w1)
  refine TO.loud rfl (l_call ent23 (CallT.of_pure hk114) rfl ?_)
  clear hk114
  rintro vr O' ⟨N, rfl, kw0, rfl, rfl⟩
  have hk115 := fun (w1 : World) (hI : Inv w [dI 41 4 3 ex2 kw0, wlI 29 5 lb2 lc2 ws2, wlI 29 5 lb1 lc1 ws1, rowI wb2 wc2 5 1 (byts []), rowI wb1 wc1 5 1 (byts (List.replicate 78 0)), oI z2 25 (dC exB kB), dI 41 4 3 exL z9, oI z1 25 (dC exL z9)] w1) => (haveI := Inv.tab (P := Tryd.prog) hI; wdsG w1 kw0 (hI.at (k := kw0) (List.mem_of_getElem? (i := 0) rfl)))
  refine TO.loud rfl (l_call ent15 (CallT.of_pure hk115) rfl ?_)
  clear hk115
  rintro vr O' ⟨N, rfl, ws3, lb3, lc3, hl3, rfl, rfl⟩
  refine TO.quiet (q_move rfl) (TO.quiet (q_extract (vs := _) rfl rfl) (TO.quiet (q_extract (vs := _) rfl rfl) (TO.quiet (q_assign rfl) ?_)))
  refine TO.quiet (q_assign rfl) ?_
  refine TO.sub (O' := [wlI 29 5 lb3 lc3 ws3, wlI 29 5 lb2 lc2 ws2, wlI 29 5 lb1 lc1 ws1, rowI wb2 wc2 5 1 (byts []), rowI wb1 wc1 5 1 (byts (List.replicate 78 0)), oI z2 25 (dC exB kB), dI 41 4 3 exL z9, oI z1 25 (dC exL z9)]) (by exact Sub.k (.d (.k (.k (.k (.k (.k (.k (.k .z))))))))) ?_
  refine TO.nil (T.seq (T.region ?_))
  have hk119 := fun (w1 : World) (hI : Inv w [wlI 29 5 lb3 lc3 ws3, wlI 29 5 lb2 lc2 ws2, wlI 29 5 lb1 lc1 ws1, rowI wb2 wc2 5 1 (byts []), rowI wb1 wc1 5 1 (byts (List.replicate 78 0)), oI z2 25 (dC exB kB), dI 41 4 3 exL z9, oI z1 25 (dC exL z9)] w1) => (haveI := Inv.tab (P := Tryd.prog) hI; secondK w1)
  refine TO.loud rfl (l_call ent23 (CallT.of_pure hk119) rfl ?_)
  clear hk119
  rintro vr O' ⟨N, rfl, kw1, rfl, rfl⟩
  have hk120 := fun (w1 : World) (hI : Inv w [dI 41 4 3 ex2 kw1, wlI 29 5 lb3 lc3 ws3, wlI 29 5 lb2 lc2 ws2, wlI 29 5 lb1 lc1 ws1, rowI wb2 wc2 5 1 (byts []), rowI wb1 wc1 5 1 (byts (List.replicate 78 0)), oI z2 25 (dC exB kB), dI 41 4 3 exL z9, oI z1 25 (dC exL z9)] w1) => (haveI := Inv.tab (P := Tryd.prog) hI; wdsH w1 kw1 (hI.at (k := kw1) (List.mem_of_getElem? (i := 0) rfl)))
  refine TO.loud rfl (l_call ent15 (CallT.of_pure hk120) rfl ?_)
  clear hk120
  rintro vr O' ⟨N, rfl, ws4, lb4, lc4, hl4, rfl, rfl⟩
  refine TO.quiet (q_move rfl) (TO.quiet (q_extract (vs := _) rfl rfl) (TO.quiet (q_extract (vs := _) rfl rfl) (TO.quiet (q_assign rfl) ?_)))
  refine TO.quiet (q_assign rfl) ?_
  refine TO.sub (O' := [wlI 29 5 lb4 lc4 ws4, wlI 29 5 lb3 lc3 ws3, wlI 29 5 lb2 lc2 ws2, wlI 29 5 lb1 lc1 ws1, rowI wb2 wc2 5 1 (byts []), rowI wb1 wc1 5 1 (byts (List.replicate 78 0)), oI z2 25 (dC exB kB), dI 41 4 3 exL z9, oI z1 25 (dC exL z9)]) (by exact Sub.k (.d (.k (.k (.k (.k (.k (.k (.k (.k .z)))))))))) ?_
  refine TO.nil (T.seq (T.region ?_))
  have hk124 := fun (w1 : World) (hI : Inv w [wlI 29 5 lb4 lc4 ws4, wlI 29 5 lb3 lc3 ws3, wlI 29 5 lb2 lc2 ws2, wlI 29 5 lb1 lc1 ws1, rowI wb2 wc2 5 1 (byts []), rowI wb1 wc1 5 1 (byts (List.replicate 78 0)), oI z2 25 (dC exB kB), dI 41 4 3 exL z9, oI z1 25 (dC exL z9)] w1) => (haveI := Inv.tab (P := Tryd.prog) hI; secondK w1)
  refine TO.loud rfl (l_call ent23 (CallT.of_pure hk124) rfl ?_)
  clear hk124
  rintro vr O' ⟨N, rfl, kw2, rfl, rfl⟩
  have hk125 := fun (w1 : World) (hI : Inv w [dI 41 4 3 ex2 kw2, wlI 29 5 lb4 lc4 ws4, wlI 29 5 lb3 lc3 ws3, wlI 29 5 lb2 lc2 ws2, wlI 29 5 lb1 lc1 ws1, rowI wb2 wc2 5 1 (byts []), rowI wb1 wc1 5 1 (byts (List.replicate 78 0)), oI z2 25 (dC exB kB), dI 41 4 3 exL z9, oI z1 25 (dC exL z9)] w1) => (haveI := Inv.tab (P := Tryd.prog) hI; wdsM w1 kw2 (hI.at (k := kw2) (List.mem_of_getElem? (i := 0) rfl)))
  refine TO.loud rfl (l_call ent15 (CallT.of_pure hk125) rfl ?_)
  clear hk125
  rintro vr O' ⟨N, rfl, ws5, lb5, lc5, hl5, rfl, rfl⟩
  refine TO.quiet (q_move rfl) (TO.quiet (q_extract (vs := _) rfl rfl) (TO.quiet (q_extract (vs := _) rfl rfl) (TO.quiet (q_assign rfl) ?_)))
  refine TO.quiet (q_assign rfl) ?_
  refine TO.sub (O' := [wlI 29 5 lb5 lc5 ws5, wlI 29 5 lb4 lc4 ws4, wlI 29 5 lb3 lc3 ws3, wlI 29 5 lb2 lc2 ws2, wlI 29 5 lb1 lc1 ws1, rowI wb2 wc2 5 1 (byts []), rowI wb1 wc1 5 1 (byts (List.replicate 78 0)), oI z2 25 (dC exB kB), dI 41 4 3 exL z9, oI z1 25 (dC exL z9)]) (by exact Sub.k (.d (.k (.k (.k (.k (.k (.k (.k (.k (.k .z))))))))))) ?_
  refine TO.nil (T.seq (T.region ?_))
  have hk129 := fun (w1 : World) (hI : Inv w [wlI 29 5 lb5 lc5 ws5, wlI 29 5 lb4 lc4 ws4, wlI 29 5 lb3 lc3 ws3, wlI 29 5 lb2 lc2 ws2, wlI 29 5 lb1 lc1 ws1, rowI wb2 wc2 5 1 (byts []), rowI wb1 wc1 5 1 (byts (List.replicate 78 0)), oI z2 25 (dC exB kB), dI 41 4 3 exL z9, oI z1 25 (dC exL z9)] w1) => (haveI := Inv.tab (P := Tryd.prog) hI; secondK w1)
  refine TO.loud rfl (l_call ent23 (CallT.of_pure hk129) rfl ?_)
  clear hk129
  rintro vr O' ⟨N, rfl, kw3, rfl, rfl⟩
  have hk130 := fun (w1 : World) (hI : Inv w [dI 41 4 3 ex2 kw3, wlI 29 5 lb5 lc5 ws5, wlI 29 5 lb4 lc4 ws4, wlI 29 5 lb3 lc3 ws3, wlI 29 5 lb2 lc2 ws2, wlI 29 5 lb1 lc1 ws1, rowI wb2 wc2 5 1 (byts []), rowI wb1 wc1 5 1 (byts (List.replicate 78 0)), oI z2 25 (dC exB kB), dI 41 4 3 exL z9, oI z1 25 (dC exL z9)] w1) => (haveI := Inv.tab (P := Tryd.prog) hI; wdsZ w1 kw3 (hI.at (k := kw3) (List.mem_of_getElem? (i := 0) rfl)))
  refine TO.loud rfl (l_call ent15 (CallT.of_pure hk130) rfl ?_)
  clear hk130
  rintro vr O' ⟨N, rfl, ws6, lb6, lc6, hl6, rfl, rfl⟩
  refine TO.quiet (q_move rfl) (TO.quiet (q_extract (vs := _) rfl rfl) (TO.quiet (q_extract (vs := _) rfl rfl) (TO.quiet (q_assign rfl) ?_)))
  refine TO.quiet (q_assign rfl) ?_
  refine TO.sub (O' := [wlI 29 5 lb6 lc6 ws6, wlI 29 5 lb5 lc5 ws5, wlI 29 5 lb4 lc4 ws4, wlI 29 5 lb3 lc3 ws3, wlI 29 5 lb2 lc2 ws2, wlI 29 5 lb1 lc1 ws1, rowI wb2 wc2 5 1 (byts []), rowI wb1 wc1 5 1 (byts (List.replicate 78 0)), oI z2 25 (dC exB kB), dI 41 4 3 exL z9, oI z1 25 (dC exL z9)]) (by exact Sub.k (.d (.k (.k (.k (.k (.k (.k (.k (.k (.k (.k .z)))))))))))) ?_
  refine TO.nil (T.seq (T.region ?_))
  refine TO.quiet (q_load_boxAgg 8 Tryd.underlying25 rfl inf25 rfl rfl rfl) ?_
  have hk135 := fun (w1 : World) (hI : Inv w [wlI 29 5 lb6 lc6 ws6, wlI 29 5 lb5 lc5 ws5, wlI 29 5 lb4 lc4 ws4, wlI 29 5 lb3 lc3 ws3, wlI 29 5 lb2 lc2 ws2, wlI 29 5 lb1 lc1 ws1, rowI wb2 wc2 5 1 (byts []), rowI wb1 wc1 5 1 (byts (List.replicate 78 0)), oI z2 25 (dC exB kB), dI 41 4 3 exL z9, oI z1 25 (dC exL z9)] w1) => (haveI := Inv.tab (P := Tryd.prog) hI; nthB w1 kB (show At w1 exB kB from (by rw [hkB]; exact ⟨Sl.nil _ none, ⟨rfl, fun i r h9 => by simp [exB] at h9⟩, Sl.nil _ none⟩)))
  refine TO.loud rfl (l_call ent14 (CallT.of_pure hk135) rfl ?_)
  clear hk135
  rintro vr O' ⟨N, rfl, wb3, wc3, rfl, rfl⟩
  refine TO.quiet (q_move rfl) (TO.quiet (q_extract (vs := _) rfl rfl) (TO.quiet (q_extract (vs := _) rfl rfl) (TO.quiet (q_extract (vs := _) rfl rfl) ?_)))
  refine TO.quiet (q_assign rfl) (TO.quiet (q_assign rfl) (TO.quiet (q_assign rfl) ?_))
  refine TO.nil (T.seq (T.region ?_))
  have hk140 := fun (w1 : World) (hI : Inv w [rowI wb3 wc3 5 1 (byts []), wlI 29 5 lb6 lc6 ws6, wlI 29 5 lb5 lc5 ws5, wlI 29 5 lb4 lc4 ws4, wlI 29 5 lb3 lc3 ws3, wlI 29 5 lb2 lc2 ws2, wlI 29 5 lb1 lc1 ws1, rowI wb2 wc2 5 1 (byts []), rowI wb1 wc1 5 1 (byts (List.replicate 78 0)), oI z2 25 (dC exB kB), dI 41 4 3 exL z9, oI z1 25 (dC exL z9)] w1) => (haveI := Inv.tab (P := Tryd.prog) hI; secondK w1)
  refine TO.loud rfl (l_call ent23 (CallT.of_pure hk140) rfl ?_)
  clear hk140
  rintro vr O' ⟨N, rfl, kn1, rfl, rfl⟩
  have hk141 := fun (w1 : World) (hI : Inv w [dI 41 4 3 ex2 kn1, rowI wb3 wc3 5 1 (byts []), wlI 29 5 lb6 lc6 ws6, wlI 29 5 lb5 lc5 ws5, wlI 29 5 lb4 lc4 ws4, wlI 29 5 lb3 lc3 ws3, wlI 29 5 lb2 lc2 ws2, wlI 29 5 lb1 lc1 ws1, rowI wb2 wc2 5 1 (byts []), rowI wb1 wc1 5 1 (byts (List.replicate 78 0)), oI z2 25 (dC exB kB), dI 41 4 3 exL z9, oI z1 25 (dC exL z9)] w1) => (haveI := Inv.tab (P := Tryd.prog) hI; nthG w1 kn1 (hI.at (k := kn1) (List.mem_of_getElem? (i := 0) rfl)))
  refine TO.loud rfl (l_call ent14 (CallT.of_pure hk141) rfl ?_)
  clear hk141
  rintro vr O' ⟨N, rfl, wb4, wc4, rfl, rfl⟩
  refine TO.quiet (q_move rfl) (TO.quiet (q_extract (vs := _) rfl rfl) (TO.quiet (q_extract (vs := _) rfl rfl) (TO.quiet (q_extract (vs := _) rfl rfl) ?_)))
  refine TO.quiet (q_assign rfl) (TO.quiet (q_assign rfl) (TO.quiet (q_assign rfl) ?_))
  refine TO.sub (O' := [rowI wb4 wc4 5 1 (byts []), rowI wb3 wc3 5 1 (byts []), wlI 29 5 lb6 lc6 ws6, wlI 29 5 lb5 lc5 ws5, wlI 29 5 lb4 lc4 ws4, wlI 29 5 lb3 lc3 ws3, wlI 29 5 lb2 lc2 ws2, wlI 29 5 lb1 lc1 ws1, rowI wb2 wc2 5 1 (byts []), rowI wb1 wc1 5 1 (byts (List.replicate 78 0)), oI z2 25 (dC exB kB), dI 41 4 3 exL z9, oI z1 25 (dC exL z9)]) (by exact Sub.k (.d (.k (.k (.k (.k (.k (.k (.k (.k (.k (.k (.k (.k .z)))))))))))))) ?_
  refine TO.nil (T.seq (T.region ?_))
  have hk146 := fun (w1 : World) (hI : Inv w [rowI wb4 wc4 5 1 (byts []), rowI wb3 wc3 5 1 (byts []), wlI 29 5 lb6 lc6 ws6, wlI 29 5 lb5 lc5 ws5, wlI 29 5 lb4 lc4 ws4, wlI 29 5 lb3 lc3 ws3, wlI 29 5 lb2 lc2 ws2, wlI 29 5 lb1 lc1 ws1, rowI wb2 wc2 5 1 (byts []), rowI wb1 wc1 5 1 (byts (List.replicate 78 0)), oI z2 25 (dC exB kB), dI 41 4 3 exL z9, oI z1 25 (dC exL z9)] w1) => (haveI := Inv.tab (P := Tryd.prog) hI; secondK w1)
  refine TO.loud rfl (l_call ent23 (CallT.of_pure hk146) rfl ?_)
  clear hk146
  rintro vr O' ⟨N, rfl, kn2, rfl, rfl⟩
  have hk147 := fun (w1 : World) (hI : Inv w [dI 41 4 3 ex2 kn2, rowI wb4 wc4 5 1 (byts []), rowI wb3 wc3 5 1 (byts []), wlI 29 5 lb6 lc6 ws6, wlI 29 5 lb5 lc5 ws5, wlI 29 5 lb4 lc4 ws4, wlI 29 5 lb3 lc3 ws3, wlI 29 5 lb2 lc2 ws2, wlI 29 5 lb1 lc1 ws1, rowI wb2 wc2 5 1 (byts []), rowI wb1 wc1 5 1 (byts (List.replicate 78 0)), oI z2 25 (dC exB kB), dI 41 4 3 exL z9, oI z1 25 (dC exL z9)] w1) => (haveI := Inv.tab (P := Tryd.prog) hI; nthH w1 kn2 (hI.at (k := kn2) (List.mem_of_getElem? (i := 0) rfl)))
  refine TO.loud rfl (l_call ent14 (CallT.of_pure hk147) rfl ?_)
  clear hk147
  rintro vr O' ⟨N, rfl, wb5, wc5, xs5, rfl, rfl⟩
  refine TO.quiet (q_move rfl) (TO.quiet (q_extract (vs := _) rfl rfl) (TO.quiet (q_extract (vs := _) rfl rfl) (TO.quiet (q_extract (vs := _) rfl rfl) ?_)))
  refine TO.quiet (q_assign rfl) (TO.quiet (q_assign rfl) (TO.quiet (q_assign rfl) ?_))
  refine TO.sub (O' := [rowI wb5 wc5 5 1 (byts xs5), rowI wb4 wc4 5 1 (byts []), rowI wb3 wc3 5 1 (byts []), wlI 29 5 lb6 lc6 ws6, wlI 29 5 lb5 lc5 ws5, wlI 29 5 lb4 lc4 ws4, wlI 29 5 lb3 lc3 ws3, wlI 29 5 lb2 lc2 ws2, wlI 29 5 lb1 lc1 ws1, rowI wb2 wc2 5 1 (byts []), rowI wb1 wc1 5 1 (byts (List.replicate 78 0)), oI z2 25 (dC exB kB), dI 41 4 3 exL z9, oI z1 25 (dC exL z9)]) (by exact Sub.k (.d (.k (.k (.k (.k (.k (.k (.k (.k (.k (.k (.k (.k (.k .z))))))))))))))) ?_
  refine TO.nil (T.seq (T.region ?_))
  refine TO.quiet (q_move rfl) (TO.quiet (q_move rfl) ?_)
  refine TO.guarded rfl rfl rfl (LT.of_quiet rfl rfl (q_move rfl) ?_)
  refine TO.guarded rfl rfl rfl (LT.of_quiet rfl rfl (q_len Tryd.underlying29 rfl) ?_)
  refine TO.guarded rfl rfl rfl (LT.of_quiet rfl rfl (QT.toB (q_eql rfl rfl) (decide_eq_true rfl)) ?_)
  refine TO.quiet (q_pick1 rfl rfl) (TO.quiet (q_move rfl) ?_)
  refine TO.guarded rfl rfl rfl (LT.of_quiet rfl rfl (q_move rfl) ?_)
  refine TO.guarded rfl rfl rfl (LT.of_quiet rfl rfl (QT.toB (q_eql rfl rfl) (decide_eq_true rfl)) ?_)
  refine TO.quiet (q_pick1 rfl rfl) (TO.quiet (q_move rfl) ?_)
  refine TO.guarded rfl rfl rfl (LT.of_quiet rfl rfl (q_move rfl) ?_)
  refine TO.guarded rfl rfl rfl (LT.of_quiet rfl rfl (q_not rfl) ?_)
  refine TO.quiet (q_pick1 rfl rfl) (TO.quiet (q_move rfl) ?_)
  refine TO.guarded rfl rfl rfl (LT.of_quiet rfl rfl (q_move rfl) ?_)
  refine TO.guarded rfl rfl rfl (LT.of_quiet rfl rfl (QT.toB (q_eql rfl rfl) (decide_eq_true rfl)) ?_)
  refine TO.quiet (q_pick1 rfl rfl) (TO.quiet (q_move rfl) ?_)
  refine TO.guarded rfl rfl rfl (LT.of_quiet rfl rfl (q_move rfl) ?_)
  refine TO.guarded rfl rfl rfl (LT.of_quiet rfl rfl (q_len Tryd.underlying33 rfl) ?_)
  refine TO.guarded rfl rfl rfl (LT.of_quiet rfl rfl (QT.toB (q_eql rfl rfl) (decide_eq_true (by rw [hl1]; rfl))) ?_)
  refine TO.quiet (q_pick1 rfl rfl) (TO.quiet (q_move rfl) ?_)
  refine TO.guarded rfl rfl rfl (LT.of_quiet rfl rfl (q_move rfl) ?_)
  refine TO.guarded rfl rfl rfl (LT.of_quiet rfl rfl (QT.toB (q_eql rfl rfl) (decide_eq_true rfl)) ?_)
  refine TO.quiet (q_pick1 rfl rfl) (TO.quiet (q_move rfl) ?_)
  refine TO.guarded rfl rfl rfl (LT.of_quiet rfl rfl (q_move rfl) ?_)
  refine TO.quiet (q_pick1 rfl rfl) (TO.quiet (q_move rfl) ?_)
  refine TO.guarded rfl rfl rfl (LT.of_quiet rfl rfl (q_move rfl) ?_)
  refine TO.guarded rfl rfl rfl (LT.of_quiet rfl rfl (QT.toB (q_eql rfl rfl) (decide_eq_true rfl)) ?_)
  refine TO.quiet (q_pick1 rfl rfl) (TO.quiet (q_move rfl) ?_)
  refine TO.guarded rfl rfl rfl (LT.of_quiet rfl rfl (q_move rfl) ?_)
  refine TO.guarded rfl rfl rfl (LT.of_quiet rfl rfl (QT.toB (q_eql rfl rfl) (decide_eq_true rfl)) ?_)
  refine TO.quiet (q_pick1 rfl rfl) (TO.quiet (q_move rfl) ?_)
  refine TO.guarded rfl rfl rfl (LT.of_quiet rfl rfl (q_move rfl) ?_)
  refine TO.guarded rfl rfl rfl (LT.of_quiet rfl rfl (QT.toB (q_eql rfl rfl) (decide_eq_true rfl)) ?_)
  refine TO.quiet (q_pick1 rfl rfl) (TO.quiet (q_move rfl) ?_)
  refine TO.guarded rfl rfl rfl (LT.of_quiet rfl rfl (q_move rfl) ?_)
  refine TO.guarded rfl rfl rfl (LT.of_quiet rfl rfl (QT.toB (q_eql rfl rfl) (decide_eq_true rfl)) ?_)
  refine TO.quiet (q_pick1 rfl rfl) (TO.quiet (q_move rfl) ?_)
  refine TO.guarded rfl rfl rfl (LT.of_quiet rfl rfl (q_move rfl) ?_)
  refine TO.guarded rfl rfl rfl (LT.of_quiet rfl rfl (QT.toB (q_eql rfl rfl) (decide_eq_true rfl)) ?_)
  refine TO.quiet (q_pick1 rfl rfl) (TO.quiet (q_move rfl) ?_)
  refine TO.guarded rfl rfl rfl (LT.of_quiet rfl rfl (q_move rfl) ?_)
  refine TO.guarded rfl rfl rfl (LT.of_quiet rfl rfl (QT.toB (q_eql rfl rfl) (decide_eq_true rfl)) ?_)
  refine TO.quiet (q_pick1 rfl rfl) (TO.quiet (q_move rfl) ?_)
  refine TO.guarded rfl rfl rfl (LT.of_quiet rfl rfl (q_move rfl) ?_)
  refine TO.guarded rfl rfl rfl (LT.of_quiet rfl rfl (QT.toB (q_eql rfl rfl) (decide_eq_true rfl)) ?_)
  refine TO.quiet (q_pick1 rfl rfl) (TO.quiet (q_move rfl) ?_)
  refine TO.guarded rfl rfl rfl (LT.of_quiet rfl rfl (q_move rfl) ?_)
  refine TO.guarded rfl rfl rfl (LT.of_quiet rfl rfl (QT.toB (q_eql rfl rfl) (decide_eq_true rfl)) ?_)
  refine TO.quiet (q_pick1 rfl rfl) (TO.quiet (q_move rfl) ?_)
  refine TO.guarded rfl rfl rfl (LT.of_quiet rfl rfl (q_move rfl) ?_)
  refine TO.guarded rfl rfl rfl (LT.of_quiet rfl rfl (QT.toB (q_eql rfl rfl) (decide_eq_true rfl)) ?_)
  refine TO.quiet (q_pick1 rfl rfl) (TO.quiet (q_move rfl) ?_)
  refine TO.guarded rfl rfl rfl (LT.of_quiet rfl rfl (q_move rfl) ?_)
  refine TO.guarded rfl rfl rfl (LT.of_quiet rfl rfl (q_len Tryd.underlying33 rfl) ?_)
  refine TO.guarded rfl rfl rfl (LT.of_quiet rfl rfl (QT.toB (q_eql rfl rfl) (decide_eq_true (by rw [hl5]; rfl))) ?_)
  refine TO.quiet (q_pick1 rfl rfl) (TO.quiet (q_move rfl) ?_)
  refine TO.guarded rfl rfl rfl (LT.of_quiet rfl rfl (q_move rfl) ?_)
  refine TO.guarded rfl rfl rfl (LT.of_quiet rfl rfl (QT.toB (q_eql rfl rfl) (decide_eq_true rfl)) ?_)
  refine TO.quiet (q_pick1 rfl rfl) (TO.quiet (q_move rfl) ?_)
  refine TO.guarded rfl rfl rfl (LT.of_quiet rfl rfl (q_move rfl) ?_)
  refine TO.guarded rfl rfl rfl (LT.of_quiet rfl rfl (q_len Tryd.underlying33 rfl) ?_)
  refine TO.guarded rfl rfl rfl (LT.of_quiet rfl rfl (QT.toB (q_eql rfl rfl) (decide_eq_true (by rw [hl6]; rfl))) ?_)
  refine TO.quiet (q_pick1 rfl rfl) (TO.quiet (q_move rfl) ?_)
  refine TO.guarded rfl rfl rfl (LT.of_quiet rfl rfl (q_move rfl) ?_)
  refine TO.guarded rfl rfl rfl (LT.of_quiet rfl rfl (QT.toB (q_eql rfl rfl) (decide_eq_true rfl)) ?_)
  refine TO.quiet (q_pick1 rfl rfl) (TO.quiet (q_move rfl) ?_)
  refine TO.guarded rfl rfl rfl (LT.of_quiet rfl rfl (q_move rfl) ?_)
  refine TO.guarded rfl rfl rfl (LT.of_quiet rfl rfl (QT.toB (q_eql rfl rfl) (decide_eq_true rfl)) ?_)
  refine TO.quiet (q_pick1 rfl rfl) (TO.quiet (q_move rfl) ?_)
  refine TO.guarded rfl rfl rfl (LT.of_quiet rfl rfl (q_move rfl) ?_)
  refine TO.guarded rfl rfl rfl (LT.of_quiet rfl rfl (QT.toB (q_eql rfl rfl) (decide_eq_true rfl)) ?_)
  refine TO.quiet (q_pick1 rfl rfl) (TO.quiet (q_move rfl) ?_)
  refine TO.guarded rfl rfl rfl (LT.of_quiet rfl rfl (q_move rfl) ?_)
  refine TO.quiet (q_pick1 rfl rfl) (TO.quiet (q_move rfl) ?_)
  refine TO.guarded rfl rfl rfl (LT.of_quiet rfl rfl (q_move rfl) ?_)
  refine TO.guarded rfl rfl rfl (LT.of_quiet rfl rfl (QT.toB (q_eql rfl rfl) (decide_eq_true rfl)) ?_)
  refine TO.quiet (q_pick1 rfl rfl) (TO.quiet (q_move rfl) ?_)
  have hk251 := fun (w1 : World) (hI : Inv w [rowI wb5 wc5 5 1 (byts xs5), rowI wb4 wc4 5 1 (byts []), rowI wb3 wc3 5 1 (byts []), wlI 29 5 lb6 lc6 ws6, wlI 29 5 lb5 lc5 ws5, wlI 29 5 lb4 lc4 ws4, wlI 29 5 lb3 lc3 ws3, wlI 29 5 lb2 lc2 ws2, wlI 29 5 lb1 lc1 ws1, rowI wb2 wc2 5 1 (byts []), rowI wb1 wc1 5 1 (byts (List.replicate 78 0)), oI z2 25 (dC exB kB), dI 41 4 3 exL z9, oI z1 25 (dC exL z9)] w1) => (haveI := Inv.tab (P := Tryd.prog) hI; secondK w1)
  refine TO.guarded rfl rfl rfl (l_call ent23 (CallT.of_pure hk251) rfl ?_)
  clear hk251
  rintro vr O' ⟨N, rfl, kn3, rfl, rfl⟩
  have hk252 := fun (w1 : World) (hI : Inv w [dI 41 4 3 ex2 kn3, rowI wb5 wc5 5 1 (byts xs5), rowI wb4 wc4 5 1 (byts []), rowI wb3 wc3 5 1 (byts []), wlI 29 5 lb6 lc6 ws6, wlI 29 5 lb5 lc5 ws5, wlI 29 5 lb4 lc4 ws4, wlI 29 5 lb3 lc3 ws3, wlI 29 5 lb2 lc2 ws2, wlI 29 5 lb1 lc1 ws1, rowI wb2 wc2 5 1 (byts []), rowI wb1 wc1 5 1 (byts (List.replicate 78 0)), oI z2 25 (dC exB kB), dI 41 4 3 exL z9, oI z1 25 (dC exL z9)] w1) => (haveI := Inv.tab (P := Tryd.prog) hI; (show PureT _ _ _ _ _ from by
      have h9 := refCheck w1 ex2 kn3.nb kn3.fb kn3.nc kn3.fc (vals kn3.qs) (hI.at (k := kn3) (List.mem_of_getElem? (i := 0) rfl)) bd_ex2.1 bd_ex2.2.1 bd_ex2.2.2
      rw [ex2_ok] at h9
      exact h9))
  refine TO.guarded rfl rfl rfl (l_call ent24 (CallT.of_pure hk252) rfl ?_)
  clear hk252
  rintro vr O' ⟨N, rfl, rfl, rfl⟩
  refine TO.guarded rfl rfl rfl (LT.of_quiet rfl rfl (QT.toB (q_eql rfl rfl) (decide_eq_true rfl)) ?_)
  refine TO.quiet (q_pick1 rfl rfl) (TO.quiet (q_assign rfl) ?_)
  refine TO.nil (T.ret (Res.drop ?_))
  refine Res.one (.bool true) Tryd.results4 rfl ?_
  exact ⟨[], Sub.z, rfl, rfl⟩
end Go.Proofs.YtnmfefmhfkhihaaDoor


/- Contracts of functions of the program (W6, Sho, WtF, Run, W4, Shw, Con, Inz, Ct, Csm, Cml, Cz, WtU, C1, W7, Awk, Over, WtE): what each call answers and that it leaves memory as it was. Conditions: those each theorem names. -/
import Derived.Test.YtnmfefmhfkhihaaDoorCoreW
import Derived.Test.YtnmfefmhfkhihaaDoorW5
import Derived.Test.YtnmfefmhfkhihaaDoorMin
set_option linter.unusedSectionVars false
set_option linter.unusedSimpArgs false
set_option linter.unusedVariables false
set_option linter.unnecessarySimpa false
namespace Go.Proofs.YtnmfefmhfkhihaaDoor
open Go.Lx Go.RowKit
set_option linter.unusedVariables false
set_option linter.unusedSimpArgs false
set_option maxHeartbeats 1000000 in
set_option maxRecDepth 20000 in
theorem wdsBad (w : World) [Tab Tryd.prog w] (a : DFA) (k : DK) (ha : At w a k) (haa : a.next.length < 9223372036854775807) (haar : ∀ r ∈ a.next, r.length < 9223372036854775807) (haaf : a.final.length < 9223372036854775807) (he : checkD a ≠ 0) (m : Int) :
    PureT Tryd.prog 15 [dV a k, .int .i64 m] w fun v N => v = .tuple #[.slice none 0 0, .int .i64 (checkD a : Int)] ∧ N = [] := by
  refine CallT.enter Tryd.func15 rfl Tryd.ntmps15 rfl ?_
  refine T.seq (T.region ?_)
  refine TO.loud rfl (l_box (v := (dV a k)) (cs := (dC a k)) rfl rfl (fun bx1 => ?_))
  refine TO.loud rfl (l_box (v := .int .i64 m) (cs := [(.int .i64 m)]) rfl rfl (fun bx2 => ?_))
  refine TO.loud rfl (l_alloc inf33 rfl (fun bx3 => ?_))
  refine TO.quiet (q_assign rfl) ?_
  refine TO.nil (T.seq (T.seq (T.region ?_)))
  refine TO.quiet (q_load_boxAgg 2 Tryd.underlying25 rfl inf25 rfl rfl rfl) ?_
  have hk11 := fun (w1 : World) (hI : Inv w [oI bx3 33 [(.slice none 0 0)], oI bx2 3 [(.int .i64 m)], oI bx1 25 (dC a k)] w1) => (haveI := Inv.tab (P := Tryd.prog) hI; subsetCheck w1 a k.nb k.fb k.nc k.fc (vals k.qs) (hI.dfa ha) haa haar haaf)
  refine TO.loud rfl (l_call ent33 (CallT.of_pure hk11) rfl ?_)
  clear hk11
  rintro vr O' ⟨N, rfl, rfl, rfl⟩
  refine TO.quiet (q_assign rfl) ?_
  refine TO.nil (T.seq (T.region ?_))
  refine TO.quiet (q_move rfl) (TO.quiet (QT.toB (q_neq rfl rfl) (decide_eq_true (by omega))) ?_)
  refine TO.nil ?_
  refine T.cond1 rfl ?_
  refine T.seq (T.region ?_)
  refine TO.quiet (q_move rfl) ?_
  refine TO.loud rfl (l_store_box (v := (.slice none 0 0)) (vs := [(.slice none 0 0)]) 0 inf33 rfl rfl rfl rfl rfl rfl (by simp [putL]) ?_)
  refine TO.quiet (q_assign rfl) ?_
  refine TO.nil (T.ret (Res.drop ?_))
  refine Res.cell1t (i := 0) (.int .i64 (checkD a : Int)) Tryd.results15 Tryd.underlying33 rfl rfl rfl rfl ?_
  exact ⟨[], Sub.z, rfl, rfl⟩
set_option maxHeartbeats 1000000 in
set_option maxRecDepth 20000 in
theorem wdsLo (w : World) [Tab Tryd.prog w] (a : DFA) (k : DK) (ha : At w a k) (hv : Valid a) (m : Int) (hn : m < 0) :
    PureT Tryd.prog 15 [dV a k, .int .i64 m] w fun v N => v = .tuple #[.slice none 0 0, .int .i64 1] ∧ N = [] := by
  refine CallT.enter Tryd.func15 rfl Tryd.ntmps15 rfl ?_
  have he := checkD_zero.2 hv
  have h4 := hv.n4
  have hww : letN a ≤ 64 := hv.width
  have hfin := hv.fin
  have hvl := ha.rows.1
  have hsl := start_lt hv.toVal
  have hs0 := hv.s0
  have hs1 := hv.s1
  refine T.seq (T.region ?_)
  refine TO.loud rfl (l_box (v := (dV a k)) (cs := (dC a k)) rfl rfl (fun bx1 => ?_))
  refine TO.loud rfl (l_box (v := .int .i64 m) (cs := [(.int .i64 m)]) rfl rfl (fun bx2 => ?_))
  refine TO.loud rfl (l_alloc inf33 rfl (fun bx3 => ?_))
  refine TO.quiet (q_assign rfl) ?_
  refine TO.nil (T.seq (T.seq (T.region ?_)))
  refine TO.quiet (q_load_boxAgg 2 Tryd.underlying25 rfl inf25 rfl rfl rfl) ?_
  have hk11 := fun (w1 : World) (hI : Inv w [oI bx3 33 [(.slice none 0 0)], oI bx2 3 [(.int .i64 m)], oI bx1 25 (dC a k)] w1) => (haveI := Inv.tab (P := Tryd.prog) hI; (show PureT _ _ _ _ _ from by
      have h9 := subsetCheck w1 a k.nb k.fb k.nc k.fc (vals k.qs) (hI.dfa ha) (by omega) hv.bound (by omega)
      rw [he] at h9
      exact h9))
  refine TO.loud rfl (l_call ent33 (CallT.of_pure hk11) rfl ?_)
  clear hk11
  rintro vr O' ⟨N, rfl, rfl, rfl⟩
  refine TO.quiet (q_assign rfl) ?_
  refine TO.nil (T.seq (T.region ?_))
  refine TO.quiet (q_move rfl) (TO.quiet (q_neq rfl rfl) ?_)
  refine TO.nil ?_
  refine T.cond0 rfl ?_
  refine T.skip (T.seq (T.seq (T.region ?_)))
  refine TO.quiet (q_load_box 1 Tryd.underlying3 rfl rfl rfl rfl) (TO.quiet (QT.toB (q_lss rfl rfl) (decide_eq_true (by omega))) (TO.quiet (q_move rfl) ?_))
  refine TO.passed rfl rfl ?_
  refine TO.passed rfl rfl ?_
  refine TO.quiet (q_pick1 rfl rfl) ?_
  refine TO.nil ?_
  refine T.cond1 rfl ?_
  refine T.seq (T.region ?_)
  refine TO.loud rfl (l_store_box (v := (.slice none 0 0)) (vs := [(.slice none 0 0)]) 0 inf33 rfl rfl rfl rfl rfl rfl (by simp [putL]) ?_)
  refine TO.quiet (q_assign rfl) ?_
  refine TO.nil (T.ret (Res.drop ?_))
  refine Res.cell1t (i := 0) (.int .i64 1) Tryd.results15 Tryd.underlying33 rfl rfl rfl rfl ?_
  exact ⟨[], Sub.z, rfl, rfl⟩
set_option maxHeartbeats 1000000 in
set_option maxRecDepth 20000 in
theorem wdsHi (w : World) [Tab Tryd.prog w] (a : DFA) (k : DK) (ha : At w a k) (hv : Valid a) (m : Int) (hn : 256 < m) :
    PureT Tryd.prog 15 [dV a k, .int .i64 m] w fun v N => v = .tuple #[.slice none 0 0, .int .i64 1] ∧ N = [] := by
  refine CallT.enter Tryd.func15 rfl Tryd.ntmps15 rfl ?_
  have he := checkD_zero.2 hv
  have h4 := hv.n4
  have hww : letN a ≤ 64 := hv.width
  have hfin := hv.fin
  have hvl := ha.rows.1
  have hsl := start_lt hv.toVal
  have hs0 := hv.s0
  have hs1 := hv.s1
  refine T.seq (T.region ?_)
  refine TO.loud rfl (l_box (v := (dV a k)) (cs := (dC a k)) rfl rfl (fun bx1 => ?_))
  refine TO.loud rfl (l_box (v := .int .i64 m) (cs := [(.int .i64 m)]) rfl rfl (fun bx2 => ?_))
  refine TO.loud rfl (l_alloc inf33 rfl (fun bx3 => ?_))
  refine TO.quiet (q_assign rfl) ?_
  refine TO.nil (T.seq (T.seq (T.region ?_)))
  refine TO.quiet (q_load_boxAgg 2 Tryd.underlying25 rfl inf25 rfl rfl rfl) ?_
  have hk11 := fun (w1 : World) (hI : Inv w [oI bx3 33 [(.slice none 0 0)], oI bx2 3 [(.int .i64 m)], oI bx1 25 (dC a k)] w1) => (haveI := Inv.tab (P := Tryd.prog) hI; (show PureT _ _ _ _ _ from by
      have h9 := subsetCheck w1 a k.nb k.fb k.nc k.fc (vals k.qs) (hI.dfa ha) (by omega) hv.bound (by omega)
      rw [he] at h9
      exact h9))
  refine TO.loud rfl (l_call ent33 (CallT.of_pure hk11) rfl ?_)
  clear hk11
  rintro vr O' ⟨N, rfl, rfl, rfl⟩
  refine TO.quiet (q_assign rfl) ?_
  refine TO.nil (T.seq (T.region ?_))
  refine TO.quiet (q_move rfl) (TO.quiet (q_neq rfl rfl) ?_)
  refine TO.nil ?_
  refine T.cond0 rfl ?_
  refine T.skip (T.seq (T.seq (T.region ?_)))
  refine TO.quiet (q_load_box 1 Tryd.underlying3 rfl rfl rfl rfl) (TO.quiet (QT.toB (q_lss rfl rfl) (decide_eq_false (by omega))) (TO.quiet (q_move rfl) ?_))
  refine TO.guarded rfl rfl rfl (LT.of_quiet rfl rfl (q_load_box 1 Tryd.underlying3 rfl rfl rfl rfl) ?_)
  refine TO.guarded rfl rfl rfl (LT.of_quiet rfl rfl (QT.toB (q_gtr rfl rfl) (decide_eq_true (by omega))) ?_)
  refine TO.quiet (q_pick0 rfl rfl) ?_
  refine TO.nil ?_
  refine T.cond1 rfl ?_
  refine T.seq (T.region ?_)
  refine TO.loud rfl (l_store_box (v := (.slice none 0 0)) (vs := [(.slice none 0 0)]) 0 inf33 rfl rfl rfl rfl rfl rfl (by simp [putL]) ?_)
  refine TO.quiet (q_assign rfl) ?_
  refine TO.nil (T.ret (Res.drop ?_))
  refine Res.cell1t (i := 0) (.int .i64 1) Tryd.results15 Tryd.underlying33 rfl rfl rfl rfl ?_
  exact ⟨[], Sub.z, rfl, rfl⟩
set_option maxHeartbeats 8000000 in
set_option maxRecDepth 20000 in
theorem wdsN (w : World) [Tab Tryd.prog w] (a : DFA) (k : DK) (ha : At w a k) (hv : Valid a) (m : Nat) (hm : m ≤ 256) :
    PureT Tryd.prog 15 [dV a k, .int .i64 ((m : Nat) : Int)] w fun v N => ∃ ws lb lc, wnums ws = (allW a 65).take m ∧ v = .tuple #[.slice lb ws.length lc, .int .i64 0] ∧ N = [rowI lb lc 29 1 (wvals ws)] ++ witms 5 ws := by
  refine CallT.enter Tryd.func15 rfl Tryd.ntmps15 rfl ?_
  have he := checkD_zero.2 hv
  have h4 := hv.n4
  have hww : letN a ≤ 64 := hv.width
  have hfin := hv.fin
  have hvl := ha.rows.1
  have hsl := start_lt hv.toVal
  have hs0 := hv.s0
  have hs1 := hv.s1
  have hss : a.start = ((a.start.toNat : Nat) : Int) := (Int.toNat_of_nonneg hv.s0).symm
  refine T.seq (T.region ?_)
  refine TO.loud rfl (l_box (v := (dV a k)) (cs := (dC a k)) rfl rfl (fun z1 => ?_))
  refine TO.loud rfl (l_box (v := (.int .i64 ((m : Nat) : Int))) (cs := [(.int .i64 ((m : Nat) : Int))]) rfl rfl (fun z2 => ?_))
  refine TO.loud rfl (l_alloc inf33 rfl (fun z3 => ?_))
  refine TO.quiet (q_assign rfl) ?_
  refine TO.nil (T.seq (T.seq (T.region ?_)))
  refine TO.quiet (q_load_boxAgg 2 Tryd.underlying25 rfl inf25 rfl rfl rfl) ?_
  have hk11 := fun (w1 : World) (hI : Inv w [oI z3 33 [(.slice none 0 0)], oI z2 3 [(.int .i64 ((m : Nat) : Int))], oI z1 25 (dC a k)] w1) => (haveI := Inv.tab (P := Tryd.prog) hI; (show PureT _ _ _ _ _ from by
      have h9 := subsetCheck w1 a k.nb k.fb k.nc k.fc (vals k.qs) (hI.dfa ha) (by omega) hv.bound (by omega)
      rw [he] at h9
      exact h9))
  refine TO.loud rfl (l_call ent33 (CallT.of_pure hk11) rfl ?_)
  clear hk11
  rintro vr O' ⟨N, rfl, rfl, rfl⟩
  refine TO.quiet (q_assign rfl) ?_
  refine TO.nil (T.seq (T.region ?_))
  refine TO.quiet (q_move rfl) (TO.quiet (q_neq rfl rfl) ?_)
  refine TO.nil ?_
  refine T.cond0 rfl ?_
  refine T.skip (T.seq (T.seq (T.region ?_)))
  refine TO.quiet (q_load_box 1 Tryd.underlying3 rfl rfl rfl rfl) (TO.quiet (QT.toB (q_lss rfl rfl) (decide_eq_false (by omega))) (TO.quiet (q_move rfl) ?_))
  refine TO.guarded rfl rfl rfl (LT.of_quiet rfl rfl (q_load_box 1 Tryd.underlying3 rfl rfl rfl rfl) ?_)
  refine TO.guarded rfl rfl rfl (LT.of_quiet rfl rfl (QT.toB (q_gtr rfl rfl) (decide_eq_false (by omega))) ?_)
  refine TO.quiet (q_pick0 rfl rfl) ?_
  refine TO.nil ?_
  refine T.cond0 rfl ?_
  refine T.skip (T.seq (T.region ?_))
  refine TO.quiet (q_load_boxAgg 2 Tryd.underlying25 rfl inf25 rfl rfl rfl) ?_
  have hk22 := fun (w1 : World) (hI : Inv w [oI z3 33 [(.slice none 0 0)], oI z2 3 [(.int .i64 ((m : Nat) : Int))], oI z1 25 (dC a k)] w1) => (haveI := Inv.tab (P := Tryd.prog) hI; tableC w1 a k (hI.atB ha) hv)
  refine TO.loud rfl (l_call ent42 (CallT.of_pure hk22) rfl ?_)
  clear hk22
  rintro vr O' ⟨N, rfl, tb, us, hT, rfl, rfl⟩
  refine TO.quiet (q_assign rfl) ?_
  refine TO.nil (T.seq (T.seq (T.region ?_)))
  refine TO.quiet (q_assign rfl) ?_
  refine TO.nil (T.block ?_)
  refine T.nilRow 29 1 ?_
  refine T.sub (O' := [oI z3 33 [(.slice none 0 0)], rowI none 0 29 1 (wvals []), tabI 62 26 a tb us, oI z2 3 [(.int .i64 ((m : Nat) : Int))], oI z1 25 (dC a k)]) (by exact Sub.pull [rowI none 0 29 1 [], tabI 62 26 a tb us] _ (.k (.k (.k (.k .z))))) ?_
  refine T.loop (fun (n : Nat) ρ O => ∃ (ws : List WRec) (lb : Option Addr) (lc : Nat), O = ([oI z3 33 [(.slice lb ws.length lc)], rowI lb lc 29 1 (wvals ws), tabI 62 26 a tb us, oI z2 3 [(.int .i64 ((m : Nat) : Int))], oI z1 25 (dC a k)] ++ (witms 5 ws)) ∧ n ≤ 65 ∧ wnums ws = (allW a n).take m ∧ Heads [(0, (dV a k)), (1, (.int .i64 ((m : Nat) : Int))), (2, (.pointer (some ⟨z1, 0, none⟩))), (3, (.pointer (some ⟨z2, 0, none⟩))), (4, (.pointer (some ⟨z3, 0, none⟩))), (5, .int .i64 0), (6, .int .i64 0), (7, (.slice tb 65 65)), (8, .int .i64 ((n : Nat) : Int))] ρ) (fun n => 65 - n) 0 ?_ ?_
  · exact ⟨[], none, 0, rfl, Nat.zero_le _, (by simp [allW]), ⟨rfl, rfl, rfl, rfl, rfl, rfl, rfl, rfl, rfl, trivial⟩⟩
  rintro n ρ O ⟨ws, lb, lc, rfl, hn, hws, hH⟩
  obtain ⟨ρ0, rfl⟩ := hH.elim
  clear hH
  have hwl : ws.length ≤ m := by
    have h9 := congrArg List.length hws
    rw [List.length_map, List.length_take] at h9; omega
  refine T.seq (T.seq (T.region ?_))
  refine TO.quiet (q_move rfl) (TO.quiet (q_move rfl) (TO.quiet (q_len Tryd.underlying64 rfl) ?_))
  by_cases hn65 : n < 65
  · refine TO.quiet (QT.toB (QT.cast (q_lss rfl rfl) (v' := .bool (decide (n < 65))) (congrArg Value.bool (decide_eq_decide.2 (by omega)))) (decide_eq_true hn65)) ?_
    refine TO.quiet (q_move rfl) ?_
    refine TO.guarded rfl rfl rfl (LT.of_quiet rfl rfl (q_load_box 0 Tryd.underlying33 rfl rfl rfl rfl) ?_)
    refine TO.guarded rfl rfl rfl (LT.of_quiet rfl rfl (q_len Tryd.underlying33 rfl) ?_)
    refine TO.guarded rfl rfl rfl (LT.of_quiet rfl rfl (q_load_box 3 Tryd.underlying3 rfl rfl rfl rfl) ?_)
    refine TO.guarded rfl rfl rfl (LT.of_quiet rfl rfl (q_lss rfl rfl) ?_)
    refine TO.quiet (q_pick1 rfl rfl) ?_
    refine TO.nil ?_
    refine T.condP rfl (fun hc => ?_) (fun hc => ?_)
    · have hlt32 : ws.length < m := by omega
      have hlm : ws.length < m := by omega
      refine T.skip (T.seq (T.block (T.seq (T.region ?_))))
      refine TO.quiet (q_load_boxAgg 4 Tryd.underlying25 rfl inf25 rfl rfl rfl) (TO.quiet (q_move rfl) (TO.quiet (q_fieldAddr Tryd.underlying25 rfl inf3 rfl rfl) (TO.quiet (QT.cast (q_load_box 4 Tryd.underlying3 rfl rfl rfl rfl) (v' := (.int .i64 ((a.start.toNat : Nat) : Int))) (congrArg (Value.int .i64) hss)) ?_)))
      refine TO.quiet (q_move rfl) ?_
      have hk40 := fun (w1 : World) (hI : Inv w ([oI z3 33 [(.slice lb ws.length lc)], rowI lb lc 29 1 (wvals ws), tabI 62 26 a tb us, oI z2 3 [(.int .i64 ((m : Nat) : Int))], oI z1 25 (dC a k)] ++ (witms 5 ws)) w1) => (haveI := Inv.tab (P := Tryd.prog) hI; wordsMk w1 a k tb none a.start.toNat n 0 0)
      refine TO.loud rfl (l_call ent43 (CallT.of_pure hk40) rfl ?_)
      clear hk40
      rintro vr O' ⟨N, rfl, xb, nb, sb, ub, db, rfl, rfl⟩
      refine TO.nil (T.block ?_)
      refine T.nilRow 5 1 ?_
      refine T.sub (O' := ([oI xb 29 [(.slice none 0 0)], oI nb 3 [(.int .i64 ((n : Nat) : Int))], oI sb 3 [(.int .i64 ((a.start.toNat : Nat) : Int))], oI ub 64 [(.slice tb 65 65)], oI db 25 (dC a k), rowI none 0 5 1 (byts []), tabI 62 26 a tb us, oI z3 33 [(.slice lb ws.length lc)], rowI lb lc 29 1 (wvals ws), oI z2 3 [(.int .i64 ((m : Nat) : Int))], oI z1 25 (dC a k)] ++ witms 5 ws)) (by exact Sub.pull [rowI none 0 5 1 []] _ (.pull [rowI none 0 5 1 []] _ (.pull [rowI none 0 5 1 []] _ (.pull [rowI none 0 5 1 []] _ (.pull [rowI none 0 5 1 []] _ (.k (.pull [oI z3 33 [(.slice lb ws.length lc)], rowI lb lc 29 1 (wvals ws)] _ (.k (.k (.k (.k .rf))))))))))) ?_
      refine T.rangeFunc (first := []) (caps := [(.pointer (some ⟨nb, 0, none⟩)), (.pointer (some ⟨db, 0, none⟩)), (.pointer (some ⟨sb, 0, none⟩)), (.pointer (some ⟨xb, 0, none⟩)), (.pointer (some ⟨ub, 0, none⟩))]) rfl ent62 (fun yl yq yhq => ?_)
      refine CallT.mono (CallT.sub (O' := oI xb 29 [(.slice none 0 0)] :: oI nb 3 [(.int .i64 ((n : Nat) : Int))] :: oI sb 3 [(.int .i64 ((a.start.toNat : Nat) : Int))] :: oI ub 64 [(.slice tb 65 65)] :: oI db 25 (dC a k) :: rowI none 0 5 1 (byts []) :: tabI 62 26 a tb us :: (objI yl (lp yq none) :: ([oI z3 33 [(.slice lb ws.length lc)], rowI lb lc 29 1 (wvals ws), oI z2 3 [(.int .i64 ((m : Nat) : Int))], oI z1 25 (dC a k)] ++ (witms 5 ws)))) (Sub.pickR [1, 1, 1, 1, 1, 1, 1, 0, 0, 0, 0, 0] [objI yl (lp yq none), oI xb 29 [(.slice none 0 0)], oI nb 3 [(.int .i64 ((n : Nat) : Int))], oI sb 3 [(.int .i64 ((a.start.toNat : Nat) : Int))], oI ub 64 [(.slice tb 65 65)], oI db 25 (dC a k), rowI none 0 5 1 (byts []), tabI 62 26 a tb us, oI z3 33 [(.slice lb ws.length lc)], rowI lb lc 29 1 (wvals ws), oI z2 3 [(.int .i64 ((m : Nat) : Int))], oI z1 25 (dC a k)] (witms 5 ws) rfl rfl) (wordsF w a k ha hv tb us hT n a.start.toNat [] 0 rfl (byts []) rfl xb nb sb ub db none 0 (.func (.yield yl) #[] #[]) rfl (fun i9 O => ∃ (ws : List WRec) (lb : Option Addr) (lc : Nat), O = objI yl (lp yq none) :: ([oI z3 33 [(.slice lb ws.length lc)], rowI lb lc 29 1 (wvals ws), oI z2 3 [(.int .i64 ((m : Nat) : Int))], oI z1 25 (dC a k)] ++ (witms 5 ws)) ∧ WdsI a m n i9 (wnums ws)) (fun O => ∃ (ws : List WRec) (lb : Option Addr) (lc : Nat) (i9 : Nat) (W : Lx.Item), O = objI yl (lp yq (some (.exit 2))) :: ([oI z3 33 [(.slice lb ws.length lc)], rowI lb lc 29 1 (wvals ws), oI z2 3 [(.int .i64 ((m : Nat) : Int))], oI z1 25 (dC a k)] ++ (witms 5 ws ++ [W])) ∧ WdsI a m n i9 (wnums ws) ∧ ws.length = m) (by simp; omega) hsl ?_ _ ?_)) ?_
      · intro i u rb rc O hu hJ
        obtain ⟨ws, lb, lc, rfl, hWI⟩ := hJ
        refine CallV.yield yhq rfl rfl ?_
        have hwl9 : (wnums ws).length = ws.length := by simp
        have hwlm : ws.length ≤ m := by
          have h9 := congrArg List.length hWI.eq
          rw [List.length_take, hwl9] at h9; omega
        refine T.region ?_
        refine TO.quiet (q_assign rfl) ?_
        refine TO.nil (T.block (T.seq (T.seq (T.region ?_))))
        refine TO.quiet (q_load_box 0 Tryd.underlying33 rfl rfl rfl rfl) (TO.quiet (q_len Tryd.underlying33 rfl) (TO.quiet (q_load_box 2 Tryd.underlying3 rfl rfl rfl rfl) (TO.quiet (q_eql rfl rfl) ?_)))
        refine TO.nil ?_
        refine T.condP rfl (fun hc => ?_) (fun hc => ?_)
        · have hlt45 : ws.length = m := by omega
          have hfull : ws.length = m := by omega
          refine T.exit ?_
          exact .inr ⟨rfl, ws, lb, lc, i, _, rfl, hWI, hfull⟩
        have hge45 : ¬ ws.length = m := by omega
        have hfull : ws.length ≠ m := by omega
        refine T.skip (T.region ?_)
        refine TO.quiet (q_load_box 0 Tryd.underlying33 rfl rfl rfl rfl) (TO.quiet (q_move rfl) ?_)
        refine TO.loud rfl (l_build1 (v := (.slice rb u.length rc)) Tryd.underlying33 inf29 rfl rfl rfl (fun z4 => ?_))
        refine TO.loud rfl (l_append 2 Tryd.underlying33 Tryd.underlying33 inf29 rfl rfl rfl rfl (by rw [List.length_map, Nat.mul_one]) (by decide) (Src.row (j := 0) rfl (by simp)) (by simp [oneB]) (by omega) (by decide) (by decide) (fun z5 zc6 => ?_))
        refine TO.loud rfl (l_store_box (v := (.slice z5 (ws.length + 1) zc6)) (vs := [(.slice z5 (ws.length + 1) zc6)]) 1 inf33 rfl rfl rfl rfl rfl rfl (by simp [putL]) ?_)
        refine TO.sub (O' := ([oI z3 33 [(.slice z5 (ws.length + 1) zc6)], rowI z5 zc6 29 1 ((wvals ws) ++ [(.slice rb u.length rc)]), oI z2 3 [(.int .i64 ((m : Nat) : Int))], oI z1 25 (dC a k)] ++ witms 5 (ws ++ [⟨rb, rc, u⟩]))) (by rw [witms_snoc]; exact Sub.d (.k (.k (.k (.k .rf))))) ?_
        refine TO.nil ?_
        exact .inl ⟨rfl, ws ++ [⟨rb, rc, u⟩], z5, zc6, by simp only [List.length_append, List.length_cons, List.length_nil, Nat.zero_add, List.map_append, List.map_cons, List.map_nil]; rfl, by show WdsI _ _ _ _ (List.map WRec.xs (ws ++ [_])); rw [List.map_append]; exact hWI.put hu (by rw [hwl9]; exact hfull)⟩
      · exact ⟨ws, lb, lc, rfl, WdsI.zero hws⟩
      rintro v O' (⟨O9, rfl, ws9, lb9, lc9, rfl, hW9⟩ | ⟨O9, rfl, ws9, lb9, lc9, i9, W9, rfl, hW9, hfu⟩)
      · refine ⟨none, _, rfl, ?_⟩
        have hws9 : wnums ws9 = (allW a (n + 1)).take m := hW9.done
        refine T.sub (O' := ([oI z3 33 [(.slice lb9 ws9.length lc9)], rowI lb9 lc9 29 1 (wvals ws9), oI z2 3 [(.int .i64 ((m : Nat) : Int))], oI z1 25 (dC a k)] ++ (witms 5 ws9 ++ [tabI 62 26 a tb us]))) (by exact Sub.rf) ?_
        refine T.sub (O' := ([oI z3 33 [(.slice lb9 ws9.length lc9)], rowI lb9 lc9 29 1 (wvals ws9), tabI 62 26 a tb us, oI z2 3 [(.int .i64 ((m : Nat) : Int))], oI z1 25 (dC a k)] ++ witms 5 ws9)) (Sub.cnt [] (by intro a; simp only [itms, oI, List.set_cons_zero, List.set_cons_succ, putL, List.cons_append, List.nil_append, List.append_nil, List.append_assoc, List.map_append, List.map_cons, List.map_nil, cnt_append, cnt_cons, cnt_nil] <;> omega)) ?_
        refine T.region ?_
        refine TO.quiet (q_move rfl) (TO.quiet (q_addN (a := n) (b := 1) rfl rfl (by omega)) (TO.quiet (q_assign rfl) ?_))
        refine TO.nil ?_
        exact ⟨n + 1, by omega, ws9, lb9, lc9, rfl, by omega, hws9, ⟨rfl, rfl, rfl, rfl, rfl, rfl, rfl, rfl, rfl, trivial⟩⟩
      refine ⟨some (.exit 2), _, rfl, ?_⟩
      have hws9 : wnums ws9 = (allW a (n + 1)).take m := hW9.full (by rw [List.length_map]; exact hfu)
      refine T.sub (O' := ([oI z3 33 [(.slice lb9 ws9.length lc9)], rowI lb9 lc9 29 1 (wvals ws9), oI z2 3 [(.int .i64 ((m : Nat) : Int))], oI z1 25 (dC a k)] ++ ((witms 5 ws9 ++ [W9]) ++ [tabI 62 26 a tb us]))) (by exact Sub.rf) ?_
      refine T.sub (O' := ([oI z3 33 [(.slice lb9 ws9.length lc9)], rowI lb9 lc9 29 1 (wvals ws9), tabI 62 26 a tb us, oI z2 3 [(.int .i64 ((m : Nat) : Int))], oI z1 25 (dC a k)] ++ witms 5 ws9)) (Sub.cnt [W9] (by intro a; simp only [itms, oI, List.set_cons_zero, List.set_cons_succ, putL, List.cons_append, List.nil_append, List.append_nil, List.append_assoc, List.map_append, List.map_cons, List.map_nil, cnt_append, cnt_cons, cnt_nil] <;> omega)) ?_
      refine T.region ?_
      refine TO.quiet (q_move rfl) (TO.quiet (q_addN (a := n) (b := 1) rfl rfl (by omega)) (TO.quiet (q_assign rfl) ?_))
      refine TO.nil ?_
      exact ⟨n + 1, by omega, ws9, lb9, lc9, rfl, by omega, hws9, ⟨rfl, rfl, rfl, rfl, rfl, rfl, rfl, rfl, rfl, trivial⟩⟩
    have hge32 : ¬ ws.length < m := by omega
    have hlm : ¬ ws.length < m := by omega
    refine T.exit ?_
    refine T.seq (T.region ?_)
    refine TO.quiet (q_load_box 0 Tryd.underlying33 rfl rfl rfl rfl) ?_
    refine TO.loud rfl (l_store_box (v := (.slice lb ws.length lc)) (vs := [(.slice lb ws.length lc)]) 0 inf33 rfl rfl rfl rfl rfl rfl (by simp [putL]) ?_)
    refine TO.quiet (q_assign rfl) ?_
    refine TO.nil (T.ret (Res.drop ?_))
    refine Res.cell1t (i := 0) (.int .i64 0) Tryd.results15 Tryd.underlying33 rfl rfl rfl rfl ?_
    have hfi := wds_end hn hws (by rw [List.length_map]; omega)
    exact ⟨([rowI lb lc 29 1 (wvals ws)] ++ witms 5 ws), (by exact Sub.d (.k (.d (.d (.d .rf))))), ws, lb, lc, hfi, rfl, rfl⟩
  refine TO.quiet (QT.toB (QT.cast (q_lss rfl rfl) (v' := .bool (decide (n < 65))) (congrArg Value.bool (decide_eq_decide.2 (by omega)))) (decide_eq_false hn65)) (TO.quiet (q_move rfl) ?_)
  refine TO.passed rfl rfl ?_
  refine TO.passed rfl rfl ?_
  refine TO.passed rfl rfl ?_
  refine TO.passed rfl rfl ?_
  refine TO.quiet (q_pick0 rfl rfl) ?_
  refine TO.nil ?_
  refine T.cond0 rfl ?_
  refine T.exit ?_
  refine T.seq (T.region ?_)
  refine TO.quiet (q_load_box 0 Tryd.underlying33 rfl rfl rfl rfl) ?_
  refine TO.loud rfl (l_store_box (v := (.slice lb ws.length lc)) (vs := [(.slice lb ws.length lc)]) 0 inf33 rfl rfl rfl rfl rfl rfl (by simp [putL]) ?_)
  refine TO.quiet (q_assign rfl) ?_
  refine TO.nil (T.ret (Res.drop ?_))
  refine Res.cell1t (i := 0) (.int .i64 0) Tryd.results15 Tryd.underlying33 rfl rfl rfl rfl ?_
  have hfi := wds_end hn hws (by rw [List.length_map]; omega)
  exact ⟨([rowI lb lc 29 1 (wvals ws)] ++ witms 5 ws), (by exact Sub.d (.k (.d (.d (.d .rf))))), ws, lb, lc, hfi, rfl, rfl⟩
theorem wdsC (w : World) [Tab Tryd.prog w] (a : DFA) (k : DK) (ha : At w a k) (haa : a.next.length < 9223372036854775807) (haar : ∀ r ∈ a.next, r.length < 9223372036854775807) (haaf : a.final.length < 9223372036854775807) (m : Int) :
    PureT Tryd.prog 15 [dV a k, .int .i64 m] w fun v N => ∃ ws lb lc, wnums ws = wdsV a m ∧ v = .tuple #[.slice lb ws.length lc, .int .i64 ((wdsE a m : Nat) : Int)] ∧ N = [wlI 29 5 lb lc ws] := by
  have nil : ∀ {e : Nat}, PureT Tryd.prog 15 [dV a k, .int .i64 m] w (fun v N => v = .tuple #[.slice none 0 0, .int .i64 (e : Int)] ∧ N = []) → PureT Tryd.prog 15 [dV a k, .int .i64 m] w (fun v N => ∃ ws lb lc, wnums ws = [] ∧ v = .tuple #[.slice lb ws.length lc, .int .i64 (e : Int)] ∧ N = [wlI 29 5 lb lc ws]) := fun h => by
    refine CallT.packR (CallT.nilOr 29 1 h) ?_
    rintro v N ⟨O2, hN, h1, h2⟩
    exact ⟨True, _, [], trivial, (hN.2 h2).trans (List.append_nil _).symm, [], none, 0, rfl, h1, rfl⟩
  unfold wdsV wdsE
  by_cases he : checkD a ≠ 0
  · rw [if_pos he, if_neg he]
    exact nil (wdsBad w a k ha haa haar haaf he m)
  · have hv : Valid a := checkD_zero.1 (by omega)
    rw [if_neg he]
    by_cases hn : m < 0 ∨ 256 < m
    · rw [if_pos hn, if_neg (by decide)]
      rcases hn with h | h
      · exact nil (e := 1) (wdsLo w a k ha hv m h)
      · exact nil (e := 1) (wdsHi w a k ha hv m h)
    · rw [if_neg hn, if_pos rfl]
      obtain ⟨n, rfl⟩ : ∃ n : Nat, m = (n : Int) := ⟨m.toNat, by omega⟩
      refine CallT.packR (wdsN w a k ha hv n (by omega)) ?_
      rintro v N ⟨ws, lb, lc, h1, h2, rfl⟩
      exact ⟨True, _, [], trivial, (List.append_nil _).symm, ws, lb, lc, h1, h2, rfl⟩
end Go.Proofs.YtnmfefmhfkhihaaDoor


namespace Go.Lx
open Go.RowKit
set_option linter.unusedVariables false
theorem bq_diag {d : DFA} (hv : Val d) {s : Nat} : ∀ i, (∀ j, j < i → j < (bq d s s j).length) → BfsI d s s i (bq d s s i)
  | 0, _ => BfsI.zero d s s
  | i + 1, h => (bq_diag hv i fun j hj => h j (by omega)).step hv (List.getElem?_eq_getElem (h i (by omega)))
theorem BfsI.diag {d : DFA} {s i : Nat} {A : List Stp} (h : BfsI d s s i A) {q : Stp} (hq : q ∈ A) : q.1 = (q.1.1, q.1.1) := by rw [(h.run q hq).2]
abbrev shq (d : DFA) (i : Nat) : List Stp := bq d d.start.toNat d.start.toNat i
def ShR (d : DFA) (res : Option (List Nat)) : Prop :=
  ∃ i, (∀ j, j < i → ∃ q, (shq d j)[j]? = some q ∧ finN d q.1.1 = false) ∧
    match res with
    | some w => ∃ q, (shq d i)[i]? = some q ∧ finN d q.1.1 = true ∧ q.2 = w
    | none => (shq d i).length ≤ i
theorem shq_inv {d : DFA} (hv : Val d) {i : Nat} (h : ∀ j, j < i → ∃ q, (shq d j)[j]? = some q ∧ finN d q.1.1 = false) : BfsI d d.start.toNat d.start.toNat i (shq d i) :=
  bq_diag hv i fun j hj => by obtain ⟨q, hq, _⟩ := h j hj; exact (List.getElem?_eq_some_iff.1 hq).1
theorem ShR.least {d : DFA} (hv : Val d) {res : Option (List Nat)} (h : ShR d res) : LeastA d res := by
  obtain ⟨i, hj, hr⟩ := h
  have hI := shq_inv hv hj
  have hsame : ∀ j q, j < i → (shq d i)[j]? = some q → finN d q.1.1 = false := fun j q hji hq => by
    obtain ⟨q', h1, h2⟩ := hj j hji
    have := bq_get (i := i) h1 (by omega)
    rw [hq] at this; cases this; exact h2
  have key : ∀ u, Wd d u → (∃ q ∈ shq d i, q.1 = (runN d d.start.toNat u, runN d d.start.toNat u) ∧ code q.2 ≤ code u) ∨ ∃ q, (shq d i)[i]? = some q ∧ code q.2 ≤ code u := by
    refine snocInd ?_ ?_
    · intro _
      obtain ⟨q, h1, h2, h3⟩ := hI.first
      exact .inl ⟨q, List.mem_of_getElem? h1, h2, by rw [h3]; exact Nat.le_refl _⟩
    · intro u x ih hw
      rw [code_snoc]
      rcases ih (fun z hz => hw z (by simp [hz])) with ⟨q, h1, h2, h3⟩ | ⟨q, h1, h3⟩
      · obtain ⟨j, hjq⟩ := List.getElem?_of_mem h1
        by_cases hji : j < i
        · obtain ⟨q', g1, g2, g3⟩ := hI.suc j q hji hjq x (hw x (by simp))
          refine .inl ⟨q', g1, ?_, by omega⟩
          rw [g2, runN_snoc, h2]; rfl
        · by_cases e : j = i
          · subst e; exact .inr ⟨q, hjq, by omega⟩
          · have hil : i < (shq d i).length := by have := (List.getElem?_eq_some_iff.1 hjq).1; omega
            have := hI.mono i j _ q (by omega) (List.getElem?_eq_getElem hil) hjq
            exact .inr ⟨_, List.getElem?_eq_getElem hil, by omega⟩
      · exact .inr ⟨q, h1, by omega⟩
  cases res with
  | some w =>
    obtain ⟨q, hq, hf, rfl⟩ := hr
    obtain ⟨h1, h2⟩ := hI.run q (List.mem_of_getElem? hq)
    refine ⟨h1, ?_, ?_⟩
    · unfold acc; rw [h2] at hf; exact hf
    · intro u hu hd
      rcases key u hu with ⟨p, g1, g2, g3⟩ | ⟨p, g1, g3⟩
      · obtain ⟨j, hjp⟩ := List.getElem?_of_mem g1
        by_cases hji : j < i
        · have := hsame j p hji hjp
          rw [g2] at this
          have hd' : finN d (runN d d.start.toNat u) = true := hd
          rw [hd'] at this; cases this
        · by_cases e : j = i
          · subst e; rw [hq] at hjp; cases hjp; exact g3
          · have := hI.mono i j q p (by omega) hq hjp
            omega
      · rw [hq] at g1; cases g1; exact g3
  | none =>
    intro u hu
    have hlen : (shq d i).length ≤ i := hr
    rcases key u hu with ⟨p, g1, g2, g3⟩ | ⟨p, g1, g3⟩
    · obtain ⟨j, hjp⟩ := List.getElem?_of_mem g1
      have hji := (List.getElem?_eq_some_iff.1 hjp).1
      have := hsame j p (by omega) hjp
      rw [g2] at this; exact this
    · have := (List.getElem?_eq_some_iff.1 g1).1; omega
theorem BfsI.states {d : DFA} (hv : Val d) {s i : Nat} (hs : s < d.next.length) {A : List Stp} (h : BfsI d s s i A) : (A.map (·.1.1)).Nodup ∧ ∀ q ∈ A, q.1.1 < d.next.length := by
  refine ⟨?_, fun q hq => ?_⟩
  · have hn := h.nd
    rw [List.nodup_iff_pairwise_ne, List.pairwise_map] at hn ⊢
    exact hn.imp_of_mem fun ha hb hne e => hne (by rw [h.diag ha, h.diag hb, e])
  · obtain ⟨h1, h2⟩ := h.run q hq
    rw [h2]; exact runN_lt hv hs q.2 h1
theorem BfsI.size {d : DFA} (hv : Val d) {s i : Nat} (hs : s < d.next.length) {A : List Stp} (h : BfsI d s s i A) : A.length ≤ d.next.length := by
  obtain ⟨h1, h2⟩ := h.states hv hs
  have := nodup_bound (n := d.next.length) h1 fun x hx => by
    obtain ⟨q, hq, rfl⟩ := List.mem_map.1 hx
    exact h2 q hq
  simpa using this
def Ds (d : DFA) (s k : Nat) : Prop := (∃ u, Wd d u ∧ u.length = k ∧ finN d (runN d s u) = true) ∧ ∀ u, Wd d u → finN d (runN d s u) = true → k ≤ u.length
theorem Ds.unique {d : DFA} {s k m : Nat} (h : Ds d s k) (h2 : Ds d s m) : k = m := by
  obtain ⟨u, hu, e, hf⟩ := h.1
  obtain ⟨x, hx, e2, hf2⟩ := h2.1
  have a := h.2 x hx hf2
  have b := h2.2 u hu hf
  omega
theorem Ds.some {d : DFA} {s : Nat} : ∀ (m : Nat) (u : List Nat), Wd d u → finN d (runN d s u) = true → u.length ≤ m → ∃ k, k ≤ u.length ∧ Ds d s k
  | 0, u, hu, hf, h0 => ⟨0, by omega, ⟨u, hu, by omega, hf⟩, fun _ _ _ => Nat.zero_le _⟩
  | m + 1, u, hu, hf, hl => by
    by_cases h : ∃ x, Wd d x ∧ finN d (runN d s x) = true ∧ x.length < u.length
    · obtain ⟨x, hx, hxf, hxl⟩ := h
      obtain ⟨k, hk, hD⟩ := Ds.some m x hx hxf (by omega)
      exact ⟨k, by omega, hD⟩
    · exact ⟨u.length, Nat.le_refl _, ⟨u, hu, rfl, hf⟩, fun x hx hxf => by
        refine Classical.byContradiction fun hlt => h ⟨x, hx, hxf, by omega⟩⟩
theorem runN_cons (d : DFA) (s x : Nat) (u : List Nat) : runN d s (x :: u) = runN d (toN d s x) u := rfl
theorem Wd.cons {d : DFA} {x : Nat} {u : List Nat} : Wd d (x :: u) ↔ x < letN d ∧ Wd d u := by unfold Wd; simp
theorem Ds.down {d : DFA} {s k : Nat} (h : Ds d s (k + 1)) : ∃ x, x < letN d ∧ Ds d (toN d s x) k := by
  obtain ⟨u, hu, e, hf⟩ := h.1
  cases u with
  | nil => simp at e
  | cons x u =>
    obtain ⟨hx, hu⟩ := Wd.cons.1 hu
    refine ⟨x, hx, ⟨u, hu, by simpa using e, hf⟩, fun y hy hyf => ?_⟩
    have := h.2 (x :: y) (Wd.cons.2 ⟨hx, hy⟩) hyf
    simpa using this
theorem Ds.up {d : DFA} {s k x : Nat} (hx : x < letN d) (h : Ds d (toN d s x) k) (hn : ∀ m, m ≤ k → ¬ Ds d s m) : Ds d s (k + 1) := by
  obtain ⟨u, hu, e, hf⟩ := h.1
  refine ⟨⟨x :: u, Wd.cons.2 ⟨hx, hu⟩, by simp [e], hf⟩, fun y hy hyf => ?_⟩
  obtain ⟨m, hm, hD⟩ := Ds.some y.length y hy hyf (Nat.le_refl _)
  refine Classical.byContradiction fun hlt => hn m (by omega) hD
theorem Ds.lt {d : DFA} (hv : Val d) {s k : Nat} (hs : s < d.next.length) (h : Ds d s k) : k < d.next.length := by
  obtain ⟨u, hu, e, hf⟩ := h.1
  have htk : ∀ i, Wd d (u.take i) := fun i x hx => hu x (List.mem_of_mem_take hx)
  have hinj : ∀ i j, i < j → j ≤ k → runN d s (u.take i) ≠ runN d s (u.take j) := fun i j hij hjk hr => by
    have h1 : runN d s (u.take i ++ u.drop j) = runN d s u := by
      rw [runN_append, hr, ← runN_append, List.take_append_drop]
    have := h.2 (u.take i ++ u.drop j) (fun x hx => (List.mem_append.1 hx).elim (htk i x) fun h => hu x (List.mem_of_mem_drop h)) (by rw [h1]; exact hf)
    rw [List.length_append, List.length_take, List.length_drop] at this
    omega
  have hn : ((List.range (k + 1)).map fun i => runN d s (u.take i)).Nodup := map_nodup List.nodup_range fun a ha b hb e => by
    rw [List.mem_range] at ha hb
    rcases Nat.lt_trichotomy a b with h1 | h1 | h1
    · exact absurd e (hinj a b h1 (by omega))
    · exact h1
    · exact absurd e.symm (hinj b a h1 (by omega))
  have := nodup_bound (n := d.next.length) hn fun x hx => by
    obtain ⟨i, _, rfl⟩ := List.mem_map.1 hx
    exact runN_lt hv hs _ (htk i)
  simp at this; omega
structure GI (d : DFA) (K : Nat) (w : List Nat) (s : Nat) : Prop where
  wd : Wd d w
  run : runN d d.start.toNat w = s
  len : w.length ≤ K
  dist : Ds d s (K - w.length)
  le : ∀ u, Wd d u → acc d u = true → u.length = K → code w ≤ code (u.take w.length)
theorem GI.zero {d : DFA} {K : Nat} (h : Ds d d.start.toNat K) : GI d K [] d.start.toNat := ⟨fun x hx => (by cases hx), rfl, Nat.zero_le _, by simpa using h, fun u _ _ _ => by simp [code]⟩
theorem GI.step {d : DFA} (hv : Val d) {K : Nat} {w : List Nat} {s x : Nat} (h : GI d K w s) (hl : w.length < K) (hx : x < letN d) (hD : Ds d (toN d s x) (K - w.length - 1)) (hmin : ∀ y, y < x → ¬ Ds d (toN d s y) (K - w.length - 1)) : GI d K (w ++ [x]) (toN d s x) := by
  have hwx : Wd d (w ++ [x]) := fun y hy => (List.mem_append.1 hy).elim (h.wd y) fun hy => by rw [List.mem_singleton.1 hy]; exact hx
  refine ⟨hwx, by rw [runN_snoc, h.run], by simp; omega, by simpa [Nat.sub_sub] using hD, fun u hu ha hul => ?_⟩
  have hlu : w.length < u.length := by omega
  rw [List.length_append, List.length_singleton, List.take_succ_eq_append_getElem hlu, code_snoc, code_snoc]
  have h1 := h.le u hu ha hul
  have hy := hu _ (List.getElem_mem hlu)
  have hx64 : x < 64 := by have := hv.width; unfold letN at hx; omega
  by_cases e : code w = code (u.take w.length)
  · have htk : Wd d (u.take w.length) := fun x hx => hu x (List.mem_of_mem_take hx)
    have ew := code_inj w (u.take w.length) (hv.wd64 h.wd) (hv.wd64 htk) e
    have hge : x ≤ u[w.length] := by
      refine Classical.byContradiction fun hlt => hmin u[w.length] (by omega) ?_
      have hdr : u = (u.take w.length ++ [u[w.length]]) ++ u.drop (w.length + 1) := by
        rw [← List.take_succ_eq_append_getElem hlu, List.take_append_drop]
      have hrun : runN d d.start.toNat u = runN d (toN d s u[w.length]) (u.drop (w.length + 1)) := by
        conv => lhs; rw [hdr]
        rw [runN_append, runN_snoc, ← ew, h.run]
      have hwdr : Wd d (u.drop (w.length + 1)) := fun x hx => hu x (List.mem_of_mem_drop hx)
      have hf : finN d (runN d (toN d s u[w.length]) (u.drop (w.length + 1))) = true := by rw [← hrun]; exact ha
      refine ⟨⟨u.drop (w.length + 1), hwdr, by rw [List.length_drop]; omega, hf⟩, fun y' hy' hyf => ?_⟩
      have := h.dist.2 (u[w.length] :: y') (Wd.cons.2 ⟨hy, hy'⟩) hyf
      simp at this; omega
    omega
  · omega
theorem GI.least {d : DFA} (hv : Val d) {w : List Nat} {s : Nat} (h : GI d w.length w s) (hK : Ds d d.start.toNat w.length) : LeastA d (some w) := by
  have h0 := h.dist
  rw [Nat.sub_self] at h0
  obtain ⟨u, _, e, hf⟩ := h0.1
  have : u = [] := List.eq_nil_of_length_eq_zero e
  subst this
  have hacc : acc d w = true := by unfold acc; rw [h.run]; exact hf
  refine ⟨h.wd, hacc, fun u hu ha => ?_⟩
  have hl := hK.2 u hu ha
  by_cases e : u.length = w.length
  · have := h.le u hu ha e
    rwa [List.take_of_length_le (by omega)] at this
  · refine Classical.byContradiction fun hlt => ?_
    have := code_len u w (hv.wd64 hu) (hv.wd64 h.wd) (by omega)
    omega
theorem GI.next {d : DFA} {K : Nat} {w : List Nat} {s : Nat} (h : GI d K w s) (hl : w.length < K) : ∃ x, x < letN d ∧ Ds d (toN d s x) (K - w.length - 1) := by
  have := h.dist
  rw [show K - w.length = (K - w.length - 1) + 1 by omega] at this
  exact this.down
end Go.Lx


namespace Go.Lx
set_option linter.unusedVariables false
def Liv (d : DFA) (s : Nat) : Prop := ∃ u, Wd d u ∧ finN d (runN d s u) = true
def Cyc (d : DFA) (s : Nat) : Prop := ∃ v, v ≠ [] ∧ Wd d v ∧ runN d s v = s
def InfC (d : DFA) (s : Nat) : Prop := ∃ u t, Wd d u ∧ runN d s u = t ∧ Liv d t ∧ Cyc d t
theorem Wd.app {d : DFA} {u v : List Nat} (hu : Wd d u) (hv : Wd d v) : Wd d (u ++ v) := fun x hx => (List.mem_append.1 hx).elim (hu x) (hv x)
theorem Wd.tk {d : DFA} {u : List Nat} (h : Wd d u) (i : Nat) : Wd d (u.take i) := fun x hx => h x (List.mem_of_mem_take hx)
theorem Wd.dp {d : DFA} {u : List Nat} (h : Wd d u) (i : Nat) : Wd d (u.drop i) := fun x hx => h x (List.mem_of_mem_drop hx)
theorem Wd.nil {d : DFA} : Wd d [] := fun x hx => by cases hx
theorem pigeon {d : DFA} (hv : Val d) {s : Nat} (hs : s < d.next.length) {u : List Nat} (hu : Wd d u) (hl : d.next.length ≤ u.length) : ∃ i j, i < j ∧ j ≤ d.next.length ∧ runN d s (u.take i) = runN d s (u.take j) := by
  apply Classical.byContradiction
  intro hno
  have hn : ((List.range (d.next.length + 1)).map fun i => runN d s (u.take i)).Nodup := map_nodup List.nodup_range fun a ha b hb e => by
    rw [List.mem_range] at ha hb
    rcases Nat.lt_trichotomy a b with h1 | h1 | h1
    · exact absurd ⟨a, b, h1, by omega, e⟩ hno
    · exact h1
    · exact absurd ⟨b, a, h1, by omega, e.symm⟩ hno
  have := nodup_bound (n := d.next.length) hn fun x hx => by
    obtain ⟨i, _, rfl⟩ := List.mem_map.1 hx
    exact runN_lt hv hs _ (hu.tk i)
  simp at this; omega
theorem long_cyc {d : DFA} (hv : Val d) {s : Nat} (hs : s < d.next.length) {u : List Nat} (hu : Wd d u) (hf : finN d (runN d s u) = true) (hl : d.next.length ≤ u.length) : InfC d s := by
  obtain ⟨i, j, hij, hj, e⟩ := pigeon hv hs hu hl
  refine ⟨u.take i, _, hu.tk i, rfl, ⟨u.drop i, hu.dp i, ?_⟩, (u.take j).drop i, ?_, (hu.tk j).dp i, ?_⟩
  · rw [← runN_append, List.take_append_drop]; exact hf
  · intro h
    have := congrArg List.length h
    rw [List.length_drop, List.length_take] at this
    simp at this; omega
  · rw [← runN_append]
    have : u.take i ++ (u.take j).drop i = u.take j := by
      have h2 : u.take i = (u.take j).take i := by rw [List.take_take, Nat.min_eq_left (by omega)]
      rw [h2, List.take_append_drop]
    rw [this]; exact e.symm
theorem cyc_pow {d : DFA} {t : Nat} {v : List Nat} (hw : Wd d v) (hr : runN d t v = t) (hv : v ≠ []) : ∀ k, ∃ z, Wd d z ∧ runN d t z = t ∧ k ≤ z.length
  | 0 => ⟨[], Wd.nil, rfl, Nat.zero_le _⟩
  | k + 1 => by
    obtain ⟨z, h1, h2, h3⟩ := cyc_pow hw hr hv k
    refine ⟨v ++ z, hw.app h1, by rw [runN_append, hr, h2], ?_⟩
    have := List.length_pos_iff.2 hv
    rw [List.length_append]; omega
theorem cyc_long {d : DFA} {s : Nat} (h : InfC d s) (k : Nat) : ∃ u, Wd d u ∧ finN d (runN d s u) = true ∧ k ≤ u.length := by
  obtain ⟨u, t, h1, rfl, ⟨q, h2, h3⟩, v, h4, h5, h6⟩ := h
  obtain ⟨z, z1, z2, z3⟩ := cyc_pow h5 h6 h4 k
  refine ⟨u ++ (z ++ q), h1.app (z1.app h2), by rw [runN_append, runN_append, z2]; exact h3, ?_⟩
  rw [List.length_append, List.length_append]; omega
theorem cyc_mid {d : DFA} (hv : Val d) {s : Nat} (hs : s < d.next.length) : ∀ (m : Nat) (u : List Nat), u.length ≤ m → Wd d u → finN d (runN d s u) = true → d.next.length ≤ u.length → ∃ z, Wd d z ∧ finN d (runN d s z) = true ∧ d.next.length ≤ z.length ∧ z.length < 2 * d.next.length
  | 0, u, hm, hu, hf, hl => by omega
  | m + 1, u, hm, hu, hf, hl => by
    by_cases h2 : u.length < 2 * d.next.length
    · exact ⟨u, hu, hf, hl, h2⟩
    · obtain ⟨i, j, hij, hj, e⟩ := pigeon hv hs hu hl
      have hlen : (u.take i ++ u.drop j).length = i + (u.length - j) := by
        rw [List.length_append, List.length_take, List.length_drop]; omega
      refine cyc_mid hv hs m (u.take i ++ u.drop j) (by omega) ((hu.tk i).app (hu.dp j)) ?_ (by omega)
      rw [runN_append, e, ← runN_append, List.take_append_drop]; exact hf
theorem inf_iff {d : DFA} (hv : Val d) {s : Nat} (hs : s < d.next.length) : InfC d s ↔ ∃ z, Wd d z ∧ finN d (runN d s z) = true ∧ d.next.length ≤ z.length ∧ z.length < 2 * d.next.length := by
  constructor
  · intro h
    obtain ⟨u, h1, h2, h3⟩ := cyc_long h d.next.length
    exact cyc_mid hv hs u.length u (Nat.le_refl _) h1 h2 h3
  · rintro ⟨z, h1, h2, h3, _⟩
    exact long_cyc hv hs h1 h2 h3
theorem inf_of {a b : DFA} (ha : Val a) (hb : Val b) (hvr : a.vars = b.vars) (h : ∀ u, Wd a u → acc a u = acc b u) (hi : InfC a a.start.toNat) : InfC b b.start.toNat := by
  obtain ⟨u, h1, h2, h3⟩ := cyc_long hi b.next.length
  have hw : Wd b u := fun x hx => by have := h1 x hx; rw [letN] at *; rw [← hvr]; exact this
  have h4 : acc b u = true := by rw [← h u h1]; exact h2
  exact long_cyc hb (start_lt hb) hw h4 h3
theorem inf_renum {d : DFA} (hv : Val d) : InfC (renum d) (renum d).start.toNat ↔ InfC d d.start.toNat := by
  have e : (renum d).vars = d.vars := rfl
  constructor
  · exact inf_of (renum_val hv) hv e fun u hu => renum_acc hv (show Wd d u from hu)
  · exact inf_of hv (renum_val hv) e.symm fun u hu => (renum_acc hv hu).symm
def Topo (d : DFA) : List Nat → Prop
  | [] => True
  | s :: l => (∀ x, x < letN d → Liv d (toN d s x) → toN d s x ∈ l) ∧ Topo d l
theorem topo_run {d : DFA} : ∀ {l : List Nat}, Topo d l → ∀ {s : Nat}, s ∈ l → ∀ (v : List Nat), Wd d v → Liv d (runN d s v) → runN d s v ∈ l
  | [], _, s, hs, _, _, _ => by cases hs
  | a :: l, h, s, hs, [], _, _ => hs
  | a :: l, h, s, hs, x :: v, hw, hl => by
    have hw' := Wd.cons.1 hw
    have h1 : Liv d (toN d s x) := by
      obtain ⟨u, h2, h3⟩ := hl
      exact ⟨v ++ u, hw'.2.app h2, by rw [runN_append]; exact h3⟩
    rw [runN_cons] at hl ⊢
    rcases List.mem_cons.1 hs with rfl | hs
    · exact List.mem_cons_of_mem _ (topo_run h.2 (h.1 x hw'.1 h1) v hw'.2 hl)
    · have := topo_run h.2 hs (x :: v) hw (by rw [runN_cons]; exact hl)
      rw [runN_cons] at this
      exact List.mem_cons_of_mem _ this
theorem topo_strict {d : DFA} : ∀ {l : List Nat}, Topo d l → ∀ {s : Nat}, s ∈ l → Liv d s → Cyc d s → False
  | [], _, s, hs, _, _ => by cases hs
  | a :: l, h, s, hs, hl, hc => by
    rcases List.mem_cons.1 hs with rfl | hs
    · obtain ⟨v, h1, h2, h3⟩ := hc
      cases v with
      | nil => exact h1 rfl
      | cons x v =>
        have hw' := Wd.cons.1 h2
        rw [runN_cons] at h3
        have hx : Liv d (toN d s x) := by
          obtain ⟨u, g1, g2⟩ := hl
          exact ⟨v ++ u, hw'.2.app g1, by rw [runN_append, h3]; exact g2⟩
        have hin := topo_run h.2 (h.1 x hw'.1 hx) v hw'.2 (by rw [h3]; exact hl)
        rw [h3] at hin
        exact topo_strict h.2 hin hl ⟨x :: v, h1, h2, by rw [runN_cons]; exact h3⟩
    · exact topo_strict h.2 hs hl hc
theorem topo_fin {d : DFA} {l : List Nat} (h : Topo d l) {s : Nat} (hs : Liv d s → s ∈ l) : ¬ InfC d s := by
  rintro ⟨u, t, h1, rfl, h2, h3⟩
  have hl : Liv d s := by
    obtain ⟨q, g1, g2⟩ := h2
    exact ⟨u ++ q, h1.app g1, by rw [runN_append]; exact g2⟩
  exact topo_strict h (topo_run h (hs hl) u h1 h2) h2 h3
def mkF (d : DFA) (op fin : List Nat) : List Int := (List.range d.next.length).map fun t => if t ∈ op then 1 else if t ∈ fin then 2 else 0
theorem mkF_len (d : DFA) (op fin : List Nat) : (mkF d op fin).length = d.next.length := by simp [mkF]
theorem mkF_zero (d : DFA) : ints (mkF d [] []) = List.replicate d.next.length (.int .i64 0) := by
  apply List.ext_getElem (by simp [mkF])
  intro i h1 h2
  simp [mkF]
theorem mkF_at {d : DFA} {op fin : List Nat} {s : Nat} (hs : s < d.next.length) : (ints (mkF d op fin))[s]? = some (.int .i64 (if s ∈ op then 1 else if s ∈ fin then 2 else 0)) := by
  rw [List.getElem?_map, mkF, List.getElem?_map, List.getElem?_range hs]; rfl
theorem mkF_open {d : DFA} {op fin : List Nat} {s : Nat} (hs : s < d.next.length) : (mkF d op fin).set s 1 = mkF d (s :: op) fin := by
  apply List.ext_getElem (by simp [mkF])
  intro i h1 h2
  rw [List.getElem_set]
  simp only [mkF, List.getElem_map, List.getElem_range, List.mem_cons]
  by_cases e : s = i
  · subst e; simp
  · have e' : ¬ i = s := fun h => e h.symm
    simp [e, e']
theorem mkF_done {d : DFA} {op fin : List Nat} {s : Nat} (hs : s < d.next.length) (ho : s ∉ op) : (mkF d (s :: op) fin).set s 2 = mkF d op (s :: fin) := by
  apply List.ext_getElem (by simp [mkF])
  intro i h1 h2
  rw [List.getElem_set]
  simp only [mkF, List.getElem_map, List.getElem_range, List.mem_cons]
  by_cases e : s = i
  · subst e; simp [ho]
  · have e' : ¬ i = s := fun h => e h.symm
    simp [e, e']
theorem mkF_two {op fin : List Nat} {s : Nat} (h : ∀ o ∈ op, o ∉ fin) : (if s ∈ op then (1 : Int) else if s ∈ fin then 2 else 0) = 2 ↔ s ∈ fin := by
  by_cases h1 : s ∈ op
  · rw [if_pos h1]; exact ⟨fun h9 => absurd h9 (by decide), fun h2 => absurd h2 (h s h1)⟩
  · rw [if_neg h1]; split <;> simp_all
theorem mkF_one {op fin : List Nat} {s : Nat} : (if s ∈ op then (1 : Int) else if s ∈ fin then 2 else 0) = 1 ↔ s ∈ op := by
  by_cases h1 : s ∈ op
  · simp [h1]
  · rw [if_neg h1]; split <;> simp_all
structure DfsI (d : DFA) (op fin : List Nat) : Prop where
  topo : Topo d fin
  nd : op.Nodup
  lt : ∀ o ∈ op, o < d.next.length
  liv : ∀ o ∈ op, Liv d o
  dis : ∀ o ∈ op, o ∉ fin
theorem DfsI.zero (d : DFA) : DfsI d [] [] := ⟨trivial, List.nodup_nil, fun o h => (by cases h), fun o h => (by cases h), fun o h => (by cases h)⟩
def WayI (d : DFA) (op : List Nat) (s : Nat) : Prop := ∀ o ∈ op, ∃ v, v ≠ [] ∧ Wd d v ∧ runN d o v = s
theorem WayI.zero (d : DFA) (s : Nat) : WayI d [] s := fun o h => by cases h
theorem WayI.step {d : DFA} {op : List Nat} {s x : Nat} (h : WayI d op s) (hx : x < letN d) : WayI d (s :: op) (toN d s x) := fun o ho => by
  rcases List.mem_cons.1 ho with rfl | ho
  · exact ⟨[x], by simp, Wd.cons.2 ⟨hx, Wd.nil⟩, rfl⟩
  · obtain ⟨v, h1, h2, h3⟩ := h o ho
    exact ⟨v ++ [x], by simp, h2.app (Wd.cons.2 ⟨hx, Wd.nil⟩), by rw [runN_append, h3]; rfl⟩
theorem WayI.cyc {d : DFA} {op : List Nat} {s : Nat} (h : WayI d op s) (hs : s ∈ op) : Cyc d s := h s hs
theorem DfsI.open {d : DFA} {op fin : List Nat} {s : Nat} (h : DfsI d op fin) (hs : s < d.next.length) (hl : Liv d s) (ho : s ∉ op) (hf : s ∉ fin) : DfsI d (s :: op) fin where
  topo := h.topo
  nd := List.nodup_cons.2 ⟨ho, h.nd⟩
  lt o hm := (List.mem_cons.1 hm).elim (fun e => e ▸ hs) (h.lt o)
  liv o hm := (List.mem_cons.1 hm).elim (fun e => e ▸ hl) (h.liv o)
  dis o hm := (List.mem_cons.1 hm).elim (fun e => e ▸ hf) (h.dis o)
theorem DfsI.done {d : DFA} {op fin : List Nat} {s : Nat} (h : DfsI d (s :: op) fin) (hx : ∀ x, x < letN d → Liv d (toN d s x) → toN d s x ∈ fin) : DfsI d op (s :: fin) where
  topo := ⟨hx, h.topo⟩
  nd := (List.nodup_cons.1 h.nd).2
  lt o hm := h.lt o (List.mem_cons_of_mem _ hm)
  liv o hm := h.liv o (List.mem_cons_of_mem _ hm)
  dis o hm := fun h2 => (List.mem_cons.1 h2).elim (fun e => (List.nodup_cons.1 h.nd).1 (e ▸ hm)) (h.dis o (List.mem_cons_of_mem _ hm))
theorem DfsI.small {d : DFA} {op fin : List Nat} (h : DfsI d op fin) : op.length ≤ d.next.length := nodup_bound h.nd h.lt
theorem InfC.up {d : DFA} {s x : Nat} (hx : x < letN d) (h : InfC d (toN d s x)) : InfC d s := by
  obtain ⟨u, t, h1, h2, h3, h4⟩ := h
  exact ⟨x :: u, t, Wd.cons.2 ⟨hx, h1⟩, h2, h3, h4⟩
def LivB (d : DFA) (lv : List Bool) : Prop := lv.length = d.next.length ∧ ∀ s (h : s < lv.length), lv[s] = true ↔ Liv d s
structure Prod (d : DFA) (lv : List Bool) : Prop where
  len : lv.length = d.next.length
  fin : ∀ s, s < d.next.length → finN d s = true → lv.getD s false = true
  snd : ∀ s, s < d.next.length → lv.getD s false = true → Liv d s
theorem Prod.start {d : DFA} (h : d.final.length = d.next.length) : Prod d d.final where
  len := h
  fin s hs hf := hf
  snd s hs hf := ⟨[], Wd.nil, hf⟩
theorem Prod.put {d : DFA} {lv : List Bool} {s x : Nat} (h : Prod d lv) (hs : s < d.next.length) (hx : x < letN d) (ht : toN d s x < d.next.length) (hl : lv.getD (toN d s x) false = true) : Prod d (lv.set s true) where
  len := by rw [List.length_set]; exact h.len
  fin t ht' hf := by
    rw [List.getD_eq_getElem?_getD, List.getElem?_set]
    have := h.fin t ht' hf
    rw [List.getD_eq_getElem?_getD] at this
    split
    · rename_i e; rw [if_pos (by rw [h.len]; exact hs)]; rfl
    · exact this
  snd t ht' hf := by
    by_cases e : t = s
    · subst e
      obtain ⟨u, h1, h2⟩ := h.snd _ ht hl
      exact ⟨x :: u, Wd.cons.2 ⟨hx, h1⟩, h2⟩
    · rw [List.getD_eq_getElem?_getD, List.getElem?_set_ne (fun h => e h.symm), ← List.getD_eq_getElem?_getD] at hf
      exact h.snd t ht' hf
theorem Prod.end {d : DFA} (hv : Val d) {lv : List Bool} (h : Prod d lv) (hc : ∀ s, s < d.next.length → lv.getD s false = false → ∀ x, x < letN d → lv.getD (toN d s x) false = false) : LivB d lv := by
  have key : ∀ (u : List Nat) (s : Nat), s < d.next.length → Wd d u → finN d (runN d s u) = true → lv.getD s false = true := by
    intro u
    induction u with
    | nil => intro s hs _ hf; exact h.fin s hs hf
    | cons x u ih =>
      intro s hs hw hf
      have hw' := Wd.cons.1 hw
      have ht := (hv.toN_lt hs hw'.1).1
      have h1 := ih (toN d s x) ht hw'.2 hf
      by_cases e : lv.getD s false = true
      · exact e
      · have := hc s hs (by simpa using e) x hw'.1
        rw [this] at h1; cases h1
  refine ⟨h.len, fun s hs => ?_⟩
  have hs' : s < d.next.length := by rw [← h.len]; exact hs
  have e : lv.getD s false = lv[s] := by rw [List.getD_eq_getElem?_getD, List.getElem?_eq_getElem hs]; rfl
  constructor
  · intro h1; exact h.snd s hs' (by rw [e]; exact h1)
  · rintro ⟨u, h1, h2⟩
    rw [← e]; exact key u s hs' h1 h2
theorem LivB.at {d : DFA} {lv : List Bool} (h : LivB d lv) {s : Nat} (hs : s < d.next.length) : ∃ b, (bools lv)[s]? = some (.bool b) ∧ (b = true ↔ Liv d s) := by
  have hl : s < lv.length := by rw [h.1]; exact hs
  exact ⟨lv[s], bools_get hl, h.2 s hl⟩
theorem bools_at {l : List Bool} {i : Nat} (h : i < l.length) : (bools l)[i]? = some (.bool (l.getD i false)) := by
  rw [List.getElem?_map, List.getElem?_eq_getElem h, List.getD_eq_getElem?_getD, List.getElem?_eq_getElem h]; rfl
theorem count_set {l : List Bool} : ∀ {s : Nat}, s < l.length → l.getD s false = false → (l.set s true).count false + 1 = l.count false := by
  induction l with
  | nil => intro s h; simp at h
  | cons a l ih =>
    intro s h hf
    cases s with
    | zero => simp at hf; subst hf; simp
    | succ s =>
      have := ih (s := s) (by simpa using h) (by simpa using hf)
      rw [List.set_cons_succ, List.count_cons, List.count_cons]; omega
end Go.Lx


namespace Go.Proofs.YtnmfefmhfkhihaaDoor
open Go.Lx Go.RowKit
set_option linter.unusedVariables false
set_option linter.unusedSimpArgs false
set_option maxHeartbeats 1000000 in
set_option maxRecDepth 20000 in
theorem indexFunc (base : World) [Tab Tryd.prog base] (b : Option Addr) (c : Nat) (xs : List Nat) (hS : Sl base b (byts xs)) (hb : xs.length < 9223372036854775807) (fv : Value) (p : Nat → Bool) (OO : List Lx.Item) (hy : ∀ x ∈ xs, CallV Tryd.prog base fv [.int .u8 (x : Int)] OO (fun v O' => v = .bool (p x) ∧ O' = OO)) :
    CallT Tryd.prog base 87 [.slice b xs.length c, fv] OO (fun v O' => ∃ i : Int, v = .int .i64 i ∧ decide (i ≥ 0) = xs.any p ∧ O' = OO) := by
  refine CallT.enter Tryd.func87 rfl Tryd.ntmps87 rfl ?_
  refine T.seq (T.region ?_)
  refine TO.quiet (q_assign rfl) ?_
  refine TO.nil (T.seq (T.seq (T.region ?_)))
  refine TO.quiet (q_move rfl) (TO.quiet (q_len Tryd.underlying29 rfl) (TO.quiet (q_move rfl) ?_))
  refine TO.nil (T.block ?_)
  refine T.loop (fun (k : Nat) ρ O => O = OO ∧ k ≤ xs.length ∧ (xs.take k).any p = false ∧ Heads [(0, (.slice b xs.length c)), (1, fv), (7, .int .i64 (xs.length : Int)), (8, .int .i64 (k : Int))] ρ) (fun k => xs.length - k) 0 ?_ ?_
  · exact ⟨rfl, Nat.zero_le _, rfl, ⟨rfl, rfl, rfl, rfl, trivial⟩⟩
  rintro k ρ O ⟨rfl, hk, hany, hH⟩
  obtain ⟨ρ0, rfl⟩ := hH.elim
  clear hH
  refine T.seq (T.region ?_)
  refine TO.quiet (q_lss rfl rfl) ?_
  refine TO.nil (T.seq ?_)
  refine T.condP rfl (fun hc => ?_) (fun hc => ?_)
  · have hlt9 : k < xs.length := by omega
    refine T.skip (T.seq (T.block (T.seq (T.region ?_))))
    refine TO.quiet (q_move rfl) (TO.quiet (q_assign rfl) ?_)
    refine TO.nil (T.seq (T.region ?_))
    refine TO.quiet (q_move rfl) (TO.quiet (q_move rfl) (TO.quiet (q_move rfl) (TO.quiet (q_ix (i := k) Tryd.underlying29 inf5 rfl rfl (Sl.o hS) hlt9 (by rw [List.length_map]; exact hlt9)) ?_)))
    refine TO.quiet (q_ld Tryd.underlying5 rfl rfl (Sl.o hS) (byts_get hlt9)) ?_
    have hk16 := hy xs[k] (List.getElem_mem hlt9)
    refine TO.loud rfl (l_callG hk16 rfl rfl ?_)
    clear hk16
    rintro v O' ⟨rfl, rfl⟩
    refine TO.nil ?_
    refine T.cond rfl (fun hc => ?_) (fun hc => ?_)
    · refine T.seq ?_
      refine T.region ?_
      refine TO.quiet (q_move rfl) (TO.quiet (q_assign rfl) ?_)
      refine TO.nil (T.ret (Res.drop ?_))
      refine Res.one (.int .i64 (k : Int)) Tryd.results87 rfl ?_
      exact ⟨_, Sub.of (List.Sublist.refl _), k, rfl, by rw [any_at hlt9 hc]; exact decide_eq_true (by omega), rfl⟩
    refine T.skip (T.region ?_)
    refine TO.quiet (q_inc rfl rfl (by omega)) (TO.quiet (q_move rfl) ?_)
    refine TO.nil ?_
    exact ⟨k + 1, by omega, rfl, by omega, any_take hlt9 hany hc, ⟨rfl, rfl, rfl, rfl, trivial⟩⟩
  have hge9 : ¬ k < xs.length := by omega
  refine T.exit ?_
  refine T.seq (T.region ?_)
  refine TO.quiet (q_assign rfl) ?_
  refine TO.nil (T.ret (Res.drop ?_))
  refine Res.one (.int .i64 (-1)) Tryd.results87 rfl ?_
  exact ⟨_, Sub.of (List.Sublist.refl _), -1, rfl, by rw [List.take_of_length_le (by omega)] at hany; rw [hany]; decide, rfl⟩
set_option maxHeartbeats 1000000 in
set_option maxRecDepth 20000 in
theorem containsFunc (base : World) [Tab Tryd.prog base] (b : Option Addr) (c : Nat) (xs : List Nat) (hS : Sl base b (byts xs)) (hb : xs.length < 9223372036854775807) (fv : Value) (p : Nat → Bool) (OO : List Lx.Item) (hy : ∀ x ∈ xs, CallV Tryd.prog base fv [.int .u8 (x : Int)] OO (fun v O' => v = .bool (p x) ∧ O' = OO)) :
    CallT Tryd.prog base 79 [.slice b xs.length c, fv] OO (fun v O' => v = .bool (xs.any p) ∧ O' = OO) := by
  refine CallT.enter Tryd.func79 rfl Tryd.ntmps79 rfl ?_
  refine T.seq (T.region ?_)
  refine TO.quiet (q_assign rfl) ?_
  refine TO.nil (T.seq (T.region ?_))
  refine TO.quiet (q_move rfl) (TO.quiet (q_move rfl) ?_)
  have hk7 := indexFunc base b c xs hS hb fv p OO hy
  refine TO.loud rfl (l_call ent87 hk7 rfl ?_)
  clear hk7
  rintro v O' ⟨i, rfl, hi, rfl⟩
  refine TO.quiet (q_geq rfl rfl) (TO.quiet (q_assign rfl) ?_)
  refine TO.nil (T.ret (Res.drop ?_))
  refine Res.one (.bool (decide (i ≥ 0))) Tryd.results79 rfl ?_
  exact ⟨_, Sub.of (List.Sublist.refl _), congrArg Value.bool hi, rfl⟩
set_option maxHeartbeats 1000000 in
set_option maxRecDepth 20000 in
theorem tooGreat (base : World) [Tab Tryd.prog base] (d : DFA) (nb fb : Option Addr) (nc fc : Nat) (hv0 : 0 ≤ d.vars) (hv6 : d.vars ≤ 6) (bx x : Nat) (hx : x < 256) :
    CallT Tryd.prog base 80 [.int .u8 (x : Int), .pointer (some ⟨bx, 0, none⟩)] [oI bx 25 [(.int .i64 d.vars), (.int .i64 d.start), (.slice nb d.next.length nc), (.slice fb d.final.length fc)]] (fun v O' => v = .bool (decide (2 ^ d.vars.toNat ≤ x)) ∧ O' = [oI bx 25 [(.int .i64 d.vars), (.int .i64 d.start), (.slice nb d.next.length nc), (.slice fb d.final.length fc)]]) := by
  refine CallT.enter Tryd.func80 rfl Tryd.ntmps80 rfl ?_
  refine T.seq (T.region ?_)
  refine TO.quiet (q_assign rfl) ?_
  refine TO.nil (T.seq (T.region ?_))
  refine TO.quiet (q_move rfl) (TO.quiet (q_conv_id Tryd.underlying5 Tryd.underlying3 rfl (wrap64_id ⟨by omega, by omega⟩)) (TO.quiet (q_fieldAddr Tryd.underlying25 rfl inf3 rfl rfl) (TO.quiet (q_load_box 0 Tryd.underlying3 rfl rfl rfl rfl) ?_)))
  refine TO.quiet (q_shl1 (v := d.vars.toNat) rfl (by show Value.int _ d.vars = _; rw [Int.toNat_of_nonneg hv0]) (by omega)) (TO.quiet (q_geq rfl rfl) (TO.quiet (q_assign rfl) ?_))
  refine TO.nil (T.ret ?_)
  refine Res.one (.bool (decide ((x : Int) ≥ ((2 ^ d.vars.toNat : Nat) : Int)))) Tryd.results80 rfl ?_
  exact ⟨congrArg Value.bool (decide_eq_decide.2 (by omega)), rfl⟩
set_option maxHeartbeats 1000000 in
set_option maxRecDepth 20000 in
theorem runM (w : World) [Tab Tryd.prog w] (d : DFA) (nb fb : Option Addr) (nc fc : Nat) (vs : List Value) (h : DfaAt w d nb vs fb) (hv : Valid d) (wb : Option Addr) (wc : Nat) (l : List Nat) (hW : Sl w wb (byts l)) (hwb : l.length < 9223372036854775807) (hwd : Wd d l) :
    PureT Tryd.prog 81 [.agg (dfaCells d nb nc fb fc).toArray, .slice wb l.length wc] w fun v N => v = .int .i64 ((Lx.runN d d.start.toNat l : Nat) : Int) ∧ N = [] := by
  refine CallT.enter Tryd.func81 rfl Tryd.ntmps81 rfl ?_
  have hs0 := hv.s0
  have hs1 := hv.s1
  have hvl := h.rows.1
  refine T.seq (T.region ?_)
  refine TO.loud rfl (l_box (v := (.agg #[(.int .i64 d.vars), (.int .i64 d.start), (.slice nb d.next.length nc), (.slice fb d.final.length fc)])) (cs := [(.int .i64 d.vars), (.int .i64 d.start), (.slice nb d.next.length nc), (.slice fb d.final.length fc)]) rfl rfl (fun b1 => ?_))
  refine TO.quiet (q_assign rfl) ?_
  refine TO.nil (T.seq (T.region ?_))
  refine TO.quiet (q_fieldAddr Tryd.underlying116 rfl inf25 rfl rfl) (TO.quiet (q_fieldAddr Tryd.underlying25 rfl inf3 rfl rfl) (TO.quiet (QT.cast (q_load_box 0 Tryd.underlying3 rfl rfl rfl rfl) (v' := .int .i64 ((Lx.runN d d.start.toNat (l.take 0) : Nat) : Int)) (by show Value.int _ d.start = _; rw [show Lx.runN d d.start.toNat (l.take 0) = d.start.toNat from rfl, Int.toNat_of_nonneg hs0])) (TO.quiet (q_assign rfl) ?_)))
  refine TO.nil (T.seq (T.seq (T.region ?_)))
  refine TO.quiet (q_move rfl) (TO.quiet (q_len Tryd.underlying29 rfl) (TO.quiet (q_move rfl) ?_))
  refine TO.nil (T.block ?_)
  refine T.loop (fun (k : Nat) ρ O => O = [oI b1 116 [(.int .i64 d.vars), (.int .i64 d.start), (.slice nb d.next.length nc), (.slice fb d.final.length fc)]] ∧ k ≤ l.length ∧ Heads [(0, (.agg #[(.int .i64 d.vars), (.int .i64 d.start), (.slice nb d.next.length nc), (.slice fb d.final.length fc)])), (1, (.slice wb l.length wc)), (2, (.pointer (some ⟨b1, 0, none⟩))), (4, .int .i64 0), (5, .int .i64 ((Lx.runN d d.start.toNat (l.take k) : Nat) : Int)), (11, (.slice wb l.length wc)), (12, .int .i64 (l.length : Int)), (13, .int .i64 (k : Int))] ρ) (fun k => l.length - k) 0 ?_ ?_
  · exact ⟨rfl, Nat.zero_le _, ⟨rfl, rfl, rfl, rfl, rfl, rfl, rfl, rfl, trivial⟩⟩
  rintro k ρ O ⟨rfl, hk, hH⟩
  obtain ⟨ρ0, rfl⟩ := hH.elim
  clear hH
  refine T.seq (T.region ?_)
  refine TO.quiet (q_lss rfl rfl) ?_
  refine TO.nil (T.seq ?_)
  refine T.condP rfl (fun hc => ?_) (fun hc => ?_)
  · have hlt14 : k < l.length := by omega
    obtain ⟨o, ho⟩ : ∃ o, Lx.runN d d.start.toNat (l.take k) = o := ⟨_, rfl⟩
    have ho9 : o < d.next.length := by rw [← ho]; exact runN_lt hv.toVal (by omega) _ (fun x hx => hwd x (List.mem_of_mem_take hx))
    have hlx : l[k] < 2 ^ d.vars.toNat := hwd _ (List.getElem_mem hlt14)
    obtain ⟨vb, vc, g1, s1⟩ := h.rows.get ho9
    have hl1 : d.next[o].length = 2 ^ d.vars.toNat := hv.len _ (List.getElem_mem ho9)
    obtain ⟨hta, _, hxk1, hx1⟩ := hv.toN_lt ho9 hlx
    have hx1 : (ints d.next[o])[l[k]]? = some (.int .i64 ((toN d o l[k] : Nat) : Int)) := by rw [ints_get hxk1, hx1]
    refine T.skip (T.seq (T.block (T.seq (T.region ?_))))
    refine TO.quiet (q_ix (i := k) Tryd.underlying29 inf5 rfl rfl (Sl.o hW) hlt14 (by rw [List.length_map]; exact hlt14)) (TO.quiet (q_ld Tryd.underlying5 rfl rfl (Sl.o hW) (byts_get hlt14)) (TO.quiet (q_assign rfl) ?_))
    refine TO.nil (T.region ?_)
    refine TO.quiet (q_fieldAddr Tryd.underlying116 rfl inf25 rfl rfl) (TO.quiet (q_fieldAddr Tryd.underlying25 rfl inf22 rfl rfl) (TO.quiet (q_load_box 0 Tryd.underlying22 rfl rfl rfl rfl) (TO.quiet (QT.cast (q_move rfl) (v' := .int .i64 ((o : Nat) : Int)) (by show Value.int _ _ = _; rw [ho])) ?_)))
    refine TO.quiet (q_ix (i := o) Tryd.underlying22 inf41 rfl rfl (Sl.o h.outer) ho9 (hvl ▸ ho9)) (TO.quiet (q_ld Tryd.underlying41 rfl rfl (Sl.o h.outer) g1) (TO.quiet (q_move rfl) (TO.quiet (q_ix (i := l[k]) Tryd.underlying41 inf3 rfl rfl (Sl.o s1) (by rw [hl1]; exact hlx) (by rw [List.length_map, hl1]; exact hlx)) ?_)))
    refine TO.quiet (q_ld Tryd.underlying3 rfl rfl (Sl.o s1) hx1) (TO.quiet (q_assign rfl) ?_)
    refine TO.nil (T.region ?_)
    refine TO.quiet (q_inc rfl rfl (by omega)) (TO.quiet (q_move rfl) ?_)
    refine TO.nil ?_
    refine ⟨k + 1, by omega, rfl, by omega, ?_⟩
    rw [runN_take hlt14, ho]; exact ⟨rfl, rfl, rfl, rfl, rfl, rfl, rfl, rfl, trivial⟩
  have hge14 : ¬ k < l.length := by omega
  refine T.exit ?_
  refine T.seq (T.region ?_)
  refine TO.quiet (q_move rfl) (TO.quiet (q_assign rfl) ?_)
  refine TO.nil (T.ret (Res.drop ?_))
  refine Res.one (.int .i64 ((Lx.runN d d.start.toNat (l.take k) : Nat) : Int)) Tryd.results81 rfl ?_
  have hke : k = l.length := by omega
  exact ⟨[], Sub.of (List.nil_sublist _), by rw [List.take_of_length_le (by omega)], rfl⟩
set_option maxHeartbeats 1000000 in
set_option maxRecDepth 20000 in
theorem runA (w : World) [Tab Tryd.prog w] (d : DFA) (nb fb : Option Addr) (nc fc : Nat) (vs : List Value) (h : DfaAt w d nb vs fb) (hb : d.next.length < 9223372036854775807) (hbr : ∀ r ∈ d.next, r.length < 9223372036854775807) (hbf : d.final.length < 9223372036854775807) (wb : Option Addr) (wc : Nat) (l : List Nat) (hW : Sl w wb (byts l)) (hwb : l.length < 9223372036854775807) (hw8 : ∀ x ∈ l, x < 256) :
    PureT Tryd.prog 72 [.agg (dfaCells d nb nc fb fc).toArray, .slice wb l.length wc] w fun v N => v = .tuple #[.int .i64 ((runV d l : Nat) : Int), .int .i64 ((runE d l : Nat) : Int)] ∧ N = [] := by
  refine CallT.enter Tryd.func72 rfl Tryd.ntmps72 rfl ?_
  refine T.seq (T.region ?_)
  refine TO.loud rfl (l_box (v := (.agg #[(.int .i64 d.vars), (.int .i64 d.start), (.slice nb d.next.length nc), (.slice fb d.final.length fc)])) (cs := [(.int .i64 d.vars), (.int .i64 d.start), (.slice nb d.next.length nc), (.slice fb d.final.length fc)]) rfl rfl (fun b1 => ?_))
  refine TO.quiet (q_assign rfl) (TO.quiet (q_assign rfl) ?_)
  refine TO.nil (T.seq (T.seq (T.region ?_)))
  refine TO.quiet (q_load_boxAgg 0 Tryd.underlying25 rfl inf25 rfl rfl rfl) ?_
  have hk9 := fun (w1 : World) (hI : Inv w [oI b1 25 [(.int .i64 d.vars), (.int .i64 d.start), (.slice nb d.next.length nc), (.slice fb d.final.length fc)]] w1) => (haveI := Inv.tab (P := Tryd.prog) hI; subsetCheck w1 d nb fb nc fc vs (hI.dfa h) hb hbr hbf)
  refine TO.loud rfl (l_call ent33 (CallT.of_pure hk9) rfl ?_)
  clear hk9
  rintro v O' ⟨N, rfl, rfl, rfl⟩
  refine TO.quiet (q_assign rfl) ?_
  refine TO.nil (T.seq (T.region ?_))
  refine TO.quiet (q_move rfl) ?_
  by_cases hE : (checkD d : Int) ≠ 0
  · refine TO.quiet (QT.toB (q_neq rfl rfl) (decide_eq_true hE)) ?_
    refine TO.nil ?_
    refine T.cond1 rfl ?_
    refine T.seq (T.region ?_)
    refine TO.quiet (q_move rfl) (TO.quiet (q_assign rfl) (TO.quiet (q_assign rfl) ?_))
    refine TO.nil (T.ret (Res.drop ?_))
    refine Res.two (.int .i64 0) (.int .i64 (checkD d : Int)) Tryd.results72 rfl rfl ?_
    have hE1 : runE d l = checkD d := by unfold runE; rw [if_pos (by omega)]
    have hE0 : ¬ runE d l = 0 := by omega
    exact ⟨[], Sub.of (List.nil_sublist _), by unfold runV; rw [if_neg hE0, hE1]; try rfl, rfl⟩
  refine TO.quiet (QT.toB (q_neq rfl rfl) (decide_eq_false hE)) ?_
  refine TO.nil ?_
  refine T.cond0 rfl ?_
  refine T.skip (T.seq (T.block (T.seq ?_)))
  have he : checkD d = 0 := by omega
  have hv : Valid d := checkD_zero.1 he
  refine T.region ?_
  refine TO.quiet (q_move rfl) (TO.quiet (q_len Tryd.underlying29 rfl) ?_)
  by_cases h64 : (l.length : Int) > 64
  · refine TO.quiet (QT.toB (q_gtr rfl rfl) (decide_eq_true h64)) ?_
    refine TO.quiet (q_assign rfl) ?_
    refine TO.nil ?_
    refine T.cond1 rfl ?_
    refine T.seq (T.region ?_)
    refine TO.quiet (q_assign rfl) (TO.quiet (q_assign rfl) ?_)
    refine TO.nil (T.ret (Res.drop ?_))
    refine Res.two (.int .i64 0) (.int .i64 4) Tryd.results72 rfl rfl ?_
    have hE1 : runE d l = 4 := by unfold runE; rw [if_neg (by simp [he]), if_pos (by omega)]
    have hE0 : ¬ runE d l = 0 := by omega
    exact ⟨[], Sub.of (List.nil_sublist _), by unfold runV; rw [if_neg hE0, hE1]; try rfl, rfl⟩
  refine TO.quiet (QT.toB (q_gtr rfl rfl) (decide_eq_false h64)) (TO.quiet (q_assign rfl) ?_)
  refine TO.nil ?_
  refine T.cond0 rfl ?_
  refine T.seq (T.region ?_)
  refine TO.quiet (q_move rfl) (TO.quiet (q_makeFunc) ?_)
  by_cases hany : l.any (fun x => decide (2 ^ d.vars.toNat ≤ x)) = true
  · have hk20 := (containsFunc w wb wc l hW hwb (.func (.func 80) #[] #[.pointer (some ⟨b1, 0, none⟩)]) (fun x => decide (2 ^ d.vars.toNat ≤ x)) [oI b1 25 [(.int .i64 d.vars), (.int .i64 d.start), (.slice nb d.next.length nc), (.slice fb d.final.length fc)]] (fun x hx => CallV.of_fn (first := []) (args := [.int .u8 (x : Int)]) (caps := [.pointer (some ⟨b1, 0, none⟩)]) ent80 (tooGreat w d nb fb nc fc hv.v0 hv.v6 b1 x (hw8 x hx)))).mono (fun v O' hh => (⟨hh.1.trans (congrArg Value.bool ((show ∀ b : Bool, b = decide (b = true) from fun b => by cases b <;> rfl) _)), hh.2⟩ : v = .bool (decide (l.any (fun x => decide (2 ^ d.vars.toNat ≤ x)) = true)) ∧ O' = [oI b1 25 [(.int .i64 d.vars), (.int .i64 d.start), (.slice nb d.next.length nc), (.slice fb d.final.length fc)]]))
    refine TO.loud rfl (l_call ent79 hk20 rfl ?_)
    clear hk20
    rintro v O' ⟨rfl, rfl⟩
    rw [decide_eq_true hany]
    refine TO.quiet (q_assign rfl) ?_
    refine TO.nil ?_
    refine T.cond1 rfl ?_
    refine T.seq (T.region ?_)
    refine TO.quiet (q_assign rfl) (TO.quiet (q_assign rfl) ?_)
    refine TO.nil (T.ret (Res.drop ?_))
    refine Res.two (.int .i64 0) (.int .i64 1) Tryd.results72 rfl rfl ?_
    have hE1 : runE d l = 1 := by unfold runE; rw [if_neg (by simp [he]), if_neg (by omega), if_pos hany]
    have hE0 : ¬ runE d l = 0 := by omega
    exact ⟨[], Sub.of (List.nil_sublist _), by unfold runV; rw [if_neg hE0, hE1]; try rfl, rfl⟩
  have hk20 := (containsFunc w wb wc l hW hwb (.func (.func 80) #[] #[.pointer (some ⟨b1, 0, none⟩)]) (fun x => decide (2 ^ d.vars.toNat ≤ x)) [oI b1 25 [(.int .i64 d.vars), (.int .i64 d.start), (.slice nb d.next.length nc), (.slice fb d.final.length fc)]] (fun x hx => CallV.of_fn (first := []) (args := [.int .u8 (x : Int)]) (caps := [.pointer (some ⟨b1, 0, none⟩)]) ent80 (tooGreat w d nb fb nc fc hv.v0 hv.v6 b1 x (hw8 x hx)))).mono (fun v O' hh => (⟨hh.1.trans (congrArg Value.bool ((show ∀ b : Bool, b = decide (b = true) from fun b => by cases b <;> rfl) _)), hh.2⟩ : v = .bool (decide (l.any (fun x => decide (2 ^ d.vars.toNat ≤ x)) = true)) ∧ O' = [oI b1 25 [(.int .i64 d.vars), (.int .i64 d.start), (.slice nb d.next.length nc), (.slice fb d.final.length fc)]]))
  refine TO.loud rfl (l_call ent79 hk20 rfl ?_)
  clear hk20
  rintro v O' ⟨rfl, rfl⟩
  rw [decide_eq_false hany]
  refine TO.quiet (q_assign rfl) ?_
  refine TO.nil ?_
  refine T.cond0 rfl ?_
  refine T.skip (T.seq ?_)
  have hE0 : runE d l = 0 := by unfold runE; rw [if_neg (by simp [he]), if_neg (by omega), if_neg hany]
  have hwd : Wd d l := (runE_zero.1 hE0).2.2
  refine T.region ?_
  refine TO.quiet (q_load_boxAgg 0 Tryd.underlying25 rfl inf25 rfl rfl rfl) (TO.quiet (q_build (cs := [(.int .i64 d.vars), (.int .i64 d.start), (.slice nb d.next.length nc), (.slice fb d.final.length fc)]) plan116 inf116 (by kernel_rfl)) (TO.quiet (q_makeFunc) (TO.quiet (q_assign rfl) ?_)))
  refine TO.nil (T.seq (T.region ?_))
  refine TO.quiet (q_move rfl) (TO.quiet (q_move rfl) ?_)
  have hk26 := CallV.of_fn (first := [.agg (dfaCells d nb nc fb fc).toArray]) (args := [.slice wb l.length wc]) (caps := []) ent81 (CallT.of_pure (fun w1 (hI : Inv w [oI b1 25 [(.int .i64 d.vars), (.int .i64 d.start), (.slice nb d.next.length nc), (.slice fb d.final.length fc)]] w1) => haveI := Inv.tab (P := Tryd.prog) hI; runM w1 d nb fb nc fc vs (hI.dfa h) hv wb wc l (hI.sl hW) hwb hwd))
  refine TO.loud rfl (l_callG hk26 rfl rfl ?_)
  clear hk26
  rintro v O' ⟨N, rfl, rfl, rfl⟩
  refine TO.quiet (q_assign rfl) (TO.quiet (q_assign rfl) ?_)
  refine TO.nil (T.ret (Res.drop ?_))
  refine Res.two (.int .i64 ((Lx.runN d d.start.toNat l : Nat) : Int)) (.int .i64 0) Tryd.results72 rfl rfl ?_
  have hE1 := hE0
  exact ⟨[], Sub.of (List.nil_sublist _), by unfold runV; rw [if_pos hE0, hE1]; try rfl, rfl⟩
set_option maxHeartbeats 1000000 in
set_option maxRecDepth 20000 in
theorem acceptsA (w : World) [Tab Tryd.prog w] (d : DFA) (nb fb : Option Addr) (nc fc : Nat) (vs : List Value) (h : DfaAt w d nb vs fb) (hb : d.next.length < 9223372036854775807) (hbr : ∀ r ∈ d.next, r.length < 9223372036854775807) (hbf : d.final.length < 9223372036854775807) (wb : Option Addr) (wc : Nat) (l : List Nat) (hW : Sl w wb (byts l)) (hwb : l.length < 9223372036854775807) (hw8 : ∀ x ∈ l, x < 256) :
    PureT Tryd.prog 58 [.agg (dfaCells d nb nc fb fc).toArray, .slice wb l.length wc] w fun v N => v = .tuple #[.bool (accV d l), .int .i64 ((runE d l : Nat) : Int)] ∧ N = [] := by
  refine CallT.enter Tryd.func58 rfl Tryd.ntmps58 rfl ?_
  refine T.seq (T.region ?_)
  refine TO.loud rfl (l_box (v := (.agg #[(.int .i64 d.vars), (.int .i64 d.start), (.slice nb d.next.length nc), (.slice fb d.final.length fc)])) (cs := [(.int .i64 d.vars), (.int .i64 d.start), (.slice nb d.next.length nc), (.slice fb d.final.length fc)]) rfl rfl (fun b1 => ?_))
  refine TO.quiet (q_assign rfl) (TO.quiet (q_assign rfl) ?_)
  refine TO.nil (T.seq (T.region ?_))
  refine TO.quiet (q_load_boxAgg 0 Tryd.underlying25 rfl inf25 rfl rfl rfl) (TO.quiet (q_move rfl) ?_)
  have hk11 := fun (w1 : World) (hI : Inv w [oI b1 25 [(.int .i64 d.vars), (.int .i64 d.start), (.slice nb d.next.length nc), (.slice fb d.final.length fc)]] w1) => (haveI := Inv.tab (P := Tryd.prog) hI; runA w1 d nb fb nc fc vs (hI.dfa h) hb hbr hbf wb wc l (hI.sl hW) hwb hw8)
  refine TO.loud rfl (l_call ent72 (CallT.of_pure hk11) rfl ?_)
  clear hk11
  rintro v O' ⟨N, rfl, rfl, rfl⟩
  refine TO.quiet (q_move rfl) (TO.quiet (q_extract (vs := _) rfl rfl) (TO.quiet (q_extract (vs := _) rfl rfl) (TO.quiet (q_assign rfl) ?_)))
  refine TO.quiet (q_assign rfl) ?_
  refine TO.nil (T.seq ?_)
  have hfin : runE d l = 0 → runV d l < d.final.length := fun h0 => by
    obtain ⟨hv, _, hwd⟩ := runE_zero.1 h0
    unfold runV; rw [if_pos h0, hv.fin]
    exact runN_lt hv.toVal (by have := hv.s0; have := hv.s1; omega) _ hwd
  refine T.region ?_
  refine TO.quiet (q_move rfl) ?_
  by_cases h0 : ((runE d l : Nat) : Int) = 0
  · refine TO.quiet (QT.toB (q_eql rfl rfl) (decide_eq_true h0)) ?_
    refine TO.quiet (q_move rfl) ?_
    refine TO.guarded rfl rfl rfl (LT.of_quiet rfl rfl (q_fieldAddr Tryd.underlying25 rfl inf23 rfl rfl) ?_)
    refine TO.guarded rfl rfl rfl (LT.of_quiet rfl rfl (q_load_box 0 Tryd.underlying23 rfl rfl rfl rfl) ?_)
    refine TO.guarded rfl rfl rfl (LT.of_quiet rfl rfl (q_move rfl) ?_)
    refine TO.guarded rfl rfl rfl (LT.of_quiet rfl rfl (q_ix (i := (runV d l)) Tryd.underlying23 inf4 rfl rfl (Sl.o h.final) (hfin (by omega)) (by rw [List.length_map]; exact hfin (by omega))) ?_)
    refine TO.guarded rfl rfl rfl (LT.of_quiet rfl rfl (q_ld Tryd.underlying4 rfl rfl (Sl.o h.final) (show (bools d.final)[runV d l]? = some (.bool (finN d (runV d l))) by rw [bools_get (hfin (by omega))]; simp [finN, hfin (by omega)])) ?_)
    refine TO.quiet (q_pick1 rfl rfl) (TO.quiet (q_move rfl) (TO.quiet (q_assign rfl) (TO.quiet (q_assign rfl) ?_)))
    refine TO.nil (T.ret (Res.drop ?_))
    refine Res.two (.bool (finN d (runV d l))) (.int .i64 ((runE d l : Nat) : Int)) Tryd.results58 rfl rfl ?_
    have h9 : runE d l = 0 := by omega
    exact ⟨[], Sub.of (List.nil_sublist _), by unfold accV runV; rw [if_pos h9, if_pos h9], rfl⟩
  refine TO.quiet (QT.toB (q_eql rfl rfl) (decide_eq_false h0)) (TO.quiet (q_move rfl) ?_)
  refine TO.passed rfl rfl ?_
  refine TO.passed rfl rfl ?_
  refine TO.passed rfl rfl ?_
  refine TO.passed rfl rfl ?_
  refine TO.passed rfl rfl ?_
  refine TO.quiet (q_pick0 rfl rfl) (TO.quiet (q_move rfl) (TO.quiet (q_assign rfl) (TO.quiet (q_assign rfl) ?_)))
  refine TO.nil (T.ret (Res.drop ?_))
  refine Res.two (.bool false) (.int .i64 ((runE d l : Nat) : Int)) Tryd.results58 rfl rfl ?_
  have h9 : ¬ runE d l = 0 := by omega
  exact ⟨[], Sub.of (List.nil_sublist _), by unfold accV; rw [if_neg h9], rfl⟩
end Go.Proofs.YtnmfefmhfkhihaaDoor


namespace Go.Proofs.YtnmfefmhfkhihaaDoor
open Go.Lx Go.RowKit
set_option linter.unusedVariables false
set_option linter.unusedSimpArgs false
set_option maxHeartbeats 1000000 in
set_option maxRecDepth 20000 in
theorem cloneNilB (w : World) [Tab Tryd.prog w] (c : Nat) :
    PureT Tryd.prog 53 [.slice none 0 c] w fun v N => ∃ b' c', v = .slice b' 0 c' ∧ N = [rowI b' c' 4 1 []] := by
  refine CallT.enter Tryd.func53 rfl Tryd.ntmps53 rfl ?_
  refine T.seq (T.region ?_)
  refine TO.quiet (q_assign rfl) ?_
  refine TO.nil (T.seq (T.seq (T.region ?_)))
  refine TO.quiet (q_move rfl) (TO.quiet (q_eqlNil Tryd.underlying23 rfl rfl) ?_)
  refine TO.nil ?_
  refine T.cond1 rfl ?_
  refine T.seq ?_
  refine T.nilRow 4 1 ?_
  refine T.region ?_
  refine TO.quiet (q_assign rfl) ?_
  refine TO.nil (T.ret ?_)
  refine Res.one (.slice none 0 0) Tryd.results53 rfl ?_
  exact ⟨_, _, rfl, rfl⟩
set_option maxHeartbeats 1000000 in
set_option maxRecDepth 20000 in
theorem cloneSomeB (w : World) [Tab Tryd.prog w] (a : Addr) (c : Nat) (xs : List Bool) (h1 : Sl w (some a) (bools xs)) (hb : xs.length * 1 ≤ 70368744177664) :
    PureT Tryd.prog 53 [.slice (some a) xs.length c] w fun v N => ∃ b' c', v = .slice b' xs.length c' ∧ N = [rowI b' c' 4 1 (bools xs)] := by
  refine CallT.enter Tryd.func53 rfl Tryd.ntmps53 rfl ?_
  refine T.seq (T.region ?_)
  refine TO.quiet (q_assign rfl) ?_
  refine TO.nil (T.seq (T.seq (T.region ?_)))
  refine TO.quiet (q_move rfl) (TO.quiet (q_eqlNil Tryd.underlying23 rfl rfl) ?_)
  refine TO.nil ?_
  refine T.cond0 rfl ?_
  refine T.skip (T.seq (T.region ?_))
  refine TO.loud rfl (l_buildSlice (m := 0) (parts := []) (cs := []) Tryd.underlying23 inf4 (by decide) (by simp [Instr.fill]) rfl (fun b1 => ?_))
  refine TO.quiet (q_move rfl) ?_
  refine TO.loud rfl (l_append 0 Tryd.underlying23 Tryd.underlying23 inf4 rfl rfl rfl rfl (by simp) (by decide) (Src.sl h1 (by simp)) (bools_one xs) (by omega) (by decide) (by decide) (fun b1 c2 => ?_))
  refine TO.quiet (q_assign rfl) ?_
  refine TO.nil (T.ret ?_)
  refine Res.one (.slice b1 (0 + xs.length) c2) Tryd.results53 rfl ?_
  exact ⟨_, _, by rw [Nat.zero_add], rfl⟩
theorem cloneB (w : World) [Tab Tryd.prog w] (b : Option Addr) (c : Nat) (xs : List Bool) (h1 : Sl w b (bools xs)) (hb : xs.length * 1 ≤ 70368744177664) :
    PureT Tryd.prog 53 [.slice b xs.length c] w fun v N => ∃ b' c', v = .slice b' xs.length c' ∧ N = [rowI b' c' 4 1 (bools xs)] := by
  cases b with
  | none =>
    have hx : xs = [] := by
      cases xs with
      | nil => rfl
      | cons x xs => obtain ⟨_, _, e⟩ := h1.addr (i := 0) (by simp); cases e
    subst hx
    exact cloneNilB w c
  | some a => exact cloneSomeB w a c xs h1 hb
set_option maxHeartbeats 1000000 in
set_option maxRecDepth 20000 in
theorem indexFuncI (base : World) [Tab Tryd.prog base] (b : Option Addr) (c : Nat) (xs : List Int) (hS : Sl base b (ints xs)) (hb : xs.length < 9223372036854775807) (fv : Value) (p : Int → Bool) (OO : List Lx.Item) (hy : ∀ x ∈ xs, CallV Tryd.prog base fv [.int .i64 x] OO (fun v O' => v = .bool (p x) ∧ O' = OO)) :
    CallT Tryd.prog base 78 [.slice b xs.length c, fv] OO (fun v O' => ∃ i : Int, v = .int .i64 i ∧ decide (i ≥ 0) = xs.any p ∧ O' = OO) := by
  refine CallT.enter Tryd.func78 rfl Tryd.ntmps78 rfl ?_
  refine T.seq (T.region ?_)
  refine TO.quiet (q_assign rfl) ?_
  refine TO.nil (T.seq (T.seq (T.region ?_)))
  refine TO.quiet (q_move rfl) (TO.quiet (q_len Tryd.underlying41 rfl) (TO.quiet (q_move rfl) ?_))
  refine TO.nil (T.block ?_)
  refine T.loop (fun (k : Nat) ρ O => O = OO ∧ k ≤ xs.length ∧ (xs.take k).any p = false ∧ Heads [(0, (.slice b xs.length c)), (1, fv), (7, .int .i64 (xs.length : Int)), (8, .int .i64 (k : Int))] ρ) (fun k => xs.length - k) 0 ?_ ?_
  · exact ⟨rfl, Nat.zero_le _, rfl, ⟨rfl, rfl, rfl, rfl, trivial⟩⟩
  rintro k ρ O ⟨rfl, hk, hany, hH⟩
  obtain ⟨ρ0, rfl⟩ := hH.elim
  clear hH
  refine T.seq (T.region ?_)
  refine TO.quiet (q_lss rfl rfl) ?_
  refine TO.nil (T.seq ?_)
  refine T.condP rfl (fun hc => ?_) (fun hc => ?_)
  · have hlt9 : k < xs.length := by omega
    refine T.skip (T.seq (T.block (T.seq (T.region ?_))))
    refine TO.quiet (q_move rfl) (TO.quiet (q_assign rfl) ?_)
    refine TO.nil (T.seq (T.region ?_))
    refine TO.quiet (q_move rfl) (TO.quiet (q_move rfl) (TO.quiet (q_move rfl) (TO.quiet (q_ix (i := k) Tryd.underlying41 inf3 rfl rfl (Sl.o hS) hlt9 (by rw [List.length_map]; exact hlt9)) ?_)))
    refine TO.quiet (q_ld Tryd.underlying3 rfl rfl (Sl.o hS) (ints_get hlt9)) ?_
    have hk16 := hy xs[k] (List.getElem_mem hlt9)
    refine TO.loud rfl (l_callG hk16 rfl rfl ?_)
    clear hk16
    rintro vr O' ⟨rfl, rfl⟩
    refine TO.nil ?_
    refine T.cond rfl (fun hc => ?_) (fun hc => ?_)
    · refine T.seq ?_
      refine T.region ?_
      refine TO.quiet (q_move rfl) (TO.quiet (q_assign rfl) ?_)
      refine TO.nil (T.ret (Res.drop ?_))
      refine Res.one (.int .i64 (k : Int)) Tryd.results78 rfl ?_
      exact ⟨_, Sub.of (List.Sublist.refl _), k, rfl, by rw [any_at hlt9 hc]; exact decide_eq_true (by omega), rfl⟩
    refine T.skip (T.region ?_)
    refine TO.quiet (q_addN (a := k) (b := 1) rfl rfl (by omega)) (TO.quiet (q_move rfl) ?_)
    refine TO.nil ?_
    exact ⟨k + 1, by omega, rfl, by omega, any_take hlt9 hany hc, ⟨rfl, rfl, rfl, rfl, trivial⟩⟩
  have hge9 : ¬ k < xs.length := by omega
  refine T.exit ?_
  refine T.seq (T.region ?_)
  refine TO.quiet (q_assign rfl) ?_
  refine TO.nil (T.ret (Res.drop ?_))
  refine Res.one (.int .i64 (-1)) Tryd.results78 rfl ?_
  exact ⟨_, Sub.of (List.Sublist.refl _), -1, rfl, by rw [List.take_of_length_le (by omega)] at hany; rw [hany]; decide, rfl⟩
set_option maxHeartbeats 1000000 in
set_option maxRecDepth 20000 in
theorem containsFuncI (base : World) [Tab Tryd.prog base] (b : Option Addr) (c : Nat) (xs : List Int) (hS : Sl base b (ints xs)) (hb : xs.length < 9223372036854775807) (fv : Value) (p : Int → Bool) (OO : List Lx.Item) (hy : ∀ x ∈ xs, CallV Tryd.prog base fv [.int .i64 x] OO (fun v O' => v = .bool (p x) ∧ O' = OO)) :
    CallT Tryd.prog base 67 [.slice b xs.length c, fv] OO (fun v O' => v = .bool (xs.any p) ∧ O' = OO) := by
  refine CallT.enter Tryd.func67 rfl Tryd.ntmps67 rfl ?_
  refine T.seq (T.region ?_)
  refine TO.quiet (q_assign rfl) ?_
  refine TO.nil (T.seq (T.region ?_))
  refine TO.quiet (q_move rfl) (TO.quiet (q_move rfl) ?_)
  have hk7 := indexFuncI base b c xs hS hb fv p OO hy
  refine TO.loud rfl (l_call ent78 hk7 rfl ?_)
  clear hk7
  rintro v O' ⟨i, rfl, hi, rfl⟩
  refine TO.quiet (q_geq rfl rfl) (TO.quiet (q_assign rfl) ?_)
  refine TO.nil (T.ret (Res.drop ?_))
  refine Res.one (.bool (decide (i ≥ 0))) Tryd.results67 rfl ?_
  exact ⟨_, Sub.of (List.Sublist.refl _), congrArg Value.bool hi, rfl⟩
set_option maxHeartbeats 1000000 in
set_option maxRecDepth 20000 in
theorem liveAt (base : World) [Tab Tryd.prog base] (lb : Nat) (rb : Option Addr) (rc : Nat) (lv : List Bool) (x : Int) (h0 : 0 ≤ x) (h1 : x < (lv.length : Int)) :
    CallT Tryd.prog base 68 [.int .i64 x, .pointer (some ⟨lb, 0, none⟩)] [oI lb 23 [(.slice rb lv.length rc)], rowI rb rc 4 1 (bools lv)] (fun v O' => v = .bool (lv.getD x.toNat false) ∧ O' = [oI lb 23 [(.slice rb lv.length rc)], rowI rb rc 4 1 (bools lv)]) := by
  refine CallT.enter Tryd.func68 rfl Tryd.ntmps68 rfl ?_
  refine T.seq (T.region ?_)
  refine TO.quiet (q_assign rfl) ?_
  refine TO.nil (T.seq (T.region ?_))
  refine TO.quiet (q_load_box 0 Tryd.underlying23 rfl rfl rfl rfl) (TO.quiet (q_move rfl) (TO.quiet (q_ixz (i := x) Tryd.underlying23 inf4 rfl rfl (rowO (List.mem_of_getElem? (i := 1) rfl)) h0 (by omega) (by rw [List.length_map]; omega)) (TO.quiet (q_ld Tryd.underlying4 rfl rfl (rowO (List.mem_of_getElem? (i := 1) rfl)) (bools_at (by omega))) ?_)))
  refine TO.quiet (q_assign rfl) ?_
  refine TO.nil (T.ret ?_)
  refine Res.one (.bool (lv.getD x.toNat false)) Tryd.results68 rfl ?_
  exact ⟨rfl, rfl⟩
set_option maxHeartbeats 8000000 in
set_option maxRecDepth 20000 in
theorem prodC (w : World) [Tab Tryd.prog w] (a : DFA) (k : DK) (ha : At w a k) (hv : Valid a) :
    PureT Tryd.prog 46 [dV a k] w fun v N => ∃ lv b c, LivB a lv ∧ v = .slice b a.next.length c ∧ N = [rowI b c 4 1 (bools lv)] := by
  refine CallT.enter Tryd.func46 rfl Tryd.ntmps46 rfl ?_
  have he := checkD_zero.2 hv
  have h4 := hv.n4
  have hww : letN a ≤ 64 := hv.width
  have hfin := hv.fin
  have hvl := ha.rows.1
  have hsl := start_lt hv.toVal
  have hs0 := hv.s0
  have hs1 := hv.s1
  refine T.seq (T.region ?_)
  refine TO.loud rfl (l_box (v := (dV a k)) (cs := (dC a k)) rfl rfl (fun z1 => ?_))
  refine TO.quiet (q_assign rfl) ?_
  refine TO.nil (T.seq (T.region ?_))
  refine TO.quiet (q_fieldAddr Tryd.underlying25 rfl inf23 rfl rfl) (TO.quiet (q_load_box 0 Tryd.underlying23 rfl rfl rfl rfl) ?_)
  have hk9 := fun (w1 : World) (hI : Inv w [oI z1 25 (dC a k)] w1) => (haveI := Inv.tab (P := Tryd.prog) hI; cloneB w1 k.fb k.fc a.final (hI.sl ha.final) (by omega))
  refine TO.loud rfl (l_call ent53 (CallT.of_pure hk9) rfl ?_)
  clear hk9
  rintro vr O' ⟨N, rfl, rb, rc, rfl, rfl⟩
  refine TO.loud rfl (l_alloc inf23 rfl (fun z2 => ?_))
  refine TO.loud rfl (l_store_box (v := (.slice rb a.final.length rc)) (vs := [(.slice rb a.final.length rc)]) 0 inf23 rfl rfl rfl rfl rfl rfl (by simp [putL]) ?_)
  refine TO.nil (T.seq (T.seq (T.region ?_)))
  refine TO.quiet (q_assign rfl) ?_
  refine TO.nil (T.block ?_)
  refine T.loop (fun (m : Nat) ρ O => ∃ (lv : List Bool) (more : Bool), O = [oI z2 23 [(.slice rb a.final.length rc)], rowI rb rc 4 1 (bools lv), oI z1 25 (dC a k)] ∧ lv.count false + (if more = true then 1 else 0) = m ∧ Prod a lv ∧ (more = false → ∀ s, s < a.next.length → lv.getD s false = false → ∀ x, x < letN a → lv.getD (toN a s x) false = false) ∧ Heads [(0, (dV a k)), (1, (.pointer (some ⟨z1, 0, none⟩))), (2, (.slice none 0 0)), (3, (.pointer (some ⟨z2, 0, none⟩))), (4, .bool more)] ρ) (fun m => m) (a.final.count false + 1) ?_ ?_
  · exact ⟨a.final, true, rfl, rfl, Prod.start hfin, fun h => (by cases h), ⟨rfl, rfl, rfl, rfl, rfl, trivial⟩⟩
  rintro m ρ O ⟨lv, more, rfl, hm, hp, hcl, hH⟩
  obtain ⟨ρ0, rfl⟩ := hH.elim
  clear hH
  have hlv := hp.len
  refine T.seq (T.seq (T.region ?_))
  refine TO.quiet (q_move rfl) ?_
  refine TO.nil ?_
  refine T.cond rfl (fun hc => ?_) (fun hc => ?_)
  · have hmt : more = true := hc
    refine T.skip (T.block (T.seq (T.region ?_)))
    refine TO.quiet (q_assign rfl) ?_
    refine TO.nil (T.seq (T.region ?_))
    refine TO.quiet (q_fieldAddr Tryd.underlying25 rfl inf22 rfl rfl) (TO.quiet (q_load_box 2 Tryd.underlying22 rfl rfl rfl rfl) (TO.quiet (q_len Tryd.underlying22 rfl) (TO.quiet (q_move rfl) ?_)))
    refine TO.nil (T.block ?_)
    refine T.loop (fun (s : Nat) ρ O => ∃ (lw : List Bool) (mo : Bool), O = [oI z2 23 [(.slice rb a.final.length rc)], rowI rb rc 4 1 (bools lw), oI z1 25 (dC a k)] ∧ s ≤ a.next.length ∧ Prod a lw ∧ lw.count false + (if mo = true then 1 else 0) < m ∧ (mo = false → lw = lv ∧ ∀ t, t < s → lw.getD t false = false → ∀ x, x < letN a → lw.getD (toN a t x) false = false) ∧ Heads [(0, (dV a k)), (1, (.pointer (some ⟨z1, 0, none⟩))), (2, (.slice none 0 0)), (3, (.pointer (some ⟨z2, 0, none⟩))), (4, .bool mo), (12, (.slice k.nb a.next.length k.nc)), (13, .int .i64 (a.next.length : Int)), (14, .int .i64 ((s : Nat) : Int))] ρ) (fun s => a.next.length - s) 0 ?_ ?_
    · exact ⟨lv, false, rfl, Nat.zero_le _, hp, (by rw [hmt] at hm; simp at hm ⊢; omega), fun _ => ⟨rfl, fun t ht => absurd ht (by omega)⟩, ⟨rfl, rfl, rfl, rfl, rfl, rfl, rfl, rfl, trivial⟩⟩
    rintro s ρ O ⟨lw, mo, rfl, hs, hp2, hdec, hno, hH⟩
    obtain ⟨ρ0, rfl⟩ := hH.elim
    clear hH
    have hlw := hp2.len
    have hlf : lw.length = a.final.length := by omega
    refine T.seq (T.region ?_)
    refine TO.quiet (q_lss rfl rfl) ?_
    refine TO.nil (T.seq ?_)
    refine T.condP rfl (fun hc => ?_) (fun hc => ?_)
    · have hlt15 : s < a.next.length := by omega
      obtain ⟨v1, c1, g1, s1⟩ := ha.rows.get hlt15
      have hl1 : a.next[s].length = letN a := hv.len _ (List.getElem_mem hlt15)
      refine T.skip (T.seq (T.block (T.seq (T.region ?_))))
      refine TO.quiet (q_move rfl) (TO.quiet (q_ix (i := s) Tryd.underlying22 inf41 rfl rfl (Sl.o ha.outer) hlt15 (hvl ▸ hlt15)) (TO.quiet (q_ld Tryd.underlying41 rfl rfl (Sl.o ha.outer) g1) (TO.quiet (q_assign rfl) ?_)))
      refine TO.quiet (q_assign rfl) ?_
      refine TO.nil (T.seq (T.region ?_))
      refine TO.quiet (q_load_box 0 Tryd.underlying23 rfl rfl rfl rfl) (TO.quiet (q_move rfl) (TO.quiet (q_ix (i := s) Tryd.underlying23 inf4 rfl rfl (rowO (List.mem_of_getElem? (i := 1) rfl)) (by omega) (by rw [List.length_map]; omega)) (TO.quiet (q_ld Tryd.underlying4 rfl rfl (rowO (List.mem_of_getElem? (i := 1) rfl)) (bools_at (by omega))) ?_)))
      by_cases hdead : lw.getD s false = false
      · refine TO.quiet (QT.toB (QT.cast (q_not rfl) (v' := .bool (decide (lw.getD s false = false))) (by cases lw.getD s false <;> rfl)) (decide_eq_true hdead)) ?_
        refine TO.quiet (q_move rfl) ?_
        refine TO.guarded rfl rfl rfl (LT.of_quiet rfl rfl (q_move rfl) ?_)
        refine TO.guarded rfl rfl rfl (LT.of_quiet rfl rfl (q_makeFunc) ?_)
        have hk27 := CallT.under (A := [oI z2 23 [(.slice rb a.final.length rc)], rowI rb rc 4 1 (bools lw)]) (B := [oI z1 25 (dC a k)]) (O := [oI z2 23 [(.slice rb a.final.length rc)], rowI rb rc 4 1 (bools lw), oI z1 25 (dC a k)]) (containsFuncI w v1 c1 a.next[s] s1 (by omega) (.func (.func 68) #[] #[.pointer (some ⟨z2, 0, none⟩)]) (fun x => lw.getD x.toNat false) [oI z2 23 [(.slice rb a.final.length rc)], rowI rb rc 4 1 (bools lw)] (fun x hx => CallV.of_fn (first := []) (args := [.int .i64 x]) (caps := [.pointer (some ⟨z2, 0, none⟩)]) ent68 (by
          have h7 := hv.ok _ (List.getElem_mem hlt15) x hx
          have h9 := liveAt w z2 rb rc lw x h7.1 (by omega)
          rw [hlf] at h9; exact h9))) (by exact Sub.rf)
        refine TO.guarded rfl rfl rfl (l_call ent67 hk27 rfl ?_)
        clear hk27
        rintro vr O' ⟨A1, rfl, rfl, rfl⟩
        refine TO.quiet (q_pick1 rfl rfl) ?_
        refine TO.nil ?_
        refine T.cond rfl (fun hc => ?_) (fun hc => ?_)
        · obtain ⟨y, hy1, hy2⟩ := List.any_eq_true.1 hc
          obtain ⟨x, hxk, rfl⟩ := List.mem_iff_getElem.1 hy1
          have hxl : x < letN a := by omega
          obtain ⟨hto, _, hxk1, hx1⟩ := hv.toN_lt hlt15 hxl
          have hput := hp2.put hlt15 hxl hto (by rw [hx1] at hy2; simpa using hy2)
          refine T.region ?_
          refine TO.quiet (q_load_box 0 Tryd.underlying23 rfl rfl rfl rfl) (TO.quiet (q_move rfl) (TO.quiet (q_ix (i := s) Tryd.underlying23 inf4 rfl rfl (rowO (List.mem_of_getElem? (i := 1) rfl)) (by omega) (by rw [List.length_map]; omega)) ?_))
          refine TO.loud rfl (l_st (j := s) (v := .bool true) (vs := [(.bool true)]) (cs := bools lw) 1 inf4 rfl rfl rfl rfl rfl (by simp) rfl (by rw [List.length_map]; simp; omega) ?_)
          refine TO.sub (O' := [oI z2 23 [(.slice rb a.final.length rc)], rowI rb rc 4 1 (bools (lw.set s true)), oI z1 25 (dC a k)]) (by rw [show putL (bools lw) s [(.bool true)] = bools (lw.set s true) from by simp [putL]]; exact Sub.of (List.Sublist.refl _)) ?_
          refine TO.quiet (q_assign rfl) ?_
          refine TO.nil (T.region ?_)
          refine TO.quiet (q_addN (a := s) (b := 1) rfl rfl (by omega)) (TO.quiet (q_move rfl) ?_)
          refine TO.nil ?_
          have hcs := count_set (l := lw) (s := s) (by omega) hdead
          exact ⟨s + 1, by omega, lw.set s true, true, rfl, by omega, hput, (by simp; omega), fun h9 => (by cases h9), ⟨rfl, rfl, rfl, rfl, rfl, rfl, rfl, rfl, trivial⟩⟩
        have hnone : ∀ x, x < letN a → lw.getD (toN a s x) false = false := fun x hx => by
          obtain ⟨_, _, hxk1, hx1⟩ := hv.toN_lt hlt15 hx
          have h8 := List.any_eq_false.1 hc _ (List.getElem_mem hxk1)
          rw [hx1] at h8; simpa using h8
        refine T.skip (T.region ?_)
        refine TO.quiet (q_addN (a := s) (b := 1) rfl rfl (by omega)) (TO.quiet (q_move rfl) ?_)
        refine TO.nil ?_
        exact ⟨s + 1, by omega, lw, mo, rfl, by omega, hp2, hdec, fun h9 => ⟨(hno h9).1, fun t ht hd x hx => (by
          by_cases e9 : t = s
          · subst e9; exact hnone x hx
          · exact (hno h9).2 t (by omega) hd x hx)⟩, ⟨rfl, rfl, rfl, rfl, rfl, rfl, rfl, rfl, trivial⟩⟩
      refine TO.quiet (QT.toB (QT.cast (q_not rfl) (v' := .bool (decide (lw.getD s false = false))) (by cases lw.getD s false <;> rfl)) (decide_eq_false hdead)) (TO.quiet (q_move rfl) ?_)
      refine TO.passed rfl rfl ?_
      refine TO.passed rfl rfl ?_
      refine TO.passed rfl rfl ?_
      refine TO.quiet (q_pick0 rfl rfl) ?_
      refine TO.nil ?_
      refine T.cond0 rfl ?_
      refine T.skip (T.region ?_)
      refine TO.quiet (q_addN (a := s) (b := 1) rfl rfl (by omega)) (TO.quiet (q_move rfl) ?_)
      refine TO.nil ?_
      exact ⟨s + 1, by omega, lw, mo, rfl, by omega, hp2, hdec, fun h9 => ⟨(hno h9).1, fun t ht hd x hx => (by
        by_cases e9 : t = s
        · subst e9; exact absurd hd hdead
        · exact (hno h9).2 t (by omega) hd x hx)⟩, ⟨rfl, rfl, rfl, rfl, rfl, rfl, rfl, rfl, trivial⟩⟩
    have hge15 : ¬ s < a.next.length := by omega
    refine T.exit ?_
    have hse : s = a.next.length := by omega
    exact ⟨lw.count false + (if mo = true then 1 else 0), hdec, lw, mo, rfl, rfl, hp2, fun h9 t ht => (hno h9).2 t (by omega), ⟨rfl, rfl, rfl, rfl, rfl, trivial⟩⟩
  have hmf : more = false := hc
  refine T.exit ?_
  refine T.seq (T.region ?_)
  refine TO.quiet (q_load_box 0 Tryd.underlying23 rfl rfl rfl rfl) (TO.quiet (q_assign rfl) ?_)
  refine TO.nil (T.ret (Res.drop ?_))
  refine Res.one (.slice rb a.final.length rc) Tryd.results46 rfl ?_
  exact ⟨[rowI rb rc 4 1 (bools lv)], (by exact Sub.d (.k .z)), lv, rb, rc, Prod.end hv.toVal hp (hcl hmf), by rw [hfin], rfl⟩
set_option maxHeartbeats 8000000 in
set_option maxRecDepth 20000 in
theorem dfsF (base : World) [Tab Tryd.prog base] (a : DFA) (k : DK) (hv : Valid a) (hqs : nums k.qs = a.next) (lv : List Bool) (hlv : LivB a lv) (lb mb db fb : Nat) (rl rm : Option Addr) (lc mc : Nat) :
    ∀ (m : Nat) (op fin : List Nat) (s : Nat) (hm : a.next.length - op.length = m) (hd : DfsI a op fin) (hs : s < a.next.length) (hw : WayI a op s),
    CallT Tryd.prog base 47 [.int .i64 ((s : Nat) : Int), (.pointer (some ⟨lb, 0, none⟩)), (.pointer (some ⟨mb, 0, none⟩)), (.pointer (some ⟨db, 0, none⟩)), (.pointer (some ⟨fb, 0, none⟩))] [oI lb 23 [(.slice rl a.next.length lc)], rowI rl lc 4 1 (bools lv), oI mb 41 [(.slice rm a.next.length mc)], rowI rm mc 3 1 (ints (mkF a op fin)), oI db 25 (dC a k), oI fb 74 [(.func (.func 47) #[] #[(.pointer (some ⟨lb, 0, none⟩)), (.pointer (some ⟨mb, 0, none⟩)), (.pointer (some ⟨db, 0, none⟩)), (.pointer (some ⟨fb, 0, none⟩))])], dI 41 4 3 a k] (fun v O' => ∃ (b : Bool) (mk : List Int), v = .bool b ∧ O' = [oI lb 23 [(.slice rl a.next.length lc)], rowI rl lc 4 1 (bools lv), oI mb 41 [(.slice rm a.next.length mc)], rowI rm mc 3 1 (ints mk), oI db 25 (dC a k), oI fb 74 [(.func (.func 47) #[] #[(.pointer (some ⟨lb, 0, none⟩)), (.pointer (some ⟨mb, 0, none⟩)), (.pointer (some ⟨db, 0, none⟩)), (.pointer (some ⟨fb, 0, none⟩))])], dI 41 4 3 a k] ∧ (b = true → ∃ fin', mk = mkF a op fin' ∧ DfsI a op fin' ∧ (∀ t ∈ fin, t ∈ fin') ∧ (Liv a s → s ∈ fin')) ∧ (b = false → InfC a s)) := by
  intro m
  induction m using Nat.strongRecOn with
  | _ m ih => ?_
  intro op fin s hm hd hs hw
  refine CallT.enter Tryd.func47 rfl Tryd.ntmps47 rfl ?_
  have hww : letN a ≤ 64 := hv.width
  have hvl : (vals k.qs).length = a.next.length := by rw [← hqs]; simp
  obtain ⟨b0, hb0, hbl⟩ := hlv.at hs
  obtain ⟨q0, hq0, hz0⟩ := dk_row hqs hs
  have hl1 : a.next[s].length = letN a := hv.len _ (List.getElem_mem hs)
  have hlvl := hlv.1
  refine T.seq (T.region ?_)
  refine TO.quiet (q_assign rfl) ?_
  refine TO.nil (T.seq (T.block (T.seq (T.region ?_))))
  refine TO.quiet (q_load_box 0 Tryd.underlying23 rfl rfl rfl rfl) (TO.quiet (q_move rfl) (TO.quiet (q_ix (i := s) Tryd.underlying23 inf4 rfl rfl (rowO (List.mem_of_getElem? (i := 1) rfl)) hs (by rw [List.length_map]; omega)) (TO.quiet (q_ld Tryd.underlying4 rfl rfl (rowO (List.mem_of_getElem? (i := 1) rfl)) hb0) ?_)))
  by_cases hdead : b0 = false
  · refine TO.quiet (QT.toB (QT.cast (q_not rfl) (v' := .bool (decide (b0 = false))) (by cases b0 <;> rfl)) (decide_eq_true hdead)) ?_
    refine TO.quiet (q_move rfl) ?_
    refine TO.passed rfl rfl ?_
    refine TO.passed rfl rfl ?_
    refine TO.passed rfl rfl ?_
    refine TO.passed rfl rfl ?_
    refine TO.passed rfl rfl ?_
    refine TO.quiet (q_pick1 rfl rfl) (TO.quiet (q_assign rfl) ?_)
    refine TO.nil ?_
    refine T.cond1 rfl ?_
    refine T.seq (T.region ?_)
    refine TO.quiet (q_assign rfl) ?_
    refine TO.nil (T.ret ?_)
    refine Res.one (.bool true) Tryd.results47 rfl ?_
    exact ⟨true, mkF a op fin, rfl, rfl, fun _ => ⟨fin, rfl, hd, fun t h => h, fun hl9 => absurd (hbl.2 hl9) (by simp [hdead])⟩, fun h => (by cases h)⟩
  refine TO.quiet (QT.toB (QT.cast (q_not rfl) (v' := .bool (decide (b0 = false))) (by cases b0 <;> rfl)) (decide_eq_false hdead)) (TO.quiet (q_move rfl) ?_)
  refine TO.guarded rfl rfl rfl (LT.of_quiet rfl rfl (q_load_box 2 Tryd.underlying41 rfl rfl rfl rfl) ?_)
  refine TO.guarded rfl rfl rfl (LT.of_quiet rfl rfl (q_move rfl) ?_)
  refine TO.guarded rfl rfl rfl (LT.of_quiet rfl rfl (q_ix (i := s) Tryd.underlying41 inf3 rfl rfl (rowO (List.mem_of_getElem? (i := 3) rfl)) hs (by rw [List.length_map, mkF_len]; omega)) ?_)
  refine TO.guarded rfl rfl rfl (LT.of_quiet rfl rfl (q_ld Tryd.underlying3 rfl rfl (rowO (List.mem_of_getElem? (i := 3) rfl)) (mkF_at hs)) ?_)
  by_cases hinf : s ∈ fin
  · refine TO.guarded rfl rfl rfl (LT.of_quiet rfl rfl (QT.toB (QT.cast (q_eql rfl rfl) (v' := .bool (decide (s ∈ fin))) (congrArg Value.bool (decide_eq_decide.2 (mkF_two hd.dis)))) (decide_eq_true hinf)) ?_)
    refine TO.quiet (q_pick0 rfl rfl) (TO.quiet (q_assign rfl) ?_)
    refine TO.nil ?_
    refine T.cond1 rfl ?_
    refine T.seq (T.region ?_)
    refine TO.quiet (q_assign rfl) ?_
    refine TO.nil (T.ret ?_)
    refine Res.one (.bool true) Tryd.results47 rfl ?_
    exact ⟨true, mkF a op fin, rfl, rfl, fun _ => ⟨fin, rfl, hd, fun t h => h, fun _ => hinf⟩, fun h => (by cases h)⟩
  refine TO.guarded rfl rfl rfl (LT.of_quiet rfl rfl (QT.toB (QT.cast (q_eql rfl rfl) (v' := .bool (decide (s ∈ fin))) (congrArg Value.bool (decide_eq_decide.2 (mkF_two hd.dis)))) (decide_eq_false hinf)) ?_)
  refine TO.quiet (q_pick0 rfl rfl) (TO.quiet (q_assign rfl) ?_)
  refine TO.nil ?_
  refine T.cond0 rfl ?_
  refine T.seq (T.region ?_)
  refine TO.quiet (q_load_box 2 Tryd.underlying41 rfl rfl rfl rfl) (TO.quiet (q_move rfl) (TO.quiet (q_ix (i := s) Tryd.underlying41 inf3 rfl rfl (rowO (List.mem_of_getElem? (i := 3) rfl)) hs (by rw [List.length_map, mkF_len]; omega)) (TO.quiet (q_ld Tryd.underlying3 rfl rfl (rowO (List.mem_of_getElem? (i := 3) rfl)) (mkF_at hs)) ?_)))
  by_cases hop : s ∈ op
  · refine TO.quiet (QT.toB (QT.cast (q_eql rfl rfl) (v' := .bool (decide (s ∈ op))) (congrArg Value.bool (decide_eq_decide.2 mkF_one))) (decide_eq_true hop)) ?_
    refine TO.quiet (q_assign rfl) ?_
    refine TO.nil ?_
    refine T.cond1 rfl ?_
    refine T.seq (T.region ?_)
    refine TO.quiet (q_assign rfl) ?_
    refine TO.nil (T.ret ?_)
    refine Res.one (.bool false) Tryd.results47 rfl ?_
    exact ⟨false, mkF a op fin, rfl, rfl, fun h => (by cases h), fun _ => ⟨[], s, Wd.nil, rfl, hbl.1 (by simpa using hdead), hw.cyc hop⟩⟩
  refine TO.quiet (QT.toB (QT.cast (q_eql rfl rfl) (v' := .bool (decide (s ∈ op))) (congrArg Value.bool (decide_eq_decide.2 mkF_one))) (decide_eq_false hop)) (TO.quiet (q_assign rfl) ?_)
  refine TO.nil ?_
  refine T.cond0 rfl ?_
  refine T.skip (T.seq ?_)
  have hlive : Liv a s := hbl.1 (by simpa using hdead)
  have hnf : s ∉ fin := hinf
  have hno : s ∉ op := hop
  refine T.region ?_
  refine TO.quiet (q_load_box 2 Tryd.underlying41 rfl rfl rfl rfl) (TO.quiet (q_move rfl) (TO.quiet (q_ix (i := s) Tryd.underlying41 inf3 rfl rfl (rowO (List.mem_of_getElem? (i := 3) rfl)) hs (by rw [List.length_map, mkF_len]; omega)) ?_))
  refine TO.loud rfl (l_st (j := s) (v := .int .i64 1) (vs := [(.int .i64 1)]) (cs := ints (mkF a op fin)) 3 inf3 rfl rfl rfl rfl rfl (by simp) rfl (by rw [List.length_map, mkF_len]; simp; omega) ?_)
  refine TO.sub (O' := [oI lb 23 [(.slice rl a.next.length lc)], rowI rl lc 4 1 (bools lv), oI mb 41 [(.slice rm a.next.length mc)], rowI rm mc 3 1 (ints (mkF a (s :: op) fin)), oI db 25 (dC a k), oI fb 74 [(.func (.func 47) #[] #[(.pointer (some ⟨lb, 0, none⟩)), (.pointer (some ⟨mb, 0, none⟩)), (.pointer (some ⟨db, 0, none⟩)), (.pointer (some ⟨fb, 0, none⟩))])], dI 41 4 3 a k]) (by rw [show putL (ints (mkF a op fin)) s [(.int .i64 1)] = ints (mkF a (s :: op) fin) from by rw [← mkF_open hs]; simp [putL]]; exact Sub.of (List.Sublist.refl _)) ?_
  refine TO.nil (T.seq (T.seq (T.region ?_)))
  refine TO.quiet (q_fieldAddr Tryd.underlying25 rfl inf22 rfl rfl) (TO.quiet (q_load_box 4 Tryd.underlying22 rfl rfl rfl rfl) (TO.quiet (q_move rfl) (TO.quiet (q_ix (i := s) Tryd.underlying22 inf41 rfl rfl (dI_outer (List.mem_of_getElem? (i := 6) rfl)) hs (hvl ▸ hs)) ?_)))
  refine TO.quiet (q_ld Tryd.underlying41 rfl rfl (dI_outer (List.mem_of_getElem? (i := 6) rfl)) (rvals_at hq0)) (TO.quiet (QT.cast (q_len Tryd.underlying41 rfl) (v' := .int .i64 ((letN a : Nat) : Int)) (by rw [hz0, hl1])) (TO.quiet (q_move rfl) ?_))
  refine TO.nil (T.block ?_)
  refine T.loop (fun (x : Nat) ρ O => ∃ (fx : List Nat), O = [oI lb 23 [(.slice rl a.next.length lc)], rowI rl lc 4 1 (bools lv), oI mb 41 [(.slice rm a.next.length mc)], rowI rm mc 3 1 (ints (mkF a (s :: op) fx)), oI db 25 (dC a k), oI fb 74 [(.func (.func 47) #[] #[(.pointer (some ⟨lb, 0, none⟩)), (.pointer (some ⟨mb, 0, none⟩)), (.pointer (some ⟨db, 0, none⟩)), (.pointer (some ⟨fb, 0, none⟩))])], dI 41 4 3 a k] ∧ x ≤ letN a ∧ DfsI a (s :: op) fx ∧ (∀ t ∈ fin, t ∈ fx) ∧ (∀ y, y < x → Liv a (toN a s y) → toN a s y ∈ fx) ∧ Heads [(0, .int .i64 ((s : Nat) : Int)), (1, (.pointer (some ⟨lb, 0, none⟩))), (2, (.pointer (some ⟨mb, 0, none⟩))), (3, (.pointer (some ⟨db, 0, none⟩))), (4, (.pointer (some ⟨fb, 0, none⟩))), (9, .bool false), (22, .bool false), (35, (.slice q0.b q0.xs.length q0.c)), (36, .int .i64 ((letN a : Nat) : Int)), (37, .int .i64 ((x : Nat) : Int))] ρ) (fun x => letN a - x) 0 ?_ ?_
  · exact ⟨fin, rfl, Nat.zero_le _, hd.open hs hlive hno hnf, fun t h => h, fun y hy => absurd hy (by omega), ⟨rfl, rfl, rfl, rfl, rfl, rfl, rfl, rfl, rfl, rfl, trivial⟩⟩
  rintro x ρ O ⟨fx, rfl, hx, hdx, hsub, hyy, hH⟩
  obtain ⟨ρ0, rfl⟩ := hH.elim
  clear hH
  refine T.seq (T.region ?_)
  refine TO.quiet (q_lss rfl rfl) ?_
  refine TO.nil (T.seq ?_)
  refine T.condP rfl (fun hc => ?_) (fun hc => ?_)
  · have hlt38 : x < letN a := by omega
    have hxl : x < letN a := by omega
    obtain ⟨hto, _, hxk1, hx1⟩ := hv.toN_lt hs hxl
    have hx1 : (ints a.next[s])[x]? = some (.int .i64 ((toN a s x : Nat) : Int)) := by rw [ints_get hxk1, hx1]
    refine T.skip (T.seq (T.block (T.seq (T.region ?_))))
    refine TO.quiet (q_ix (i := x) Tryd.underlying41 inf3 rfl rfl (dI_row (List.mem_of_getElem? (i := 6) rfl) hq0 hz0) (by rw [hz0]; exact hxk1) (by rw [List.length_map]; exact hxk1)) (TO.quiet (q_ld Tryd.underlying3 rfl rfl (dI_row (List.mem_of_getElem? (i := 6) rfl) hq0 hz0) hx1) (TO.quiet (q_assign rfl) ?_))
    refine TO.nil (T.seq (T.region ?_))
    refine TO.quiet (q_load_box 5 Tryd.underlying74 rfl rfl rfl rfl) (TO.quiet (q_move rfl) ?_)
    have hk43 := CallV.of_fn (first := []) (args := [.int .i64 ((toN a s x : Nat) : Int)]) (caps := [(.pointer (some ⟨lb, 0, none⟩)), (.pointer (some ⟨mb, 0, none⟩)), (.pointer (some ⟨db, 0, none⟩)), (.pointer (some ⟨fb, 0, none⟩))]) ent47 (ih _ (by have := hdx.small; simp only [List.length_cons] at *; omega) (s :: op) fx (toN a s x) rfl hdx hto (hw.step hxl))
    refine TO.loud rfl (l_callG hk43 rfl rfl ?_)
    clear hk43
    rintro vr O' ⟨b1, mk1, rfl, rfl, ht1, hf1⟩
    refine TO.quiet (q_not rfl) ?_
    refine TO.nil ?_
    refine T.cond rfl (fun hc => ?_) (fun hc => ?_)
    · have hb1 : b1 = false := by simpa using hc
      refine T.seq (T.region ?_)
      refine TO.quiet (q_assign rfl) ?_
      refine TO.nil (T.ret ?_)
      refine Res.one (.bool false) Tryd.results47 rfl ?_
      exact ⟨false, mk1, rfl, rfl, fun h => (by cases h), fun _ => (hf1 hb1).up hxl⟩
    have hb1 : b1 = true := by simpa using hc
    refine T.skip (T.region ?_)
    refine TO.quiet (q_addN (a := x) (b := 1) rfl rfl (by omega)) (TO.quiet (q_move rfl) ?_)
    refine TO.nil ?_
    obtain ⟨fx2, hmk, hdx2, hsub2, hin2⟩ := ht1 hb1
    exact ⟨x + 1, by omega, fx2, by rw [hmk], by omega, hdx2, fun t h => hsub2 t (hsub t h), fun y hy hl9 => (by
      by_cases e9 : y = x
      · subst e9; exact hin2 hl9
      · exact hsub2 _ (hyy y (by omega) hl9)), ⟨rfl, rfl, rfl, rfl, rfl, rfl, rfl, rfl, rfl, rfl, trivial⟩⟩
  have hge38 : ¬ x < letN a := by omega
  refine T.exit ?_
  refine T.seq (T.region ?_)
  refine TO.quiet (q_load_box 2 Tryd.underlying41 rfl rfl rfl rfl) (TO.quiet (q_move rfl) (TO.quiet (q_ix (i := s) Tryd.underlying41 inf3 rfl rfl (rowO (List.mem_of_getElem? (i := 3) rfl)) hs (by rw [List.length_map, mkF_len]; omega)) ?_))
  refine TO.loud rfl (l_st (j := s) (v := .int .i64 2) (vs := [(.int .i64 2)]) (cs := ints (mkF a (s :: op) fx)) 3 inf3 rfl rfl rfl rfl rfl (by simp) rfl (by rw [List.length_map, mkF_len]; simp; omega) ?_)
  refine TO.sub (O' := [oI lb 23 [(.slice rl a.next.length lc)], rowI rl lc 4 1 (bools lv), oI mb 41 [(.slice rm a.next.length mc)], rowI rm mc 3 1 (ints (mkF a op (s :: fx))), oI db 25 (dC a k), oI fb 74 [(.func (.func 47) #[] #[(.pointer (some ⟨lb, 0, none⟩)), (.pointer (some ⟨mb, 0, none⟩)), (.pointer (some ⟨db, 0, none⟩)), (.pointer (some ⟨fb, 0, none⟩))])], dI 41 4 3 a k]) (by rw [show putL (ints (mkF a (s :: op) fx)) s [(.int .i64 2)] = ints (mkF a op (s :: fx)) from by rw [← mkF_done hs hno]; simp [putL]]; exact Sub.of (List.Sublist.refl _)) ?_
  refine TO.nil (T.seq (T.region ?_))
  refine TO.quiet (q_assign rfl) ?_
  refine TO.nil (T.ret ?_)
  refine Res.one (.bool true) Tryd.results47 rfl ?_
  have hxe : x = letN a := by omega
  subst hxe
  exact ⟨true, _, rfl, rfl, fun _ => ⟨s :: fx, rfl, hdx.done hyy, fun t h => List.mem_cons_of_mem _ (hsub t h), fun _ => List.mem_cons_self⟩, fun h => (by cases h)⟩
theorem renumK (w : World) [Tab Tryd.prog w] (a : DFA) (k : DK) (ha : At w a k) (hv : Valid a) :
    PureT Tryd.prog 45 [dV a k] w fun v N => ∃ k' : DK, v = .tuple #[dV (renum a) k', .int .i64 0] ∧ N = [dI 41 4 3 (renum a) k'] :=
  CallT.dk (g := fun v => .tuple #[v, .int .i64 0]) (renumOk w a k.nb k.fb k.nc k.fc (vals k.qs) ha hv (by have := hv.n4; omega))
set_option maxHeartbeats 1000000 in
set_option maxRecDepth 20000 in
theorem finBad (w : World) [Tab Tryd.prog w] (a : DFA) (k : DK) (ha : At w a k) (haa : a.next.length < 9223372036854775807) (haar : ∀ r ∈ a.next, r.length < 9223372036854775807) (haaf : a.final.length < 9223372036854775807) (he : checkD a ≠ 0) :
    PureT Tryd.prog 21 [dV a k] w fun v N => ∃ b, v = .tuple #[.bool b, .int .i64 (checkD a : Int)] ∧ N = [] ∧ (checkD a = 0 → (b = true ↔ ¬ InfC a a.start.toNat)) ∧ (checkD a ≠ 0 → b = false) := by
  refine CallT.enter Tryd.func21 rfl Tryd.ntmps21 rfl ?_
  refine T.seq (T.region ?_)
  refine TO.loud rfl (l_box (v := (dV a k)) (cs := (dC a k)) rfl rfl (fun bx1 => ?_))
  refine TO.quiet (q_assign rfl) (TO.quiet (q_assign rfl) ?_)
  refine TO.nil (T.seq (T.region ?_))
  refine TO.quiet (q_load_boxAgg 0 Tryd.underlying25 rfl inf25 rfl rfl rfl) ?_
  have hk11 := fun (w1 : World) (hI : Inv w [oI bx1 25 (dC a k)] w1) => (haveI := Inv.tab (P := Tryd.prog) hI; renumBad w1 a k.nb k.fb k.nc k.fc (vals k.qs) (hI.dfa ha) haa haar haaf he)
  refine TO.loud rfl (l_call ent45 (CallT.of_pure hk11) rfl ?_)
  clear hk11
  rintro vr O' ⟨N, rfl, rfl, rfl⟩
  refine TO.quiet (q_move rfl) (TO.quiet (q_extract (vs := _) rfl rfl) (TO.quiet (q_extract (vs := _) rfl rfl) ?_))
  refine TO.loud rfl (l_alloc inf25 rfl (fun bx2 => ?_))
  refine TO.loud rfl (l_store_box (v := (.agg #[(.int .i64 0), (.int .i64 0), (.slice none 0 0), (.slice none 0 0)])) (vs := [(.int .i64 0), (.int .i64 0), (.slice none 0 0), (.slice none 0 0)]) 0 inf25 rfl rfl rfl rfl rfl rfl (by simp [putL]) ?_)
  refine TO.quiet (q_assign rfl) ?_
  refine TO.nil (T.seq (T.seq (T.region ?_)))
  refine TO.quiet (q_move rfl) (TO.quiet (QT.toB (q_neq rfl rfl) (decide_eq_true (by omega))) ?_)
  refine TO.nil ?_
  refine T.cond1 rfl ?_
  refine T.seq (T.region ?_)
  refine TO.quiet (q_move rfl) (TO.quiet (q_assign rfl) (TO.quiet (q_assign rfl) ?_))
  refine TO.nil (T.ret (Res.drop ?_))
  refine Res.two (.bool false) (.int .i64 (checkD a : Int)) Tryd.results21 rfl rfl ?_
  exact ⟨[], Sub.z, false, rfl, rfl, fun h => absurd h he, fun _ => rfl⟩
set_option maxHeartbeats 8000000 in
set_option maxRecDepth 20000 in
theorem finOk (w : World) [Tab Tryd.prog w] (a : DFA) (k : DK) (ha : At w a k) (hv : Valid a) :
    PureT Tryd.prog 21 [dV a k] w fun v N => ∃ b, v = .tuple #[.bool b, .int .i64 (checkD a : Int)] ∧ N = [] ∧ (checkD a = 0 → (b = true ↔ ¬ InfC a a.start.toNat)) ∧ (checkD a ≠ 0 → b = false) := by
  refine CallT.enter Tryd.func21 rfl Tryd.ntmps21 rfl ?_
  have he := checkD_zero.2 hv
  refine T.seq (T.region ?_)
  refine TO.loud rfl (l_box (v := (dV a k)) (cs := (dC a k)) rfl rfl (fun z1 => ?_))
  refine TO.quiet (q_assign rfl) (TO.quiet (q_assign rfl) ?_)
  refine TO.nil (T.seq (T.region ?_))
  refine TO.quiet (q_load_boxAgg 0 Tryd.underlying25 rfl inf25 rfl rfl rfl) ?_
  have hk11 := fun (w1 : World) (hI : Inv w [oI z1 25 (dC a k)] w1) => (haveI := Inv.tab (P := Tryd.prog) hI; renumK w1 a k (hI.atB ha) hv)
  refine TO.loud rfl (l_call ent45 (CallT.of_pure hk11) rfl ?_)
  clear hk11
  rintro vr O' ⟨N, rfl, y, rfl, rfl⟩
  obtain ⟨M, hM⟩ : ∃ M, M = renum a := ⟨_, rfl⟩
  have hvM : Valid M := hM ▸ renum_valid hv
  rw [← hM]
  refine TO.quiet (q_move rfl) (TO.quiet (q_extract (vs := _) rfl rfl) (TO.quiet (q_extract (vs := _) rfl rfl) ?_))
  refine TO.loud rfl (l_alloc inf25 rfl (fun z2 => ?_))
  refine TO.loud rfl (l_store_box (v := (dV M y)) (vs := (dC M y)) 0 inf25 rfl rfl rfl rfl rfl rfl (by simp [putL]) ?_)
  refine TO.quiet (q_assign rfl) ?_
  refine TO.nil (T.seq (T.seq (T.region ?_)))
  refine TO.quiet (q_move rfl) (TO.quiet (q_neq rfl rfl) ?_)
  refine TO.nil ?_
  refine T.cond0 rfl ?_
  refine T.skip (T.seq (T.region ?_))
  refine TO.quiet (q_load_boxAgg 0 Tryd.underlying25 rfl inf25 rfl rfl rfl) ?_
  have hk18 := fun (w1 : World) (hI : Inv w [oI z2 25 (dC M y), dI 41 4 3 M y, oI z1 25 (dC a k)] w1) => (haveI := Inv.tab (P := Tryd.prog) hI; prodC w1 M y (hI.at (k := y) (List.mem_of_getElem? (i := 1) rfl)) hvM)
  refine TO.loud rfl (l_call ent46 (CallT.of_pure hk18) rfl ?_)
  clear hk18
  rintro vr O' ⟨N, rfl, lv, rb, rc, hlv, rfl, rfl⟩
  refine TO.loud rfl (l_alloc inf23 rfl (fun z3 => ?_))
  refine TO.loud rfl (l_store_box (v := (.slice rb M.next.length rc)) (vs := [(.slice rb M.next.length rc)]) 0 inf23 rfl rfl rfl rfl rfl rfl (by simp [putL]) ?_)
  refine TO.nil (T.seq (T.region ?_))
  refine TO.quiet (q_fieldAddr Tryd.underlying25 rfl inf22 rfl rfl) (TO.quiet (q_load_box 2 Tryd.underlying22 rfl rfl rfl rfl) (TO.quiet (q_len Tryd.underlying22 rfl) ?_))
  refine TO.loud rfl (l_makeSlice (m := M.next.length) Tryd.underlying41 inf3 rfl rfl (by have := hvM.n4; omega) (by have := hvM.n4; omega) (fun z4 => ?_))
  refine TO.loud rfl (l_alloc inf41 rfl (fun z5 => ?_))
  refine TO.loud rfl (l_store_box (v := (.slice (some ⟨z4, 0, none⟩) M.next.length M.next.length)) (vs := [(.slice (some ⟨z4, 0, none⟩) M.next.length M.next.length)]) 0 inf41 rfl rfl rfl rfl rfl rfl (by simp [putL]) ?_)
  refine TO.nil (T.seq (T.region ?_))
  refine TO.loud rfl (l_alloc inf74 rfl (fun z6 => ?_))
  refine TO.nil (T.seq (T.region ?_))
  refine TO.quiet (q_makeFunc) ?_
  refine TO.loud rfl (l_store_box (v := (.func (.func 47) #[] #[(.pointer (some ⟨z3, 0, none⟩)), (.pointer (some ⟨z5, 0, none⟩)), (.pointer (some ⟨z2, 0, none⟩)), (.pointer (some ⟨z6, 0, none⟩))])) (vs := [(.func (.func 47) #[] #[(.pointer (some ⟨z3, 0, none⟩)), (.pointer (some ⟨z5, 0, none⟩)), (.pointer (some ⟨z2, 0, none⟩)), (.pointer (some ⟨z6, 0, none⟩))])]) 0 inf74 rfl rfl rfl rfl rfl rfl (by simp [putL]) ?_)
  refine TO.nil (T.seq ?_)
  refine T.have (φ := nums y.qs = M.next) (fun w9 hI => dI_nums hI (List.mem_of_getElem? (i := 6) rfl)) (fun hqs => ?_)
  refine T.region ?_
  refine TO.quiet (q_load_box 0 Tryd.underlying74 rfl rfl rfl rfl) (TO.quiet (q_fieldAddr Tryd.underlying25 rfl inf3 rfl rfl) (TO.quiet (QT.cast (q_load_box 5 Tryd.underlying3 rfl rfl rfl rfl) (v' := .int .i64 ((M.start.toNat : Nat) : Int)) (congrArg (Value.int .i64) (Int.toNat_of_nonneg hvM.s0).symm)) ?_))
  have hk27 := CallV.under (A := [oI z3 23 [(.slice rb M.next.length rc)], rowI rb rc 4 1 (bools lv), oI z5 41 [(.slice (some ⟨z4, 0, none⟩) M.next.length M.next.length)], rowI (some ⟨z4, 0, none⟩) M.next.length 3 1 (ints (mkF M [] [])), oI z2 25 (dC M y), oI z6 74 [(.func (.func 47) #[] #[(.pointer (some ⟨z3, 0, none⟩)), (.pointer (some ⟨z5, 0, none⟩)), (.pointer (some ⟨z2, 0, none⟩)), (.pointer (some ⟨z6, 0, none⟩))])], dI 41 4 3 M y]) (B := [oI z1 25 (dC a k)]) (O := [oI z6 74 [(.func (.func 47) #[] #[(.pointer (some ⟨z3, 0, none⟩)), (.pointer (some ⟨z5, 0, none⟩)), (.pointer (some ⟨z2, 0, none⟩)), (.pointer (some ⟨z6, 0, none⟩))])], oI z5 41 [(.slice (some ⟨z4, 0, none⟩) M.next.length M.next.length)], rowI (some ⟨z4, 0, none⟩) M.next.length 3 1 (List.replicate M.next.length (.int .i64 0)), oI z3 23 [(.slice rb M.next.length rc)], rowI rb rc 4 1 (bools lv), oI z2 25 (dC M y), dI 41 4 3 M y, oI z1 25 (dC a k)]) (CallV.of_fn (first := []) (args := [.int .i64 ((M.start.toNat : Nat) : Int)]) (caps := [(.pointer (some ⟨z3, 0, none⟩)), (.pointer (some ⟨z5, 0, none⟩)), (.pointer (some ⟨z2, 0, none⟩)), (.pointer (some ⟨z6, 0, none⟩))]) ent47 (dfsF w M y hvM hqs lv hlv z3 z5 z2 z6 rb (some ⟨z4, 0, none⟩) rc M.next.length _ [] [] M.start.toNat rfl (DfsI.zero M) (start_lt hvM.toVal) (WayI.zero M _))) (by rw [mkF_zero]; exact Sub.pull [oI z6 74 [(.func (.func 47) #[] #[(.pointer (some ⟨z3, 0, none⟩)), (.pointer (some ⟨z5, 0, none⟩)), (.pointer (some ⟨z2, 0, none⟩)), (.pointer (some ⟨z6, 0, none⟩))])], oI z5 41 [(.slice (some ⟨z4, 0, none⟩) M.next.length M.next.length)], rowI (some ⟨z4, 0, none⟩) M.next.length 3 1 (List.replicate M.next.length (.int .i64 0))] _ (.pull [oI z6 74 [(.func (.func 47) #[] #[(.pointer (some ⟨z3, 0, none⟩)), (.pointer (some ⟨z5, 0, none⟩)), (.pointer (some ⟨z2, 0, none⟩)), (.pointer (some ⟨z6, 0, none⟩))])], oI z5 41 [(.slice (some ⟨z4, 0, none⟩) M.next.length M.next.length)], rowI (some ⟨z4, 0, none⟩) M.next.length 3 1 (List.replicate M.next.length (.int .i64 0))] _ (.pull [oI z6 74 [(.func (.func 47) #[] #[(.pointer (some ⟨z3, 0, none⟩)), (.pointer (some ⟨z5, 0, none⟩)), (.pointer (some ⟨z2, 0, none⟩)), (.pointer (some ⟨z6, 0, none⟩))])]] _ (.pull [oI z6 74 [(.func (.func 47) #[] #[(.pointer (some ⟨z3, 0, none⟩)), (.pointer (some ⟨z5, 0, none⟩)), (.pointer (some ⟨z2, 0, none⟩)), (.pointer (some ⟨z6, 0, none⟩))])]] _ (.pull [oI z6 74 [(.func (.func 47) #[] #[(.pointer (some ⟨z3, 0, none⟩)), (.pointer (some ⟨z5, 0, none⟩)), (.pointer (some ⟨z2, 0, none⟩)), (.pointer (some ⟨z6, 0, none⟩))])]] _ (.k (.k (.k .z))))))))
  refine TO.loud rfl (l_callG hk27 rfl rfl ?_)
  clear hk27
  rintro vr O' ⟨A1, rfl, b, mk, rfl, rfl, ht, hf⟩
  refine TO.quiet (q_assign rfl) (TO.quiet (q_assign rfl) ?_)
  refine TO.nil (T.ret (Res.drop ?_))
  refine Res.two (.bool b) (.int .i64 0) Tryd.results21 rfl rfl ?_
  have hfi : b = true ↔ ¬ InfC a a.start.toNat := by
    have hren : InfC M M.start.toNat ↔ InfC a a.start.toNat := by subst hM; exact inf_renum hv.toVal
    cases b with
    | true =>
      obtain ⟨fx, _, hdx, _, hin⟩ := ht rfl
      exact ⟨fun _ h9 => topo_fin hdx.topo hin (hren.2 h9), fun _ => rfl⟩
    | false => exact ⟨fun h => (by cases h), fun h9 => absurd (hren.1 (hf rfl)) h9⟩
  exact ⟨[], Sub.z, b, by rw [he]; rfl, rfl, fun _ => hfi, fun h => absurd he h⟩
theorem finC (w : World) [Tab Tryd.prog w] (a : DFA) (k : DK) (ha : At w a k) (haa : a.next.length < 9223372036854775807) (haar : ∀ r ∈ a.next, r.length < 9223372036854775807) (haaf : a.final.length < 9223372036854775807) :
    PureT Tryd.prog 21 [dV a k] w fun v N => ∃ b, v = .tuple #[.bool b, .int .i64 (checkD a : Int)] ∧ N = [] ∧ (checkD a = 0 → (b = true ↔ ¬ InfC a a.start.toNat)) ∧ (checkD a ≠ 0 → b = false) := by
  by_cases he : checkD a ≠ 0
  · exact finBad w a k ha haa haar haaf he
  · exact finOk w a k ha (checkD_zero.1 (by omega))
end Go.Proofs.YtnmfefmhfkhihaaDoor


namespace Go.Lx
open Go.RowKit
set_option linter.unusedVariables false
def QRec.cel (q : QRec) : List Value := [.int .i64 ((q.p.1 : Nat) : Int), .slice q.b q.xs.length q.c]
abbrev rcells (rs : List QRec) : List Value := rs.flatMap QRec.cel
theorem rcells_len : ∀ rs : List QRec, (rcells rs).length = rs.length * 2
  | [] => rfl
  | q :: rs => by
    have := rcells_len rs
    simp only [rcells] at this
    simp only [rcells, List.flatMap_cons, List.length_append, this, List.length_cons, QRec.cel, List.length_nil]
    omega
def seenB (d : DFA) (A : List Stp) : List Bool := (List.range d.next.length).map fun t => decide ((t, t) ∈ A.map Prod.fst)
theorem seenB_len (d : DFA) (A : List Stp) : (seenB d A).length = d.next.length := by simp [seenB]
theorem seenB_at {d : DFA} {A : List Stp} {t : Nat} (h : t < d.next.length) : (bools (seenB d A))[t]? = some (.bool (decide ((t, t) ∈ A.map Prod.fst))) := by
  rw [List.getElem?_map, seenB, List.getElem?_map, List.getElem?_range h]; rfl
theorem seenB_set {d : DFA} {A : List Stp} {t : Nat} (w : List Nat) : (seenB d A).set t true = seenB d (A ++ [((t, t), w)]) := by
  apply List.ext_getElem?
  intro i
  by_cases hi : i < d.next.length
  · by_cases e : t = i
    · subst e
      rw [List.getElem?_set_self (by rw [seenB_len]; exact hi), seenB, List.getElem?_map, List.getElem?_range hi]
      simp
    · rw [List.getElem?_set_ne e, seenB, seenB, List.getElem?_map, List.getElem?_map, List.getElem?_range hi]
      have e' : ¬ i = t := fun h => e h.symm
      simp [e']
  · rw [List.getElem?_eq_none (by rw [List.length_set, seenB_len]; omega), List.getElem?_eq_none (by rw [seenB_len]; omega)]
theorem seenB_put {d : DFA} {A : List Stp} {t : Nat} (w : List Nat) (h : t < d.next.length) : putL (bools (seenB d A)) t [.bool true] = bools (seenB d (A ++ [((t, t), w)])) := by
  rw [← seenB_set]; simp [putL]
theorem seenB_zero (d : DFA) : bools (seenB d []) = List.replicate d.next.length (.bool false) := by
  apply List.ext_getElem?
  intro i
  by_cases hi : i < d.next.length
  · rw [seenB_at hi, List.getElem?_replicate, if_pos hi]; simp
  · rw [List.getElem?_eq_none (by rw [List.length_map, seenB_len]; omega), List.getElem?_replicate, if_neg hi]
theorem sho_mid {d : DFA} (hv : Val d) {i : Nat} {q : Stp} (h : ∀ j, j < i → ∃ q, (shq d j)[j]? = some q ∧ finN d q.1.1 = false) (hq : (shq d i)[i]? = some q) {x : Nat} (hx : x ≤ letN d) :
    (pushN d q (shq d i) x).length ≤ d.next.length ∧ q.1 = (q.1.1, q.1.1) ∧ q.1.1 < d.next.length ∧ q.2.length ≤ i ∧ i < d.next.length ∧ i < (pushN d q (shq d i) x).length := by
  have hI := shq_inv hv h
  have hs := start_lt hv
  have hm := hI.mid hq x hx
  have hd : ∀ r ∈ pushN d q (shq d i) x, r.1 = (r.1.1, r.1.1) ∧ r.1.1 < d.next.length := fun r hr => by
    obtain ⟨h1, h2⟩ := hm.run r hr
    exact ⟨by rw [h2], by rw [h2]; exact runN_lt hv hs _ h1⟩
  have hnd : ((pushN d q (shq d i) x).map (·.1.1)).Nodup := by
    have hn := hm.nd
    rw [List.nodup_iff_pairwise_ne, List.pairwise_map] at hn ⊢
    exact hn.imp_of_mem fun ha hb hne e => hne (by rw [(hd _ ha).1, (hd _ hb).1, e])
  have hl := nodup_bound (n := d.next.length) hnd fun y hy => by
    obtain ⟨r, hr, rfl⟩ := List.mem_map.1 hy
    exact (hd r hr).2
  rw [List.length_map] at hl
  have hil := (List.getElem?_eq_some_iff.1 hm.at_).1
  have := hd q (List.mem_of_getElem? hm.at_)
  exact ⟨hl, this.1, this.2, bq_wlen d _ _ i q (List.mem_of_getElem? hq), by omega, hil⟩
def ShoV (E : TypeId) (e : Nat) (v : Value) (N : List Item) : Option (List Nat) → Prop
  | some u => ∃ b c, v = .tuple #[.slice b u.length c, .bool true, .int .i64 (e : Int)] ∧ N = [rowI b c E 1 (byts u)]
  | none => v = .tuple #[.slice none 0 0, .bool false, .int .i64 (e : Int)] ∧ N = []
end Go.Lx


namespace Go.Lx
open Go.RowKit
set_option linter.unusedVariables false
theorem HasL.opW {f : Bool → Bool → Bool} {v : Int} {n m N : Nat} {a b : DFA} {p q : List Nat → Bool} (ha : HasL v n a p) (hb : HasL v m b q) (h : (order (prodD f a b)).length ≤ N) (hN : N ≤ 4096) : MinL v N (opD f a b) (fun w => f (p w) (q w)) := by
  have hv : a.vars = b.vars := by rw [ha.vars, hb.vars]
  have vD : Val (prodD f a b) := prod_val ha.valid.toVal hb.valid.toVal hv
  have vR : Valid (renum (prodD f a b)) := renum_fit vD (Nat.le_trans h hN)
  have e : opD f a b = minD (renum (prodD f a b)) := (minD_renum vD).symm
  have hl : (minD (renum (prodD f a b))).next.length ≤ (renum (prodD f a b)).next.length := minD_len vR.toVal
  have hr : (renum (prodD f a b)).next.length = (order (prodD f a b)).length := by simp [renum]
  refine ⟨⟨?_, ?_, ha.vars, fun w hw => ?_⟩, opD_minW ha.valid.toVal hb.valid.toVal hv⟩
  · rw [e]; exact minD_valid vR
  · rw [e]; omega
  · rw [opD_accW ha.valid.toVal hb.valid.toVal hv (ha.wd.2 hw), ha.acc w hw, hb.acc w hw]
end Go.Lx


namespace Go.Lx
open Go.RowKit
set_option linter.unusedVariables false
structure InL (z d : DFA) (p : List Nat → Bool) : Prop where
  has : HasL z.vars z.next.length d p
  det : Det z d
theorem InL.fac {z d : DFA} {p : List Nat → Bool} (h : InL z d p) : Fac z p := h.det.fac h.has
theorem InL.order {z a b : DFA} {p q : List Nat → Bool} {f : Bool → Bool → Bool} (hz : Valid z) (ha : InL z a p) (hb : InL z b q) : (order (prodD f a b)).length ≤ z.next.length :=
  pr_order_factW ha.has.valid.toVal hb.has.valid.toVal (by rw [ha.has.vars, hb.has.vars]) hz.toVal ha.has.vars.symm ha.det hb.det
theorem InL.op {z a b : DFA} {p q : List Nat → Bool} {f : Bool → Bool → Bool} (hz : Valid z) (ha : InL z a p) (hb : InL z b q) : MinL z.vars z.next.length (opD f a b) (fun w => f (p w) (q w)) ∧ InL z (opD f a b) (fun w => f (p w) (q w)) := by
  have hm := ha.has.opW hb.has (InL.order (f := f) hz ha hb) hz.n4
  exact ⟨hm, hm.toHasL, (ha.fac.op f hb.fac).det hm⟩
theorem InL.min {z d : DFA} {p : List Nat → Bool} (hz : Valid z) (h : InL z d p) : MinL z.vars z.next.length (minD d) p ∧ InL z (minD d) p :=
  ⟨h.has.minim, h.has.minim.toHasL, h.fac.det h.has.minim⟩
theorem InL.of {z d : DFA} (hz : Valid z) (hd : Valid d) (hv : z.vars = d.vars) (hl : d.next.length ≤ z.next.length) (h : Det z d) : InL z d (acc d) := ⟨⟨hd, hl, hv.symm, fun _ _ => rfl⟩, h⟩
end Go.Lx


namespace Go.Lx
open Go.RowKit
set_option linter.unusedVariables false
abbrev cC (a g : DFA) (j k : DK) : List Value := [.int .i64 a.vars, .int .i64 a.start, .slice j.nb a.next.length j.nc, .slice j.fb a.final.length j.fc, .int .i64 g.vars, .int .i64 g.start, .slice k.nb g.next.length k.nc, .slice k.fb g.final.length k.fc]
abbrev bC (e : Value) (a g : DFA) (j k : DK) : List Value := e :: cC a g j k
theorem InL.not {z a : DFA} {p : List Nat → Bool} (hz : Valid z) (ha : InL z a p) : MinL z.vars z.next.length (notD a) (fun w => !p w) ∧ InL z (notD a) (fun w => !p w) := InL.op (f := notB) hz ha ha
end Go.Lx
namespace Go.Lx
end Go.Lx


namespace Go.Lx
open Go.RowKit
set_option linter.unusedVariables false
end Go.Lx


namespace Go.Lx
open Go.RowKit
set_option linter.unusedVariables false
def Imp (v : Int) (p q r : List Nat → Bool) : Prop := ∀ w, WdV v w → p w = true → q w = true → r w = true
def Ref (v : Int) (p q p2 q2 : List Nat → Bool) : Prop := ∀ w, WdV v w → (p2 w = true → p w = true) ∧ ((q w || !p w) = true → (q2 w || !p2 w) = true)
theorem InL.accV {z d : DFA} {p : List Nat → Bool} (h : InL z d p) {w : List Nat} (hw : WdV z.vars w) (hl : w.length ≤ 64) : Lx.accV d w = p w := h.has.accV hw hl
section
variable {v : Int} {px py p q p1 q1 p2 q2 p3 q3 : List Nat → Bool}
theorem Ref.rfl' : Ref v p q p q := fun w hw => ⟨id, id⟩
theorem Ref.trans' (h : Ref v p q p1 q1) (h2 : Ref v p1 q1 p2 q2) : Ref v p q p2 q2 := fun w hw => ⟨fun e => (h w hw).1 ((h2 w hw).1 e), fun e => (h2 w hw).2 ((h w hw).2 e)⟩
theorem Ref.imp (h : Ref v p q p1 q1) (h2 : Imp v px p q) : Imp v px p1 q1 := fun w hw e1 e2 => by
  have a1 := h w hw
  have a2 := h2 w hw e1
  cases h1 : p w <;> cases h2 : q w <;> cases h3 : q1 w <;> simp_all
end
section
variable {z x a b c d : DFA} {px p q p2 q2 : List Nat → Bool}
end
section
variable {v : Int} {px py p q p1 q1 p2 q2 p3 q3 : List Nat → Bool}
theorem fc {P Q R : List Nat → Prop} (h : ∀ w, P w ↔ Q w ∧ R w) : (∀ w, WdV v w → P w) ↔ (∀ w, WdV v w → Q w) ∧ ∀ w, WdV v w → R w :=
  ⟨fun a => ⟨fun w hw => ((h w).1 (a w hw)).1, fun w hw => ((h w).1 (a w hw)).2⟩, fun a w hw => (h w).2 ⟨a.1 w hw, a.2 w hw⟩⟩
end
end Go.Lx


namespace Go.Lx
open Go.RowKit
set_option linter.unusedVariables false
theorem least_ex (d : DFA) : ∃ r, LeastA d r := by
  by_cases h : ∃ u, Wd d u ∧ acc d u = true
  · have key : ∀ n, (∃ u, Wd d u ∧ acc d u = true ∧ code u ≤ n) → ∃ r, LeastA d r := by
      intro n
      induction n with
      | zero => rintro ⟨u, h1, h2, h3⟩; exact ⟨some u, h1, h2, fun v _ _ => by omega⟩
      | succ n ih =>
        rintro ⟨u, h1, h2, h3⟩
        by_cases h4 : ∃ v, Wd d v ∧ acc d v = true ∧ code v ≤ n
        · exact ih h4
        · refine ⟨some u, h1, h2, fun v hv hv2 => ?_⟩
          have : ¬ code v ≤ n := fun h5 => h4 ⟨v, hv, hv2, h5⟩
          omega
    obtain ⟨u, h1, h2⟩ := h
    exact key _ ⟨u, h1, h2, Nat.le_refl _⟩
  · refine ⟨none, fun u hu => ?_⟩
    cases e : acc d u with
    | false => rfl
    | true => exact absurd ⟨u, hu, e⟩ h
theorem pickR (e : Nat) (d : DFA) : ∃ (r : Option (List Nat)) (b : Bool), (e = 0 → LeastA d r) ∧ (e ≠ 0 → r = none) ∧ b = (decide (e = 0) && !r.isSome) := by
  by_cases h : e = 0
  · obtain ⟨r, hr⟩ := least_ex d
    exact ⟨r, _, fun _ => hr, fun h9 => absurd h h9, rfl⟩
  · exact ⟨none, _, fun h9 => absurd h9 h, fun _ => rfl, rfl⟩
theorem Sl.pre {w : World} {b : Option Addr} {cs : List Value} (h : Sl w b cs) (m : Nat) : Sl w b (cs.take m) := fun i hi => by
  have hi' : i < cs.length := by rw [List.length_take] at hi; omega
  obtain ⟨a, h1, h2, h3⟩ := h i hi'
  exact ⟨a, h1, h2, by rw [h3]; simp⟩
structure FewR (w : World) (d : DFA) (s : Nat) (rs : List Rec) : Prop where
  xs : nums rs = (d.next.take s).map (·.take 65)
  sl : ∀ r ∈ rs, Sl w r.b (ints r.xs)
theorem FewR.zero (w : World) (d : DFA) : FewR w d 0 [] := ⟨rfl, fun r hr => by cases hr⟩
theorem FewR.step {w : World} {d : DFA} {s : Nat} {rs : List Rec} (h : FewR w d s rs) (hs : s < d.next.length) {v : Option Addr} {c : Nat} (hv : Sl w v (ints d.next[s])) : FewR w d (s + 1) (rs ++ [⟨v, c, d.next[s].take 65⟩]) := by
  refine ⟨?_, fun r hr => ?_⟩
  · rw [List.take_succ_eq_append_getElem hs, List.map_append, ← h.xs]; exact List.map_append
  · rcases List.mem_append.1 hr with hr | hr
    · exact h.sl r hr
    · obtain rfl := List.mem_singleton.1 hr
      have := hv.pre 65
      rw [← List.map_take] at this
      exact this
theorem FewR.len {w : World} {d : DFA} {s : Nat} {rs : List Rec} (h : FewR w d s rs) (hs : s ≤ d.next.length) : rs.length = s := by
  have := congrArg List.length h.xs
  simpa [Nat.min_eq_left hs] using this
theorem FewR.rows {w w' : World} {d : DFA} {s : Nat} {rs : List Rec} (h : FewR w d s rs) (hk : ∀ k, k < w.heap.size → w'.heap[k]? = w.heap[k]?) {R : List (List Int)} (hR : nums rs = R) : RowsR w' (vals rs) R := by
  subst hR
  refine ⟨by simp, fun i r hr => ?_⟩
  rw [List.getElem?_map] at hr
  cases hq : rs[i]? with
  | none => rw [hq] at hr; cases hr
  | some q =>
    rw [hq] at hr
    obtain rfl : q.xs = r := by simpa using hr
    refine ⟨q.b, q.c, ?_, (h.sl q (List.mem_of_getElem? hq)).keep hk⟩
    rw [List.getElem?_map, hq]; rfl
end Go.Lx
namespace Go.Lx
set_option linter.unusedVariables false
abbrev Bd9 (a : DFA) : Prop := a.next.length < 9223372036854775807 ∧ (∀ r ∈ a.next, r.length < 9223372036854775807) ∧ a.final.length < 9223372036854775807
end Go.Lx


namespace Go.Lx
open Go.RowKit
set_option linter.unusedVariables false
def RchK (d : DFA) (k t : Nat) : Prop := ∃ u, Wd d u ∧ u.length = k ∧ runN d d.start.toNat u = t
theorem RchK.zero {d : DFA} {t : Nat} : RchK d 0 t ↔ t = d.start.toNat := by
  constructor
  · rintro ⟨u, _, h2, h3⟩
    obtain rfl := List.length_eq_zero_iff.1 h2
    exact h3.symm
  · rintro rfl; exact ⟨[], Wd.nil, rfl, rfl⟩
theorem RchK.succ {d : DFA} {k t : Nat} : RchK d (k + 1) t ↔ ∃ s x, RchK d k s ∧ x < letN d ∧ toN d s x = t := by
  constructor
  · rintro ⟨u, h1, h2, h3⟩
    obtain ⟨v, x, rfl⟩ : ∃ v x, u = v ++ [x] := by
      rcases List.eq_nil_or_concat u with h | ⟨v, x, h⟩
      · rw [h] at h2; cases h2
      · exact ⟨v, x, h.trans (List.concat_eq_append ..)⟩
    have hv : Wd d v := fun y hy => h1 y (List.mem_append_left _ hy)
    refine ⟨_, x, ⟨v, hv, by simpa using h2, rfl⟩, h1 x (by simp), ?_⟩
    rw [runN_append] at h3; exact h3
  · rintro ⟨s, x, ⟨v, h1, h2, h3⟩, hx, h4⟩
    exact ⟨v ++ [x], h1.app (Wd.cons.2 ⟨hx, Wd.nil⟩), by simp [h2], by rw [runN_append, h3]; exact h4⟩
theorem RchK.lt {d : DFA} (hv : Val d) {k t : Nat} (h : RchK d k t) : t < d.next.length := by
  obtain ⟨u, h1, _, rfl⟩ := h
  exact runN_lt hv (start_lt hv) u h1
structure InK (d : DFA) (k : Nat) (l : List Bool) : Prop where
  len : l.length = d.next.length
  ok : ∀ t, t < d.next.length → (l.getD t false = true ↔ RchK d k t)
structure NxK (d : DFA) (k s x : Nat) (l : List Bool) : Prop where
  len : l.length = d.next.length
  ok : ∀ t, t < d.next.length → (l.getD t false = true ↔ ∃ s' x', (s' < s ∧ x' < letN d ∨ s' = s ∧ x' < x) ∧ RchK d k s' ∧ toN d s' x' = t)
theorem getD_set {l : List Bool} {s t : Nat} {v : Bool} (hs : s < l.length) : (l.set s v).getD t false = if t = s then v else l.getD t false := by
  rw [List.getD_eq_getElem?_getD, List.getElem?_set, List.getD_eq_getElem?_getD]
  by_cases e : t = s
  · subst e; simp [hs]
  · rw [if_neg (fun h => e h.symm), if_neg e]
theorem getD_rep {n t : Nat} : (List.replicate n false).getD t false = false := by
  rw [List.getD_eq_getElem?_getD, List.getElem?_replicate]; split <;> rfl
theorem InK.zero {d : DFA} (hs : d.start.toNat < d.next.length) : InK d 0 ((List.replicate d.next.length false).set d.start.toNat true) where
  len := by simp
  ok t ht := by
    rw [getD_set (by simpa using hs), RchK.zero, getD_rep]
    split <;> simp_all
theorem NxK.zero (d : DFA) (k : Nat) : NxK d k 0 0 (List.replicate d.next.length false) where
  len := by simp
  ok t ht := by
    rw [getD_rep]
    constructor
    · intro h; cases h
    · rintro ⟨s', x', h | h, _⟩ <;> omega
theorem NxK.hit {d : DFA} {k s x : Nat} {l : List Bool} (h : NxK d k s x l) (hr : RchK d k s) (ht : toN d s x < d.next.length) : NxK d k s (x + 1) (l.set (toN d s x) true) where
  len := by rw [List.length_set]; exact h.len
  ok t ht' := by
    rw [getD_set (by rw [h.len]; exact ht)]
    constructor
    · intro h1
      split at h1
      · rename_i e; exact ⟨s, x, .inr ⟨rfl, by omega⟩, hr, e.symm⟩
      · obtain ⟨s', x', h2, h3⟩ := (h.ok t ht').1 h1
        exact ⟨s', x', by omega, h3⟩
    · rintro ⟨s', x', h2, h3, h4⟩
      split
      · rfl
      · rename_i e
        refine (h.ok t ht').2 ⟨s', x', ?_, h3, h4⟩
        rcases h2 with h2 | ⟨rfl, h2⟩
        · exact .inl h2
        · have : x' ≠ x := fun e2 => e (by rw [← h4, e2])
          exact .inr ⟨rfl, by omega⟩
theorem NxK.row {d : DFA} {k s x : Nat} {l : List Bool} (h : NxK d k s x l) (hx : x = letN d) : NxK d k (s + 1) 0 l where
  len := h.len
  ok t ht' := by
    rw [h.ok t ht']
    subst hx
    constructor
    · rintro ⟨s', x', h2, h3⟩; exact ⟨s', x', by omega, h3⟩
    · rintro ⟨s', x', h2, h3⟩
      refine ⟨s', x', ?_, h3⟩
      rcases h2 with ⟨h2, h5⟩ | ⟨_, h2⟩
      · by_cases e : s' = s
        · exact .inr ⟨e, h5⟩
        · exact .inl ⟨by omega, h5⟩
      · omega
theorem NxK.end {d : DFA} (hv : Val d) {k s : Nat} {l : List Bool} (h : NxK d k s 0 l) (hs : s = d.next.length) : InK d (k + 1) l where
  len := h.len
  ok t ht' := by
    rw [h.ok t ht', RchK.succ]
    constructor
    · rintro ⟨s', x', h2, h3, h4⟩
      rcases h2 with ⟨_, h5⟩ | ⟨_, h2⟩
      · exact ⟨s', x', h3, h5, h4⟩
      · omega
    · rintro ⟨s', x', h3, h5, h4⟩
      exact ⟨s', x', .inl ⟨by have := h3.lt hv; omega, h5⟩, h3, h4⟩
end Go.Lx


namespace Go.Proofs.YtnmfefmhfkhihaaDoor
open Go.Lx Go.RowKit
set_option linter.unusedVariables false
set_option linter.unusedSimpArgs false
set_option maxHeartbeats 1000000 in
set_option maxRecDepth 20000 in
theorem shoBad (w : World) [Tab Tryd.prog w] (a : DFA) (k : DK) (ha : At w a k) (haa : a.next.length < 9223372036854775807) (haar : ∀ r ∈ a.next, r.length < 9223372036854775807) (haaf : a.final.length < 9223372036854775807) (he : checkD a ≠ 0) :
    PureT Tryd.prog 20 [dV a k] w fun v N => v = .tuple #[.slice none 0 0, .bool false, .int .i64 (checkD a : Int)] ∧ N = [] := by
  refine CallT.enter Tryd.func20 rfl Tryd.ntmps20 rfl ?_
  refine T.seq (T.region ?_)
  refine TO.loud rfl (l_box (v := (dV a k)) (cs := (dC a k)) rfl rfl (fun bx1 => ?_))
  refine TO.quiet (q_assign rfl) (TO.quiet (q_assign rfl) (TO.quiet (q_assign rfl) ?_))
  refine TO.nil (T.seq (T.seq (T.region ?_)))
  refine TO.quiet (q_load_boxAgg 0 Tryd.underlying25 rfl inf25 rfl rfl rfl) ?_
  have hk12 := fun (w1 : World) (hI : Inv w [oI bx1 25 (dC a k)] w1) => (haveI := Inv.tab (P := Tryd.prog) hI; subsetCheck w1 a k.nb k.fb k.nc k.fc (vals k.qs) (hI.dfa ha) haa haar haaf)
  refine TO.loud rfl (l_call ent33 (CallT.of_pure hk12) rfl ?_)
  clear hk12
  rintro vr O' ⟨N, rfl, rfl, rfl⟩
  refine TO.quiet (q_assign rfl) ?_
  refine TO.nil (T.seq (T.region ?_))
  refine TO.quiet (q_move rfl) (TO.quiet (QT.toB (q_neq rfl rfl) (decide_eq_true (by omega))) ?_)
  refine TO.nil ?_
  refine T.cond1 rfl ?_
  refine T.seq (T.region ?_)
  refine TO.quiet (q_move rfl) (TO.quiet (q_assign rfl) (TO.quiet (q_assign rfl) (TO.quiet (q_assign rfl) ?_)))
  refine TO.nil (T.ret (Res.drop ?_))
  refine Res.three (.slice none 0 0) (.bool false) (.int .i64 (checkD a : Int)) Tryd.results20 rfl rfl rfl ?_
  exact ⟨[], Sub.z, rfl, rfl⟩
set_option maxHeartbeats 8000000 in
set_option maxRecDepth 20000 in
theorem shoOk (w : World) [Tab Tryd.prog w] (a : DFA) (k : DK) (ha : At w a k) (hv : Valid a) :
    PureT Tryd.prog 20 [dV a k] w fun v N => ∃ res, LeastA a res ∧ ShoV 5 0 v N res := by
  refine CallT.enter Tryd.func20 rfl Tryd.ntmps20 rfl ?_
  have he := checkD_zero.2 hv
  have haa : a.next.length < 9223372036854775807 := by have := hv.n4; omega
  have haar : ∀ r ∈ a.next, r.length < 9223372036854775807 := hv.bound
  have haaf : a.final.length < 9223372036854775807 := by have := hv.fin; omega
  have h4 := hv.n4
  have hww := hv.width
  have hsl := start_lt hv.toVal
  have hs0 := hv.s0
  have hs1 := hv.s1
  have hvl := ha.rows.1
  have hfin := hv.fin
  refine T.seq (T.region ?_)
  refine TO.loud rfl (l_box (v := (dV a k)) (cs := (dC a k)) rfl rfl (fun z1 => ?_))
  refine TO.quiet (q_assign rfl) (TO.quiet (q_assign rfl) (TO.quiet (q_assign rfl) ?_))
  refine TO.nil (T.seq (T.seq (T.region ?_)))
  refine TO.quiet (q_load_boxAgg 0 Tryd.underlying25 rfl inf25 rfl rfl rfl) ?_
  have hk12 := fun (w1 : World) (hI : Inv w [oI z1 25 (dC a k)] w1) => (haveI := Inv.tab (P := Tryd.prog) hI; subsetCheck w1 a k.nb k.fb k.nc k.fc (vals k.qs) (hI.dfa ha) haa haar haaf)
  refine TO.loud rfl (l_call ent33 (CallT.of_pure hk12) rfl ?_)
  clear hk12
  rintro vr O' ⟨N, rfl, rfl, rfl⟩
  rw [he]
  refine TO.quiet (q_assign rfl) ?_
  refine TO.nil (T.seq (T.region ?_))
  refine TO.quiet (q_move rfl) (TO.quiet (q_neq rfl rfl) ?_)
  refine TO.nil ?_
  refine T.cond0 rfl ?_
  refine T.skip (T.seq (T.region ?_))
  refine TO.quiet (q_fieldAddr Tryd.underlying25 rfl inf22 rfl rfl) (TO.quiet (q_load_box 0 Tryd.underlying22 rfl rfl rfl rfl) (TO.quiet (q_len Tryd.underlying22 rfl) ?_))
  refine TO.loud rfl (l_makeSlice (m := a.next.length) Tryd.underlying23 inf4 rfl rfl (by omega) (by omega) (fun z2 => ?_))
  refine TO.quiet (q_assign rfl) ?_
  refine TO.nil (T.seq (T.region ?_))
  refine TO.quiet (q_move rfl) (TO.quiet (q_fieldAddr Tryd.underlying25 rfl inf3 rfl rfl) (TO.quiet (q_load_box 1 Tryd.underlying3 rfl rfl rfl rfl) (TO.quiet (q_ixz (i := a.start) Tryd.underlying23 inf4 rfl rfl (rowO (List.mem_of_getElem? (i := 0) rfl)) (by first | assumption | omega) (by omega) (by rw [List.length_replicate]; omega)) ?_)))
  refine TO.loud rfl (l_st (j := a.start.toNat) (v := .bool true) (vs := [(.bool true)]) (cs := List.replicate a.next.length (.bool false)) 0 inf4 rfl rfl rfl rfl rfl (by simp) rfl (by rw [List.length_replicate]; simp; omega) ?_)
  refine TO.sub (O' := [rowI (some ⟨z2, 0, none⟩) a.next.length 4 1 (bools (seenB a (shq a 0))), oI z1 25 (dC a k)]) (by rw [show putL (List.replicate a.next.length (.bool false)) a.start.toNat [(.bool true)] = bools (seenB a (shq a 0)) from (by rw [← seenB_zero]; exact seenB_put [] hsl)]; exact Sub.of (List.Sublist.refl _)) ?_
  refine TO.nil (T.seq (T.seq (T.region ?_)))
  refine TO.quiet (q_fieldAddr Tryd.underlying25 rfl inf3 rfl rfl) (TO.quiet (q_load_box 1 Tryd.underlying3 rfl rfl rfl rfl) (TO.quiet (q_build (cs := [(.int .i64 a.start), (.slice none 0 0)]) plan70 inf70 (by kernel_rfl)) ?_))
  refine TO.loud rfl (l_buildSlice (m := 1) (parts := [(0, _)]) (cs := [(.int .i64 a.start), (.slice none 0 0)]) Tryd.underlying71 inf70 (by decide) (by kernel_rfl) rfl (fun z3 => ?_))
  refine TO.quiet (q_assign rfl) ?_
  refine TO.nil ?_
  refine T.nilRow 5 1 ?_
  refine T.sub (O' := [rowI (some ⟨z3, 0, none⟩) 1 70 2 [(.int .i64 a.start), (.slice none 0 0)], rowI (some ⟨z2, 0, none⟩) a.next.length 4 1 (bools (seenB a (shq a 0))), oI z1 25 (dC a k), rowI none 0 5 1 []]) (by exact Sub.pull [rowI none 0 5 1 []] _ (.pull [rowI none 0 5 1 []] _ (.pull [rowI none 0 5 1 []] _ (.k .z)))) ?_
  refine T.sub (O' := ([rowI (some ⟨z3, 0, none⟩) 1 70 2 (rcells [⟨(a.start.toNat, a.start.toNat), none, 0, []⟩]), rowI (some ⟨z2, 0, none⟩) a.next.length 4 1 (bools (seenB a (shq a 0))), oI z1 25 (dC a k)] ++ qitms 5 [⟨(a.start.toNat, a.start.toNat), none, 0, []⟩])) (by rw [show rcells [⟨(a.start.toNat, a.start.toNat), none, 0, []⟩] = [.int .i64 ((a.start.toNat : Nat) : Int), .slice none 0 0] from rfl, show ((a.start.toNat : Nat) : Int) = a.start from Int.toNat_of_nonneg hs0]; exact Sub.rf) ?_
  refine T.block ?_
  refine T.loop (fun (i : Nat) ρ O => ∃ (qb : Option Addr) (qc m : Nat) (rs : List QRec), O = ([rowI qb qc 70 2 (rcells rs), rowI (some ⟨z2, 0, none⟩) a.next.length 4 1 (bools (seenB a (shq a i))), oI z1 25 (dC a k)] ++ (qitms 5 rs)) ∧ m = rs.length ∧ rs.map QRec.stp = (shq a i).drop i ∧ (∀ j, j < i → ∃ q, (shq a j)[j]? = some q ∧ finN a q.1.1 = false) ∧ Heads [(0, (dV a k)), (1, (.pointer (some ⟨z1, 0, none⟩))), (5, .int .i64 0), (6, (.slice (some ⟨z2, 0, none⟩) a.next.length a.next.length)), (7, (.slice qb m qc))] ρ) (fun i => a.next.length - i) 0 ?_ ?_
  · exact ⟨_, _, 1, [⟨(a.start.toNat, a.start.toNat), none, 0, []⟩], rfl, rfl, rfl, fun j hj => absurd hj (by omega), ⟨rfl, rfl, rfl, rfl, rfl, trivial⟩⟩
  rintro i ρ O ⟨qb, qc, m, rs, rfl, hm, hrs, hj, hH⟩
  obtain ⟨ρ0, rfl⟩ := hH.elim
  clear hH
  refine T.seq (T.seq (T.region ?_))
  refine TO.quiet (q_move rfl) (TO.quiet (q_len Tryd.underlying71 rfl) (TO.quiet (q_gtr rfl rfl) ?_))
  refine TO.nil ?_
  refine T.condP rfl (fun hc => ?_) (fun hc => ?_)
  · have hlt30 : m > 0 := by omega
    refine T.skip (T.seq (T.block (T.seq ?_)))
    obtain ⟨q0, rest, rfl⟩ : ∃ q0 rest, rs = q0 :: rest := by
      cases rs with
      | nil => subst hm; exact absurd hc (by simp)
      | cons a l => exact ⟨a, l, rfl⟩
    obtain ⟨m, rfl⟩ : ∃ k, m = k + 1 := ⟨rest.length, hm⟩
    have hm : m = rest.length := by simpa using hm
    have hq0 : (shq a i)[i]? = some q0.stp := by
      have := congrArg List.head? hrs
      rw [List.head?_drop] at this
      simpa using this.symm
    have hmid := fun x (hx : x ≤ letN a) => sho_mid hv.toVal hj hq0 hx
    have hpd : q0.p = (q0.p.1, q0.p.1) := (hmid 0 (Nat.zero_le _)).2.1
    have hp1 : q0.p.1 < a.next.length := (hmid 0 (Nat.zero_le _)).2.2.1
    have hwl : q0.xs.length ≤ i := (hmid 0 (Nat.zero_le _)).2.2.2.1
    have hi9 := (hmid 0 (Nat.zero_le _)).2.2.2.2.1
    have hf1 : q0.p.1 < a.final.length := by omega
    obtain ⟨vb1, vc1, g1, s1⟩ := ha.rows.get hp1
    have hl1 : a.next[q0.p.1].length = 2 ^ a.vars.toNat := hv.len _ (List.getElem_mem hp1)
    refine T.region ?_
    refine TO.quiet (q_move rfl) (TO.quiet (q_ixK (i := 0) Tryd.underlying71 inf70 rfl rfl (rowO (List.mem_of_getElem? (i := 0) rfl)) (by omega) (by rw [rcells_len]; simp)) (TO.quiet (q_ldK (vs := [(.int .i64 ((q0.p.1 : Nat) : Int)), (.slice q0.b q0.xs.length q0.c)]) Tryd.underlying70 rfl inf70 rfl rfl (Nat.succ_pos _) (rowO (List.mem_of_getElem? (i := 0) rfl)) (by intro j hj; match j, hj with | 0, _ => rfl | 1, _ => rfl)) ?_))
    refine TO.loud rfl (l_alloc inf70 rfl (fun z4 => ?_))
    refine TO.loud rfl (l_store_box (v := (.agg #[(.int .i64 ((q0.p.1 : Nat) : Int)), (.slice q0.b q0.xs.length q0.c)])) (vs := [(.int .i64 ((q0.p.1 : Nat) : Int)), (.slice q0.b q0.xs.length q0.c)]) 0 inf70 rfl rfl rfl rfl rfl rfl (by simp [putL]) ?_)
    refine TO.nil (T.seq (T.seq (T.region ?_)))
    refine TO.quiet (q_fieldAddr Tryd.underlying25 rfl inf23 rfl rfl) (TO.quiet (q_load_box 3 Tryd.underlying23 rfl rfl rfl rfl) (TO.quiet (q_fieldAddr Tryd.underlying70 rfl inf3 rfl rfl) (TO.quiet (q_load_box 0 Tryd.underlying3 rfl rfl rfl rfl) ?_)))
    refine TO.quiet (q_ix (i := q0.p.1) Tryd.underlying23 inf4 rfl rfl (Sl.o ha.final) hf1 (by rw [List.length_map]; exact hf1)) (TO.quiet (q_ld Tryd.underlying4 rfl rfl (Sl.o ha.final) (bools_get hf1)) ?_)
    refine TO.nil ?_
    refine T.cond rfl (fun hc => ?_) (fun hc => ?_)
    · have hne : finN a q0.p.1 = true := by simpa [finN, hf1] using hc
      refine T.seq (T.region ?_)
      refine TO.quiet (q_fieldAddr Tryd.underlying70 rfl inf29 rfl rfl) (TO.quiet (q_load_box 0 Tryd.underlying29 rfl rfl rfl rfl) (TO.quiet (q_assign rfl) (TO.quiet (q_assign rfl) ?_)))
      refine TO.quiet (q_assign rfl) ?_
      refine TO.nil (T.ret (Res.drop ?_))
      refine Res.three (.slice q0.b q0.xs.length q0.c) (.bool true) (.int .i64 0) Tryd.results20 rfl rfl rfl ?_
      exact ⟨[QRec.itm 5 q0], (by show Sub _ ([oI z4 70 [(.int .i64 ((q0.p.1 : Nat) : Int)), (.slice q0.b q0.xs.length q0.c)], rowI qb qc 70 2 (rcells (q0 :: rest)), rowI (some ⟨z2, 0, none⟩) a.next.length 4 1 (bools (seenB a (shq a i))), oI z1 25 (dC a k)] ++ qitms 5 (q0 :: rest)); exact Sub.appL [oI z4 70 [(.int .i64 ((q0.p.1 : Nat) : Int)), (.slice q0.b q0.xs.length q0.c)], rowI qb qc 70 2 (rcells (q0 :: rest)), rowI (some ⟨z2, 0, none⟩) a.next.length 4 1 (bools (seenB a (shq a i))), oI z1 25 (dC a k)] (Sub.k Sub.z)), some q0.xs, ShR.least hv.toVal ⟨i, hj, q0.stp, hq0, hne, rfl⟩, q0.b, q0.c, rfl, rfl⟩
    have heq : finN a q0.p.1 = false := by simpa [finN, hf1] using hc
    refine T.skip (T.seq (T.region ?_))
    refine TO.quiet (q_fieldAddr Tryd.underlying25 rfl inf22 rfl rfl) (TO.quiet (q_load_box 3 Tryd.underlying22 rfl rfl rfl rfl) (TO.quiet (q_fieldAddr Tryd.underlying70 rfl inf3 rfl rfl) (TO.quiet (q_load_box 0 Tryd.underlying3 rfl rfl rfl rfl) ?_)))
    refine TO.quiet (q_ix (i := q0.p.1) Tryd.underlying22 inf41 rfl rfl (Sl.o ha.outer) hp1 (hvl ▸ hp1)) (TO.quiet (q_ld Tryd.underlying41 rfl rfl (Sl.o ha.outer) g1) (TO.quiet (q_len Tryd.underlying41 rfl) (TO.quiet (q_move rfl) ?_)))
    refine TO.nil (T.block ?_)
    refine T.sub (O' := ([rowI qb qc 70 2 (rcells (q0 :: rest)), rowI (some ⟨z2, 0, none⟩) a.next.length 4 1 (bools (seenB a (shq a i))), oI z4 70 [(.int .i64 ((q0.p.1 : Nat) : Int)), (.slice q0.b q0.xs.length q0.c)], oI z1 25 (dC a k)] ++ qitms 5 (q0 :: rest))) (Sub.pickR [1, 1, 0, 0] [oI z4 70 [(.int .i64 ((q0.p.1 : Nat) : Int)), (.slice q0.b q0.xs.length q0.c)], rowI qb qc 70 2 (rcells (q0 :: rest)), rowI (some ⟨z2, 0, none⟩) a.next.length 4 1 (bools (seenB a (shq a i))), oI z1 25 (dC a k)] (qitms 5 (q0 :: rest)) rfl rfl) ?_
    refine T.loop (fun (x : Nat) ρ O => ∃ (qb : Option Addr) (qc m : Nat) (rest : List QRec), O = ([rowI qb qc 70 2 (rcells (q0 :: rest)), rowI (some ⟨z2, 0, none⟩) a.next.length 4 1 (bools (seenB a (pushN a q0.stp (shq a i) x))), oI z4 70 [(.int .i64 ((q0.p.1 : Nat) : Int)), (.slice q0.b q0.xs.length q0.c)], oI z1 25 (dC a k)] ++ (qitms 5 (q0 :: rest))) ∧ x ≤ letN a ∧ m = rest.length ∧ (q0 :: rest).map QRec.stp = (pushN a q0.stp (shq a i) x).drop i ∧ Heads [(0, (dV a k)), (1, (.pointer (some ⟨z1, 0, none⟩))), (5, .int .i64 0), (6, (.slice (some ⟨z2, 0, none⟩) a.next.length a.next.length)), (7, (.slice qb (m + 1) qc)), (8, (.pointer (some ⟨z4, 0, none⟩))), (49, (.slice vb1 a.next[q0.p.1].length vc1)), (50, .int .i64 (a.next[q0.p.1].length : Int)), (51, .int .i64 ((x : Nat) : Int))] ρ) (fun x => letN a - x) 0 ?_ ?_
    · exact ⟨qb, qc, m, rest, rfl, Nat.zero_le _, hm, hrs, ⟨rfl, rfl, rfl, rfl, rfl, rfl, rfl, rfl, rfl, trivial⟩⟩
    rintro x ρ O ⟨qb, qc, m, rest, rfl, hx9, hm, hrs2, hH⟩
    obtain ⟨ρ0, rfl⟩ := hH.elim
    clear hH
    refine T.seq (T.region ?_)
    refine TO.quiet (q_lss rfl rfl) ?_
    refine TO.nil (T.seq ?_)
    refine T.condP rfl (fun hc => ?_) (fun hc => ?_)
    · have hlt52 : x < a.next[q0.p.1].length := by omega
      have hlx : x < letN a := by rw [hl1] at hlt52; exact hlt52
      refine T.skip (T.seq (T.block (T.seq ?_)))
      obtain ⟨hto, _, hxk1, hx1⟩ := hv.toN_lt hp1 hlx
      have hx1 : (ints a.next[q0.p.1])[x]? = some (.int .i64 ((toN a q0.p.1 x : Nat) : Int)) := by rw [ints_get hxk1, hx1]
      have hsd : suc2 a q0.p x = (toN a q0.p.1 x, toN a q0.p.1 x) := by rw [hpd]; rfl
      refine T.region ?_
      refine TO.quiet (q_move rfl) (TO.quiet (q_ix (i := x) Tryd.underlying41 inf3 rfl rfl (Sl.o s1) hlt52 (by rw [List.length_map]; exact hlt52)) (TO.quiet (q_ld Tryd.underlying3 rfl rfl (Sl.o s1) hx1) (TO.quiet (q_assign rfl) ?_)))
      refine TO.quiet (q_assign rfl) ?_
      refine TO.nil (T.seq (T.region ?_))
      refine TO.quiet (q_move rfl) (TO.quiet (q_move rfl) (TO.quiet (q_ix (i := (toN a q0.p.1 x)) Tryd.underlying23 inf4 rfl rfl (rowO (List.mem_of_getElem? (i := 1) rfl)) hto (by rw [List.length_map, seenB_len]; exact hto)) (TO.quiet (q_ld Tryd.underlying4 rfl rfl (rowO (List.mem_of_getElem? (i := 1) rfl)) (seenB_at hto)) ?_)))
      refine TO.quiet (QT.cast (q_not rfl) (v' := .bool (decide (¬ suc2 a q0.p x ∈ (pushN a q0.stp (shq a i) x).map Prod.fst))) (by rw [hsd]; simp)) ?_
      refine TO.nil ?_
      refine T.condP rfl (fun hc => ?_) (fun hc => ?_)
      · have hin : ¬ suc2 a q0.p x ∈ (pushN a q0.stp (shq a i) x).map Prod.fst := hc
        have hsc := fun w => show bools (seenB a ((pushN a q0.stp (shq a i) x) ++ [(suc2 a q0.p x, w)])) = bools (seenB a ((pushN a q0.stp (shq a i) x) ++ [(suc2 a q0.p x, w)])) from rfl
        have hrl : rest.length + 1 ≤ a.next.length := by
          have := congrArg List.length hrs2
          simp at this
          have := (hmid x hx9).1
          omega
        have hil := (hmid x hx9).2.2.2.2.2
        refine T.seq (T.region ?_)
        refine TO.quiet (q_move rfl) (TO.quiet (q_move rfl) (TO.quiet (q_ix (i := (toN a q0.p.1 x)) Tryd.underlying23 inf4 rfl rfl (rowO (List.mem_of_getElem? (i := 1) rfl)) hto (by rw [List.length_map, seenB_len]; exact hto)) ?_))
        refine TO.loud rfl (l_st (j := (toN a q0.p.1 x)) (v := .bool true) (vs := [(.bool true)]) (cs := bools (seenB a (pushN a q0.stp (shq a i) x))) 1 inf4 rfl rfl rfl rfl rfl (by simp) rfl (by rw [List.length_map, seenB_len]; simp; omega) ?_)
        refine TO.sub (O' := ([rowI qb qc 70 2 (rcells (q0 :: rest)), rowI (some ⟨z2, 0, none⟩) a.next.length 4 1 (bools (seenB a ((pushN a q0.stp (shq a i) x) ++ [(suc2 a q0.p x, q0.xs ++ [x])]))), oI z4 70 [(.int .i64 ((q0.p.1 : Nat) : Int)), (.slice q0.b q0.xs.length q0.c)], oI z1 25 (dC a k)] ++ (qitms 5 (q0 :: rest)))) (by rw [show putL (bools (seenB a (pushN a q0.stp (shq a i) x))) (toN a q0.p.1 x) [(.bool true)] = bools (seenB a ((pushN a q0.stp (shq a i) x) ++ [(suc2 a q0.p x, q0.xs ++ [x])])) from (by rw [hsd]; exact seenB_put _ hto)]; exact Sub.of (List.Sublist.refl _)) ?_
        refine TO.nil (T.region ?_)
        refine TO.quiet (q_move rfl) (TO.quiet (q_move rfl) (TO.quiet (q_fieldAddr Tryd.underlying70 rfl inf29 rfl rfl) (TO.quiet (q_load_box 2 Tryd.underlying29 rfl rfl rfl rfl) ?_)))
        have hk68 := fun (w1 : World) (hI : Inv w ([rowI qb qc 70 2 (rcells (q0 :: rest)), rowI (some ⟨z2, 0, none⟩) a.next.length 4 1 (bools (seenB a ((pushN a q0.stp (shq a i) x) ++ [(suc2 a q0.p x, q0.xs ++ [x])]))), oI z4 70 [(.int .i64 ((q0.p.1 : Nat) : Int)), (.slice q0.b q0.xs.length q0.c)], oI z1 25 (dC a k)] ++ (qitms 5 (q0 :: rest))) w1) => (haveI := Inv.tab (P := Tryd.prog) hI; cloneC w1 q0.b q0.c q0.xs (hI.slOf (T := 5) (k := 1) (List.mem_append_right _ List.mem_cons_self)) (by omega))
        refine TO.loud rfl (l_call ent44 (CallT.of_pure hk68) rfl ?_)
        clear hk68
        rintro vr O' ⟨N, rfl, wb, wc, rfl, rfl⟩
        refine TO.quiet (q_move rfl) (TO.quiet (q_conv_id Tryd.underlying3 Tryd.underlying5 rfl (wrap8 (by omega))) ?_)
        refine TO.loud rfl (l_build1 (v := .int .u8 ((x : Nat) : Int)) Tryd.underlying29 inf5 rfl rfl rfl (fun z5 => ?_))
        refine TO.loud rfl (l_append 1 Tryd.underlying29 Tryd.underlying29 inf5 rfl rfl rfl rfl (by rw [List.length_map, Nat.mul_one]) (by decide) (Src.row (j := 0) rfl (by simp)) (by simp [oneB]) (by omega) (by decide) (by decide) (fun z6 zc7 => ?_))
        refine TO.quiet (q_build (cs := [.int .i64 ((toN a q0.p.1 x : Nat) : Int), (.slice z6 (q0.xs.length + 1) zc7)]) plan70 inf70 (by kernel_rfl)) ?_
        refine TO.loud rfl (l_buildSlice (m := 1) (parts := [(0, _)]) (cs := [.int .i64 ((toN a q0.p.1 x : Nat) : Int), (.slice z6 (q0.xs.length + 1) zc7)]) Tryd.underlying71 inf70 (by decide) (by kernel_rfl) rfl (fun z8 => ?_))
        refine TO.loud rfl (l_append 3 Tryd.underlying71 Tryd.underlying71 inf70 rfl rfl rfl rfl (by rw [rcells_len, hm]; rfl) (by decide) (Src.row (j := 0) rfl (by simp)) (by simp [oneB]) (by omega) (by decide) (by decide) (fun z9 zc10 => ?_))
        refine TO.quiet (q_assign rfl) ?_
        refine TO.nil ?_
        obtain ⟨wb2, hwb2⟩ : ∃ z, z = z6 := ⟨_, rfl⟩
        obtain ⟨wc2, hwc2⟩ : ∃ z, z = zc7 := ⟨_, rfl⟩
        refine T.sub (O' := ([rowI z9 zc10 70 2 ((rcells (q0 :: rest)) ++ [.int .i64 ((toN a q0.p.1 x : Nat) : Int), (.slice z6 (q0.xs.length + 1) zc7)]), rowI (some ⟨z2, 0, none⟩) a.next.length 4 1 (bools (seenB a ((pushN a q0.stp (shq a i) x) ++ [(suc2 a q0.p x, q0.xs ++ [x])]))), oI z4 70 [(.int .i64 ((q0.p.1 : Nat) : Int)), (.slice q0.b q0.xs.length q0.c)], oI z1 25 (dC a k), rowI z6 zc7 5 1 ((byts q0.xs) ++ [.int .u8 ((x : Nat) : Int)])] ++ qitms 5 (q0 :: rest))) (Sub.pickR [3, 3, 3, 3, 2] [rowI (some ⟨z8, 0, none⟩) 1 70 2 [.int .i64 ((toN a q0.p.1 x : Nat) : Int), (.slice z6 (q0.xs.length + 1) zc7)], rowI (some ⟨z5, 0, none⟩) 1 5 1 [.int .u8 ((x : Nat) : Int)], rowI z6 zc7 5 1 ((byts q0.xs) ++ [.int .u8 ((x : Nat) : Int)]), rowI z9 zc10 70 2 ((rcells (q0 :: rest)) ++ [.int .i64 ((toN a q0.p.1 x : Nat) : Int), (.slice z6 (q0.xs.length + 1) zc7)]), rowI (some ⟨z2, 0, none⟩) a.next.length 4 1 (bools (seenB a ((pushN a q0.stp (shq a i) x) ++ [(suc2 a q0.p x, q0.xs ++ [x])]))), oI z4 70 [(.int .i64 ((q0.p.1 : Nat) : Int)), (.slice q0.b q0.xs.length q0.c)], oI z1 25 (dC a k)] (qitms 5 (q0 :: rest)) rfl rfl) ?_
        refine T.sub (O' := ([rowI z9 zc10 70 2 ((rcells (q0 :: rest)) ++ [.int .i64 ((toN a q0.p.1 x : Nat) : Int), (.slice z6 (q0.xs.length + 1) zc7)]), rowI (some ⟨z2, 0, none⟩) a.next.length 4 1 (bools (seenB a ((pushN a q0.stp (shq a i) x) ++ [(suc2 a q0.p x, q0.xs ++ [x])]))), oI z4 70 [(.int .i64 ((q0.p.1 : Nat) : Int)), (.slice q0.b q0.xs.length q0.c)], oI z1 25 (dC a k)] ++ qitms 5 (q0 :: (rest ++ [⟨suc2 a q0.p x, wb2, wc2, q0.xs ++ [x]⟩])))) (by rw [show qitms 5 (q0 :: (rest ++ [⟨suc2 a q0.p x, wb2, wc2, q0.xs ++ [x]⟩])) = qitms 5 (q0 :: rest) ++ [rowI z6 zc7 5 1 ((byts q0.xs) ++ [.int .u8 ((x : Nat) : Int)])] by subst hwb2; subst hwc2; simp [QRec.itm]]; exact Sub.foldN [rowI z9 zc10 70 2 ((rcells (q0 :: rest)) ++ [.int .i64 ((toN a q0.p.1 x : Nat) : Int), (.slice z6 (q0.xs.length + 1) zc7)]), rowI (some ⟨z2, 0, none⟩) a.next.length 4 1 (bools (seenB a ((pushN a q0.stp (shq a i) x) ++ [(suc2 a q0.p x, q0.xs ++ [x])]))), oI z4 70 [(.int .i64 ((q0.p.1 : Nat) : Int)), (.slice q0.b q0.xs.length q0.c)], oI z1 25 (dC a k)] (rowI z6 zc7 5 1 ((byts q0.xs) ++ [.int .u8 ((x : Nat) : Int)])) (qitms 5 (q0 :: rest)) _ rfl) ?_
        refine T.region ?_
        refine TO.quiet (q_addN (a := x) (b := 1) rfl rfl (by omega)) (TO.quiet (q_move rfl) ?_)
        refine TO.nil ?_
        have hA : pushN a q0.stp (shq a i) (x + 1) = (pushN a q0.stp (shq a i) x) ++ [(suc2 a q0.p x, q0.xs ++ [x])] := by
          show pushS a q0.stp _ x = _
          unfold pushS
          exact if_neg hin
        refine ⟨x + 1, by omega, z9, zc10, m + 1, rest ++ [⟨suc2 a q0.p x, wb2, wc2, q0.xs ++ [x]⟩], ?_, by omega, by simp [hm], ?_, ⟨rfl, rfl, rfl, rfl, rfl, rfl, rfl, rfl, rfl, trivial⟩⟩
        · rw [hA, hsc, show rcells (q0 :: (rest ++ [⟨suc2 a q0.p x, wb2, wc2, q0.xs ++ [x]⟩])) = rcells (q0 :: rest) ++ [(.int .i64 ((toN a q0.p.1 x : Nat) : Int)), (.slice wb2 (q0.xs.length + 1) wc2)] by simp [QRec.cel, suc2]]; subst hwb2; subst hwc2; rfl
        · rw [hA, List.drop_append_of_le_length (by omega), ← hrs2]; simp [QRec.stp]
      have hin : suc2 a q0.p x ∈ (pushN a q0.stp (shq a i) x).map Prod.fst := Classical.not_not.1 hc
      have hil := (hmid x hx9).2.2.2.2.2
      refine T.skip (T.region ?_)
      refine TO.quiet (q_addN (a := x) (b := 1) rfl rfl (by omega)) (TO.quiet (q_move rfl) ?_)
      refine TO.nil ?_
      have hA : pushN a q0.stp (shq a i) (x + 1) = (pushN a q0.stp (shq a i) x) := by
        show pushS a q0.stp _ x = _
        unfold pushS
        exact if_pos hin
      refine ⟨x + 1, by omega, qb, qc, m, rest, by rw [hA], by omega, hm, by rw [hA]; exact hrs2, ⟨rfl, rfl, rfl, rfl, rfl, rfl, rfl, rfl, rfl, trivial⟩⟩
    have hge52 : ¬ x < a.next[q0.p.1].length := by omega
    refine T.exit ?_
    refine T.region ?_
    refine TO.quiet (q_move rfl) ?_
    refine TO.loud rfl (l_tail 0 Tryd.underlying71 inf70 (by decide) rfl rfl rfl (by rw [rcells_len, hm]; rfl) (by omega) (fun z11 => ?_))
    refine TO.quiet (q_assign rfl) ?_
    refine TO.sub (O' := ([rowI z11 (qc - 1) 70 2 (rcells rest), rowI (some ⟨z2, 0, none⟩) a.next.length 4 1 (bools (seenB a (pushN a q0.stp (shq a i) x))), oI z1 25 (dC a k)] ++ qitms 5 (q0 :: rest))) (Sub.pickR [0, 0, 1] [rowI z11 (qc - 1) 70 2 (rcells rest), rowI (some ⟨z2, 0, none⟩) a.next.length 4 1 (bools (seenB a (pushN a q0.stp (shq a i) x))), oI z4 70 [(.int .i64 ((q0.p.1 : Nat) : Int)), (.slice q0.b q0.xs.length q0.c)], oI z1 25 (dC a k)] (qitms 5 (q0 :: rest)) rfl rfl) ?_
    refine TO.sub (O' := ([rowI z11 (qc - 1) 70 2 (rcells rest), rowI (some ⟨z2, 0, none⟩) a.next.length 4 1 (bools (seenB a (pushN a q0.stp (shq a i) x))), oI z1 25 (dC a k)] ++ qitms 5 rest)) (by exact Sub.k (Sub.k (Sub.k (Sub.d Sub.rf)))) ?_
    refine TO.nil ?_
    have hxe : x = letN a := Nat.le_antisymm hx9 (by rw [hl1] at hge52; exact Nat.le_of_not_lt hge52)
    have hbq : pushN a q0.stp (shq a i) x = shq a (i + 1) := by rw [hxe]; exact (bq_succ hq0).symm
    refine ⟨i + 1, by omega, z11, qc - 1, m, rest, by rw [hbq], hm, ?_, ?_, ⟨rfl, rfl, rfl, rfl, rfl, trivial⟩⟩
    · rw [← hbq]; have := congrArg List.tail hrs2; simpa [List.tail_drop] using this
    · intro j hj9
      by_cases e : j = i
      · subst e; exact ⟨q0.stp, hq0, heq⟩
      · exact hj j (by omega)
  have hge30 : ¬ m > 0 := by omega
  refine T.exit ?_
  refine T.seq (T.region ?_)
  refine TO.quiet (q_assign rfl) (TO.quiet (q_assign rfl) (TO.quiet (q_assign rfl) ?_))
  refine TO.nil (T.ret (Res.drop ?_))
  refine Res.three (.slice none 0 0) (.bool false) (.int .i64 0) Tryd.results20 rfl rfl rfl ?_
  have hend : (shq a i).length ≤ i := by
    have := congrArg List.length hrs
    simp at this
    omega
  exact ⟨[], Sub.z, none, ShR.least hv.toVal (res := none) ⟨i, hj, hend⟩, rfl, rfl⟩
end Go.Proofs.YtnmfefmhfkhihaaDoor


namespace Go.Proofs.YtnmfefmhfkhihaaDoor
open Go.Lx Go.RowKit
set_option linter.unusedVariables false
set_option linter.unusedSimpArgs false
theorem shoC (w : World) [Tab Tryd.prog w] (a : DFA) (k : DK) (ha : At w a k) (haa : a.next.length < 9223372036854775807) (haar : ∀ r ∈ a.next, r.length < 9223372036854775807) (haaf : a.final.length < 9223372036854775807) :
    PureT Tryd.prog 20 [dV a k] w fun v N => ∃ res wb wc, (checkD a = 0 → LeastA a res) ∧ (checkD a ≠ 0 → res = none) ∧ v = .tuple #[.slice wb (res.getD []).length wc, .bool res.isSome, .int .i64 (checkD a : Int)] ∧ N = [rowI wb wc 5 1 (byts (res.getD []))] := by
  by_cases he : checkD a ≠ 0
  · refine (CallT.nilOr 5 1 (shoBad w a k ha haa haar haaf he)).mono ?_
    rintro v N ⟨O2, hN, h1, h2⟩
    exact ⟨none, none, 0, fun h => absurd h he, fun _ => rfl, h1, hN.2 h2⟩
  · have h0 : checkD a = 0 := by omega
    refine (CallT.nilOr 5 1 (shoOk w a k ha (checkD_zero.1 h0))).mono ?_
    rintro v N ⟨O2, hN, res, hL, hV⟩
    rw [h0]
    cases res with
    | none => exact ⟨none, none, 0, fun _ => hL, fun _ => rfl, hV.1, hN.2 hV.2⟩
    | some u =>
      obtain ⟨b, c, h1, h2⟩ := hV
      exact ⟨some u, b, c, fun _ => hL, fun h => absurd rfl h, h1, (hN.1 (by rw [h2]; simp)).trans h2⟩
end Go.Proofs.YtnmfefmhfkhihaaDoor


namespace Go.Proofs.YtnmfefmhfkhihaaDoor
open Go.Lx Go.RowKit
set_option linter.unusedVariables false
set_option linter.unusedSimpArgs false
set_option maxHeartbeats 1000000 in
set_option maxRecDepth 20000 in
theorem longC (w : World) [Tab Tryd.prog w] (b : Option Addr) (c : Nat) (L : List DRec) (hS : Sl w b (dcells L)) (hD : ∀ r ∈ L, DfaAt w r.d r.nb r.vs r.fb) (hL : L.length < 9223372036854775807) (hB : ∀ r ∈ L, r.d.next.length < 9223372036854775807) :
    PureT Tryd.prog 39 [.slice b L.length c] w fun v N => v = .bool (L.any fun r => longD r.d) ∧ N = [] := by
  refine CallT.enter Tryd.func39 rfl Tryd.ntmps39 rfl ?_
  refine T.seq (T.region ?_)
  refine TO.quiet (q_assign rfl) ?_
  refine TO.nil (T.seq (T.seq (T.region ?_)))
  refine TO.quiet (q_assign rfl) ?_
  refine TO.nil (T.block ?_)
  refine T.loop (fun (i : Nat) ρ O => O = [] ∧ i ≤ L.length ∧ (L.take i).any (fun r => longD r.d) = false ∧ Heads [(0, (.slice b L.length c)), (3, .int .i64 (i : Int))] ρ) (fun i => L.length - i) 0 ?_ ?_
  · exact ⟨rfl, Nat.zero_le _, rfl, ⟨rfl, rfl, trivial⟩⟩
  rintro i ρ O ⟨rfl, hi, hany, hH⟩
  obtain ⟨ρ0, rfl⟩ := hH.elim
  clear hH
  refine T.seq (T.seq (T.region ?_))
  refine TO.quiet (q_move rfl) (TO.quiet (q_move rfl) (TO.quiet (q_len Tryd.underlying84 rfl) (TO.quiet (q_lss rfl rfl) ?_)))
  refine TO.nil ?_
  refine T.condP rfl (fun hc => ?_) (fun hc => ?_)
  · have hlt8 : i < L.length := by omega
    refine T.skip (T.seq (T.block (T.seq (T.seq (T.region ?_)))))
    refine TO.quiet (q_move rfl) (TO.quiet (q_move rfl) (TO.quiet (q_ixK (i := i) Tryd.underlying84 inf25 rfl rfl (Sl.o hS) hlt8 (by rw [dcells_len]; omega)) (TO.quiet (q_fieldEl Tryd.underlying25 rfl inf22 rfl rfl (Sl.o hS) (by rw [dcells_len]; omega)) ?_)))
    refine TO.quiet (q_ld Tryd.underlying22 rfl rfl (Sl.o hS) (show (dcells L)[i * 4 + 2]? = some (.slice L[i].nb L[i].d.next.length L[i].nc) by rw [dcells_get hlt8 (by decide)]; rfl)) (TO.quiet (q_len Tryd.underlying22 rfl) ?_)
    by_cases h1 : (L[i].d.next.length : Int) > 40
    · refine TO.quiet (QT.toB (q_gtr rfl rfl) (decide_eq_true h1)) ?_
      refine TO.quiet (q_move rfl) ?_
      refine TO.passed rfl rfl ?_
      refine TO.passed rfl rfl ?_
      refine TO.passed rfl rfl ?_
      refine TO.passed rfl rfl ?_
      refine TO.passed rfl rfl ?_
      refine TO.passed rfl rfl ?_
      refine TO.passed rfl rfl ?_
      refine TO.quiet (q_pick1 rfl rfl) ?_
      refine TO.nil ?_
      refine T.cond1 rfl ?_
      refine T.seq (T.region ?_)
      refine TO.quiet (q_assign rfl) ?_
      refine TO.nil (T.ret ?_)
      refine Res.one (.bool true) Tryd.results39 rfl ?_
      exact ⟨congrArg Value.bool (any_at hlt8 (by simp only [longD, Bool.or_eq_true, decide_eq_true_eq]; exact .inl (.inl (by omega)))).symm, rfl⟩
    refine TO.quiet (QT.toB (q_gtr rfl rfl) (decide_eq_false h1)) (TO.quiet (q_move rfl) ?_)
    refine TO.guarded rfl rfl rfl (LT.of_quiet rfl rfl (q_move rfl) ?_)
    refine TO.guarded rfl rfl rfl (LT.of_quiet rfl rfl (q_move rfl) ?_)
    refine TO.guarded rfl rfl rfl (LT.of_quiet rfl rfl (q_ixK (i := i) Tryd.underlying84 inf25 rfl rfl (Sl.o hS) hlt8 (by rw [dcells_len]; omega)) ?_)
    refine TO.guarded rfl rfl rfl (LT.of_quiet rfl rfl (q_fieldEl Tryd.underlying25 rfl inf23 rfl rfl (Sl.o hS) (by rw [dcells_len]; omega)) ?_)
    refine TO.guarded rfl rfl rfl (LT.of_quiet rfl rfl (q_ld Tryd.underlying23 rfl rfl (Sl.o hS) (show (dcells L)[i * 4 + 3]? = some (.slice L[i].fb L[i].d.final.length L[i].fc) by rw [dcells_get hlt8 (by decide)]; rfl)) ?_)
    refine TO.guarded rfl rfl rfl (LT.of_quiet rfl rfl (q_len Tryd.underlying23 rfl) ?_)
    by_cases h2 : (L[i].d.final.length : Int) > 40
    · refine TO.guarded rfl rfl rfl (LT.of_quiet rfl rfl (QT.toB (q_gtr rfl rfl) (decide_eq_true h2)) ?_)
      refine TO.quiet (q_pick0 rfl rfl) ?_
      refine TO.nil ?_
      refine T.cond1 rfl ?_
      refine T.seq (T.region ?_)
      refine TO.quiet (q_assign rfl) ?_
      refine TO.nil (T.ret ?_)
      refine Res.one (.bool true) Tryd.results39 rfl ?_
      exact ⟨congrArg Value.bool (any_at hlt8 (by simp only [longD, Bool.or_eq_true, decide_eq_true_eq]; exact .inl (.inr (by omega)))).symm, rfl⟩
    refine TO.guarded rfl rfl rfl (LT.of_quiet rfl rfl (QT.toB (q_gtr rfl rfl) (decide_eq_false h2)) ?_)
    refine TO.quiet (q_pick0 rfl rfl) ?_
    refine TO.nil ?_
    refine T.cond0 rfl ?_
    refine T.skip (T.seq (T.region ?_))
    refine TO.quiet (q_assign rfl) ?_
    refine TO.nil (T.block ?_)
    refine T.loop (fun (s : Nat) ρ O => O = [] ∧ s ≤ L[i].d.next.length ∧ (L[i].d.next.take s).any (fun r => decide (100 < r.length)) = false ∧ Heads [(0, (.slice b L.length c)), (3, .int .i64 (i : Int)), (4, .int .i64 (s : Int))] ρ) (fun s => L[i].d.next.length - s) 0 ?_ ?_
    · exact ⟨rfl, Nat.zero_le _, rfl, ⟨rfl, rfl, rfl, trivial⟩⟩
    rintro s ρ O ⟨rfl, hs, hany2, hH⟩
    obtain ⟨ρ0, rfl⟩ := hH.elim
    clear hH
    refine T.seq (T.seq (T.region ?_))
    refine TO.quiet (q_move rfl) (TO.quiet (q_move rfl) (TO.quiet (q_move rfl) (TO.quiet (q_ixK (i := i) Tryd.underlying84 inf25 rfl rfl (Sl.o hS) hlt8 (by rw [dcells_len]; omega)) ?_)))
    refine TO.quiet (q_fieldEl Tryd.underlying25 rfl inf22 rfl rfl (Sl.o hS) (by rw [dcells_len]; omega)) (TO.quiet (q_ld Tryd.underlying22 rfl rfl (Sl.o hS) (show (dcells L)[i * 4 + 2]? = some (.slice L[i].nb L[i].d.next.length L[i].nc) by rw [dcells_get hlt8 (by decide)]; rfl)) (TO.quiet (q_len Tryd.underlying22 rfl) (TO.quiet (q_lss rfl rfl) ?_)))
    refine TO.nil ?_
    refine T.condP rfl (fun hc => ?_) (fun hc => ?_)
    · have hlt34 : s < L[i].d.next.length := by omega
      obtain ⟨vb, vc, g1, s1⟩ := (hD _ (List.getElem_mem hlt8)).rows.get hlt34
      have hB9 := hB _ (List.getElem_mem hlt8)
      refine T.skip (T.seq (T.block (T.seq (T.region ?_))))
      refine TO.quiet (q_move rfl) (TO.quiet (q_move rfl) (TO.quiet (q_ixK (i := i) Tryd.underlying84 inf25 rfl rfl (Sl.o hS) hlt8 (by rw [dcells_len]; omega)) (TO.quiet (q_fieldEl Tryd.underlying25 rfl inf22 rfl rfl (Sl.o hS) (by rw [dcells_len]; omega)) ?_)))
      refine TO.quiet (q_ld Tryd.underlying22 rfl rfl (Sl.o hS) (show (dcells L)[i * 4 + 2]? = some (.slice L[i].nb L[i].d.next.length L[i].nc) by rw [dcells_get hlt8 (by decide)]; rfl)) (TO.quiet (q_move rfl) (TO.quiet (q_ix (i := s) Tryd.underlying22 inf41 rfl rfl (Sl.o (hD _ (List.getElem_mem hlt8)).outer) hlt34 (by rw [(hD _ (List.getElem_mem hlt8)).rows.1]; exact hlt34)) (TO.quiet (q_ld Tryd.underlying41 rfl rfl (Sl.o (hD _ (List.getElem_mem hlt8)).outer) g1) ?_)))
      refine TO.quiet (q_len Tryd.underlying41 rfl) (TO.quiet (q_gtr rfl rfl) ?_)
      refine TO.nil ?_
      refine T.condP rfl (fun hc => ?_) (fun hc => ?_)
      · have hlt46 : L[i].d.next[s].length > 100 := by omega
        refine T.seq (T.region ?_)
        refine TO.quiet (q_assign rfl) ?_
        refine TO.nil (T.ret ?_)
        refine Res.one (.bool true) Tryd.results39 rfl ?_
        exact ⟨congrArg Value.bool (any_at hlt8 (by simp only [longD, Bool.or_eq_true, decide_eq_true_eq]; exact .inr (any_at hlt34 (by simp; omega)))).symm, rfl⟩
      have hge46 : ¬ L[i].d.next[s].length > 100 := by omega
      refine T.skip (T.region ?_)
      refine TO.quiet (q_move rfl) (TO.quiet (q_inc rfl rfl (by omega)) (TO.quiet (q_assign rfl) ?_))
      refine TO.nil ?_
      exact ⟨s + 1, by omega, rfl, by omega, any_take hlt34 hany2 (by simp; omega), ⟨rfl, rfl, rfl, trivial⟩⟩
    have hge34 : ¬ s < L[i].d.next.length := by omega
    refine T.exit ?_
    refine T.region ?_
    refine TO.quiet (q_move rfl) (TO.quiet (q_inc rfl rfl (by omega)) (TO.quiet (q_assign rfl) ?_))
    refine TO.nil ?_
    have hLi : longD L[i].d = false := by
      simp only [longD, Bool.or_eq_false_iff, decide_eq_false_iff_not]
      exact ⟨⟨by omega, by omega⟩, by rwa [List.take_of_length_le (by omega)] at hany2⟩
    exact ⟨i + 1, by omega, rfl, by omega, any_take hlt8 hany hLi, ⟨rfl, rfl, trivial⟩⟩
  have hge8 : ¬ i < L.length := by omega
  refine T.exit ?_
  refine T.seq (T.region ?_)
  refine TO.quiet (q_assign rfl) ?_
  refine TO.nil (T.ret ?_)
  refine Res.one (.bool false) Tryd.results39 rfl ?_
  exact ⟨congrArg Value.bool (by rw [List.take_of_length_le (by omega)] at hany; exact hany.symm), rfl⟩
theorem long1 (w : World) [Tab Tryd.prog w] (b : Option Addr) (c : Nat) (d : DFA) (nb fb : Option Addr) (nc fc : Nat) (vs : List Value) (hS : Sl w b (dfaCells d nb nc fb fc)) (hD : DfaAt w d nb vs fb) (hB : d.next.length < 9223372036854775807) :
    PureT Tryd.prog 39 [.slice b 1 c] w fun v N => v = .bool (decide (longD d = true)) ∧ N = [] :=
  (longC w b c [⟨d, nb, fb, nc, fc, vs⟩] hS (allC hD allN) (show 1 < 9223372036854775807 by decide) (allC hB allN)).mono fun v N ⟨h1, h2⟩ => ⟨by rw [h1]; simp, h2⟩
end Go.Proofs.YtnmfefmhfkhihaaDoor


namespace Go.Proofs.YtnmfefmhfkhihaaDoor
open Go.Lx Go.RowKit
set_option linter.unusedVariables false
set_option linter.unusedSimpArgs false
end Go.Proofs.YtnmfefmhfkhihaaDoor


namespace Go.Lx
set_option linter.unusedVariables false
set_option maxRecDepth 20000
def ex2 : DFA := ⟨1, 0, [[0, 1], [2, 3], [0, 1], [2, 3]], [false, false, true, true]⟩
def exX : DFA := ⟨2, 0, [[2, 1, 1, 2], [2, 2, 2, 2], [2, 2, 2, 2]], [false, true, false]⟩
theorem ex2_ok : checkD ex2 = 0 := by decide
theorem exX_ok : checkD exX = 0 := by decide
theorem ex2_valid : Valid ex2 := checkD_zero.1 ex2_ok
theorem exX_valid : Valid exX := checkD_zero.1 exX_ok
theorem bd_ex2 : Bd9 ex2 := ⟨by decide, ex2_valid.bound, by decide⟩
theorem bd_exX : Bd9 exX := ⟨by decide, exX_valid.bound, by decide⟩
theorem ex2_least' : LeastA ex2 (some [1, 0]) := by
  refine ⟨by intro x hx; simp at hx; rcases hx with rfl | rfl <;> decide, by decide, fun u hu ha => ?_⟩
  match u, hu, ha with
  | [], _, ha => revert ha; decide
  | [x], hu, ha =>
    have hx : x < 2 := hu x (by simp)
    have : x = 0 ∨ x = 1 := by omega
    rcases this with rfl | rfl <;> revert ha <;> decide
  | [x, y], hu, ha =>
    have hx : x < 2 := hu x (by simp)
    have hy : y < 2 := hu y (by simp)
    have h1 : x = 0 ∨ x = 1 := by omega
    have h2 : y = 0 ∨ y = 1 := by omega
    rcases h1 with rfl | rfl <;> rcases h2 with rfl | rfl <;> revert ha <;> decide
  | x :: y :: z :: u, hu, ha =>
    exact Nat.le_of_lt (code_lt_len (v := [1, 0]) (by decide) (Wd.lt64 ex2_valid.toVal hu) (by simp))
theorem ex2_least {r : Option (List Nat)} (h : LeastA ex2 r) : r = some [1, 0] := h.unique ex2_valid ex2_least'
theorem allW_take {d : DFA} {n m : Nat} (hn : n ≤ 65) (h : m ≤ (allW d n).length) : (allW d 65).take m = (allW d n).take m := by
  obtain ⟨r, hr⟩ := allW_pre d hn
  rw [hr, take_pre h]
theorem allW_get {d : DFA} {n k : Nat} (hn : n ≤ 65) (h : k < (allW d n).length) : (allW d 65)[k]? = (allW d n)[k]? := by
  obtain ⟨r, hr⟩ := allW_pre d hn
  rw [hr, List.getElem?_append_left h]
theorem ex2_four : allW ex2 4 = [[1, 0], [1, 1], [0, 1, 0], [0, 1, 1], [1, 1, 0], [1, 1, 1]] := by decide
theorem ex2_cnt : cntV ex2 2 = 2 := by decide
theorem ex2_cntE : cntE ex2 2 = 0 := by decide
theorem ex2_wdsE : wdsE ex2 3 = 0 := by decide
theorem ex2_wds : wdsV ex2 3 = [[1, 0], [1, 1], [0, 1, 0]] := by
  unfold wdsV
  rw [if_pos ex2_wdsE, show (3 : Int).toNat = 3 from rfl, allW_take (n := 4) (by decide) (by rw [ex2_four]; decide), ex2_four]; rfl
theorem ex2_nth : nthV ex2 2 = some [0, 1, 0] := by
  rw [nthV_small ex2_ok (by decide), allW_get (n := 4) (by decide) (by rw [ex2_four]; decide), ex2_four]; rfl
theorem ex2_nthE : nthE ex2 2 = 0 := nthE_small ex2_ok (by decide)
theorem ex2_inf : InfC ex2 ex2.start.toNat := ⟨[1, 0], 2, by intro x hx; simp at hx; rcases hx with rfl | rfl <;> decide, by decide, ⟨[], Wd.nil, by decide⟩, [1, 0], by decide, by intro x hx; simp at hx; rcases hx with rfl | rfl <;> decide, by decide⟩
theorem exX_two : ∀ u, Wd exX u → runN exX 2 u = 2
  | [], _ => rfl
  | x :: u, h => by
    have h' := Wd.cons.1 h
    have hx : x < 4 := h'.1
    rw [runN_cons]
    have : toN exX 2 x = 2 := by
      have : x = 0 ∨ x = 1 ∨ x = 2 ∨ x = 3 := by omega
      rcases this with rfl | rfl | rfl | rfl <;> decide
    rw [this]; exact exX_two u h'.2
theorem exX_words {u : List Nat} (h : Wd exX u) (ha : acc exX u = true) : u.length < 2 := by
  match u, h, ha with
  | [], _, _ => decide
  | [x], _, _ => simp
  | x :: y :: u, h, ha =>
    have h1 := Wd.cons.1 h
    have h2 := Wd.cons.1 h1.2
    have hx : x < 4 := h1.1
    have hy : y < 4 := h2.1
    have e : toN exX (toN exX 0 x) y = 2 := by
      have q1 : x = 0 ∨ x = 1 ∨ x = 2 ∨ x = 3 := by omega
      have q2 : y = 0 ∨ y = 1 ∨ y = 2 ∨ y = 3 := by omega
      rcases q1 with rfl | rfl | rfl | rfl <;> rcases q2 with rfl | rfl | rfl | rfl <;> decide
    have hr : runN exX exX.start.toNat (x :: y :: u) = 2 := by
      show runN exX (toN exX (toN exX 0 x) y) u = 2
      rw [e]; exact exX_two u h2.2
    rw [acc, hr] at ha
    exact absurd ha (by decide)
theorem exX_fin : ¬ InfC exX exX.start.toNat := by
  rw [inf_iff exX_valid.toVal (by decide)]
  rintro ⟨z, h1, h2, h3, _⟩
  have := exX_words h1 h2
  have h4 : 3 ≤ z.length := h3
  omega
theorem exX_all : ∀ n, 2 ≤ n → allW exX n = [[1], [2]]
  | 0, h => by omega
  | 1, h => by omega
  | 2, _ => by decide
  | n + 3, _ => by
    rw [allW_snoc, exX_all (n + 2) (by omega)]
    have : wsN exX (n + 2) exX.start.toNat = [] := by
      cases h : wsN exX (n + 2) exX.start.toNat with
      | nil => rfl
      | cons u l =>
        have hu : u ∈ wsN exX (n + 2) exX.start.toNat := by rw [h]; simp
        obtain ⟨h1, h2, h3⟩ := mem_wsN.1 hu
        have := exX_words h2 h3
        omega
    rw [this]; rfl
theorem exX_nth : nthV exX 2 = none := by
  rw [nthV_small exX_ok (by decide), exX_all 65 (by decide)]; rfl
theorem exX_nthE : nthE exX 2 = 0 := nthE_small exX_ok (by decide)
structure Sm (d : DFA) : Prop where
  n12 : d.next.length ≤ 12
  r100 : ∀ r ∈ d.next, r.length ≤ 100
  f40 : d.final.length ≤ 40
theorem Sm.of {d : DFA} (h : ¬ longD d = true) (hn : d.next.length ≤ 12) : Sm d := ⟨hn, (longD_false h).2.2, (longD_false h).2.1⟩
theorem nthV_len {d : DFA} {k : Nat} : ((nthV d k).getD []).length ≤ 64 := by
  unfold nthV
  split
  · cases h : (allW d 65)[k]? with
    | none => simp
    | some u =>
      have := (mem_allW.1 (List.mem_of_getElem? h)).1
      simp; omega
  · simp
end Go.Lx


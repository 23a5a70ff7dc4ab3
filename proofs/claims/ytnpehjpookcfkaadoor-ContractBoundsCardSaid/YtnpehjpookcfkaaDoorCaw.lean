/- Contracts of functions of the program (P4, P5, C1, C2, C3, Run, Cml, Caw): what each call answers and that it leaves memory as it was. Conditions: those each theorem names. -/
import Derived.Test.YtnpehjpookcfkaaDoorCoreM
import Derived.Test.YtnpehjpookcfkaaDoorP3
import Derived.Test.YtnpehjpookcfkaaDoorCt
import Derived.Test.YtnpehjpookcfkaaDoorRen
set_option linter.unusedSectionVars false
set_option linter.unusedSimpArgs false
set_option linter.unusedVariables false
set_option linter.unnecessarySimpa false
namespace Go.Proofs.YtnpehjpookcfkaaDoor
open Go.Lx Go.RowKit
set_option linter.unusedVariables false
set_option linter.unusedSimpArgs false
set_option maxRecDepth 20000 in
theorem combineA (w : World) [Tab Tryd.prog w] (a b : DFA) (j k : DK) (ha : At w a j) (hb : At w b k) (haa : a.next.length < 9223372036854775807) (haar : ∀ r ∈ a.next, r.length < 9223372036854775807) (haaf : a.final.length < 9223372036854775807) (hbb : b.next.length < 9223372036854775807) (hbbr : ∀ r ∈ b.next, r.length < 9223372036854775807) (hbbf : b.final.length < 9223372036854775807) (f : Bool → Bool → Bool) (g : Nat) (hf : ∀ (base : World) (x y : Bool), CallV Tryd.prog base (.func (.func g) #[] #[]) [.bool x, .bool y] [] (fun v O' => v = .bool (f x y) ∧ O' = [])) (hN : wrongD a b = 0 → (order (prodD f a b)).length ≤ 4096) :
    PureT Tryd.prog 47 [dV a j, dV b k, .func (.func g) #[] #[]] w fun v N => ∃ k' : DK, v = .tuple #[dV (opV f a b) k', .int .i64 (wrongD a b : Int)] ∧ N = [dI 54 4 3 (opV f a b) k'] := by
  by_cases he : wrongD a b = 0
  · obtain ⟨va, vb, hv⟩ := wrongD_zero.1 he
    rw [opV_ok he, he]
    exact combineW w a b j k ha hb va vb hv f g hf (hN he)
  · rw [opV_bad he]
    refine CallT.dk (g := fun x => .tuple #[x, .int .i64 (wrongD a b : Int)]) ((CallT.addNil 54 1 (CallT.addNil 4 1 (combineBad w a b j k ha hb haa haar haaf hbb hbbr hbbf g he))).mono ?_)
    rintro v N ⟨O2, rfl, O3, rfl, rfl, rfl⟩
    exact ⟨none, 0, none, 0, [], rfl, rfl, rfl⟩
set_option maxHeartbeats 1000000 in
set_option maxRecDepth 20000 in
theorem notC0 (w : World) [Tab Tryd.prog w] (a : DFA) (j : DK) (ha : At w a j) (haa : a.next.length < 9223372036854775807) (haar : ∀ r ∈ a.next, r.length < 9223372036854775807) (haaf : a.final.length < 9223372036854775807) (hN : wrongD a a = 0 → (order (prodD notB a a)).length ≤ 4096) :
    PureT Tryd.prog 60 [dV a j] w fun v N => ∃ k' : DK, v = .tuple #[dV (opV notB a a) k', .int .i64 (wrongD a a : Int)] ∧ N = [dI 54 4 3 (opV notB a a) k'] := by
  refine CallT.enter Tryd.func60 rfl Tryd.ntmps60 rfl ?_
  refine T.seq (T.region ?_)
  refine TO.loud rfl (l_box (v := (dV a j)) (cs := (dC a j)) rfl rfl (fun bx1 => ?_))
  refine TO.loud rfl (l_alloc inf25 rfl (fun bx2 => ?_))
  refine TO.quiet (q_assign rfl) ?_
  refine TO.nil (T.seq (T.region ?_))
  refine TO.quiet (q_load_boxAgg 1 Tryd.underlying25 rfl inf25 rfl rfl rfl) (TO.quiet (q_load_boxAgg 1 Tryd.underlying25 rfl inf25 rfl rfl rfl) ?_)
  have hk6 := fun (w1 : World) (hI : Inv w [oI bx2 25 [(.int .i64 0), (.int .i64 0), (.slice none 0 0), (.slice none 0 0)], oI bx1 25 (dC a j)] w1) => (haveI := Inv.tab (P := Tryd.prog) hI; combineA w1 a a j j (hI.atB ha) (hI.atB ha) haa haar haaf haa haar haaf notB 73 notFV hN)
  refine TO.loud rfl (l_call ent47 (CallT.of_pure hk6) rfl ?_)
  clear hk6
  rintro vr O' ⟨N, rfl, k', rfl, rfl⟩
  refine TO.quiet (q_extract (vs := _) rfl rfl) (TO.quiet (q_extract (vs := _) rfl rfl) ?_)
  refine TO.loud rfl (l_store_box (v := (dV (opV notB a a) k')) (vs := (dC (opV notB a a) k')) 1 inf25 rfl rfl rfl rfl rfl rfl (by simp [putL]) ?_)
  refine TO.quiet (q_assign rfl) ?_
  refine TO.nil (T.ret (Res.drop ?_))
  refine Res.cell1b (.int .i64 (wrongD a a : Int)) (i := 1) Tryd.results60 Tryd.underlying25 rfl inf25 rfl rfl rfl rfl ?_
  exact ⟨[dI 54 4 3 (opV notB a a) k'], (by exact Sub.k .z), k', rfl, rfl⟩
theorem notC (w : World) [Tab Tryd.prog w] (a : DFA) (j : DK) (ha : At w a j) (haa : a.next.length < 9223372036854775807) (haar : ∀ r ∈ a.next, r.length < 9223372036854775807) (haaf : a.final.length < 9223372036854775807) :
    PureT Tryd.prog 60 [dV a j] w fun v N => ∃ k' : DK, v = .tuple #[dV (opV notB a a) k', .int .i64 (checkD a : Int)] ∧ N = [dI 54 4 3 (opV notB a a) k'] := by
  have h := notC0 w a j ha haa haar haaf (fun hw => by
    have hv := (wrongD_zero.1 hw).1
    exact Nat.le_trans (pr_order_factW hv.toVal hv.toVal rfl hv.toVal rfl (Det.refl a) (Det.refl a)) hv.n4)
  rwa [wrongD_self] at h
set_option maxHeartbeats 1000000 in
set_option maxRecDepth 20000 in
theorem andC (w : World) [Tab Tryd.prog w] (a b : DFA) (j k : DK) (ha : At w a j) (hb : At w b k) (haa : a.next.length < 9223372036854775807) (haar : ∀ r ∈ a.next, r.length < 9223372036854775807) (haaf : a.final.length < 9223372036854775807) (hbb : b.next.length < 9223372036854775807) (hbbr : ∀ r ∈ b.next, r.length < 9223372036854775807) (hbbf : b.final.length < 9223372036854775807) (hN : wrongD a b = 0 → (order (prodD andB a b)).length ≤ 4096) :
    PureT Tryd.prog 25 [dV a j, dV b k] w fun v N => ∃ k' : DK, v = .tuple #[dV (opV andB a b) k', .int .i64 (wrongD a b : Int)] ∧ N = [dI 54 4 3 (opV andB a b) k'] := by
  refine CallT.enter Tryd.func25 rfl Tryd.ntmps25 rfl ?_
  refine T.seq (T.region ?_)
  refine TO.loud rfl (l_box (v := (dV a j)) (cs := (dC a j)) rfl rfl (fun bx1 => ?_))
  refine TO.loud rfl (l_box (v := (dV b k)) (cs := (dC b k)) rfl rfl (fun bx2 => ?_))
  refine TO.loud rfl (l_alloc inf25 rfl (fun bx3 => ?_))
  refine TO.quiet (q_assign rfl) ?_
  refine TO.nil (T.seq (T.region ?_))
  refine TO.quiet (q_load_boxAgg 2 Tryd.underlying25 rfl inf25 rfl rfl rfl) (TO.quiet (q_load_boxAgg 1 Tryd.underlying25 rfl inf25 rfl rfl rfl) ?_)
  have hk8 := fun (w1 : World) (hI : Inv w [oI bx3 25 [(.int .i64 0), (.int .i64 0), (.slice none 0 0), (.slice none 0 0)], oI bx2 25 (dC b k), oI bx1 25 (dC a j)] w1) => (haveI := Inv.tab (P := Tryd.prog) hI; combineA w1 a b j k (hI.atB ha) (hI.atB hb) haa haar haaf hbb hbbr hbbf andB 48 andFV hN)
  refine TO.loud rfl (l_call ent47 (CallT.of_pure hk8) rfl ?_)
  clear hk8
  rintro vr O' ⟨N, rfl, k', rfl, rfl⟩
  refine TO.quiet (q_extract (vs := _) rfl rfl) (TO.quiet (q_extract (vs := _) rfl rfl) ?_)
  refine TO.loud rfl (l_store_box (v := (dV (opV andB a b) k')) (vs := (dC (opV andB a b) k')) 1 inf25 rfl rfl rfl rfl rfl rfl (by simp [putL]) ?_)
  refine TO.quiet (q_assign rfl) ?_
  refine TO.nil (T.ret (Res.drop ?_))
  refine Res.cell1b (.int .i64 (wrongD a b : Int)) (i := 1) Tryd.results25 Tryd.underlying25 rfl inf25 rfl rfl rfl rfl ?_
  exact ⟨[dI 54 4 3 (opV andB a b) k'], (by exact Sub.k .z), k', rfl, rfl⟩
set_option maxHeartbeats 1000000 in
set_option maxRecDepth 20000 in
theorem orC (w : World) [Tab Tryd.prog w] (a b : DFA) (j k : DK) (ha : At w a j) (hb : At w b k) (haa : a.next.length < 9223372036854775807) (haar : ∀ r ∈ a.next, r.length < 9223372036854775807) (haaf : a.final.length < 9223372036854775807) (hbb : b.next.length < 9223372036854775807) (hbbr : ∀ r ∈ b.next, r.length < 9223372036854775807) (hbbf : b.final.length < 9223372036854775807) (hN : wrongD a b = 0 → (order (prodD orB a b)).length ≤ 4096) :
    PureT Tryd.prog 32 [dV a j, dV b k] w fun v N => ∃ k' : DK, v = .tuple #[dV (opV orB a b) k', .int .i64 (wrongD a b : Int)] ∧ N = [dI 54 4 3 (opV orB a b) k'] := by
  refine CallT.enter Tryd.func32 rfl Tryd.ntmps32 rfl ?_
  refine T.seq (T.region ?_)
  refine TO.loud rfl (l_box (v := (dV a j)) (cs := (dC a j)) rfl rfl (fun bx1 => ?_))
  refine TO.loud rfl (l_box (v := (dV b k)) (cs := (dC b k)) rfl rfl (fun bx2 => ?_))
  refine TO.loud rfl (l_alloc inf25 rfl (fun bx3 => ?_))
  refine TO.quiet (q_assign rfl) ?_
  refine TO.nil (T.seq (T.region ?_))
  refine TO.quiet (q_load_boxAgg 2 Tryd.underlying25 rfl inf25 rfl rfl rfl) (TO.quiet (q_load_boxAgg 1 Tryd.underlying25 rfl inf25 rfl rfl rfl) ?_)
  have hk8 := fun (w1 : World) (hI : Inv w [oI bx3 25 [(.int .i64 0), (.int .i64 0), (.slice none 0 0), (.slice none 0 0)], oI bx2 25 (dC b k), oI bx1 25 (dC a j)] w1) => (haveI := Inv.tab (P := Tryd.prog) hI; combineA w1 a b j k (hI.atB ha) (hI.atB hb) haa haar haaf hbb hbbr hbbf orB 54 orFV hN)
  refine TO.loud rfl (l_call ent47 (CallT.of_pure hk8) rfl ?_)
  clear hk8
  rintro vr O' ⟨N, rfl, k', rfl, rfl⟩
  refine TO.quiet (q_extract (vs := _) rfl rfl) (TO.quiet (q_extract (vs := _) rfl rfl) ?_)
  refine TO.loud rfl (l_store_box (v := (dV (opV orB a b) k')) (vs := (dC (opV orB a b) k')) 1 inf25 rfl rfl rfl rfl rfl rfl (by simp [putL]) ?_)
  refine TO.quiet (q_assign rfl) ?_
  refine TO.nil (T.ret (Res.drop ?_))
  refine Res.cell1b (.int .i64 (wrongD a b : Int)) (i := 1) Tryd.results32 Tryd.underlying25 rfl inf25 rfl rfl rfl rfl ?_
  exact ⟨[dI 54 4 3 (opV orB a b) k'], (by exact Sub.k .z), k', rfl, rfl⟩
set_option maxHeartbeats 1000000 in
set_option maxRecDepth 20000 in
theorem minusC (w : World) [Tab Tryd.prog w] (a b : DFA) (j k : DK) (ha : At w a j) (hb : At w b k) (haa : a.next.length < 9223372036854775807) (haar : ∀ r ∈ a.next, r.length < 9223372036854775807) (haaf : a.final.length < 9223372036854775807) (hbb : b.next.length < 9223372036854775807) (hbbr : ∀ r ∈ b.next, r.length < 9223372036854775807) (hbbf : b.final.length < 9223372036854775807) (hN : wrongD a b = 0 → (order (prodD minusB a b)).length ≤ 4096) :
    PureT Tryd.prog 30 [dV a j, dV b k] w fun v N => ∃ k' : DK, v = .tuple #[dV (opV minusB a b) k', .int .i64 (wrongD a b : Int)] ∧ N = [dI 54 4 3 (opV minusB a b) k'] := by
  refine CallT.enter Tryd.func30 rfl Tryd.ntmps30 rfl ?_
  refine T.seq (T.region ?_)
  refine TO.loud rfl (l_box (v := (dV a j)) (cs := (dC a j)) rfl rfl (fun bx1 => ?_))
  refine TO.loud rfl (l_box (v := (dV b k)) (cs := (dC b k)) rfl rfl (fun bx2 => ?_))
  refine TO.loud rfl (l_alloc inf25 rfl (fun bx3 => ?_))
  refine TO.quiet (q_assign rfl) ?_
  refine TO.nil (T.seq (T.region ?_))
  refine TO.quiet (q_load_boxAgg 2 Tryd.underlying25 rfl inf25 rfl rfl rfl) (TO.quiet (q_load_boxAgg 1 Tryd.underlying25 rfl inf25 rfl rfl rfl) ?_)
  have hk8 := fun (w1 : World) (hI : Inv w [oI bx3 25 [(.int .i64 0), (.int .i64 0), (.slice none 0 0), (.slice none 0 0)], oI bx2 25 (dC b k), oI bx1 25 (dC a j)] w1) => (haveI := Inv.tab (P := Tryd.prog) hI; combineA w1 a b j k (hI.atB ha) (hI.atB hb) haa haar haaf hbb hbbr hbbf minusB 52 minusFV hN)
  refine TO.loud rfl (l_call ent47 (CallT.of_pure hk8) rfl ?_)
  clear hk8
  rintro vr O' ⟨N, rfl, k', rfl, rfl⟩
  refine TO.quiet (q_extract (vs := _) rfl rfl) (TO.quiet (q_extract (vs := _) rfl rfl) ?_)
  refine TO.loud rfl (l_store_box (v := (dV (opV minusB a b) k')) (vs := (dC (opV minusB a b) k')) 1 inf25 rfl rfl rfl rfl rfl rfl (by simp [putL]) ?_)
  refine TO.quiet (q_assign rfl) ?_
  refine TO.nil (T.ret (Res.drop ?_))
  refine Res.cell1b (.int .i64 (wrongD a b : Int)) (i := 1) Tryd.results30 Tryd.underlying25 rfl inf25 rfl rfl rfl rfl ?_
  exact ⟨[dI 54 4 3 (opV minusB a b) k'], (by exact Sub.k .z), k', rfl, rfl⟩
end Go.Proofs.YtnpehjpookcfkaaDoor


namespace Go.Proofs.YtnpehjpookcfkaaDoor
open Go.Lx Go.RowKit
set_option linter.unusedVariables false
set_option linter.unusedSimpArgs false
end Go.Proofs.YtnpehjpookcfkaaDoor


namespace Go.Proofs.YtnpehjpookcfkaaDoor
open Go.Lx Go.RowKit
set_option linter.unusedVariables false
set_option linter.unusedSimpArgs false
set_option maxHeartbeats 8000000 in
set_option maxRecDepth 20000 in
theorem shoOk (w : World) [Tab Tryd.prog w] (a : DFA) (k : DK) (ha : At w a k) (hv : Valid a) :
    PureT Tryd.prog 51 [dV a k] w fun v N => ∃ res, LeastA a res ∧ ShoV 5 0 v N res := by
  refine CallT.enter Tryd.func51 rfl Tryd.ntmps51 rfl ?_
  have he := checkD_zero.2 hv
  have haa : a.next.length < 9223372036854775807 := by have := hv.n4; omega
  have haar : ∀ r ∈ a.next, r.length < 9223372036854775807 := hv.bound
  have haaf : a.final.length < 9223372036854775807 := by have := hv.fin; omega
  have h4 := hv.n4
  have hww := hv.width
  have hsl := start_lt hv.toVal
  have hs0 := hv.s0
  have hs1 := hv.s1
  have hvl := ha.rows.1
  have hfin := hv.fin
  refine T.seq (T.region ?_)
  refine TO.loud rfl (l_box (v := (dV a k)) (cs := (dC a k)) rfl rfl (fun z1 => ?_))
  refine TO.quiet (q_assign rfl) (TO.quiet (q_assign rfl) (TO.quiet (q_assign rfl) ?_))
  refine TO.nil (T.seq (T.seq (T.region ?_)))
  refine TO.quiet (q_load_boxAgg 0 Tryd.underlying25 rfl inf25 rfl rfl rfl) ?_
  have hk12 := fun (w1 : World) (hI : Inv w [oI z1 25 (dC a k)] w1) => (haveI := Inv.tab (P := Tryd.prog) hI; subsetCheck w1 a k.nb k.fb k.nc k.fc (vals k.qs) (hI.dfa ha) haa haar haaf)
  refine TO.loud rfl (l_call ent26 (CallT.of_pure hk12) rfl ?_)
  clear hk12
  rintro vr O' ⟨N, rfl, rfl, rfl⟩
  rw [he]
  refine TO.quiet (q_assign rfl) ?_
  refine TO.nil (T.seq (T.region ?_))
  refine TO.quiet (q_move rfl) (TO.quiet (q_neq rfl rfl) ?_)
  refine TO.nil ?_
  refine T.cond0 rfl ?_
  refine T.skip (T.seq (T.region ?_))
  refine TO.quiet (q_fieldAddr Tryd.underlying25 rfl inf22 rfl rfl) (TO.quiet (q_load_box 0 Tryd.underlying22 rfl rfl rfl rfl) (TO.quiet (q_len Tryd.underlying22 rfl) ?_))
  refine TO.loud rfl (l_makeSlice (m := a.next.length) Tryd.underlying23 inf4 rfl rfl (by omega) (by omega) (fun z2 => ?_))
  refine TO.quiet (q_assign rfl) ?_
  refine TO.nil (T.seq (T.region ?_))
  refine TO.quiet (q_move rfl) (TO.quiet (q_fieldAddr Tryd.underlying25 rfl inf3 rfl rfl) (TO.quiet (q_load_box 1 Tryd.underlying3 rfl rfl rfl rfl) (TO.quiet (q_ixz (i := a.start) Tryd.underlying23 inf4 rfl rfl (rowO (List.mem_of_getElem? (i := 0) rfl)) (by first | assumption | omega) (by omega) (by rw [List.length_replicate]; omega)) ?_)))
  refine TO.loud rfl (l_st (j := a.start.toNat) (v := .bool true) (vs := [(.bool true)]) (cs := List.replicate a.next.length (.bool false)) 0 inf4 rfl rfl rfl rfl rfl (by simp) rfl (by rw [List.length_replicate]; simp; omega) ?_)
  refine TO.sub (O' := [rowI (some ⟨z2, 0, none⟩) a.next.length 4 1 (bools (seenB a (shq a 0))), oI z1 25 (dC a k)]) (by rw [show putL (List.replicate a.next.length (.bool false)) a.start.toNat [(.bool true)] = bools (seenB a (shq a 0)) from (by rw [← seenB_zero]; exact seenB_put [] hsl)]; exact Sub.of (List.Sublist.refl _)) ?_
  refine TO.nil (T.seq (T.seq (T.region ?_)))
  refine TO.quiet (q_fieldAddr Tryd.underlying25 rfl inf3 rfl rfl) (TO.quiet (q_load_box 1 Tryd.underlying3 rfl rfl rfl rfl) (TO.quiet (q_build (cs := [(.int .i64 a.start), (.slice none 0 0)]) plan118 inf118 (by kernel_rfl)) ?_))
  refine TO.loud rfl (l_buildSlice (m := 1) (parts := [(0, _)]) (cs := [(.int .i64 a.start), (.slice none 0 0)]) Tryd.underlying119 inf118 (by decide) (by kernel_rfl) rfl (fun z3 => ?_))
  refine TO.quiet (q_assign rfl) ?_
  refine TO.nil ?_
  refine T.nilRow 5 1 ?_
  refine T.sub (O' := [rowI (some ⟨z3, 0, none⟩) 1 118 2 [(.int .i64 a.start), (.slice none 0 0)], rowI (some ⟨z2, 0, none⟩) a.next.length 4 1 (bools (seenB a (shq a 0))), oI z1 25 (dC a k), rowI none 0 5 1 []]) (by exact Sub.pull [rowI none 0 5 1 []] _ (.pull [rowI none 0 5 1 []] _ (.pull [rowI none 0 5 1 []] _ (.k .z)))) ?_
  refine T.sub (O' := ([rowI (some ⟨z3, 0, none⟩) 1 118 2 (rcells [⟨(a.start.toNat, a.start.toNat), none, 0, []⟩]), rowI (some ⟨z2, 0, none⟩) a.next.length 4 1 (bools (seenB a (shq a 0))), oI z1 25 (dC a k)] ++ qitms 5 [⟨(a.start.toNat, a.start.toNat), none, 0, []⟩])) (by rw [show rcells [⟨(a.start.toNat, a.start.toNat), none, 0, []⟩] = [.int .i64 ((a.start.toNat : Nat) : Int), .slice none 0 0] from rfl, show ((a.start.toNat : Nat) : Int) = a.start from Int.toNat_of_nonneg hs0]; exact Sub.rf) ?_
  refine T.block ?_
  refine T.loop (fun (i : Nat) ρ O => ∃ (qb : Option Addr) (qc m : Nat) (rs : List QRec), O = ([rowI qb qc 118 2 (rcells rs), rowI (some ⟨z2, 0, none⟩) a.next.length 4 1 (bools (seenB a (shq a i))), oI z1 25 (dC a k)] ++ (qitms 5 rs)) ∧ m = rs.length ∧ rs.map QRec.stp = (shq a i).drop i ∧ (∀ j, j < i → ∃ q, (shq a j)[j]? = some q ∧ finN a q.1.1 = false) ∧ Heads [(0, (dV a k)), (1, (.pointer (some ⟨z1, 0, none⟩))), (5, .int .i64 0), (6, (.slice (some ⟨z2, 0, none⟩) a.next.length a.next.length)), (7, (.slice qb m qc))] ρ) (fun i => a.next.length - i) 0 ?_ ?_
  · exact ⟨_, _, 1, [⟨(a.start.toNat, a.start.toNat), none, 0, []⟩], rfl, rfl, rfl, fun j hj => absurd hj (by omega), ⟨rfl, rfl, rfl, rfl, rfl, trivial⟩⟩
  rintro i ρ O ⟨qb, qc, m, rs, rfl, hm, hrs, hj, hH⟩
  obtain ⟨ρ0, rfl⟩ := hH.elim
  clear hH
  refine T.seq (T.seq (T.region ?_))
  refine TO.quiet (q_move rfl) (TO.quiet (q_len Tryd.underlying119 rfl) (TO.quiet (q_gtr rfl rfl) ?_))
  refine TO.nil ?_
  refine T.condP rfl (fun hc => ?_) (fun hc => ?_)
  · have hlt30 : m > 0 := by omega
    refine T.skip (T.seq (T.block (T.seq ?_)))
    obtain ⟨q0, rest, rfl⟩ : ∃ q0 rest, rs = q0 :: rest := by
      cases rs with
      | nil => subst hm; exact absurd hc (by simp)
      | cons a l => exact ⟨a, l, rfl⟩
    obtain ⟨m, rfl⟩ : ∃ k, m = k + 1 := ⟨rest.length, hm⟩
    have hm : m = rest.length := by simpa using hm
    have hq0 : (shq a i)[i]? = some q0.stp := by
      have := congrArg List.head? hrs
      rw [List.head?_drop] at this
      simpa using this.symm
    have hmid := fun x (hx : x ≤ letN a) => sho_mid hv.toVal hj hq0 hx
    have hpd : q0.p = (q0.p.1, q0.p.1) := (hmid 0 (Nat.zero_le _)).2.1
    have hp1 : q0.p.1 < a.next.length := (hmid 0 (Nat.zero_le _)).2.2.1
    have hwl : q0.xs.length ≤ i := (hmid 0 (Nat.zero_le _)).2.2.2.1
    have hi9 := (hmid 0 (Nat.zero_le _)).2.2.2.2.1
    have hf1 : q0.p.1 < a.final.length := by omega
    obtain ⟨vb1, vc1, g1, s1⟩ := ha.rows.get hp1
    have hl1 : a.next[q0.p.1].length = 2 ^ a.vars.toNat := hv.len _ (List.getElem_mem hp1)
    refine T.region ?_
    refine TO.quiet (q_move rfl) (TO.quiet (q_ixK (i := 0) Tryd.underlying119 inf118 rfl rfl (rowO (List.mem_of_getElem? (i := 0) rfl)) (by omega) (by rw [rcells_len]; simp)) (TO.quiet (q_ldK (vs := [(.int .i64 ((q0.p.1 : Nat) : Int)), (.slice q0.b q0.xs.length q0.c)]) Tryd.underlying118 rfl inf118 rfl rfl (Nat.succ_pos _) (rowO (List.mem_of_getElem? (i := 0) rfl)) (by intro j hj; match j, hj with | 0, _ => rfl | 1, _ => rfl)) ?_))
    refine TO.loud rfl (l_alloc inf118 rfl (fun z4 => ?_))
    refine TO.loud rfl (l_store_box (v := (.agg #[(.int .i64 ((q0.p.1 : Nat) : Int)), (.slice q0.b q0.xs.length q0.c)])) (vs := [(.int .i64 ((q0.p.1 : Nat) : Int)), (.slice q0.b q0.xs.length q0.c)]) 0 inf118 rfl rfl rfl rfl rfl rfl (by simp [putL]) ?_)
    refine TO.nil (T.seq (T.seq (T.region ?_)))
    refine TO.quiet (q_fieldAddr Tryd.underlying25 rfl inf23 rfl rfl) (TO.quiet (q_load_box 3 Tryd.underlying23 rfl rfl rfl rfl) (TO.quiet (q_fieldAddr Tryd.underlying118 rfl inf3 rfl rfl) (TO.quiet (q_load_box 0 Tryd.underlying3 rfl rfl rfl rfl) ?_)))
    refine TO.quiet (q_ix (i := q0.p.1) Tryd.underlying23 inf4 rfl rfl (Sl.o ha.final) hf1 (by rw [List.length_map]; exact hf1)) (TO.quiet (q_ld Tryd.underlying4 rfl rfl (Sl.o ha.final) (bools_get hf1)) ?_)
    refine TO.nil ?_
    refine T.cond rfl (fun hc => ?_) (fun hc => ?_)
    · have hne : finN a q0.p.1 = true := by simpa [finN, hf1] using hc
      refine T.seq (T.region ?_)
      refine TO.quiet (q_fieldAddr Tryd.underlying118 rfl inf29 rfl rfl) (TO.quiet (q_load_box 0 Tryd.underlying29 rfl rfl rfl rfl) (TO.quiet (q_assign rfl) (TO.quiet (q_assign rfl) ?_)))
      refine TO.quiet (q_assign rfl) ?_
      refine TO.nil (T.ret (Res.drop ?_))
      refine Res.three (.slice q0.b q0.xs.length q0.c) (.bool true) (.int .i64 0) Tryd.results51 rfl rfl rfl ?_
      exact ⟨[QRec.itm 5 q0], (by show Sub _ ([oI z4 118 [(.int .i64 ((q0.p.1 : Nat) : Int)), (.slice q0.b q0.xs.length q0.c)], rowI qb qc 118 2 (rcells (q0 :: rest)), rowI (some ⟨z2, 0, none⟩) a.next.length 4 1 (bools (seenB a (shq a i))), oI z1 25 (dC a k)] ++ qitms 5 (q0 :: rest)); exact Sub.appL [oI z4 118 [(.int .i64 ((q0.p.1 : Nat) : Int)), (.slice q0.b q0.xs.length q0.c)], rowI qb qc 118 2 (rcells (q0 :: rest)), rowI (some ⟨z2, 0, none⟩) a.next.length 4 1 (bools (seenB a (shq a i))), oI z1 25 (dC a k)] (Sub.k Sub.z)), some q0.xs, ShR.least hv.toVal ⟨i, hj, q0.stp, hq0, hne, rfl⟩, q0.b, q0.c, rfl, rfl⟩
    have heq : finN a q0.p.1 = false := by simpa [finN, hf1] using hc
    refine T.skip (T.seq (T.region ?_))
    refine TO.quiet (q_fieldAddr Tryd.underlying25 rfl inf22 rfl rfl) (TO.quiet (q_load_box 3 Tryd.underlying22 rfl rfl rfl rfl) (TO.quiet (q_fieldAddr Tryd.underlying118 rfl inf3 rfl rfl) (TO.quiet (q_load_box 0 Tryd.underlying3 rfl rfl rfl rfl) ?_)))
    refine TO.quiet (q_ix (i := q0.p.1) Tryd.underlying22 inf54 rfl rfl (Sl.o ha.outer) hp1 (hvl ▸ hp1)) (TO.quiet (q_ld Tryd.underlying54 rfl rfl (Sl.o ha.outer) g1) (TO.quiet (q_len Tryd.underlying54 rfl) (TO.quiet (q_move rfl) ?_)))
    refine TO.nil (T.block ?_)
    refine T.sub (O' := ([rowI qb qc 118 2 (rcells (q0 :: rest)), rowI (some ⟨z2, 0, none⟩) a.next.length 4 1 (bools (seenB a (shq a i))), oI z4 118 [(.int .i64 ((q0.p.1 : Nat) : Int)), (.slice q0.b q0.xs.length q0.c)], oI z1 25 (dC a k)] ++ qitms 5 (q0 :: rest))) (Sub.pickR [1, 1, 0, 0] [oI z4 118 [(.int .i64 ((q0.p.1 : Nat) : Int)), (.slice q0.b q0.xs.length q0.c)], rowI qb qc 118 2 (rcells (q0 :: rest)), rowI (some ⟨z2, 0, none⟩) a.next.length 4 1 (bools (seenB a (shq a i))), oI z1 25 (dC a k)] (qitms 5 (q0 :: rest)) rfl rfl) ?_
    refine T.loop (fun (x : Nat) ρ O => ∃ (qb : Option Addr) (qc m : Nat) (rest : List QRec), O = ([rowI qb qc 118 2 (rcells (q0 :: rest)), rowI (some ⟨z2, 0, none⟩) a.next.length 4 1 (bools (seenB a (pushN a q0.stp (shq a i) x))), oI z4 118 [(.int .i64 ((q0.p.1 : Nat) : Int)), (.slice q0.b q0.xs.length q0.c)], oI z1 25 (dC a k)] ++ (qitms 5 (q0 :: rest))) ∧ x ≤ letN a ∧ m = rest.length ∧ (q0 :: rest).map QRec.stp = (pushN a q0.stp (shq a i) x).drop i ∧ Heads [(0, (dV a k)), (1, (.pointer (some ⟨z1, 0, none⟩))), (5, .int .i64 0), (6, (.slice (some ⟨z2, 0, none⟩) a.next.length a.next.length)), (7, (.slice qb (m + 1) qc)), (8, (.pointer (some ⟨z4, 0, none⟩))), (49, (.slice vb1 a.next[q0.p.1].length vc1)), (50, .int .i64 (a.next[q0.p.1].length : Int)), (51, .int .i64 ((x : Nat) : Int))] ρ) (fun x => letN a - x) 0 ?_ ?_
    · exact ⟨qb, qc, m, rest, rfl, Nat.zero_le _, hm, hrs, ⟨rfl, rfl, rfl, rfl, rfl, rfl, rfl, rfl, rfl, trivial⟩⟩
    rintro x ρ O ⟨qb, qc, m, rest, rfl, hx9, hm, hrs2, hH⟩
    obtain ⟨ρ0, rfl⟩ := hH.elim
    clear hH
    refine T.seq (T.region ?_)
    refine TO.quiet (q_lss rfl rfl) ?_
    refine TO.nil (T.seq ?_)
    refine T.condP rfl (fun hc => ?_) (fun hc => ?_)
    · have hlt52 : x < a.next[q0.p.1].length := by omega
      have hlx : x < letN a := by rw [hl1] at hlt52; exact hlt52
      refine T.skip (T.seq (T.block (T.seq ?_)))
      obtain ⟨hto, _, hxk1, hx1⟩ := hv.toN_lt hp1 hlx
      have hx1 : (ints a.next[q0.p.1])[x]? = some (.int .i64 ((toN a q0.p.1 x : Nat) : Int)) := by rw [ints_get hxk1, hx1]
      have hsd : suc2 a q0.p x = (toN a q0.p.1 x, toN a q0.p.1 x) := by rw [hpd]; rfl
      refine T.region ?_
      refine TO.quiet (q_move rfl) (TO.quiet (q_ix (i := x) Tryd.underlying54 inf3 rfl rfl (Sl.o s1) hlt52 (by rw [List.length_map]; exact hlt52)) (TO.quiet (q_ld Tryd.underlying3 rfl rfl (Sl.o s1) hx1) (TO.quiet (q_assign rfl) ?_)))
      refine TO.quiet (q_assign rfl) ?_
      refine TO.nil (T.seq (T.region ?_))
      refine TO.quiet (q_move rfl) (TO.quiet (q_move rfl) (TO.quiet (q_ix (i := (toN a q0.p.1 x)) Tryd.underlying23 inf4 rfl rfl (rowO (List.mem_of_getElem? (i := 1) rfl)) hto (by rw [List.length_map, seenB_len]; exact hto)) (TO.quiet (q_ld Tryd.underlying4 rfl rfl (rowO (List.mem_of_getElem? (i := 1) rfl)) (seenB_at hto)) ?_)))
      refine TO.quiet (QT.cast (q_not rfl) (v' := .bool (decide (¬ suc2 a q0.p x ∈ (pushN a q0.stp (shq a i) x).map Prod.fst))) (by rw [hsd]; simp)) ?_
      refine TO.nil ?_
      refine T.condP rfl (fun hc => ?_) (fun hc => ?_)
      · have hin : ¬ suc2 a q0.p x ∈ (pushN a q0.stp (shq a i) x).map Prod.fst := hc
        have hsc := fun w => show bools (seenB a ((pushN a q0.stp (shq a i) x) ++ [(suc2 a q0.p x, w)])) = bools (seenB a ((pushN a q0.stp (shq a i) x) ++ [(suc2 a q0.p x, w)])) from rfl
        have hrl : rest.length + 1 ≤ a.next.length := by
          have := congrArg List.length hrs2
          simp at this
          have := (hmid x hx9).1
          omega
        have hil := (hmid x hx9).2.2.2.2.2
        refine T.seq (T.region ?_)
        refine TO.quiet (q_move rfl) (TO.quiet (q_move rfl) (TO.quiet (q_ix (i := (toN a q0.p.1 x)) Tryd.underlying23 inf4 rfl rfl (rowO (List.mem_of_getElem? (i := 1) rfl)) hto (by rw [List.length_map, seenB_len]; exact hto)) ?_))
        refine TO.loud rfl (l_st (j := (toN a q0.p.1 x)) (v := .bool true) (vs := [(.bool true)]) (cs := bools (seenB a (pushN a q0.stp (shq a i) x))) 1 inf4 rfl rfl rfl rfl rfl (by simp) rfl (by rw [List.length_map, seenB_len]; simp; omega) ?_)
        refine TO.sub (O' := ([rowI qb qc 118 2 (rcells (q0 :: rest)), rowI (some ⟨z2, 0, none⟩) a.next.length 4 1 (bools (seenB a ((pushN a q0.stp (shq a i) x) ++ [(suc2 a q0.p x, q0.xs ++ [x])]))), oI z4 118 [(.int .i64 ((q0.p.1 : Nat) : Int)), (.slice q0.b q0.xs.length q0.c)], oI z1 25 (dC a k)] ++ (qitms 5 (q0 :: rest)))) (by rw [show putL (bools (seenB a (pushN a q0.stp (shq a i) x))) (toN a q0.p.1 x) [(.bool true)] = bools (seenB a ((pushN a q0.stp (shq a i) x) ++ [(suc2 a q0.p x, q0.xs ++ [x])])) from (by rw [hsd]; exact seenB_put _ hto)]; exact Sub.of (List.Sublist.refl _)) ?_
        refine TO.nil (T.region ?_)
        refine TO.quiet (q_move rfl) (TO.quiet (q_move rfl) (TO.quiet (q_fieldAddr Tryd.underlying118 rfl inf29 rfl rfl) (TO.quiet (q_load_box 2 Tryd.underlying29 rfl rfl rfl rfl) ?_)))
        have hk68 := fun (w1 : World) (hI : Inv w ([rowI qb qc 118 2 (rcells (q0 :: rest)), rowI (some ⟨z2, 0, none⟩) a.next.length 4 1 (bools (seenB a ((pushN a q0.stp (shq a i) x) ++ [(suc2 a q0.p x, q0.xs ++ [x])]))), oI z4 118 [(.int .i64 ((q0.p.1 : Nat) : Int)), (.slice q0.b q0.xs.length q0.c)], oI z1 25 (dC a k)] ++ (qitms 5 (q0 :: rest))) w1) => (haveI := Inv.tab (P := Tryd.prog) hI; cloneC w1 q0.b q0.c q0.xs (hI.slOf (T := 5) (k := 1) (List.mem_append_right _ List.mem_cons_self)) (by omega))
        refine TO.loud rfl (l_call ent66 (CallT.of_pure hk68) rfl ?_)
        clear hk68
        rintro vr O' ⟨N, rfl, wb, wc, rfl, rfl⟩
        refine TO.quiet (q_move rfl) (TO.quiet (q_conv_id Tryd.underlying3 Tryd.underlying5 rfl (wrap8 (by omega))) ?_)
        refine TO.loud rfl (l_build1 (v := .int .u8 ((x : Nat) : Int)) Tryd.underlying29 inf5 rfl rfl rfl (fun z5 => ?_))
        refine TO.loud rfl (l_append 1 Tryd.underlying29 Tryd.underlying29 inf5 rfl rfl rfl rfl (by rw [List.length_map, Nat.mul_one]) (by decide) (Src.row (j := 0) rfl (by simp)) (by simp [oneB]) (by omega) (by decide) (by decide) (fun z6 zc7 => ?_))
        refine TO.quiet (q_build (cs := [.int .i64 ((toN a q0.p.1 x : Nat) : Int), (.slice z6 (q0.xs.length + 1) zc7)]) plan118 inf118 (by kernel_rfl)) ?_
        refine TO.loud rfl (l_buildSlice (m := 1) (parts := [(0, _)]) (cs := [.int .i64 ((toN a q0.p.1 x : Nat) : Int), (.slice z6 (q0.xs.length + 1) zc7)]) Tryd.underlying119 inf118 (by decide) (by kernel_rfl) rfl (fun z8 => ?_))
        refine TO.loud rfl (l_append 3 Tryd.underlying119 Tryd.underlying119 inf118 rfl rfl rfl rfl (by rw [rcells_len, hm]; rfl) (by decide) (Src.row (j := 0) rfl (by simp)) (by simp [oneB]) (by omega) (by decide) (by decide) (fun z9 zc10 => ?_))
        refine TO.quiet (q_assign rfl) ?_
        refine TO.nil ?_
        obtain ⟨wb2, hwb2⟩ : ∃ z, z = z6 := ⟨_, rfl⟩
        obtain ⟨wc2, hwc2⟩ : ∃ z, z = zc7 := ⟨_, rfl⟩
        refine T.sub (O' := ([rowI z9 zc10 118 2 ((rcells (q0 :: rest)) ++ [.int .i64 ((toN a q0.p.1 x : Nat) : Int), (.slice z6 (q0.xs.length + 1) zc7)]), rowI (some ⟨z2, 0, none⟩) a.next.length 4 1 (bools (seenB a ((pushN a q0.stp (shq a i) x) ++ [(suc2 a q0.p x, q0.xs ++ [x])]))), oI z4 118 [(.int .i64 ((q0.p.1 : Nat) : Int)), (.slice q0.b q0.xs.length q0.c)], oI z1 25 (dC a k), rowI z6 zc7 5 1 ((byts q0.xs) ++ [.int .u8 ((x : Nat) : Int)])] ++ qitms 5 (q0 :: rest))) (Sub.pickR [3, 3, 3, 3, 2] [rowI (some ⟨z8, 0, none⟩) 1 118 2 [.int .i64 ((toN a q0.p.1 x : Nat) : Int), (.slice z6 (q0.xs.length + 1) zc7)], rowI (some ⟨z5, 0, none⟩) 1 5 1 [.int .u8 ((x : Nat) : Int)], rowI z6 zc7 5 1 ((byts q0.xs) ++ [.int .u8 ((x : Nat) : Int)]), rowI z9 zc10 118 2 ((rcells (q0 :: rest)) ++ [.int .i64 ((toN a q0.p.1 x : Nat) : Int), (.slice z6 (q0.xs.length + 1) zc7)]), rowI (some ⟨z2, 0, none⟩) a.next.length 4 1 (bools (seenB a ((pushN a q0.stp (shq a i) x) ++ [(suc2 a q0.p x, q0.xs ++ [x])]))), oI z4 118 [(.int .i64 ((q0.p.1 : Nat) : Int)), (.slice q0.b q0.xs.length q0.c)], oI z1 25 (dC a k)] (qitms 5 (q0 :: rest)) rfl rfl) ?_
        refine T.sub (O' := ([rowI z9 zc10 118 2 ((rcells (q0 :: rest)) ++ [.int .i64 ((toN a q0.p.1 x : Nat) : Int), (.slice z6 (q0.xs.length + 1) zc7)]), rowI (some ⟨z2, 0, none⟩) a.next.length 4 1 (bools (seenB a ((pushN a q0.stp (shq a i) x) ++ [(suc2 a q0.p x, q0.xs ++ [x])]))), oI z4 118 [(.int .i64 ((q0.p.1 : Nat) : Int)), (.slice q0.b q0.xs.length q0.c)], oI z1 25 (dC a k)] ++ qitms 5 (q0 :: (rest ++ [⟨suc2 a q0.p x, wb2, wc2, q0.xs ++ [x]⟩])))) (by rw [show qitms 5 (q0 :: (rest ++ [⟨suc2 a q0.p x, wb2, wc2, q0.xs ++ [x]⟩])) = qitms 5 (q0 :: rest) ++ [rowI z6 zc7 5 1 ((byts q0.xs) ++ [.int .u8 ((x : Nat) : Int)])] by subst hwb2; subst hwc2; simp [QRec.itm]]; exact Sub.foldN [rowI z9 zc10 118 2 ((rcells (q0 :: rest)) ++ [.int .i64 ((toN a q0.p.1 x : Nat) : Int), (.slice z6 (q0.xs.length + 1) zc7)]), rowI (some ⟨z2, 0, none⟩) a.next.length 4 1 (bools (seenB a ((pushN a q0.stp (shq a i) x) ++ [(suc2 a q0.p x, q0.xs ++ [x])]))), oI z4 118 [(.int .i64 ((q0.p.1 : Nat) : Int)), (.slice q0.b q0.xs.length q0.c)], oI z1 25 (dC a k)] (rowI z6 zc7 5 1 ((byts q0.xs) ++ [.int .u8 ((x : Nat) : Int)])) (qitms 5 (q0 :: rest)) _ rfl) ?_
        refine T.region ?_
        refine TO.quiet (q_addN (a := x) (b := 1) rfl rfl (by omega)) (TO.quiet (q_move rfl) ?_)
        refine TO.nil ?_
        have hA : pushN a q0.stp (shq a i) (x + 1) = (pushN a q0.stp (shq a i) x) ++ [(suc2 a q0.p x, q0.xs ++ [x])] := by
          show pushS a q0.stp _ x = _
          unfold pushS
          exact if_neg hin
        refine ⟨x + 1, by omega, z9, zc10, m + 1, rest ++ [⟨suc2 a q0.p x, wb2, wc2, q0.xs ++ [x]⟩], ?_, by omega, by simp [hm], ?_, ⟨rfl, rfl, rfl, rfl, rfl, rfl, rfl, rfl, rfl, trivial⟩⟩
        · rw [hA, hsc, show rcells (q0 :: (rest ++ [⟨suc2 a q0.p x, wb2, wc2, q0.xs ++ [x]⟩])) = rcells (q0 :: rest) ++ [(.int .i64 ((toN a q0.p.1 x : Nat) : Int)), (.slice wb2 (q0.xs.length + 1) wc2)] by simp [QRec.cel, suc2]]; subst hwb2; subst hwc2; rfl
        · rw [hA, List.drop_append_of_le_length (by omega), ← hrs2]; simp [QRec.stp]
      have hin : suc2 a q0.p x ∈ (pushN a q0.stp (shq a i) x).map Prod.fst := Classical.not_not.1 hc
      have hil := (hmid x hx9).2.2.2.2.2
      refine T.skip (T.region ?_)
      refine TO.quiet (q_addN (a := x) (b := 1) rfl rfl (by omega)) (TO.quiet (q_move rfl) ?_)
      refine TO.nil ?_
      have hA : pushN a q0.stp (shq a i) (x + 1) = (pushN a q0.stp (shq a i) x) := by
        show pushS a q0.stp _ x = _
        unfold pushS
        exact if_pos hin
      refine ⟨x + 1, by omega, qb, qc, m, rest, by rw [hA], by omega, hm, by rw [hA]; exact hrs2, ⟨rfl, rfl, rfl, rfl, rfl, rfl, rfl, rfl, rfl, trivial⟩⟩
    have hge52 : ¬ x < a.next[q0.p.1].length := by omega
    refine T.exit ?_
    refine T.region ?_
    refine TO.quiet (q_move rfl) ?_
    refine TO.loud rfl (l_tail 0 Tryd.underlying119 inf118 (by decide) rfl rfl rfl (by rw [rcells_len, hm]; rfl) (by omega) (fun z11 => ?_))
    refine TO.quiet (q_assign rfl) ?_
    refine TO.sub (O' := ([rowI z11 (qc - 1) 118 2 (rcells rest), rowI (some ⟨z2, 0, none⟩) a.next.length 4 1 (bools (seenB a (pushN a q0.stp (shq a i) x))), oI z1 25 (dC a k)] ++ qitms 5 (q0 :: rest))) (Sub.pickR [0, 0, 1] [rowI z11 (qc - 1) 118 2 (rcells rest), rowI (some ⟨z2, 0, none⟩) a.next.length 4 1 (bools (seenB a (pushN a q0.stp (shq a i) x))), oI z4 118 [(.int .i64 ((q0.p.1 : Nat) : Int)), (.slice q0.b q0.xs.length q0.c)], oI z1 25 (dC a k)] (qitms 5 (q0 :: rest)) rfl rfl) ?_
    refine TO.sub (O' := ([rowI z11 (qc - 1) 118 2 (rcells rest), rowI (some ⟨z2, 0, none⟩) a.next.length 4 1 (bools (seenB a (pushN a q0.stp (shq a i) x))), oI z1 25 (dC a k)] ++ qitms 5 rest)) (by exact Sub.k (Sub.k (Sub.k (Sub.d Sub.rf)))) ?_
    refine TO.nil ?_
    have hxe : x = letN a := Nat.le_antisymm hx9 (by rw [hl1] at hge52; exact Nat.le_of_not_lt hge52)
    have hbq : pushN a q0.stp (shq a i) x = shq a (i + 1) := by rw [hxe]; exact (bq_succ hq0).symm
    refine ⟨i + 1, by omega, z11, qc - 1, m, rest, by rw [hbq], hm, ?_, ?_, ⟨rfl, rfl, rfl, rfl, rfl, trivial⟩⟩
    · rw [← hbq]; have := congrArg List.tail hrs2; simpa [List.tail_drop] using this
    · intro j hj9
      by_cases e : j = i
      · subst e; exact ⟨q0.stp, hq0, heq⟩
      · exact hj j (by omega)
  have hge30 : ¬ m > 0 := by omega
  refine T.exit ?_
  refine T.seq (T.region ?_)
  refine TO.quiet (q_assign rfl) (TO.quiet (q_assign rfl) (TO.quiet (q_assign rfl) ?_))
  refine TO.nil (T.ret (Res.drop ?_))
  refine Res.three (.slice none 0 0) (.bool false) (.int .i64 0) Tryd.results51 rfl rfl rfl ?_
  have hend : (shq a i).length ≤ i := by
    have := congrArg List.length hrs
    simp at this
    omega
  exact ⟨[], Sub.z, none, ShR.least hv.toVal (res := none) ⟨i, hj, hend⟩, rfl, rfl⟩
end Go.Proofs.YtnpehjpookcfkaaDoor


namespace Go.Proofs.YtnpehjpookcfkaaDoor
open Go.Lx Go.RowKit
set_option linter.unusedVariables false
set_option linter.unusedSimpArgs false
theorem orZ (w : World) [Tab Tryd.prog w] {z a b : DFA} {p q : List Nat → Bool} (hz : Valid z) (ha : InL z a p) (hb : InL z b q) (j k : DK) (hj : At w a j) (hk : At w b k) {M : DFA} (hM : opD orB a b = M) :
    PureT Tryd.prog 32 [dV a j, dV b k] w fun v N => ∃ k' : DK, v = .tuple #[dV M k', .int .i64 0] ∧ N = [dI 54 4 3 M k'] := by
  have b1 := ha.bds
  have b2 := hb.bds
  have h := orC w a b j k hj hk b1.1 b1.2.1 b1.2.2 b2.1 b2.2.1 b2.2.2 (fun _ => InL.ord hz ha hb)
  rw [opV_ok (ha.wrong hb), ha.wrong hb, hM] at h
  exact h
theorem andZ (w : World) [Tab Tryd.prog w] {z a b : DFA} {p q : List Nat → Bool} (hz : Valid z) (ha : InL z a p) (hb : InL z b q) (j k : DK) (hj : At w a j) (hk : At w b k) {M : DFA} (hM : opD andB a b = M) :
    PureT Tryd.prog 25 [dV a j, dV b k] w fun v N => ∃ k' : DK, v = .tuple #[dV M k', .int .i64 0] ∧ N = [dI 54 4 3 M k'] := by
  have b1 := ha.bds
  have b2 := hb.bds
  have h := andC w a b j k hj hk b1.1 b1.2.1 b1.2.2 b2.1 b2.2.1 b2.2.2 (fun _ => InL.ord hz ha hb)
  rw [opV_ok (ha.wrong hb), ha.wrong hb, hM] at h
  exact h
theorem minusZ (w : World) [Tab Tryd.prog w] {z a b : DFA} {p q : List Nat → Bool} (hz : Valid z) (ha : InL z a p) (hb : InL z b q) (j k : DK) (hj : At w a j) (hk : At w b k) {M : DFA} (hM : opD minusB a b = M) :
    PureT Tryd.prog 30 [dV a j, dV b k] w fun v N => ∃ k' : DK, v = .tuple #[dV M k', .int .i64 0] ∧ N = [dI 54 4 3 M k'] := by
  have b1 := ha.bds
  have b2 := hb.bds
  have h := minusC w a b j k hj hk b1.1 b1.2.1 b1.2.2 b2.1 b2.2.1 b2.2.2 (fun _ => InL.ord hz ha hb)
  rw [opV_ok (ha.wrong hb), ha.wrong hb, hM] at h
  exact h
theorem notZ0 (w : World) [Tab Tryd.prog w] {z a : DFA} {p : List Nat → Bool} (hz : Valid z) (ha : InL z a p) (j : DK) (hj : At w a j) {M : DFA} (hM : notD a = M) :
    PureT Tryd.prog 60 [dV a j] w fun v N => ∃ k' : DK, v = .tuple #[dV M k', .int .i64 0] ∧ N = [dI 54 4 3 M k'] := by
  have b1 := ha.bds
  have h := notC w a j hj b1.1 b1.2.1 b1.2.2
  rw [opV_ok (ha.wrong ha), checkD_zero.2 ha.has.valid, show opD notB a a = M from hM] at h
  exact h
theorem shoK (w : World) [Tab Tryd.prog w] (a : DFA) (k : DK) (ha : At w a k) (hv : Valid a) :
    PureT Tryd.prog 51 [dV a k] w fun v N => ∃ res wb wc, LeastA a res ∧ v = .tuple #[.slice wb (res.getD []).length wc, .bool res.isSome, .int .i64 0] ∧ N = [rowI wb wc 5 1 (byts (res.getD []))] := by
  refine (CallT.nilOr 5 1 (shoOk w a k ha hv)).mono ?_
  rintro v N ⟨O2, hN, res, hL, hV⟩
  cases res with
  | none =>
    obtain ⟨rfl, rfl⟩ := hV
    exact ⟨none, none, 0, hL, rfl, hN.2 rfl⟩
  | some u =>
    obtain ⟨b, c, rfl, rfl⟩ := hV
    exact ⟨some u, b, c, hL, rfl, hN.1 (by simp)⟩
set_option maxHeartbeats 1000000 in
set_option maxRecDepth 20000 in
theorem conCheck (w : World) [Tab Tryd.prog w] (a g : DFA) (j k : DK) (ha : At w a j) (hg : At w g k) (ba : a.next.length < 9223372036854775807 ∧ (∀ r ∈ a.next, r.length < 9223372036854775807) ∧ a.final.length < 9223372036854775807) (bg : g.next.length < 9223372036854775807 ∧ (∀ r ∈ g.next, r.length < 9223372036854775807) ∧ g.final.length < 9223372036854775807) :
    PureT Tryd.prog 27 [cV a g j k] w fun v N => v = .int .i64 (cE a g : Int) ∧ N = [] := by
  refine CallT.enter Tryd.func27 rfl Tryd.ntmps27 rfl ?_
  refine T.seq (T.region ?_)
  refine TO.loud rfl (l_box (v := (cV a g j k)) (cs := (cC a g j k)) rfl rfl (fun bx1 => ?_))
  refine TO.quiet (q_assign rfl) ?_
  refine TO.nil (T.seq (T.seq (T.region ?_)))
  refine TO.quiet (q_fieldAddr Tryd.underlying27 rfl inf25 rfl rfl) (TO.quiet (q_load_part 0 (vs := (dC a j)) Tryd.underlying25 rfl inf25 rfl rfl rfl rfl) (TO.quiet (q_fieldAddr Tryd.underlying27 rfl inf25 rfl rfl) (TO.quiet (q_load_part 0 (vs := (dC g k)) Tryd.underlying25 rfl inf25 rfl rfl rfl rfl) ?_)))
  refine TO.quiet (q_buildA (cs := (cC a g j k)) Tryd.underlying51 inf25 inf51 (by kernel_rfl)) (TO.quiet (q_move rfl) ?_)
  refine TO.nil (T.block ?_)
  refine T.rounds 3 (T.round ?_)
  refine T.seq (T.region ?_)
  refine TO.quiet (QT.toB (q_lss rfl rfl) (b' := true) rfl) ?_
  refine TO.nil (T.seq ?_)
  refine T.cond1 rfl ?_
  refine T.skip (T.seq (T.block (T.seq (T.region ?_))))
  refine TO.quiet (q_indexA (i := 0) (vs := (dC a j)) Tryd.underlying51 Tryd.underlying25 rfl inf25 rfl rfl (by decide) rfl) ?_
  refine TO.loud rfl (l_alloc inf25 rfl (fun bx2 => ?_))
  refine TO.loud rfl (l_store_box (v := (dV a j)) (vs := (dC a j)) 0 inf25 rfl rfl rfl rfl rfl rfl (by simp [putL]) ?_)
  refine TO.nil (T.seq (T.region ?_))
  refine TO.quiet (q_load_boxAgg 0 Tryd.underlying25 rfl inf25 rfl rfl rfl) ?_
  have hk15 := fun (w1 : World) (hI : Inv w [oI bx2 25 (dC a j), oI bx1 27 (cC a g j k)] w1) => (haveI := Inv.tab (P := Tryd.prog) hI; subsetCheck w1 a j.nb j.fb j.nc j.fc (vals j.qs) (hI.dfa ha) ba.1 ba.2.1 ba.2.2)
  refine TO.loud rfl (l_call ent26 (CallT.of_pure hk15) rfl ?_)
  clear hk15
  rintro vr O' ⟨N, rfl, rfl, rfl⟩
  refine TO.quiet (q_assign rfl) ?_
  refine TO.nil (T.seq (T.region ?_))
  refine TO.quiet (q_move rfl) (TO.quiet (q_neq rfl rfl) ?_)
  refine TO.nil ?_
  refine T.condP rfl (fun hc => ?_) (fun hc => ?_)
  · have hlt17 : checkD a ≠ 0 := by omega
    refine T.seq (T.region ?_)
    refine TO.quiet (q_move rfl) (TO.quiet (q_assign rfl) ?_)
    refine TO.nil (T.ret (Res.drop ?_))
    refine Res.one (.int .i64 (checkD a : Int)) Tryd.results27 rfl ?_
    exact ⟨[], Sub.z, by rw [cE_first (by omega)], rfl⟩
  have hge17 : ¬ checkD a ≠ 0 := by omega
  refine T.skip (T.region ?_)
  refine TO.quiet (QT.cast (q_add64 rfl rfl (by omega)) (v' := .int .i64 1) rfl) (TO.quiet (q_move rfl) ?_)
  refine TO.nil ?_
  refine T.round ?_
  refine T.seq (T.region ?_)
  refine TO.quiet (QT.toB (q_lss rfl rfl) (b' := true) rfl) ?_
  refine TO.nil (T.seq ?_)
  refine T.cond1 rfl ?_
  refine T.skip (T.seq (T.block (T.seq (T.region ?_))))
  refine TO.quiet (q_indexA (i := 1) (vs := (dC g k)) Tryd.underlying51 Tryd.underlying25 rfl inf25 rfl rfl (by decide) rfl) ?_
  refine TO.loud rfl (l_alloc inf25 rfl (fun bx3 => ?_))
  refine TO.loud rfl (l_store_box (v := (dV g k)) (vs := (dC g k)) 0 inf25 rfl rfl rfl rfl rfl rfl (by simp [putL]) ?_)
  refine TO.nil (T.seq (T.region ?_))
  refine TO.quiet (q_load_boxAgg 0 Tryd.underlying25 rfl inf25 rfl rfl rfl) ?_
  have hk15 := fun (w1 : World) (hI : Inv w [oI bx3 25 (dC g k), oI bx2 25 (dC a j), oI bx1 27 (cC a g j k)] w1) => (haveI := Inv.tab (P := Tryd.prog) hI; subsetCheck w1 g k.nb k.fb k.nc k.fc (vals k.qs) (hI.dfa hg) bg.1 bg.2.1 bg.2.2)
  refine TO.loud rfl (l_call ent26 (CallT.of_pure hk15) rfl ?_)
  clear hk15
  rintro vr O' ⟨N, rfl, rfl, rfl⟩
  refine TO.quiet (q_assign rfl) ?_
  refine TO.nil (T.seq (T.region ?_))
  refine TO.quiet (q_move rfl) (TO.quiet (q_neq rfl rfl) ?_)
  refine TO.nil ?_
  refine T.condP rfl (fun hc => ?_) (fun hc => ?_)
  · have hlt17 : checkD g ≠ 0 := by omega
    refine T.seq (T.region ?_)
    refine TO.quiet (q_move rfl) (TO.quiet (q_assign rfl) ?_)
    refine TO.nil (T.ret (Res.drop ?_))
    refine Res.one (.int .i64 (checkD g : Int)) Tryd.results27 rfl ?_
    exact ⟨[], Sub.z, by rw [cE_second (by omega) (by omega)], rfl⟩
  have hge17 : ¬ checkD g ≠ 0 := by omega
  refine T.skip (T.region ?_)
  refine TO.quiet (QT.cast (q_add64 rfl rfl (by omega)) (v' := .int .i64 2) rfl) (TO.quiet (q_move rfl) ?_)
  refine TO.nil ?_
  refine T.round ?_
  refine T.seq (T.region ?_)
  refine TO.quiet (QT.toB (q_lss rfl rfl) (b' := false) rfl) ?_
  refine TO.nil (T.seq ?_)
  refine T.cond0 rfl ?_
  refine T.exit ?_
  refine T.seq (T.seq (T.region ?_))
  refine TO.quiet (q_fieldAddr Tryd.underlying27 rfl inf25 rfl rfl) (TO.quiet (q_fieldAddr Tryd.underlying25 rfl inf3 rfl rfl) (TO.quiet (q_load_box 2 Tryd.underlying3 rfl rfl rfl rfl) (TO.quiet (q_fieldAddr Tryd.underlying27 rfl inf25 rfl rfl) ?_)))
  refine TO.quiet (q_fieldAddr Tryd.underlying25 rfl inf3 rfl rfl) (TO.quiet (q_load_box 2 Tryd.underlying3 rfl rfl rfl rfl) (TO.quiet (q_neq rfl rfl) ?_))
  refine TO.nil ?_
  refine T.condP rfl (fun hc => ?_) (fun hc => ?_)
  · refine T.seq ?_
    refine T.region ?_
    refine TO.quiet (q_assign rfl) ?_
    refine TO.nil (T.ret (Res.drop ?_))
    refine Res.one (.int .i64 7) Tryd.results27 rfl ?_
    exact ⟨[], Sub.z, by rw [cE_vars (by omega) (by omega) hc]; rfl, rfl⟩
  refine T.skip (T.seq (T.region ?_))
  refine TO.quiet (q_assign rfl) ?_
  refine TO.nil (T.ret (Res.drop ?_))
  refine Res.one (.int .i64 0) Tryd.results27 rfl ?_
  exact ⟨[], Sub.z, by rw [cE_ok (by omega) (by omega) (Classical.not_not.1 hc)]; rfl, rfl⟩
set_option maxHeartbeats 1000000 in
set_option maxRecDepth 20000 in
theorem doS (base : World) [Tab Tryd.prog base] (L : List Lx.Item) (sb : Nat) (a b : DFA) (j k : DK) (g : Nat) {fn : Func} (hen : Lx.Enters Tryd.prog g fn) {M : DFA} (hop : ∀ w1, Inv base L w1 → PureT Tryd.prog g [dV a j, dV b k] w1 fun v N => ∃ k' : DK, v = .tuple #[dV M k', .int .i64 0] ∧ N = [dI 54 4 3 M k']) :
    CallT Tryd.prog base 28 [.pointer (some ⟨sb, 0, none⟩), .func (.func g) #[] #[], dV a j, dV b k] ([oI sb 59 [(.int .i64 0)]] ++ L) (fun v O' => ∃ k' : DK, v = dV M k' ∧ O' = [dI 54 4 3 M k', oI sb 59 [(.int .i64 0)]] ++ L) := by
  refine CallT.enter Tryd.func28 rfl Tryd.ntmps28 rfl ?_
  refine T.seq (T.region ?_)
  refine TO.loud rfl (l_box (v := (dV a j)) (cs := (dC a j)) rfl rfl (fun y1 => ?_))
  refine TO.loud rfl (l_box (v := (dV b k)) (cs := (dC b k)) rfl rfl (fun y2 => ?_))
  refine TO.loud rfl (l_alloc inf25 rfl (fun y3 => ?_))
  refine TO.nil (T.seq (T.seq (T.region ?_)))
  refine TO.quiet (q_move rfl) (TO.quiet (q_nilCheck rfl) (TO.quiet (q_fieldAddr Tryd.underlying59 rfl inf33 rfl rfl) (TO.quiet (q_load_box 3 Tryd.underlying33 rfl rfl rfl rfl) ?_)))
  refine TO.quiet (QT.toB (q_neq rfl rfl) (decide_eq_false (fun h => h rfl))) ?_
  refine TO.nil ?_
  refine T.cond0 rfl ?_
  refine T.skip (T.seq (T.region ?_))
  refine TO.loud rfl (l_alloc inf25 rfl (fun y4 => ?_))
  refine TO.nil (T.seq (T.region ?_))
  refine TO.quiet (q_move rfl) (TO.quiet (q_move rfl) (TO.quiet (q_load_boxAgg 3 Tryd.underlying25 rfl inf25 rfl rfl rfl) (TO.quiet (q_load_boxAgg 2 Tryd.underlying25 rfl inf25 rfl rfl rfl) ?_)))
  have hk21 := CallV.under (A := L) (B := [oI y4 25 [(.int .i64 0), (.int .i64 0), (.slice none 0 0), (.slice none 0 0)], oI y3 25 [(.int .i64 0), (.int .i64 0), (.slice none 0 0), (.slice none 0 0)], oI y2 25 (dC b k), oI y1 25 (dC a j), oI sb 59 [(.int .i64 0)]]) (O := ([oI y4 25 [(.int .i64 0), (.int .i64 0), (.slice none 0 0), (.slice none 0 0)], oI y3 25 [(.int .i64 0), (.int .i64 0), (.slice none 0 0), (.slice none 0 0)], oI y2 25 (dC b k), oI y1 25 (dC a j), oI sb 59 [(.int .i64 0)]] ++ L)) (CallV.of_fn (first := []) (args := [dV a j, dV b k]) (caps := []) hen (CallT.of_pure hop)) (by exact Sub.swap3 [] L [oI y4 25 [(.int .i64 0), (.int .i64 0), (.slice none 0 0), (.slice none 0 0)], oI y3 25 [(.int .i64 0), (.int .i64 0), (.slice none 0 0), (.slice none 0 0)], oI y2 25 (dC b k), oI y1 25 (dC a j), oI sb 59 [(.int .i64 0)]])
  refine TO.loud rfl (l_callG hk21 rfl rfl ?_)
  clear hk21
  rintro vr O' ⟨A1, rfl, N, rfl, k', rfl, rfl⟩
  refine TO.sub (O' := ([dI 54 4 3 M k', oI y4 25 [(.int .i64 0), (.int .i64 0), (.slice none 0 0), (.slice none 0 0)], oI y3 25 [(.int .i64 0), (.int .i64 0), (.slice none 0 0), (.slice none 0 0)], oI y2 25 (dC b k), oI y1 25 (dC a j), oI sb 59 [(.int .i64 0)]] ++ L)) (by exact Sub.swap3 [dI 54 4 3 M k'] [oI y4 25 [(.int .i64 0), (.int .i64 0), (.slice none 0 0), (.slice none 0 0)], oI y3 25 [(.int .i64 0), (.int .i64 0), (.slice none 0 0), (.slice none 0 0)], oI y2 25 (dC b k), oI y1 25 (dC a j), oI sb 59 [(.int .i64 0)]] L) ?_
  refine TO.quiet (q_move rfl) (TO.quiet (q_extract (vs := _) rfl rfl) (TO.quiet (q_extract (vs := _) rfl rfl) ?_))
  refine TO.loud rfl (l_store_box (v := (dV M k')) (vs := (dC M k')) 1 inf25 rfl rfl rfl rfl rfl rfl (by simp [putL]) ?_)
  refine TO.quiet (q_nilCheck rfl) (TO.quiet (q_fieldAddr Tryd.underlying59 rfl inf33 rfl rfl) ?_)
  refine TO.loud rfl (l_store_box (v := .int .i64 0) (vs := [(.int .i64 0)]) 5 inf33 rfl rfl rfl rfl rfl rfl (by simp [putL]) ?_)
  refine TO.nil (T.seq (T.region ?_))
  refine TO.quiet (q_load_boxAgg 1 Tryd.underlying25 rfl inf25 rfl rfl rfl) ?_
  refine TO.loud rfl (l_store_box (v := (dV M k')) (vs := (dC M k')) 2 inf25 rfl rfl rfl rfl rfl rfl (by simp [putL]) ?_)
  refine TO.nil (T.ret (Res.drop ?_))
  refine Res.cell1 (i := 2) Tryd.results28 Tryd.underlying25 rfl inf25 rfl rfl rfl ?_
  exact ⟨[dI 54 4 3 M k', oI sb 59 [(.int .i64 0)]] ++ L, (Sub.pickR [0, 4] [dI 54 4 3 M k', oI y4 25 (dC M k'), oI y3 25 (dC M k'), oI y2 25 (dC b k), oI y1 25 (dC a j), oI sb 59 [(.int .i64 0)]] L rfl rfl), k', rfl, rfl⟩
set_option maxHeartbeats 1000000 in
set_option maxRecDepth 20000 in
theorem doB (base : World) [Tab Tryd.prog base] (L : List Lx.Item) (sb : Nat) (c d : DFA) (m n : DK) (a b : DFA) (j k : DK) (g : Nat) {fn : Func} (hen : Lx.Enters Tryd.prog g fn) {M : DFA} (hop : ∀ w1, Inv base L w1 → PureT Tryd.prog g [dV a j, dV b k] w1 fun v N => ∃ k' : DK, v = .tuple #[dV M k', .int .i64 0] ∧ N = [dI 54 4 3 M k']) :
    CallT Tryd.prog base 28 [.pointer (some ⟨sb, 0, none⟩), .func (.func g) #[] #[], dV a j, dV b k] ([oI sb 65 (bC (.int .i64 0) c d m n)] ++ L) (fun v O' => ∃ k' : DK, v = dV M k' ∧ O' = [dI 54 4 3 M k', oI sb 65 (bC (.int .i64 0) c d m n)] ++ L) := by
  refine CallT.enter Tryd.func28 rfl Tryd.ntmps28 rfl ?_
  refine T.seq (T.region ?_)
  refine TO.loud rfl (l_box (v := (dV a j)) (cs := (dC a j)) rfl rfl (fun y1 => ?_))
  refine TO.loud rfl (l_box (v := (dV b k)) (cs := (dC b k)) rfl rfl (fun y2 => ?_))
  refine TO.loud rfl (l_alloc inf25 rfl (fun y3 => ?_))
  refine TO.nil (T.seq (T.seq (T.region ?_)))
  refine TO.quiet (q_move rfl) (TO.quiet (q_nilCheck rfl) (TO.quiet (q_fieldAddr Tryd.underlying59 rfl inf33 rfl rfl) (TO.quiet (q_load_box 3 Tryd.underlying33 rfl rfl rfl rfl) ?_)))
  refine TO.quiet (QT.toB (q_neq rfl rfl) (decide_eq_false (fun h => h rfl))) ?_
  refine TO.nil ?_
  refine T.cond0 rfl ?_
  refine T.skip (T.seq (T.region ?_))
  refine TO.loud rfl (l_alloc inf25 rfl (fun y4 => ?_))
  refine TO.nil (T.seq (T.region ?_))
  refine TO.quiet (q_move rfl) (TO.quiet (q_move rfl) (TO.quiet (q_load_boxAgg 3 Tryd.underlying25 rfl inf25 rfl rfl rfl) (TO.quiet (q_load_boxAgg 2 Tryd.underlying25 rfl inf25 rfl rfl rfl) ?_)))
  have hk21 := CallV.under (A := L) (B := [oI y4 25 [(.int .i64 0), (.int .i64 0), (.slice none 0 0), (.slice none 0 0)], oI y3 25 [(.int .i64 0), (.int .i64 0), (.slice none 0 0), (.slice none 0 0)], oI y2 25 (dC b k), oI y1 25 (dC a j), oI sb 65 (bC (.int .i64 0) c d m n)]) (O := ([oI y4 25 [(.int .i64 0), (.int .i64 0), (.slice none 0 0), (.slice none 0 0)], oI y3 25 [(.int .i64 0), (.int .i64 0), (.slice none 0 0), (.slice none 0 0)], oI y2 25 (dC b k), oI y1 25 (dC a j), oI sb 65 (bC (.int .i64 0) c d m n)] ++ L)) (CallV.of_fn (first := []) (args := [dV a j, dV b k]) (caps := []) hen (CallT.of_pure hop)) (by exact Sub.swap3 [] L [oI y4 25 [(.int .i64 0), (.int .i64 0), (.slice none 0 0), (.slice none 0 0)], oI y3 25 [(.int .i64 0), (.int .i64 0), (.slice none 0 0), (.slice none 0 0)], oI y2 25 (dC b k), oI y1 25 (dC a j), oI sb 65 (bC (.int .i64 0) c d m n)])
  refine TO.loud rfl (l_callG hk21 rfl rfl ?_)
  clear hk21
  rintro vr O' ⟨A1, rfl, N, rfl, k', rfl, rfl⟩
  refine TO.sub (O' := ([dI 54 4 3 M k', oI y4 25 [(.int .i64 0), (.int .i64 0), (.slice none 0 0), (.slice none 0 0)], oI y3 25 [(.int .i64 0), (.int .i64 0), (.slice none 0 0), (.slice none 0 0)], oI y2 25 (dC b k), oI y1 25 (dC a j), oI sb 65 (bC (.int .i64 0) c d m n)] ++ L)) (by exact Sub.swap3 [dI 54 4 3 M k'] [oI y4 25 [(.int .i64 0), (.int .i64 0), (.slice none 0 0), (.slice none 0 0)], oI y3 25 [(.int .i64 0), (.int .i64 0), (.slice none 0 0), (.slice none 0 0)], oI y2 25 (dC b k), oI y1 25 (dC a j), oI sb 65 (bC (.int .i64 0) c d m n)] L) ?_
  refine TO.quiet (q_move rfl) (TO.quiet (q_extract (vs := _) rfl rfl) (TO.quiet (q_extract (vs := _) rfl rfl) ?_))
  refine TO.loud rfl (l_store_box (v := (dV M k')) (vs := (dC M k')) 1 inf25 rfl rfl rfl rfl rfl rfl (by simp [putL]) ?_)
  refine TO.quiet (q_nilCheck rfl) (TO.quiet (q_fieldAddr Tryd.underlying59 rfl inf33 rfl rfl) ?_)
  refine TO.loud rfl (l_store_box (v := .int .i64 0) (vs := [(.int .i64 0)]) 5 inf33 rfl rfl rfl rfl rfl rfl (by simp [putL]) ?_)
  refine TO.nil (T.seq (T.region ?_))
  refine TO.quiet (q_load_boxAgg 1 Tryd.underlying25 rfl inf25 rfl rfl rfl) ?_
  refine TO.loud rfl (l_store_box (v := (dV M k')) (vs := (dC M k')) 2 inf25 rfl rfl rfl rfl rfl rfl (by simp [putL]) ?_)
  refine TO.nil (T.ret (Res.drop ?_))
  refine Res.cell1 (i := 2) Tryd.results28 Tryd.underlying25 rfl inf25 rfl rfl rfl ?_
  exact ⟨[dI 54 4 3 M k', oI sb 65 (bC (.int .i64 0) c d m n)] ++ L, (Sub.pickR [0, 4] [dI 54 4 3 M k', oI y4 25 (dC M k'), oI y3 25 (dC M k'), oI y2 25 (dC b k), oI y1 25 (dC a j), oI sb 65 (bC (.int .i64 0) c d m n)] L rfl rfl), k', rfl, rfl⟩
set_option maxHeartbeats 1000000 in
set_option maxRecDepth 20000 in
theorem not1Z (w : World) [Tab Tryd.prog w] {z a : DFA} {p : List Nat → Bool} (hz : Valid z) (ha : InL z a p) (b : DFA) (j k : DK) (hj : At w a j) {M : DFA} (hM : notD a = M) :
    PureT Tryd.prog 59 [dV a j, dV b k] w fun v N => ∃ k' : DK, v = .tuple #[dV M k', .int .i64 0] ∧ N = [dI 54 4 3 M k'] := by
  refine CallT.enter Tryd.func59 rfl Tryd.ntmps59 rfl ?_
  refine T.seq (T.region ?_)
  refine TO.loud rfl (l_box (v := (dV a j)) (cs := (dC a j)) rfl rfl (fun bx1 => ?_))
  refine TO.loud rfl (l_box (v := (dV b k)) (cs := (dC b k)) rfl rfl (fun bx2 => ?_))
  refine TO.loud rfl (l_alloc inf25 rfl (fun bx3 => ?_))
  refine TO.quiet (q_assign rfl) ?_
  refine TO.nil (T.seq (T.region ?_))
  refine TO.quiet (q_load_boxAgg 2 Tryd.underlying25 rfl inf25 rfl rfl rfl) ?_
  have hk7 := fun (w1 : World) (hI : Inv w [oI bx3 25 [(.int .i64 0), (.int .i64 0), (.slice none 0 0), (.slice none 0 0)], oI bx2 25 (dC b k), oI bx1 25 (dC a j)] w1) => (haveI := Inv.tab (P := Tryd.prog) hI; notZ0 w1 hz ha j (hI.atB hj) hM)
  refine TO.loud rfl (l_call ent60 (CallT.of_pure hk7) rfl ?_)
  clear hk7
  rintro vr O' ⟨N, rfl, k', rfl, rfl⟩
  refine TO.quiet (q_extract (vs := _) rfl rfl) (TO.quiet (q_extract (vs := _) rfl rfl) ?_)
  refine TO.loud rfl (l_store_box (v := (dV M k')) (vs := (dC M k')) 1 inf25 rfl rfl rfl rfl rfl rfl (by simp [putL]) ?_)
  refine TO.quiet (q_assign rfl) ?_
  refine TO.nil (T.ret (Res.drop ?_))
  refine Res.cell1b (.int .i64 0) (i := 1) Tryd.results59 Tryd.underlying25 rfl inf25 rfl rfl rfl rfl ?_
  exact ⟨[dI 54 4 3 M k'], (by exact Sub.k .z), k', rfl, rfl⟩
set_option maxHeartbeats 1000000 in
set_option maxRecDepth 20000 in
theorem min1Z (w : World) [Tab Tryd.prog w] (a b : DFA) (hv : Valid a) (j k : DK) (hj : At w a j) {M : DFA} (hM : minD a = M) :
    PureT Tryd.prog 44 [dV a j, dV b k] w fun v N => ∃ k' : DK, v = .tuple #[dV M k', .int .i64 0] ∧ N = [dI 54 4 3 M k'] := by
  refine CallT.enter Tryd.func44 rfl Tryd.ntmps44 rfl ?_
  refine T.seq (T.region ?_)
  refine TO.loud rfl (l_box (v := (dV a j)) (cs := (dC a j)) rfl rfl (fun bx1 => ?_))
  refine TO.loud rfl (l_box (v := (dV b k)) (cs := (dC b k)) rfl rfl (fun bx2 => ?_))
  refine TO.loud rfl (l_alloc inf25 rfl (fun bx3 => ?_))
  refine TO.quiet (q_assign rfl) ?_
  refine TO.nil (T.seq (T.region ?_))
  refine TO.quiet (q_load_boxAgg 2 Tryd.underlying25 rfl inf25 rfl rfl rfl) ?_
  have hk7 := fun (w1 : World) (hI : Inv w [oI bx3 25 [(.int .i64 0), (.int .i64 0), (.slice none 0 0), (.slice none 0 0)], oI bx2 25 (dC b k), oI bx1 25 (dC a j)] w1) => (haveI := Inv.tab (P := Tryd.prog) hI; minKE w1 a j (hI.atB hj) hv (Nat.lt_of_le_of_lt hv.n4 (by decide)) hM)
  refine TO.loud rfl (l_call ent17 (CallT.of_pure hk7) rfl ?_)
  clear hk7
  rintro vr O' ⟨N, rfl, k', rfl, rfl⟩
  refine TO.quiet (q_extract (vs := _) rfl rfl) (TO.quiet (q_extract (vs := _) rfl rfl) ?_)
  refine TO.loud rfl (l_store_box (v := (dV M k')) (vs := (dC M k')) 1 inf25 rfl rfl rfl rfl rfl rfl (by simp [putL]) ?_)
  refine TO.quiet (q_assign rfl) ?_
  refine TO.nil (T.ret (Res.drop ?_))
  refine Res.cell1b (.int .i64 0) (i := 1) Tryd.results44 Tryd.underlying25 rfl inf25 rfl rfl rfl rfl ?_
  exact ⟨[dI 54 4 3 M k'], (by exact Sub.k .z), k', rfl, rfl⟩
set_option maxHeartbeats 1000000 in
set_option maxRecDepth 20000 in
theorem notM (base : World) [Tab Tryd.prog base] (L : List Lx.Item) (sb : Nat) (c d : DFA) (m n : DK) {z a : DFA} {p : List Nat → Bool} (hz : Valid z) (ha : InL z a p) (j : DK) (hj : ∀ w1, Inv base L w1 → At w1 a j) {M : DFA} (hM : notD a = M) :
    CallT Tryd.prog base 39 [.pointer (some ⟨sb, 0, none⟩), dV a j] ([oI sb 65 (bC (.int .i64 0) c d m n)] ++ L) (fun v O' => ∃ k' : DK, v = dV M k' ∧ O' = [dI 54 4 3 M k', oI sb 65 (bC (.int .i64 0) c d m n)] ++ L) := by
  refine CallT.enter Tryd.func39 rfl Tryd.ntmps39 rfl ?_
  refine T.seq (T.region ?_)
  refine TO.loud rfl (l_box (v := (dV a j)) (cs := (dC a j)) rfl rfl (fun y1 => ?_))
  refine TO.loud rfl (l_alloc inf25 rfl (fun y2 => ?_))
  refine TO.nil (T.seq (T.region ?_))
  refine TO.quiet (q_move rfl) (TO.quiet (q_load_boxAgg 1 Tryd.underlying25 rfl inf25 rfl rfl rfl) (TO.quiet (q_load_boxAgg 1 Tryd.underlying25 rfl inf25 rfl rfl rfl) ?_))
  have hk8 := CallT.under (A := [oI sb 65 (bC (.int .i64 0) c d m n)] ++ L) (B := [oI y2 25 [(.int .i64 0), (.int .i64 0), (.slice none 0 0), (.slice none 0 0)], oI y1 25 (dC a j)]) (O := ([oI y2 25 [(.int .i64 0), (.int .i64 0), (.slice none 0 0), (.slice none 0 0)], oI y1 25 (dC a j), oI sb 65 (bC (.int .i64 0) c d m n)] ++ L)) (doB base L sb c d m n a a j j 59 ent59 (fun w1 hI => haveI := Inv.tab (P := Tryd.prog) hI; not1Z w1 hz ha a j j (hj w1 hI) hM)) (Sub.tr (Sub.swap3 [oI sb 65 (bC (.int .i64 0) c d m n)] L [oI y2 25 [(.int .i64 0), (.int .i64 0), (.slice none 0 0), (.slice none 0 0)], oI y1 25 (dC a j)]) (by exact Sub.pull [oI y2 25 [(.int .i64 0), (.int .i64 0), (.slice none 0 0), (.slice none 0 0)], oI y1 25 (dC a j)] _ (.k (.k .rf))))
  refine TO.loud rfl (l_call ent28 hk8 rfl ?_)
  clear hk8
  rintro vr O' ⟨A1, rfl, k', rfl, rfl⟩
  refine TO.sub (O' := ([dI 54 4 3 M k', oI sb 65 (bC (.int .i64 0) c d m n), oI y2 25 [(.int .i64 0), (.int .i64 0), (.slice none 0 0), (.slice none 0 0)], oI y1 25 (dC a j)] ++ L)) (by exact Sub.swap3 [dI 54 4 3 M k', oI sb 65 (bC (.int .i64 0) c d m n)] [oI y2 25 [(.int .i64 0), (.int .i64 0), (.slice none 0 0), (.slice none 0 0)], oI y1 25 (dC a j)] L) ?_
  refine TO.loud rfl (l_store_box (v := (dV M k')) (vs := (dC M k')) 2 inf25 rfl rfl rfl rfl rfl rfl (by simp [putL]) ?_)
  refine TO.nil (T.ret (Res.drop ?_))
  refine Res.cell1 (i := 2) Tryd.results39 Tryd.underlying25 rfl inf25 rfl rfl rfl ?_
  exact ⟨[dI 54 4 3 M k', oI sb 65 (bC (.int .i64 0) c d m n)] ++ L, (Sub.pickR [0, 0] [dI 54 4 3 M k', oI sb 65 (bC (.int .i64 0) c d m n), oI y2 25 (dC M k'), oI y1 25 (dC a j)] L rfl rfl), k', rfl, rfl⟩
set_option maxHeartbeats 1000000 in
set_option maxRecDepth 20000 in
theorem satM (base : World) [Tab Tryd.prog base] (L : List Lx.Item) (sb : Nat) (c d : DFA) (m n : DK) {z a g : DFA} {p q : List Nat → Bool} (hz : Valid z) (ha : InL z a p) (hg : InL z g q) (j k : DK) (hj : At base a j) (hk : At base g k) {M : DFA} (hM : satD a g = M) :
    CallT Tryd.prog base 53 [.pointer (some ⟨sb, 0, none⟩), cV a g j k] ([oI sb 65 (bC (.int .i64 0) c d m n)] ++ L) (fun v O' => ∃ k' : DK, v = dV M k' ∧ O' = [dI 54 4 3 M k', oI sb 65 (bC (.int .i64 0) c d m n)] ++ L) := by
  refine CallT.enter Tryd.func53 rfl Tryd.ntmps53 rfl ?_
  have hN := (InL.not hz ha).2
  obtain ⟨mN, eN⟩ : ∃ m, notD a = m := ⟨_, rfl⟩
  rw [eN] at hN
  refine T.seq (T.region ?_)
  refine TO.loud rfl (l_box (v := (cV a g j k)) (cs := (cC a g j k)) rfl rfl (fun y1 => ?_))
  refine TO.loud rfl (l_alloc inf25 rfl (fun y2 => ?_))
  refine TO.nil (T.seq (T.region ?_))
  refine TO.quiet (q_move rfl) (TO.quiet (q_fieldAddr Tryd.underlying27 rfl inf25 rfl rfl) (TO.quiet (q_load_part 1 (vs := (dC a j)) Tryd.underlying25 rfl inf25 rfl rfl rfl rfl) ?_))
  have hk9 := CallT.under (A := [oI sb 65 (bC (.int .i64 0) c d m n)] ++ L) (B := [oI y2 25 [(.int .i64 0), (.int .i64 0), (.slice none 0 0), (.slice none 0 0)], oI y1 27 (cC a g j k)]) (O := ([oI y2 25 [(.int .i64 0), (.int .i64 0), (.slice none 0 0), (.slice none 0 0)], oI y1 27 (cC a g j k), oI sb 65 (bC (.int .i64 0) c d m n)] ++ L)) (notM base L sb c d m n hz ha j (fun w1 hI => haveI := Inv.tab (P := Tryd.prog) hI; hI.atB hj) eN) (Sub.tr (Sub.swap3 [oI sb 65 (bC (.int .i64 0) c d m n)] L [oI y2 25 [(.int .i64 0), (.int .i64 0), (.slice none 0 0), (.slice none 0 0)], oI y1 27 (cC a g j k)]) (by exact Sub.pull [oI y2 25 [(.int .i64 0), (.int .i64 0), (.slice none 0 0), (.slice none 0 0)], oI y1 27 (cC a g j k)] _ (.k (.k .rf))))
  refine TO.loud rfl (l_call ent39 hk9 rfl ?_)
  clear hk9
  rintro vr O' ⟨A1, rfl, kN, rfl, rfl⟩
  refine TO.sub (O' := ([dI 54 4 3 mN kN, oI sb 65 (bC (.int .i64 0) c d m n), oI y2 25 [(.int .i64 0), (.int .i64 0), (.slice none 0 0), (.slice none 0 0)], oI y1 27 (cC a g j k)] ++ L)) (by exact Sub.swap3 [dI 54 4 3 mN kN, oI sb 65 (bC (.int .i64 0) c d m n)] [oI y2 25 [(.int .i64 0), (.int .i64 0), (.slice none 0 0), (.slice none 0 0)], oI y1 27 (cC a g j k)] L) ?_
  refine TO.loud rfl (l_alloc inf25 rfl (fun y3 => ?_))
  refine TO.loud rfl (l_store_box (v := (dV mN kN)) (vs := (dC mN kN)) 0 inf25 rfl rfl rfl rfl rfl rfl (by simp [putL]) ?_)
  refine TO.nil (T.seq (T.region ?_))
  refine TO.quiet (q_move rfl) (TO.quiet (q_fieldAddr Tryd.underlying27 rfl inf25 rfl rfl) (TO.quiet (q_load_part 4 (vs := (dC g k)) Tryd.underlying25 rfl inf25 rfl rfl rfl rfl) (TO.quiet (q_load_boxAgg 0 Tryd.underlying25 rfl inf25 rfl rfl rfl) ?_)))
  have hk14 := CallT.under (A := [oI sb 65 (bC (.int .i64 0) c d m n), dI 54 4 3 mN kN] ++ L) (B := [oI y3 25 (dC mN kN), oI y2 25 [(.int .i64 0), (.int .i64 0), (.slice none 0 0), (.slice none 0 0)], oI y1 27 (cC a g j k)]) (O := ([oI y3 25 (dC mN kN), dI 54 4 3 mN kN, oI sb 65 (bC (.int .i64 0) c d m n), oI y2 25 [(.int .i64 0), (.int .i64 0), (.slice none 0 0), (.slice none 0 0)], oI y1 27 (cC a g j k)] ++ L)) (doB base ([dI 54 4 3 mN kN] ++ L) sb c d m n g mN k kN 32 ent32 (fun w1 hI => haveI := Inv.tab (P := Tryd.prog) hI; orZ w1 hz hg hN k kN (hI.atB hk) (hI.at (k := kN) (List.mem_of_getElem? (i := 0) rfl)) (show opD orB g mN = M by rw [← hM, ← eN]; rfl))) (Sub.tr (Sub.swap3 [oI sb 65 (bC (.int .i64 0) c d m n), dI 54 4 3 mN kN] L [oI y3 25 (dC mN kN), oI y2 25 [(.int .i64 0), (.int .i64 0), (.slice none 0 0), (.slice none 0 0)], oI y1 27 (cC a g j k)]) (by exact Sub.pull [oI y3 25 (dC mN kN), dI 54 4 3 mN kN] _ (.pull [oI y3 25 (dC mN kN)] _ (.k (.k (.k .rf))))))
  refine TO.loud rfl (l_call ent28 hk14 rfl ?_)
  clear hk14
  rintro vr O' ⟨A1, rfl, k', rfl, rfl⟩
  refine TO.sub (O' := ([dI 54 4 3 M k', oI sb 65 (bC (.int .i64 0) c d m n), dI 54 4 3 mN kN, oI y3 25 (dC mN kN), oI y2 25 [(.int .i64 0), (.int .i64 0), (.slice none 0 0), (.slice none 0 0)], oI y1 27 (cC a g j k)] ++ L)) (by exact Sub.swap3 [dI 54 4 3 M k', oI sb 65 (bC (.int .i64 0) c d m n), dI 54 4 3 mN kN] [oI y3 25 (dC mN kN), oI y2 25 [(.int .i64 0), (.int .i64 0), (.slice none 0 0), (.slice none 0 0)], oI y1 27 (cC a g j k)] L) ?_
  refine TO.loud rfl (l_store_box (v := (dV M k')) (vs := (dC M k')) 4 inf25 rfl rfl rfl rfl rfl rfl (by simp [putL]) ?_)
  refine TO.nil (T.ret (Res.drop ?_))
  refine Res.cell1 (i := 4) Tryd.results53 Tryd.underlying25 rfl inf25 rfl rfl rfl ?_
  exact ⟨[dI 54 4 3 M k', oI sb 65 (bC (.int .i64 0) c d m n)] ++ L, (Sub.pickR [0, 0] [dI 54 4 3 M k', oI sb 65 (bC (.int .i64 0) c d m n), dI 54 4 3 mN kN, oI y3 25 (dC mN kN), oI y2 25 (dC M k'), oI y1 27 (cC a g j k)] L rfl rfl), k', rfl, rfl⟩
set_option maxHeartbeats 1000000 in
set_option maxRecDepth 20000 in
theorem ansS (base : World) [Tab Tryd.prog base] (L : List Lx.Item) (sb : Nat) (a : DFA) (hv : Valid a) (j : DK) (hj : ∀ w1, Inv base L w1 → At w1 a j) :
    CallT Tryd.prog base 29 [.pointer (some ⟨sb, 0, none⟩), dV a j] ([oI sb 59 [(.int .i64 0)]] ++ L) (fun v O' => ∃ res wb wc, LeastA a res ∧ v = .tuple #[.slice wb (res.getD []).length wc, .bool (!res.isSome), .int .i64 0] ∧ O' = [rowI wb wc 5 1 (byts (res.getD [])), oI sb 59 [(.int .i64 0)]] ++ L) := by
  refine CallT.enter Tryd.func29 rfl Tryd.ntmps29 rfl ?_
  refine T.seq (T.region ?_)
  refine TO.loud rfl (l_box (v := (dV a j)) (cs := (dC a j)) rfl rfl (fun y1 => ?_))
  refine TO.quiet (q_assign rfl) (TO.quiet (q_assign rfl) (TO.quiet (q_assign rfl) ?_))
  refine TO.nil (T.seq (T.seq (T.region ?_)))
  refine TO.quiet (q_move rfl) (TO.quiet (q_nilCheck rfl) (TO.quiet (q_fieldAddr Tryd.underlying59 rfl inf33 rfl rfl) (TO.quiet (q_load_box 1 Tryd.underlying33 rfl rfl rfl rfl) ?_)))
  refine TO.quiet (QT.toB (q_neq rfl rfl) (decide_eq_false (fun h => h rfl))) ?_
  refine TO.nil ?_
  refine T.cond0 rfl ?_
  refine T.skip (T.seq (T.region ?_))
  refine TO.quiet (q_load_boxAgg 0 Tryd.underlying25 rfl inf25 rfl rfl rfl) ?_
  have hk19 := fun (w1 : World) (hI : Inv base ([oI y1 25 (dC a j), oI sb 59 [(.int .i64 0)]] ++ L) w1) => (haveI := Inv.tab (P := Tryd.prog) hI; shoK w1 a j (hj w1 (hI.subp (Sub.appL [oI y1 25 (dC a j), oI sb 59 [(.int .i64 0)]] Sub.rf))) hv)
  refine TO.loud rfl (l_call ent51 (CallT.of_pure hk19) rfl ?_)
  clear hk19
  rintro vr O' ⟨N, rfl, res, wb, wc, hL, rfl, rfl⟩
  refine TO.quiet (q_move rfl) (TO.quiet (q_extract (vs := _) rfl rfl) (TO.quiet (q_extract (vs := _) rfl rfl) (TO.quiet (q_extract (vs := _) rfl rfl) ?_)))
  refine TO.quiet (q_assign rfl) (TO.quiet (q_assign rfl) (TO.quiet (q_assign rfl) ?_))
  refine TO.nil (T.seq (T.region ?_))
  refine TO.quiet (q_move rfl) (TO.quiet (q_move rfl) (TO.quiet (QT.toB (q_eql rfl rfl) (decide_eq_true rfl)) (TO.quiet (q_move rfl) ?_)))
  refine TO.guarded rfl rfl rfl (LT.of_quiet rfl rfl (q_move rfl) ?_)
  refine TO.guarded rfl rfl rfl (LT.of_quiet rfl rfl (q_not rfl) ?_)
  refine TO.quiet (q_pick1 rfl rfl) (TO.quiet (q_move rfl) (TO.quiet (q_assign rfl) (TO.quiet (q_assign rfl) ?_)))
  refine TO.quiet (q_assign rfl) ?_
  refine TO.nil (T.ret (Res.drop ?_))
  refine Res.three (.slice wb ((res.getD []).length) wc) (.bool (!res.isSome)) (.int .i64 0) Tryd.results29 rfl rfl rfl ?_
  exact ⟨[rowI wb wc 5 1 (byts (res.getD [])), oI sb 59 [(.int .i64 0)]] ++ L, (Sub.pickR [0, 1] [rowI wb wc 5 1 (byts (res.getD [])), oI y1 25 (dC a j), oI sb 59 [(.int .i64 0)]] L rfl rfl), res, wb, wc, hL, rfl, rfl⟩
set_option maxHeartbeats 1000000 in
set_option maxRecDepth 20000 in
theorem ansB (base : World) [Tab Tryd.prog base] (L : List Lx.Item) (sb : Nat) (c d : DFA) (m n : DK) (a : DFA) (hv : Valid a) (j : DK) (hj : ∀ w1, Inv base L w1 → At w1 a j) :
    CallT Tryd.prog base 29 [.pointer (some ⟨sb, 0, none⟩), dV a j] ([oI sb 65 (bC (.int .i64 0) c d m n)] ++ L) (fun v O' => ∃ res wb wc, LeastA a res ∧ v = .tuple #[.slice wb (res.getD []).length wc, .bool (!res.isSome), .int .i64 0] ∧ O' = [rowI wb wc 5 1 (byts (res.getD [])), oI sb 65 (bC (.int .i64 0) c d m n)] ++ L) := by
  refine CallT.enter Tryd.func29 rfl Tryd.ntmps29 rfl ?_
  refine T.seq (T.region ?_)
  refine TO.loud rfl (l_box (v := (dV a j)) (cs := (dC a j)) rfl rfl (fun y1 => ?_))
  refine TO.quiet (q_assign rfl) (TO.quiet (q_assign rfl) (TO.quiet (q_assign rfl) ?_))
  refine TO.nil (T.seq (T.seq (T.region ?_)))
  refine TO.quiet (q_move rfl) (TO.quiet (q_nilCheck rfl) (TO.quiet (q_fieldAddr Tryd.underlying59 rfl inf33 rfl rfl) (TO.quiet (q_load_box 1 Tryd.underlying33 rfl rfl rfl rfl) ?_)))
  refine TO.quiet (QT.toB (q_neq rfl rfl) (decide_eq_false (fun h => h rfl))) ?_
  refine TO.nil ?_
  refine T.cond0 rfl ?_
  refine T.skip (T.seq (T.region ?_))
  refine TO.quiet (q_load_boxAgg 0 Tryd.underlying25 rfl inf25 rfl rfl rfl) ?_
  have hk19 := fun (w1 : World) (hI : Inv base ([oI y1 25 (dC a j), oI sb 65 (bC (.int .i64 0) c d m n)] ++ L) w1) => (haveI := Inv.tab (P := Tryd.prog) hI; shoK w1 a j (hj w1 (hI.subp (Sub.appL [oI y1 25 (dC a j), oI sb 65 (bC (.int .i64 0) c d m n)] Sub.rf))) hv)
  refine TO.loud rfl (l_call ent51 (CallT.of_pure hk19) rfl ?_)
  clear hk19
  rintro vr O' ⟨N, rfl, res, wb, wc, hL, rfl, rfl⟩
  refine TO.quiet (q_move rfl) (TO.quiet (q_extract (vs := _) rfl rfl) (TO.quiet (q_extract (vs := _) rfl rfl) (TO.quiet (q_extract (vs := _) rfl rfl) ?_)))
  refine TO.quiet (q_assign rfl) (TO.quiet (q_assign rfl) (TO.quiet (q_assign rfl) ?_))
  refine TO.nil (T.seq (T.region ?_))
  refine TO.quiet (q_move rfl) (TO.quiet (q_move rfl) (TO.quiet (QT.toB (q_eql rfl rfl) (decide_eq_true rfl)) (TO.quiet (q_move rfl) ?_)))
  refine TO.guarded rfl rfl rfl (LT.of_quiet rfl rfl (q_move rfl) ?_)
  refine TO.guarded rfl rfl rfl (LT.of_quiet rfl rfl (q_not rfl) ?_)
  refine TO.quiet (q_pick1 rfl rfl) (TO.quiet (q_move rfl) (TO.quiet (q_assign rfl) (TO.quiet (q_assign rfl) ?_)))
  refine TO.quiet (q_assign rfl) ?_
  refine TO.nil (T.ret (Res.drop ?_))
  refine Res.three (.slice wb ((res.getD []).length) wc) (.bool (!res.isSome)) (.int .i64 0) Tryd.results29 rfl rfl rfl ?_
  exact ⟨[rowI wb wc 5 1 (byts (res.getD [])), oI sb 65 (bC (.int .i64 0) c d m n)] ++ L, (Sub.pickR [0, 1] [rowI wb wc 5 1 (byts (res.getD [])), oI y1 25 (dC a j), oI sb 65 (bC (.int .i64 0) c d m n)] L rfl rfl), res, wb, wc, hL, rfl, rfl⟩
set_option maxHeartbeats 1000000 in
set_option maxRecDepth 20000 in
theorem built (base : World) [Tab Tryd.prog base] (L : List Lx.Item) (sb : Nat) (c d : DFA) (m n : DK) (a g : DFA) (j k : DK) :
    CallT Tryd.prog base 40 [.pointer (some ⟨sb, 0, none⟩), dV a j, dV g k] ([oI sb 65 (bC (.int .i64 0) c d m n)] ++ L) (fun v O' => v = .tuple #[cV a g j k, .int .i64 0] ∧ O' = [oI sb 65 (bC (.int .i64 0) c d m n)] ++ L) := by
  refine CallT.enter Tryd.func40 rfl Tryd.ntmps40 rfl ?_
  refine T.seq (T.region ?_)
  refine TO.loud rfl (l_box (v := (dV a j)) (cs := (dC a j)) rfl rfl (fun y1 => ?_))
  refine TO.loud rfl (l_box (v := (dV g k)) (cs := (dC g k)) rfl rfl (fun y2 => ?_))
  refine TO.loud rfl (l_alloc inf27 rfl (fun y3 => ?_))
  refine TO.quiet (q_assign rfl) ?_
  refine TO.nil (T.seq (T.seq (T.region ?_)))
  refine TO.quiet (q_move rfl) (TO.quiet (q_nilCheck rfl) (TO.quiet (q_fieldAddr Tryd.underlying65 rfl inf59 rfl rfl) (TO.quiet (q_fieldAddr Tryd.underlying59 rfl inf33 rfl rfl) ?_)))
  refine TO.quiet (q_load_box 3 Tryd.underlying33 rfl rfl rfl rfl) (TO.quiet (QT.toB (q_neq rfl rfl) (decide_eq_false (fun h => h rfl))) ?_)
  refine TO.nil ?_
  refine T.cond0 rfl ?_
  refine T.skip (T.seq (T.region ?_))
  refine TO.quiet (q_load_boxAgg 2 Tryd.underlying25 rfl inf25 rfl rfl rfl) (TO.quiet (q_load_boxAgg 1 Tryd.underlying25 rfl inf25 rfl rfl rfl) (TO.quiet (q_build (cs := (cC a g j k)) plan27 inf27 (by kernel_rfl)) ?_))
  refine TO.loud rfl (l_store_box (v := (cV a g j k)) (vs := (cC a g j k)) 0 inf27 rfl rfl rfl rfl rfl rfl (by simp [putL]) ?_)
  refine TO.quiet (q_assign rfl) ?_
  refine TO.nil (T.ret (Res.drop ?_))
  refine Res.cell1b (.int .i64 0) (i := 0) Tryd.results40 Tryd.underlying27 rfl inf27 rfl rfl rfl rfl ?_
  exact ⟨[oI sb 65 (bC (.int .i64 0) c d m n)] ++ L, (Sub.pickR [3] [oI y3 27 (cC a g j k), oI y2 25 (dC g k), oI y1 25 (dC a j), oI sb 65 (bC (.int .i64 0) c d m n)] L rfl rfl), rfl, rfl⟩
set_option maxHeartbeats 1000000 in
set_option maxRecDepth 20000 in
theorem startC (w : World) [Tab Tryd.prog w] {z a1 g1 a2 g2 : DFA} {p1 q1 p2 q2 : List Nat → Bool} (hz : Valid z) (ha1 : InL z a1 p1) (hg1 : InL z g1 q1) (ha2 : InL z a2 p2) (hg2 : InL z g2 q2) (j1 k1 j2 k2 : DK) (hj1 : At w a1 j1) (hk1 : At w g1 k1) (hj2 : At w a2 j2) (hk2 : At w g2 k2) {S1 S2 : DFA} (e1 : satD a1 g1 = S1) (e2 : satD a2 g2 = S2) :
    PureT Tryd.prog 31 [cV a1 g1 j1 k1, cV a2 g2 j2 k2] w fun v N => ∃ (bp : Nat) (s1 s2 : DK), v = .pointer (some ⟨bp, 0, none⟩) ∧ N = [oI bp 65 (bC (.int .i64 0) S1 S2 s1 s2), dI 54 4 3 S1 s1, dI 54 4 3 S2 s2] := by
  refine CallT.enter Tryd.func31 rfl Tryd.ntmps31 rfl ?_
  refine T.seq (T.region ?_)
  refine TO.loud rfl (l_box (v := (cV a1 g1 j1 k1)) (cs := (cC a1 g1 j1 k1)) rfl rfl (fun y1 => ?_))
  refine TO.loud rfl (l_box (v := (cV a2 g2 j2 k2)) (cs := (cC a2 g2 j2 k2)) rfl rfl (fun y2 => ?_))
  refine TO.quiet (q_assign rfl) ?_
  refine TO.nil (T.seq (T.region ?_))
  refine TO.quiet (q_build plan65 inf65 rfl) ?_
  refine TO.loud rfl (l_box (v := (.agg #[(.int .i64 0), (.int .i64 0), (.int .i64 0), (.slice none 0 0), (.slice none 0 0), (.int .i64 0), (.int .i64 0), (.slice none 0 0), (.slice none 0 0)])) (cs := [(.int .i64 0), (.int .i64 0), (.int .i64 0), (.slice none 0 0), (.slice none 0 0), (.int .i64 0), (.int .i64 0), (.slice none 0 0), (.slice none 0 0)]) rfl rfl (fun y3 => ?_))
  refine TO.quiet (q_assign rfl) ?_
  refine TO.nil (T.seq (T.seq (T.region ?_)))
  refine TO.quiet (q_load_boxAgg 2 Tryd.underlying27 rfl inf27 rfl rfl rfl) (TO.quiet (q_load_boxAgg 1 Tryd.underlying27 rfl inf27 rfl rfl rfl) (TO.quiet (q_buildA (cs := [(.int .i64 a1.vars), (.int .i64 a1.start), (.slice j1.nb a1.next.length j1.nc), (.slice j1.fb a1.final.length j1.fc), (.int .i64 g1.vars), (.int .i64 g1.start), (.slice k1.nb g1.next.length k1.nc), (.slice k1.fb g1.final.length k1.fc), (.int .i64 a2.vars), (.int .i64 a2.start), (.slice j2.nb a2.next.length j2.nc), (.slice j2.fb a2.final.length j2.fc), (.int .i64 g2.vars), (.int .i64 g2.start), (.slice k2.nb g2.next.length k2.nc), (.slice k2.fb g2.final.length k2.fc)]) Tryd.underlying28 inf27 inf28 (by kernel_rfl)) (TO.quiet (q_move rfl) ?_)))
  refine TO.nil (T.block ?_)
  refine T.rounds 3 (T.round ?_)
  refine T.seq (T.region ?_)
  refine TO.quiet (QT.toB (q_lss rfl rfl) (b' := true) rfl) ?_
  refine TO.nil (T.seq ?_)
  refine T.cond1 rfl ?_
  refine T.skip (T.seq (T.block (T.seq (T.region ?_))))
  refine TO.quiet (q_indexA (i := 0) (vs := (cC a1 g1 j1 k1)) Tryd.underlying28 Tryd.underlying27 rfl inf27 rfl rfl (by decide) rfl) ?_
  refine TO.loud rfl (l_alloc inf27 rfl (fun y4 => ?_))
  refine TO.loud rfl (l_store_box (v := (cV a1 g1 j1 k1)) (vs := (cC a1 g1 j1 k1)) 0 inf27 rfl rfl rfl rfl rfl rfl (by simp [putL]) ?_)
  refine TO.nil (T.seq (T.region ?_))
  refine TO.quiet (q_move rfl) (TO.quiet (q_nilCheck rfl) (TO.quiet (q_fieldAddr Tryd.underlying65 rfl inf59 rfl rfl) (TO.quiet (q_fieldAddr Tryd.underlying59 rfl inf33 rfl rfl) ?_)))
  refine TO.quiet (q_load_box 1 Tryd.underlying33 rfl rfl rfl rfl) (TO.quiet (QT.toB (q_eql rfl rfl) (decide_eq_true rfl)) ?_)
  refine TO.nil ?_
  refine T.cond1 rfl ?_
  refine T.region ?_
  refine TO.quiet (q_move rfl) (TO.quiet (q_load_boxAgg 0 Tryd.underlying27 rfl inf27 rfl rfl rfl) ?_)
  have hk25 := fun (w1 : World) (hI : Inv w [oI y4 27 (cC a1 g1 j1 k1), oI y3 65 [(.int .i64 0), (.int .i64 0), (.int .i64 0), (.slice none 0 0), (.slice none 0 0), (.int .i64 0), (.int .i64 0), (.slice none 0 0), (.slice none 0 0)], oI y2 27 (cC a2 g2 j2 k2), oI y1 27 (cC a1 g1 j1 k1)] w1) => (haveI := Inv.tab (P := Tryd.prog) hI; (show PureT _ _ _ _ _ from by
      have h9 := conCheck w1 a1 g1 j1 k1 (hI.atB hj1) (hI.atB hk1) ha1.bds hg1.bds
      rw [cE_ok (checkD_zero.2 ha1.has.valid) (checkD_zero.2 hg1.has.valid) (by rw [ha1.has.vars, hg1.has.vars])] at h9
      exact h9))
  refine TO.loud rfl (l_call ent27 (CallT.of_pure hk25) rfl ?_)
  clear hk25
  rintro vr O' ⟨N, rfl, rfl, rfl⟩
  refine TO.quiet (q_nilCheck rfl) (TO.quiet (q_fieldAddr Tryd.underlying65 rfl inf59 rfl rfl) (TO.quiet (q_fieldAddr Tryd.underlying59 rfl inf33 rfl rfl) ?_))
  refine TO.loud rfl (l_store_box (v := .int .i64 0) (vs := [(.int .i64 0)]) 1 inf33 rfl rfl rfl rfl rfl rfl (by simp [putL]) ?_)
  refine TO.nil (T.region ?_)
  refine TO.quiet (QT.cast (q_add64 rfl rfl (by omega)) (v' := .int .i64 1) rfl) (TO.quiet (q_move rfl) ?_)
  refine TO.nil ?_
  refine T.round ?_
  refine T.seq (T.region ?_)
  refine TO.quiet (QT.toB (q_lss rfl rfl) (b' := true) rfl) ?_
  refine TO.nil (T.seq ?_)
  refine T.cond1 rfl ?_
  refine T.skip (T.seq (T.block (T.seq (T.region ?_))))
  refine TO.quiet (q_indexA (i := 1) (vs := (cC a2 g2 j2 k2)) Tryd.underlying28 Tryd.underlying27 rfl inf27 rfl rfl (by decide) rfl) ?_
  refine TO.loud rfl (l_alloc inf27 rfl (fun y5 => ?_))
  refine TO.loud rfl (l_store_box (v := (cV a2 g2 j2 k2)) (vs := (cC a2 g2 j2 k2)) 0 inf27 rfl rfl rfl rfl rfl rfl (by simp [putL]) ?_)
  refine TO.nil (T.seq (T.region ?_))
  refine TO.quiet (q_move rfl) (TO.quiet (q_nilCheck rfl) (TO.quiet (q_fieldAddr Tryd.underlying65 rfl inf59 rfl rfl) (TO.quiet (q_fieldAddr Tryd.underlying59 rfl inf33 rfl rfl) ?_)))
  refine TO.quiet (q_load_box 2 Tryd.underlying33 rfl rfl rfl rfl) (TO.quiet (QT.toB (q_eql rfl rfl) (decide_eq_true rfl)) ?_)
  refine TO.nil ?_
  refine T.cond1 rfl ?_
  refine T.region ?_
  refine TO.quiet (q_move rfl) (TO.quiet (q_load_boxAgg 0 Tryd.underlying27 rfl inf27 rfl rfl rfl) ?_)
  have hk25 := fun (w1 : World) (hI : Inv w [oI y5 27 (cC a2 g2 j2 k2), oI y4 27 (cC a1 g1 j1 k1), oI y3 65 [(.int .i64 0), (.int .i64 0), (.int .i64 0), (.slice none 0 0), (.slice none 0 0), (.int .i64 0), (.int .i64 0), (.slice none 0 0), (.slice none 0 0)], oI y2 27 (cC a2 g2 j2 k2), oI y1 27 (cC a1 g1 j1 k1)] w1) => (haveI := Inv.tab (P := Tryd.prog) hI; (show PureT _ _ _ _ _ from by
      have h9 := conCheck w1 a2 g2 j2 k2 (hI.atB hj2) (hI.atB hk2) ha2.bds hg2.bds
      rw [cE_ok (checkD_zero.2 ha2.has.valid) (checkD_zero.2 hg2.has.valid) (by rw [ha2.has.vars, hg2.has.vars])] at h9
      exact h9))
  refine TO.loud rfl (l_call ent27 (CallT.of_pure hk25) rfl ?_)
  clear hk25
  rintro vr O' ⟨N, rfl, rfl, rfl⟩
  refine TO.quiet (q_nilCheck rfl) (TO.quiet (q_fieldAddr Tryd.underlying65 rfl inf59 rfl rfl) (TO.quiet (q_fieldAddr Tryd.underlying59 rfl inf33 rfl rfl) ?_))
  refine TO.loud rfl (l_store_box (v := .int .i64 0) (vs := [(.int .i64 0)]) 2 inf33 rfl rfl rfl rfl rfl rfl (by simp [putL]) ?_)
  refine TO.nil (T.region ?_)
  refine TO.quiet (QT.cast (q_add64 rfl rfl (by omega)) (v' := .int .i64 2) rfl) (TO.quiet (q_move rfl) ?_)
  refine TO.nil ?_
  refine T.round ?_
  refine T.seq (T.region ?_)
  refine TO.quiet (QT.toB (q_lss rfl rfl) (b' := false) rfl) ?_
  refine TO.nil (T.seq ?_)
  refine T.cond0 rfl ?_
  refine T.exit ?_
  refine T.seq (T.seq (T.region ?_))
  refine TO.quiet (q_move rfl) (TO.quiet (q_nilCheck rfl) (TO.quiet (q_fieldAddr Tryd.underlying65 rfl inf59 rfl rfl) (TO.quiet (q_fieldAddr Tryd.underlying59 rfl inf33 rfl rfl) ?_)))
  refine TO.quiet (q_load_box 2 Tryd.underlying33 rfl rfl rfl rfl) (TO.quiet (QT.toB (q_eql rfl rfl) (decide_eq_true rfl)) (TO.quiet (q_move rfl) ?_))
  refine TO.guarded rfl rfl rfl (LT.of_quiet rfl rfl (q_fieldAddr Tryd.underlying27 rfl inf25 rfl rfl) ?_)
  refine TO.guarded rfl rfl rfl (LT.of_quiet rfl rfl (q_fieldAddr Tryd.underlying25 rfl inf3 rfl rfl) ?_)
  refine TO.guarded rfl rfl rfl (LT.of_quiet rfl rfl (q_load_box 4 Tryd.underlying3 rfl rfl rfl rfl) ?_)
  refine TO.guarded rfl rfl rfl (LT.of_quiet rfl rfl (q_fieldAddr Tryd.underlying27 rfl inf25 rfl rfl) ?_)
  refine TO.guarded rfl rfl rfl (LT.of_quiet rfl rfl (q_fieldAddr Tryd.underlying25 rfl inf3 rfl rfl) ?_)
  refine TO.guarded rfl rfl rfl (LT.of_quiet rfl rfl (q_load_box 3 Tryd.underlying3 rfl rfl rfl rfl) ?_)
  refine TO.guarded rfl rfl rfl (LT.of_quiet rfl rfl (QT.toB (q_neq rfl rfl) (decide_eq_false (fun h => h (by rw [ha1.has.vars, ha2.has.vars])))) ?_)
  refine TO.quiet (q_pick1 rfl rfl) ?_
  refine TO.nil ?_
  refine T.cond0 rfl ?_
  refine T.skip (T.seq (T.region ?_))
  refine TO.quiet (q_move rfl) (TO.quiet (q_nilCheck rfl) (TO.quiet (q_fieldAddr Tryd.underlying65 rfl inf59 rfl rfl) (TO.quiet (q_makeFunc) ?_)))
  refine TO.quiet (q_assign rfl) ?_
  refine TO.nil (T.seq (T.region ?_))
  refine TO.quiet (q_move rfl) (TO.quiet (q_move rfl) (TO.quiet (q_load_boxAgg 4 Tryd.underlying27 rfl inf27 rfl rfl rfl) ?_))
  have hk56 := CallV.under (A := [oI y3 65 (bC (.int .i64 0) noD noD k00 k00)]) (B := [oI y5 27 (cC a2 g2 j2 k2), oI y4 27 (cC a1 g1 j1 k1), oI y2 27 (cC a2 g2 j2 k2), oI y1 27 (cC a1 g1 j1 k1)]) (O := [oI y5 27 (cC a2 g2 j2 k2), oI y4 27 (cC a1 g1 j1 k1), oI y3 65 [(.int .i64 0), (.int .i64 0), (.int .i64 0), (.slice none 0 0), (.slice none 0 0), (.int .i64 0), (.int .i64 0), (.slice none 0 0), (.slice none 0 0)], oI y2 27 (cC a2 g2 j2 k2), oI y1 27 (cC a1 g1 j1 k1)]) (CallV.of_fn (first := [(.pointer (some ⟨y3, 0, none⟩))]) (args := [cV a1 g1 j1 k1]) (caps := []) ent53 (satM w [] y3 noD noD k00 k00 hz ha1 hg1 j1 k1 hj1 hk1 e1)) (by exact Sub.pull [oI y5 27 (cC a2 g2 j2 k2), oI y4 27 (cC a1 g1 j1 k1)] _ (.k (.k (.k (.k .z)))))
  refine TO.loud rfl (l_callG hk56 rfl rfl ?_)
  clear hk56
  rintro vr O' ⟨A1, rfl, s1, rfl, rfl⟩
  refine TO.quiet (q_nilCheck rfl) (TO.quiet (q_fieldAddr Tryd.underlying65 rfl inf25 rfl rfl) ?_)
  refine TO.loud rfl (l_store_box (v := (dV S1 s1)) (vs := (dC S1 s1)) 1 inf25 rfl rfl rfl rfl rfl rfl (by simp [putL]) ?_)
  refine TO.nil (T.seq (T.region ?_))
  refine TO.quiet (q_move rfl) (TO.quiet (q_move rfl) (TO.quiet (q_load_boxAgg 4 Tryd.underlying27 rfl inf27 rfl rfl rfl) ?_))
  have hk62 := CallV.under (A := [oI y3 65 (bC (.int .i64 0) S1 noD s1 k00)]) (B := [dI 54 4 3 S1 s1, oI y5 27 (cC a2 g2 j2 k2), oI y4 27 (cC a1 g1 j1 k1), oI y2 27 (cC a2 g2 j2 k2), oI y1 27 (cC a1 g1 j1 k1)]) (O := [dI 54 4 3 S1 s1, oI y3 65 (bC (.int .i64 0) S1 noD s1 k00), oI y5 27 (cC a2 g2 j2 k2), oI y4 27 (cC a1 g1 j1 k1), oI y2 27 (cC a2 g2 j2 k2), oI y1 27 (cC a1 g1 j1 k1)]) (CallV.of_fn (first := [(.pointer (some ⟨y3, 0, none⟩))]) (args := [cV a2 g2 j2 k2]) (caps := []) ent53 (satM w [] y3 S1 noD s1 k00 hz ha2 hg2 j2 k2 hj2 hk2 e2)) (by exact Sub.pull [dI 54 4 3 S1 s1] _ (.k (.k (.k (.k (.k .z))))))
  refine TO.loud rfl (l_callG hk62 rfl rfl ?_)
  clear hk62
  rintro vr O' ⟨A1, rfl, s2, rfl, rfl⟩
  refine TO.quiet (q_nilCheck rfl) (TO.quiet (q_fieldAddr Tryd.underlying65 rfl inf25 rfl rfl) ?_)
  refine TO.loud rfl (l_store_box (v := (dV S2 s2)) (vs := (dC S2 s2)) 1 inf25 rfl rfl rfl rfl rfl rfl (by simp [putL]) ?_)
  refine TO.nil (T.seq (T.region ?_))
  refine TO.quiet (q_move rfl) (TO.quiet (q_assign rfl) ?_)
  refine TO.nil (T.ret (Res.drop ?_))
  refine Res.one (.pointer (some ⟨y3, 0, none⟩)) Tryd.results31 rfl ?_
  exact ⟨[oI y3 65 (bC (.int .i64 0) S1 S2 s1 s2), dI 54 4 3 S1 s1, dI 54 4 3 S2 s2], (Sub.pick [1, 1, 0] rfl), _, s1, s2, rfl, rfl⟩
end Go.Proofs.YtnpehjpookcfkaaDoor


namespace Go.Proofs.YtnpehjpookcfkaaDoor
open Go.Lx Go.RowKit
set_option linter.unusedVariables false
set_option linter.unusedSimpArgs false
set_option maxHeartbeats 8000000 in
set_option maxRecDepth 20000 in
theorem implC (w : World) [Tab Tryd.prog w] {z x a g : DFA} {px p q : List Nat → Bool} (hz : Valid z) (hx : InL z x px) (ha : InL z a p) (hg : InL z g q) (i j k : DK) (hi : At w x i) (hj : At w a j) (hk : At w g k) :
    PureT Tryd.prog 12 [dV x i, cV a g j k] w fun v N => ∃ res wb wc, LeastA (opD minusB (opD andB x a) g) res ∧ v = .tuple #[.slice wb (res.getD []).length wc, .bool (!res.isSome), .int .i64 0] ∧ N = [rowI wb wc 5 1 (byts (res.getD []))] := by
  refine CallT.enter Tryd.func12 rfl Tryd.ntmps12 rfl ?_
  have hm1 := (InL.op (f := andB) hz hx ha).2
  obtain ⟨m1, em1⟩ : ∃ m, opD andB x a = m := ⟨_, rfl⟩
  rw [em1] at hm1
  have hm2 := (InL.op (f := minusB) hz hm1 hg).2
  obtain ⟨m2, em2⟩ : ∃ m, opD minusB m1 g = m := ⟨_, rfl⟩
  rw [em2] at hm2
  refine T.seq (T.region ?_)
  refine TO.loud rfl (l_box (v := (dV x i)) (cs := (dC x i)) rfl rfl (fun y1 => ?_))
  refine TO.loud rfl (l_box (v := (cV a g j k)) (cs := (cC a g j k)) rfl rfl (fun y2 => ?_))
  refine TO.quiet (q_assign rfl) (TO.quiet (q_assign rfl) (TO.quiet (q_assign rfl) ?_))
  refine TO.nil (T.seq (T.seq (T.region ?_)))
  refine TO.quiet (q_load_boxAgg 1 Tryd.underlying25 rfl inf25 rfl rfl rfl) ?_
  have hk12 := fun (w1 : World) (hI : Inv w [oI y2 27 (cC a g j k), oI y1 25 (dC x i)] w1) => (haveI := Inv.tab (P := Tryd.prog) hI; (show PureT _ _ _ _ _ from by
      have h9 := subsetCheck w1 x i.nb i.fb i.nc i.fc (vals i.qs) (hI.dfa hi) hx.bds.1 hx.bds.2.1 hx.bds.2.2
      rw [checkD_zero.2 hx.has.valid] at h9
      exact h9))
  refine TO.loud rfl (l_call ent26 (CallT.of_pure hk12) rfl ?_)
  clear hk12
  rintro vr O' ⟨N, rfl, rfl, rfl⟩
  refine TO.quiet (q_assign rfl) ?_
  refine TO.nil (T.seq (T.region ?_))
  refine TO.quiet (q_move rfl) (TO.quiet (QT.toB (q_neq rfl rfl) (decide_eq_false (fun h => h rfl))) ?_)
  refine TO.nil ?_
  refine T.cond0 rfl ?_
  refine T.skip (T.seq (T.seq (T.region ?_)))
  refine TO.quiet (q_load_boxAgg 0 Tryd.underlying27 rfl inf27 rfl rfl rfl) ?_
  have hk17 := fun (w1 : World) (hI : Inv w [oI y2 27 (cC a g j k), oI y1 25 (dC x i)] w1) => (haveI := Inv.tab (P := Tryd.prog) hI; (show PureT _ _ _ _ _ from by
      have h9 := conCheck w1 a g j k (hI.atB hj) (hI.atB hk) ha.bds hg.bds
      rw [cE_ok (checkD_zero.2 ha.has.valid) (checkD_zero.2 hg.has.valid) (by rw [ha.has.vars, hg.has.vars])] at h9
      exact h9))
  refine TO.loud rfl (l_call ent27 (CallT.of_pure hk17) rfl ?_)
  clear hk17
  rintro vr O' ⟨N, rfl, rfl, rfl⟩
  refine TO.quiet (q_assign rfl) ?_
  refine TO.nil (T.seq (T.region ?_))
  refine TO.quiet (q_move rfl) (TO.quiet (QT.toB (q_neq rfl rfl) (decide_eq_false (fun h => h rfl))) ?_)
  refine TO.nil ?_
  refine T.cond0 rfl ?_
  refine T.skip (T.seq (T.seq (T.region ?_)))
  refine TO.quiet (q_fieldAddr Tryd.underlying25 rfl inf3 rfl rfl) (TO.quiet (q_load_box 1 Tryd.underlying3 rfl rfl rfl rfl) (TO.quiet (q_fieldAddr Tryd.underlying27 rfl inf25 rfl rfl) (TO.quiet (q_fieldAddr Tryd.underlying25 rfl inf3 rfl rfl) ?_)))
  refine TO.quiet (q_load_box 0 Tryd.underlying3 rfl rfl rfl rfl) (TO.quiet (QT.toB (q_neq rfl rfl) (decide_eq_false (fun h => h (by rw [hx.has.vars, ha.has.vars])))) ?_)
  refine TO.nil ?_
  refine T.cond0 rfl ?_
  refine T.skip (T.seq (T.region ?_))
  refine TO.quiet (q_build plan59 inf59 rfl) ?_
  refine TO.loud rfl (l_box (v := (.agg #[(.int .i64 0)])) (cs := [(.int .i64 0)]) rfl rfl (fun y3 => ?_))
  refine TO.quiet (q_assign rfl) ?_
  refine TO.nil (T.seq (T.region ?_))
  refine TO.quiet (q_move rfl) (TO.quiet (q_load_boxAgg 2 Tryd.underlying25 rfl inf25 rfl rfl rfl) (TO.quiet (q_fieldAddr Tryd.underlying27 rfl inf25 rfl rfl) (TO.quiet (q_load_part 1 (vs := (dC a j)) Tryd.underlying25 rfl inf25 rfl rfl rfl rfl) ?_)))
  have hk33 := CallT.under (A := [oI y3 59 [(.int .i64 0)]]) (B := [oI y2 27 (cC a g j k), oI y1 25 (dC x i)]) (O := [oI y3 59 [(.int .i64 0)], oI y2 27 (cC a g j k), oI y1 25 (dC x i)]) (doS w [] y3 x a i j 25 ent25 (fun w1 hI => haveI := Inv.tab (P := Tryd.prog) hI; andZ w1 hz hx ha i j (hI.atB hi) (hI.atB hj) em1)) (by exact Sub.rf)
  refine TO.loud rfl (l_call ent28 hk33 rfl ?_)
  clear hk33
  rintro vr O' ⟨A1, rfl, k1, rfl, rfl⟩
  
  refine TO.loud rfl (l_alloc inf25 rfl (fun y4 => ?_))
  refine TO.loud rfl (l_store_box (v := (dV m1 k1)) (vs := (dC m1 k1)) 0 inf25 rfl rfl rfl rfl rfl rfl (by simp [putL]) ?_)
  refine TO.nil (T.seq (T.region ?_))
  refine TO.quiet (q_move rfl) (TO.quiet (q_move rfl) (TO.quiet (q_load_boxAgg 0 Tryd.underlying25 rfl inf25 rfl rfl rfl) (TO.quiet (q_fieldAddr Tryd.underlying27 rfl inf25 rfl rfl) ?_)))
  refine TO.quiet (q_load_part 3 (vs := (dC g k)) Tryd.underlying25 rfl inf25 rfl rfl rfl rfl) ?_
  have hk39 := CallT.under (A := [oI y3 59 [(.int .i64 0)], dI 54 4 3 m1 k1]) (B := [oI y4 25 (dC m1 k1), oI y2 27 (cC a g j k), oI y1 25 (dC x i)]) (O := [oI y4 25 (dC m1 k1), dI 54 4 3 m1 k1, oI y3 59 [(.int .i64 0)], oI y2 27 (cC a g j k), oI y1 25 (dC x i)]) (doS w [dI 54 4 3 m1 k1] y3 m1 g k1 k 30 ent30 (fun w1 hI => haveI := Inv.tab (P := Tryd.prog) hI; minusZ w1 hz hm1 hg k1 k (hI.at (k := k1) (List.mem_of_getElem? (i := 0) rfl)) (hI.atB hk) em2)) (by exact Sub.pull [oI y4 25 (dC m1 k1), dI 54 4 3 m1 k1] _ (.pull [oI y4 25 (dC m1 k1)] _ (.k (.k (.k .z)))))
  refine TO.loud rfl (l_call ent28 hk39 rfl ?_)
  clear hk39
  rintro vr O' ⟨A1, rfl, k2, rfl, rfl⟩
  
  have hk40 := CallT.under (A := [oI y3 59 [(.int .i64 0)], dI 54 4 3 m2 k2]) (B := [dI 54 4 3 m1 k1, oI y4 25 (dC m1 k1), oI y2 27 (cC a g j k), oI y1 25 (dC x i)]) (O := [dI 54 4 3 m2 k2, oI y3 59 [(.int .i64 0)], dI 54 4 3 m1 k1, oI y4 25 (dC m1 k1), oI y2 27 (cC a g j k), oI y1 25 (dC x i)]) (ansS w [dI 54 4 3 m2 k2] y3 m2 hm2.has.valid k2 (fun w1 hI => haveI := Inv.tab (P := Tryd.prog) hI; (hI.at (k := k2) (List.mem_of_getElem? (i := 0) rfl)))) (by exact Sub.pull [dI 54 4 3 m2 k2] _ (.k (.k (.k (.k (.k .z))))))
  refine TO.loud rfl (l_call ent29 hk40 rfl ?_)
  clear hk40
  rintro vr O' ⟨A1, rfl, res, wb, wc, hL, rfl, rfl⟩
  refine TO.quiet (q_extract (vs := _) rfl rfl) (TO.quiet (q_extract (vs := _) rfl rfl) (TO.quiet (q_extract (vs := _) rfl rfl) (TO.quiet (q_assign rfl) ?_)))
  refine TO.quiet (q_assign rfl) (TO.quiet (q_assign rfl) ?_)
  refine TO.nil (T.ret (Res.drop ?_))
  refine Res.three (.slice wb ((res.getD []).length) wc) (.bool (!res.isSome)) (.int .i64 0) Tryd.results12 rfl rfl rfl ?_
  subst em2
  subst em1
  exact ⟨[rowI wb wc 5 1 (byts (res.getD []))], (Sub.pick [0] rfl), res, wb, wc, hL, rfl, rfl⟩
set_option maxHeartbeats 8000000 in
set_option maxRecDepth 20000 in
theorem refC (w : World) [Tab Tryd.prog w] {z a b c d : DFA} {p q p2 q2 : List Nat → Bool} (hz : Valid z) (ha : InL z a p) (hb : InL z b q) (hc : InL z c p2) (hd : InL z d q2) (j1 j2 j3 j4 : DK) (hj1 : At w a j1) (hj2 : At w b j2) (hj3 : At w c j3) (hj4 : At w d j4) :
    PureT Tryd.prog 13 [cV a b j1 j2, cV c d j3 j4] w fun v N => ∃ res wb wc, LeastA (opD orB (opD minusB c a) (opD minusB (satD a b) (satD c d))) res ∧ v = .tuple #[.slice wb (res.getD []).length wc, .bool (!res.isSome), .int .i64 0] ∧ N = [rowI wb wc 5 1 (byts (res.getD []))] := by
  refine CallT.enter Tryd.func13 rfl Tryd.ntmps13 rfl ?_
  have hS1 := (InL.sat hz ha hb).2
  obtain ⟨S1, eS1⟩ : ∃ m, satD a b = m := ⟨_, rfl⟩
  rw [eS1] at hS1
  have hS2 := (InL.sat hz hc hd).2
  obtain ⟨S2, eS2⟩ : ∃ m, satD c d = m := ⟨_, rfl⟩
  rw [eS2] at hS2
  have hm1 := (InL.op (f := minusB) hz hc ha).2
  obtain ⟨m1, em1⟩ : ∃ m, opD minusB c a = m := ⟨_, rfl⟩
  rw [em1] at hm1
  have hm2 := (InL.op (f := minusB) hz hS1 hS2).2
  obtain ⟨m2, em2⟩ : ∃ m, opD minusB S1 S2 = m := ⟨_, rfl⟩
  rw [em2] at hm2
  have hm3 := (InL.op (f := orB) hz hm1 hm2).2
  obtain ⟨m3, em3⟩ : ∃ m, opD orB m1 m2 = m := ⟨_, rfl⟩
  rw [em3] at hm3
  refine T.seq (T.region ?_)
  refine TO.loud rfl (l_box (v := (cV a b j1 j2)) (cs := (cC a b j1 j2)) rfl rfl (fun y1 => ?_))
  refine TO.loud rfl (l_box (v := (cV c d j3 j4)) (cs := (cC c d j3 j4)) rfl rfl (fun y2 => ?_))
  refine TO.quiet (q_assign rfl) (TO.quiet (q_assign rfl) (TO.quiet (q_assign rfl) ?_))
  refine TO.nil (T.seq (T.region ?_))
  refine TO.quiet (q_load_boxAgg 1 Tryd.underlying27 rfl inf27 rfl rfl rfl) (TO.quiet (q_load_boxAgg 0 Tryd.underlying27 rfl inf27 rfl rfl rfl) ?_)
  have hk12 := fun (w1 : World) (hI : Inv w [oI y2 27 (cC c d j3 j4), oI y1 27 (cC a b j1 j2)] w1) => (haveI := Inv.tab (P := Tryd.prog) hI; startC w1 hz ha hb hc hd j1 j2 j3 j4 (hI.atB hj1) (hI.atB hj2) (hI.atB hj3) (hI.atB hj4) eS1 eS2)
  refine TO.loud rfl (l_call ent31 (CallT.of_pure hk12) rfl ?_)
  clear hk12
  rintro vr O' ⟨N, rfl, bp, s1, s2, rfl, rfl⟩
  refine TO.quiet (q_assign rfl) ?_
  refine TO.nil ?_
  refine T.cut (fun ρ O => ∃ (b8 : Nat) (k1 : DK), O = [oI b8 25 (dC m1 k1), dI 54 4 3 m1 k1, oI bp 65 (bC (.int .i64 0) S1 S2 s1 s2), dI 54 4 3 S1 s1, dI 54 4 3 S2 s2, oI y2 27 (cC c d j3 j4), oI y1 27 (cC a b j1 j2)] ∧ Heads [(0, (cV a b j1 j2)), (1, (cV c d j3 j4)), (2, (.pointer (some ⟨y1, 0, none⟩))), (3, (.pointer (some ⟨y2, 0, none⟩))), (4, (.slice none 0 0)), (5, .bool false), (6, .int .i64 0), (7, (.pointer (some ⟨bp, 0, none⟩))), (8, (.pointer (some ⟨b8, 0, none⟩)))] ρ) ?_ ?_
  · refine T.treeT [oI bp 65 (bC (.int .i64 0) S1 S2 s1 s2), dI 54 4 3 S1 s1, dI 54 4 3 S2 s2, oI y2 27 (cC c d j3 j4), oI y1 27 (cC a b j1 j2)] [9] 10 mixed rfl (by exact Sub.rf) (fun _ _ _ h => h) ?_
    refine RO.quietTT 0 rfl (by kernel_rfl) (q_move rfl) ?_
    refine RO.quietTT 1 rfl (by kernel_rfl) (q_nilCheck rfl) ?_
    refine RO.quietTT 2 rfl (by kernel_rfl) (q_fieldAddr Tryd.underlying65 rfl inf59 rfl rfl) ?_
    refine RO.quietTT 3 rfl (by kernel_rfl) (q_fieldAddr Tryd.underlying27 rfl inf25 rfl rfl) ?_
    refine RO.quietTT 4 rfl (by kernel_rfl) (q_load_part 3 (vs := (dC c j3)) Tryd.underlying25 rfl inf25 rfl rfl rfl rfl) ?_
    refine RO.quietTT 5 rfl (by kernel_rfl) (q_fieldAddr Tryd.underlying27 rfl inf25 rfl rfl) ?_
    refine RO.quietTT 6 rfl (by kernel_rfl) (q_load_part 4 (vs := (dC a j1)) Tryd.underlying25 rfl inf25 rfl rfl rfl rfl) ?_
    have hk20 := CallT.under (A := [oI bp 65 (bC (.int .i64 0) S1 S2 s1 s2)]) (B := [dI 54 4 3 S1 s1, dI 54 4 3 S2 s2, oI y2 27 (cC c d j3 j4), oI y1 27 (cC a b j1 j2)]) (O := [oI bp 65 (bC (.int .i64 0) S1 S2 s1 s2), dI 54 4 3 S1 s1, dI 54 4 3 S2 s2, oI y2 27 (cC c d j3 j4), oI y1 27 (cC a b j1 j2)]) (doB w [] bp S1 S2 s1 s2 c a j3 j1 30 ent30 (fun w1 hI => haveI := Inv.tab (P := Tryd.prog) hI; minusZ w1 hz hc ha j3 j1 (hI.atB hj3) (hI.atB hj1) em1)) (by exact Sub.rf)
    refine RO.forkT [7, 8] (by kernel_rfl) rfl ⟨⟨_, rfl, rfl, l_call ent28 hk20 rfl ?_⟩, ⟨_, rfl, rfl, l_alloc inf25 rfl (fun b8 => ⟨.inr (by exact Sub.d (.k (.k (.k (.k (.k .z)))))), ?_⟩)⟩, trivial⟩ (by kernel_rfl)
    · clear hk20
      rintro vr O' ⟨A1, rfl, k1, rfl, rfl⟩
      
      refine ⟨.inr (by exact Sub.d (.k (.k (.k (.k (.k .z)))))), ?_⟩
      refine RO.forkT [8] (by kernel_rfl) rfl ⟨⟨_, rfl, rfl, l_alloc inf25 rfl (fun b8 => ⟨.inr (by exact Sub.d (.d (.k (.k (.k (.k (.k .z))))))), ?_⟩)⟩, trivial⟩ (by kernel_rfl)
      refine RO.forkT [9] (by kernel_rfl) rfl ⟨⟨_, rfl, rfl, l_store_box (v := (dV m1 k1)) (vs := (dC m1 k1)) 0 inf25 rfl rfl rfl rfl rfl rfl (by simp [putL]) ⟨.inl (by decide), ?_⟩⟩, trivial⟩ (by kernel_rfl)
      exact RO.fin (by kernel_rfl) ⟨b8, k1, rfl, ⟨rfl, rfl, rfl, rfl, rfl, rfl, rfl, rfl, rfl, trivial⟩⟩ (Sub.pick [0, 0, 0, 0, 0, 0, 0] rfl)
    have hk20 := CallT.under (A := [oI bp 65 (bC (.int .i64 0) S1 S2 s1 s2)]) (B := [oI b8 25 [(.int .i64 0), (.int .i64 0), (.slice none 0 0), (.slice none 0 0)], dI 54 4 3 S1 s1, dI 54 4 3 S2 s2, oI y2 27 (cC c d j3 j4), oI y1 27 (cC a b j1 j2)]) (O := [oI b8 25 [(.int .i64 0), (.int .i64 0), (.slice none 0 0), (.slice none 0 0)], oI bp 65 (bC (.int .i64 0) S1 S2 s1 s2), dI 54 4 3 S1 s1, dI 54 4 3 S2 s2, oI y2 27 (cC c d j3 j4), oI y1 27 (cC a b j1 j2)]) (doB w [] bp S1 S2 s1 s2 c a j3 j1 30 ent30 (fun w1 hI => haveI := Inv.tab (P := Tryd.prog) hI; minusZ w1 hz hc ha j3 j1 (hI.atB hj3) (hI.atB hj1) em1)) (by exact Sub.pull [oI b8 25 [(.int .i64 0), (.int .i64 0), (.slice none 0 0), (.slice none 0 0)]] _ (.k (.k (.k (.k (.k .z))))))
    refine RO.forkT [7] (by kernel_rfl) rfl ⟨⟨_, rfl, rfl, l_call ent28 hk20 rfl ?_⟩, trivial⟩ (by kernel_rfl)
    clear hk20
    rintro vr O' ⟨A1, rfl, k1, rfl, rfl⟩
    
    refine ⟨.inr (by exact Sub.d (.k (.d (.k (.k (.k (.k .z))))))), ?_⟩
    refine RO.forkT [9] (by kernel_rfl) rfl ⟨⟨_, rfl, rfl, l_store_box (v := (dV m1 k1)) (vs := (dC m1 k1)) 2 inf25 rfl rfl rfl rfl rfl rfl (by simp [putL]) ⟨.inl (by decide), ?_⟩⟩, trivial⟩ (by kernel_rfl)
    exact RO.fin (by kernel_rfl) ⟨b8, k1, rfl, ⟨rfl, rfl, rfl, rfl, rfl, rfl, rfl, rfl, rfl, trivial⟩⟩ (Sub.pick [2, 0, 0, 0, 0, 0, 0] rfl)
  rintro ρ O ⟨b8, k1, rfl, hH⟩
  obtain ⟨ρ0, rfl⟩ := hH.elim
  clear hH
  refine T.cut (fun ρ O => ∃ (b9 : Nat) (k2 : DK), O = [oI b9 25 (dC m2 k2), dI 54 4 3 m2 k2, oI b8 25 (dC m1 k1), dI 54 4 3 m1 k1, oI bp 65 (bC (.int .i64 0) S1 S2 s1 s2), dI 54 4 3 S1 s1, dI 54 4 3 S2 s2, oI y2 27 (cC c d j3 j4), oI y1 27 (cC a b j1 j2)] ∧ Heads [(0, (cV a b j1 j2)), (1, (cV c d j3 j4)), (2, (.pointer (some ⟨y1, 0, none⟩))), (3, (.pointer (some ⟨y2, 0, none⟩))), (4, (.slice none 0 0)), (5, .bool false), (6, .int .i64 0), (7, (.pointer (some ⟨bp, 0, none⟩))), (8, (.pointer (some ⟨b8, 0, none⟩))), (9, (.pointer (some ⟨b9, 0, none⟩)))] ρ) ?_ ?_
  · refine T.treeT [oI b8 25 (dC m1 k1), dI 54 4 3 m1 k1, oI bp 65 (bC (.int .i64 0) S1 S2 s1 s2), dI 54 4 3 S1 s1, dI 54 4 3 S2 s2, oI y2 27 (cC c d j3 j4), oI y1 27 (cC a b j1 j2)] [13] 14 mixed rfl (by exact Sub.rf) (fun _ _ _ h => h) ?_
    refine RO.quietTT 0 rfl (by kernel_rfl) (q_move rfl) ?_
    refine RO.quietTT 1 rfl (by kernel_rfl) (q_nilCheck rfl) ?_
    refine RO.quietTT 2 rfl (by kernel_rfl) (q_fieldAddr Tryd.underlying65 rfl inf59 rfl rfl) ?_
    refine RO.quietTT 3 rfl (by kernel_rfl) (q_move rfl) ?_
    refine RO.quietTT 4 rfl (by kernel_rfl) (q_nilCheck rfl) ?_
    refine RO.quietTT 5 rfl (by kernel_rfl) (q_fieldAddr Tryd.underlying65 rfl inf25 rfl rfl) ?_
    refine RO.quietTT 6 rfl (by kernel_rfl) (q_load_part 2 (vs := (dC S1 s1)) Tryd.underlying25 rfl inf25 rfl rfl rfl rfl) ?_
    refine RO.quietTT 7 rfl (by kernel_rfl) (q_move rfl) ?_
    refine RO.quietTT 8 rfl (by kernel_rfl) (q_nilCheck rfl) ?_
    refine RO.quietTT 9 rfl (by kernel_rfl) (q_fieldAddr Tryd.underlying65 rfl inf25 rfl rfl) ?_
    refine RO.quietTT 10 rfl (by kernel_rfl) (q_load_part 2 (vs := (dC S2 s2)) Tryd.underlying25 rfl inf25 rfl rfl rfl rfl) ?_
    have hk32 := CallT.under (A := [oI bp 65 (bC (.int .i64 0) S1 S2 s1 s2), dI 54 4 3 S1 s1, dI 54 4 3 S2 s2]) (B := [oI b8 25 (dC m1 k1), dI 54 4 3 m1 k1, oI y2 27 (cC c d j3 j4), oI y1 27 (cC a b j1 j2)]) (O := [oI b8 25 (dC m1 k1), dI 54 4 3 m1 k1, oI bp 65 (bC (.int .i64 0) S1 S2 s1 s2), dI 54 4 3 S1 s1, dI 54 4 3 S2 s2, oI y2 27 (cC c d j3 j4), oI y1 27 (cC a b j1 j2)]) (doB w [dI 54 4 3 S1 s1, dI 54 4 3 S2 s2] bp S1 S2 s1 s2 S1 S2 s1 s2 30 ent30 (fun w1 hI => haveI := Inv.tab (P := Tryd.prog) hI; minusZ w1 hz hS1 hS2 s1 s2 (hI.at (k := s1) (List.mem_of_getElem? (i := 0) rfl)) (hI.at (k := s2) (List.mem_of_getElem? (i := 1) rfl)) em2)) (by exact Sub.pull [oI b8 25 (dC m1 k1), dI 54 4 3 m1 k1] _ (.pull [oI b8 25 (dC m1 k1), dI 54 4 3 m1 k1] _ (.pull [oI b8 25 (dC m1 k1), dI 54 4 3 m1 k1] _ (.k (.k (.k (.k .z)))))))
    refine RO.forkT [11, 12] (by kernel_rfl) rfl ⟨⟨_, rfl, rfl, l_call ent28 hk32 rfl ?_⟩, ⟨_, rfl, rfl, l_alloc inf25 rfl (fun b9 => ⟨.inr (by exact Sub.d (.k (.k (.k (.k (.k (.k (.k .z)))))))), ?_⟩)⟩, trivial⟩ (by kernel_rfl)
    · clear hk32
      rintro vr O' ⟨A1, rfl, k2, rfl, rfl⟩
      
      refine ⟨.inr (by exact Sub.d (.pull [oI bp 65 (bC (.int .i64 0) S1 S2 s1 s2), dI 54 4 3 S1 s1, dI 54 4 3 S2 s2] _ (.pull [oI bp 65 (bC (.int .i64 0) S1 S2 s1 s2), dI 54 4 3 S1 s1, dI 54 4 3 S2 s2] _ (.k (.k (.k (.k (.k .z)))))))), ?_⟩
      refine RO.forkT [12] (by kernel_rfl) rfl ⟨⟨_, rfl, rfl, l_alloc inf25 rfl (fun b9 => ⟨.inr (by exact Sub.d (.d (.pull [oI bp 65 (bC (.int .i64 0) S1 S2 s1 s2), dI 54 4 3 S1 s1, dI 54 4 3 S2 s2] _ (.pull [oI bp 65 (bC (.int .i64 0) S1 S2 s1 s2), dI 54 4 3 S1 s1, dI 54 4 3 S2 s2] _ (.k (.k (.k (.k (.k .z))))))))), ?_⟩)⟩, trivial⟩ (by kernel_rfl)
      refine RO.forkT [13] (by kernel_rfl) rfl ⟨⟨_, rfl, rfl, l_store_box (v := (dV m2 k2)) (vs := (dC m2 k2)) 0 inf25 rfl rfl rfl rfl rfl rfl (by simp [putL]) ⟨.inl (by decide), ?_⟩⟩, trivial⟩ (by kernel_rfl)
      exact RO.fin (by kernel_rfl) ⟨b9, k2, rfl, ⟨rfl, rfl, rfl, rfl, rfl, rfl, rfl, rfl, rfl, rfl, trivial⟩⟩ (Sub.pick [0, 0, 3, 3, 0, 0, 0, 0, 0] rfl)
    have hk32 := CallT.under (A := [oI bp 65 (bC (.int .i64 0) S1 S2 s1 s2), dI 54 4 3 S1 s1, dI 54 4 3 S2 s2]) (B := [oI b9 25 [(.int .i64 0), (.int .i64 0), (.slice none 0 0), (.slice none 0 0)], oI b8 25 (dC m1 k1), dI 54 4 3 m1 k1, oI y2 27 (cC c d j3 j4), oI y1 27 (cC a b j1 j2)]) (O := [oI b9 25 [(.int .i64 0), (.int .i64 0), (.slice none 0 0), (.slice none 0 0)], oI b8 25 (dC m1 k1), dI 54 4 3 m1 k1, oI bp 65 (bC (.int .i64 0) S1 S2 s1 s2), dI 54 4 3 S1 s1, dI 54 4 3 S2 s2, oI y2 27 (cC c d j3 j4), oI y1 27 (cC a b j1 j2)]) (doB w [dI 54 4 3 S1 s1, dI 54 4 3 S2 s2] bp S1 S2 s1 s2 S1 S2 s1 s2 30 ent30 (fun w1 hI => haveI := Inv.tab (P := Tryd.prog) hI; minusZ w1 hz hS1 hS2 s1 s2 (hI.at (k := s1) (List.mem_of_getElem? (i := 0) rfl)) (hI.at (k := s2) (List.mem_of_getElem? (i := 1) rfl)) em2)) (by exact Sub.pull [oI b9 25 [(.int .i64 0), (.int .i64 0), (.slice none 0 0), (.slice none 0 0)], oI b8 25 (dC m1 k1), dI 54 4 3 m1 k1] _ (.pull [oI b9 25 [(.int .i64 0), (.int .i64 0), (.slice none 0 0), (.slice none 0 0)], oI b8 25 (dC m1 k1), dI 54 4 3 m1 k1] _ (.pull [oI b9 25 [(.int .i64 0), (.int .i64 0), (.slice none 0 0), (.slice none 0 0)], oI b8 25 (dC m1 k1), dI 54 4 3 m1 k1] _ (.k (.k (.k (.k (.k .z))))))))
    refine RO.forkT [11] (by kernel_rfl) rfl ⟨⟨_, rfl, rfl, l_call ent28 hk32 rfl ?_⟩, trivial⟩ (by kernel_rfl)
    clear hk32
    rintro vr O' ⟨A1, rfl, k2, rfl, rfl⟩
    
    refine ⟨.inr (by exact Sub.d (.pull [oI bp 65 (bC (.int .i64 0) S1 S2 s1 s2), dI 54 4 3 S1 s1, dI 54 4 3 S2 s2, oI b9 25 [(.int .i64 0), (.int .i64 0), (.slice none 0 0), (.slice none 0 0)]] _ (.pull [oI bp 65 (bC (.int .i64 0) S1 S2 s1 s2), dI 54 4 3 S1 s1, dI 54 4 3 S2 s2, oI b9 25 [(.int .i64 0), (.int .i64 0), (.slice none 0 0), (.slice none 0 0)]] _ (.k (.k (.k (.d (.k (.k .z))))))))), ?_⟩
    refine RO.forkT [13] (by kernel_rfl) rfl ⟨⟨_, rfl, rfl, l_store_box (v := (dV m2 k2)) (vs := (dC m2 k2)) 4 inf25 rfl rfl rfl rfl rfl rfl (by simp [putL]) ⟨.inl (by decide), ?_⟩⟩, trivial⟩ (by kernel_rfl)
    exact RO.fin (by kernel_rfl) ⟨b9, k2, rfl, ⟨rfl, rfl, rfl, rfl, rfl, rfl, rfl, rfl, rfl, rfl, trivial⟩⟩ (Sub.pick [4, 0, 3, 3, 0, 0, 0, 0, 0] rfl)
  rintro ρ O ⟨b9, k2, rfl, hH⟩
  obtain ⟨ρ0, rfl⟩ := hH.elim
  clear hH
  refine T.seq ?_
  refine T.draws _ [(0, 0), (1, 0), (2, 0), (3, 0), (4, 0), (5, 0), (6, 0), (7, 0), (8, 1), (9, 1), (10, 0), (11, 0), (12, 0), (13, 0), (14, 0), (15, 0)] mixed (by kernel_rfl) (Sub.of (List.Sublist.refl _)) (fun _ _ _ h => h) ?_
  refine DO.quiet rfl (q_move rfl) (DO.quiet rfl (q_nilCheck rfl) (DO.quiet rfl (q_fieldAddr Tryd.underlying65 rfl inf59 rfl rfl) (DO.quiet rfl (q_move rfl) ?_)))
  refine DO.quiet rfl (q_nilCheck rfl) (DO.quiet rfl (q_fieldAddr Tryd.underlying65 rfl inf59 rfl rfl) (DO.quiet rfl (q_load_boxAgg 2 Tryd.underlying25 rfl inf25 rfl rfl rfl) (DO.quiet rfl (q_load_boxAgg 0 Tryd.underlying25 rfl inf25 rfl rfl rfl) ?_)))
  have hk41 := CallT.under (A := [oI bp 65 (bC (.int .i64 0) S1 S2 s1 s2), dI 54 4 3 m1 k1, dI 54 4 3 m2 k2]) (B := [oI b9 25 (dC m2 k2), oI b8 25 (dC m1 k1), dI 54 4 3 S1 s1, dI 54 4 3 S2 s2, oI y2 27 (cC c d j3 j4), oI y1 27 (cC a b j1 j2)]) (O := [oI b9 25 (dC m2 k2), dI 54 4 3 m2 k2, oI b8 25 (dC m1 k1), dI 54 4 3 m1 k1, oI bp 65 (bC (.int .i64 0) S1 S2 s1 s2), dI 54 4 3 S1 s1, dI 54 4 3 S2 s2, oI y2 27 (cC c d j3 j4), oI y1 27 (cC a b j1 j2)]) (doB w [dI 54 4 3 m1 k1, dI 54 4 3 m2 k2] bp S1 S2 s1 s2 m1 m2 k1 k2 32 ent32 (fun w1 hI => haveI := Inv.tab (P := Tryd.prog) hI; orZ w1 hz hm1 hm2 k1 k2 (hI.at (k := k1) (List.mem_of_getElem? (i := 0) rfl)) (hI.at (k := k2) (List.mem_of_getElem? (i := 1) rfl)) em3)) (by exact Sub.pull [oI b9 25 (dC m2 k2), dI 54 4 3 m2 k2, oI b8 25 (dC m1 k1), dI 54 4 3 m1 k1] _ (.pull [oI b9 25 (dC m2 k2), dI 54 4 3 m2 k2, oI b8 25 (dC m1 k1)] _ (.pull [oI b9 25 (dC m2 k2)] _ (.k (.k (.k (.k (.k (.k .z)))))))))
  refine DO.loud rfl rfl (l_call ent28 hk41 rfl ?_)
  clear hk41
  rintro vr O' ⟨A1, rfl, k3, rfl, rfl⟩
  refine ⟨by exact Sub.d (.pull [oI bp 65 (bC (.int .i64 0) S1 S2 s1 s2), dI 54 4 3 m1 k1, dI 54 4 3 m2 k2] _ (.pull [oI bp 65 (bC (.int .i64 0) S1 S2 s1 s2), dI 54 4 3 m1 k1] _ (.pull [oI bp 65 (bC (.int .i64 0) S1 S2 s1 s2), dI 54 4 3 m1 k1] _ (.pull [oI bp 65 (bC (.int .i64 0) S1 S2 s1 s2)] _ (.k (.k (.k (.k (.k .z))))))))), ?_⟩
  
  have hk42 := CallT.under (A := [oI bp 65 (bC (.int .i64 0) S1 S2 s1 s2), dI 54 4 3 m3 k3]) (B := [dI 54 4 3 m1 k1, dI 54 4 3 m2 k2, oI b9 25 (dC m2 k2), oI b8 25 (dC m1 k1), dI 54 4 3 S1 s1, dI 54 4 3 S2 s2, oI y2 27 (cC c d j3 j4), oI y1 27 (cC a b j1 j2)]) (O := [dI 54 4 3 m3 k3, oI bp 65 (bC (.int .i64 0) S1 S2 s1 s2), dI 54 4 3 m1 k1, dI 54 4 3 m2 k2, oI b9 25 (dC m2 k2), oI b8 25 (dC m1 k1), dI 54 4 3 S1 s1, dI 54 4 3 S2 s2, oI y2 27 (cC c d j3 j4), oI y1 27 (cC a b j1 j2)]) (ansB w [dI 54 4 3 m3 k3] bp S1 S2 s1 s2 m3 hm3.has.valid k3 (fun w1 hI => haveI := Inv.tab (P := Tryd.prog) hI; (hI.at (k := k3) (List.mem_of_getElem? (i := 0) rfl)))) (by exact Sub.pull [dI 54 4 3 m3 k3] _ (.k (.k (.k (.k (.k (.k (.k (.k (.k .z))))))))))
  refine DO.loud rfl rfl (l_call ent29 hk42 rfl ?_)
  clear hk42
  rintro vr O' ⟨A1, rfl, res, wb, wc, hL, rfl, rfl⟩
  refine ⟨by exact Sub.d (.pull [oI bp 65 (bC (.int .i64 0) S1 S2 s1 s2), dI 54 4 3 m3 k3, dI 54 4 3 m1 k1, dI 54 4 3 m2 k2] _ (.pull [oI bp 65 (bC (.int .i64 0) S1 S2 s1 s2), dI 54 4 3 m3 k3, dI 54 4 3 m1 k1] _ (.pull [oI bp 65 (bC (.int .i64 0) S1 S2 s1 s2), dI 54 4 3 m3 k3, dI 54 4 3 m1 k1] _ (.pull [oI bp 65 (bC (.int .i64 0) S1 S2 s1 s2), dI 54 4 3 m3 k3] _ (.k (.d (.k (.k (.k (.k .z)))))))))), ?_⟩
  refine DO.quiet rfl (q_extract (vs := _) rfl rfl) (DO.quiet rfl (q_extract (vs := _) rfl rfl) (DO.quiet rfl (q_extract (vs := _) rfl rfl) (DO.quiet rfl (q_assign rfl) ?_)))
  refine DO.quiet rfl (q_assign rfl) (DO.quiet rfl (q_assign rfl) ?_)
  refine DO.done ?_
  refine T.ret (Res.drop ?_)
  refine Res.three (.slice wb ((res.getD []).length) wc) (.bool (!res.isSome)) (.int .i64 0) Tryd.results13 rfl rfl rfl ?_
  subst em3
  subst em2
  subst em1
  subst eS2
  subst eS1
  exact ⟨[rowI wb wc 5 1 (byts (res.getD []))], (Sub.pick [0] rfl), res, wb, wc, hL, rfl, rfl⟩
set_option maxHeartbeats 8000000 in
set_option maxRecDepth 20000 in
theorem meetC (w : World) [Tab Tryd.prog w] {z a b c d : DFA} {p q p2 q2 : List Nat → Bool} (hz : Valid z) (ha : InL z a p) (hb : InL z b q) (hc : InL z c p2) (hd : InL z d q2) (j1 j2 j3 j4 : DK) (hj1 : At w a j1) (hj2 : At w b j2) (hj3 : At w c j3) (hj4 : At w d j4) :
    PureT Tryd.prog 20 [cV a b j1 j2, cV c d j3 j4] w fun v N => ∃ k1 k2 : DK, v = .tuple #[cV (opD orB a c) (opD andB (satD a b) (satD c d)) k1 k2, .int .i64 0] ∧ N = [dI 54 4 3 (opD orB a c) k1, dI 54 4 3 (opD andB (satD a b) (satD c d)) k2] := by
  refine CallT.enter Tryd.func20 rfl Tryd.ntmps20 rfl ?_
  have hS1 := (InL.sat hz ha hb).2
  obtain ⟨S1, eS1⟩ : ∃ m, satD a b = m := ⟨_, rfl⟩
  rw [eS1] at hS1
  have hS2 := (InL.sat hz hc hd).2
  obtain ⟨S2, eS2⟩ : ∃ m, satD c d = m := ⟨_, rfl⟩
  rw [eS2] at hS2
  have hm1 := (InL.op (f := andB) hz hS1 hS2).2
  obtain ⟨m1, em1⟩ : ∃ m, opD andB S1 S2 = m := ⟨_, rfl⟩
  rw [em1] at hm1
  have hm2 := (InL.op (f := orB) hz ha hc).2
  obtain ⟨m2, em2⟩ : ∃ m, opD orB a c = m := ⟨_, rfl⟩
  rw [em2] at hm2
  refine T.seq (T.region ?_)
  refine TO.loud rfl (l_box (v := (cV a b j1 j2)) (cs := (cC a b j1 j2)) rfl rfl (fun y1 => ?_))
  refine TO.loud rfl (l_box (v := (cV c d j3 j4)) (cs := (cC c d j3 j4)) rfl rfl (fun y2 => ?_))
  refine TO.loud rfl (l_alloc inf27 rfl (fun y3 => ?_))
  refine TO.quiet (q_assign rfl) ?_
  refine TO.nil (T.seq (T.region ?_))
  refine TO.quiet (q_load_boxAgg 2 Tryd.underlying27 rfl inf27 rfl rfl rfl) (TO.quiet (q_load_boxAgg 1 Tryd.underlying27 rfl inf27 rfl rfl rfl) ?_)
  have hk10 := fun (w1 : World) (hI : Inv w [oI y3 27 [(.int .i64 0), (.int .i64 0), (.slice none 0 0), (.slice none 0 0), (.int .i64 0), (.int .i64 0), (.slice none 0 0), (.slice none 0 0)], oI y2 27 (cC c d j3 j4), oI y1 27 (cC a b j1 j2)] w1) => (haveI := Inv.tab (P := Tryd.prog) hI; startC w1 hz ha hb hc hd j1 j2 j3 j4 (hI.atB hj1) (hI.atB hj2) (hI.atB hj3) (hI.atB hj4) eS1 eS2)
  refine TO.loud rfl (l_call ent31 (CallT.of_pure hk10) rfl ?_)
  clear hk10
  rintro vr O' ⟨N, rfl, bp, s1, s2, rfl, rfl⟩
  refine TO.quiet (q_assign rfl) ?_
  refine TO.nil ?_
  refine T.cut (fun ρ O => ∃ (b8 : Nat) (k1 : DK), O = [oI b8 25 (dC m1 k1), dI 54 4 3 m1 k1, oI bp 65 (bC (.int .i64 0) S1 S2 s1 s2), dI 54 4 3 S1 s1, dI 54 4 3 S2 s2, oI y3 27 [(.int .i64 0), (.int .i64 0), (.slice none 0 0), (.slice none 0 0), (.int .i64 0), (.int .i64 0), (.slice none 0 0), (.slice none 0 0)], oI y2 27 (cC c d j3 j4), oI y1 27 (cC a b j1 j2)] ∧ Heads [(0, (cV a b j1 j2)), (1, (cV c d j3 j4)), (2, (.pointer (some ⟨y1, 0, none⟩))), (3, (.pointer (some ⟨y2, 0, none⟩))), (4, (.pointer (some ⟨y3, 0, none⟩))), (5, .int .i64 0), (6, (.pointer (some ⟨bp, 0, none⟩))), (7, (.pointer (some ⟨b8, 0, none⟩)))] ρ) ?_ ?_
  · refine T.treeT [oI bp 65 (bC (.int .i64 0) S1 S2 s1 s2), dI 54 4 3 S1 s1, dI 54 4 3 S2 s2, oI y3 27 [(.int .i64 0), (.int .i64 0), (.slice none 0 0), (.slice none 0 0), (.int .i64 0), (.int .i64 0), (.slice none 0 0), (.slice none 0 0)], oI y2 27 (cC c d j3 j4), oI y1 27 (cC a b j1 j2)] [13] 14 mixed rfl (by exact Sub.rf) (fun _ _ _ h => h) ?_
    refine RO.quietTT 0 rfl (by kernel_rfl) (q_move rfl) ?_
    refine RO.quietTT 1 rfl (by kernel_rfl) (q_nilCheck rfl) ?_
    refine RO.quietTT 2 rfl (by kernel_rfl) (q_fieldAddr Tryd.underlying65 rfl inf59 rfl rfl) ?_
    refine RO.quietTT 3 rfl (by kernel_rfl) (q_move rfl) ?_
    refine RO.quietTT 4 rfl (by kernel_rfl) (q_nilCheck rfl) ?_
    refine RO.quietTT 5 rfl (by kernel_rfl) (q_fieldAddr Tryd.underlying65 rfl inf25 rfl rfl) ?_
    refine RO.quietTT 6 rfl (by kernel_rfl) (q_load_part 0 (vs := (dC S1 s1)) Tryd.underlying25 rfl inf25 rfl rfl rfl rfl) ?_
    refine RO.quietTT 7 rfl (by kernel_rfl) (q_move rfl) ?_
    refine RO.quietTT 8 rfl (by kernel_rfl) (q_nilCheck rfl) ?_
    refine RO.quietTT 9 rfl (by kernel_rfl) (q_fieldAddr Tryd.underlying65 rfl inf25 rfl rfl) ?_
    refine RO.quietTT 10 rfl (by kernel_rfl) (q_load_part 0 (vs := (dC S2 s2)) Tryd.underlying25 rfl inf25 rfl rfl rfl rfl) ?_
    have hk22 := CallT.under (A := [oI bp 65 (bC (.int .i64 0) S1 S2 s1 s2), dI 54 4 3 S1 s1, dI 54 4 3 S2 s2]) (B := [oI y3 27 [(.int .i64 0), (.int .i64 0), (.slice none 0 0), (.slice none 0 0), (.int .i64 0), (.int .i64 0), (.slice none 0 0), (.slice none 0 0)], oI y2 27 (cC c d j3 j4), oI y1 27 (cC a b j1 j2)]) (O := [oI bp 65 (bC (.int .i64 0) S1 S2 s1 s2), dI 54 4 3 S1 s1, dI 54 4 3 S2 s2, oI y3 27 [(.int .i64 0), (.int .i64 0), (.slice none 0 0), (.slice none 0 0), (.int .i64 0), (.int .i64 0), (.slice none 0 0), (.slice none 0 0)], oI y2 27 (cC c d j3 j4), oI y1 27 (cC a b j1 j2)]) (doB w [dI 54 4 3 S1 s1, dI 54 4 3 S2 s2] bp S1 S2 s1 s2 S1 S2 s1 s2 25 ent25 (fun w1 hI => haveI := Inv.tab (P := Tryd.prog) hI; andZ w1 hz hS1 hS2 s1 s2 (hI.at (k := s1) (List.mem_of_getElem? (i := 0) rfl)) (hI.at (k := s2) (List.mem_of_getElem? (i := 1) rfl)) em1)) (by exact Sub.rf)
    refine RO.forkT [11, 12] (by kernel_rfl) rfl ⟨⟨_, rfl, rfl, l_call ent28 hk22 rfl ?_⟩, ⟨_, rfl, rfl, l_alloc inf25 rfl (fun b8 => ⟨.inr (by exact Sub.d (.k (.k (.k (.k (.k (.k .z))))))), ?_⟩)⟩, trivial⟩ (by kernel_rfl)
    · clear hk22
      rintro vr O' ⟨A1, rfl, k1, rfl, rfl⟩
      
      refine ⟨.inr (by exact Sub.d (.k (.k (.k (.k (.k (.k .z))))))), ?_⟩
      refine RO.forkT [12] (by kernel_rfl) rfl ⟨⟨_, rfl, rfl, l_alloc inf25 rfl (fun b8 => ⟨.inr (by exact Sub.d (.d (.k (.k (.k (.k (.k (.k .z)))))))), ?_⟩)⟩, trivial⟩ (by kernel_rfl)
      refine RO.forkT [13] (by kernel_rfl) rfl ⟨⟨_, rfl, rfl, l_store_box (v := (dV m1 k1)) (vs := (dC m1 k1)) 0 inf25 rfl rfl rfl rfl rfl rfl (by simp [putL]) ⟨.inl (by decide), ?_⟩⟩, trivial⟩ (by kernel_rfl)
      exact RO.fin (by kernel_rfl) ⟨b8, k1, rfl, ⟨rfl, rfl, rfl, rfl, rfl, rfl, rfl, rfl, trivial⟩⟩ (Sub.pick [0, 0, 0, 0, 0, 0, 0, 0] rfl)
    have hk22 := CallT.under (A := [oI bp 65 (bC (.int .i64 0) S1 S2 s1 s2), dI 54 4 3 S1 s1, dI 54 4 3 S2 s2]) (B := [oI b8 25 [(.int .i64 0), (.int .i64 0), (.slice none 0 0), (.slice none 0 0)], oI y3 27 [(.int .i64 0), (.int .i64 0), (.slice none 0 0), (.slice none 0 0), (.int .i64 0), (.int .i64 0), (.slice none 0 0), (.slice none 0 0)], oI y2 27 (cC c d j3 j4), oI y1 27 (cC a b j1 j2)]) (O := [oI b8 25 [(.int .i64 0), (.int .i64 0), (.slice none 0 0), (.slice none 0 0)], oI bp 65 (bC (.int .i64 0) S1 S2 s1 s2), dI 54 4 3 S1 s1, dI 54 4 3 S2 s2, oI y3 27 [(.int .i64 0), (.int .i64 0), (.slice none 0 0), (.slice none 0 0), (.int .i64 0), (.int .i64 0), (.slice none 0 0), (.slice none 0 0)], oI y2 27 (cC c d j3 j4), oI y1 27 (cC a b j1 j2)]) (doB w [dI 54 4 3 S1 s1, dI 54 4 3 S2 s2] bp S1 S2 s1 s2 S1 S2 s1 s2 25 ent25 (fun w1 hI => haveI := Inv.tab (P := Tryd.prog) hI; andZ w1 hz hS1 hS2 s1 s2 (hI.at (k := s1) (List.mem_of_getElem? (i := 0) rfl)) (hI.at (k := s2) (List.mem_of_getElem? (i := 1) rfl)) em1)) (by exact Sub.pull [oI b8 25 [(.int .i64 0), (.int .i64 0), (.slice none 0 0), (.slice none 0 0)]] _ (.pull [oI b8 25 [(.int .i64 0), (.int .i64 0), (.slice none 0 0), (.slice none 0 0)]] _ (.pull [oI b8 25 [(.int .i64 0), (.int .i64 0), (.slice none 0 0), (.slice none 0 0)]] _ (.k (.k (.k (.k .z)))))))
    refine RO.forkT [11] (by kernel_rfl) rfl ⟨⟨_, rfl, rfl, l_call ent28 hk22 rfl ?_⟩, trivial⟩ (by kernel_rfl)
    clear hk22
    rintro vr O' ⟨A1, rfl, k1, rfl, rfl⟩
    
    refine ⟨.inr (by exact Sub.d (.k (.k (.k (.d (.k (.k (.k .z)))))))), ?_⟩
    refine RO.forkT [13] (by kernel_rfl) rfl ⟨⟨_, rfl, rfl, l_store_box (v := (dV m1 k1)) (vs := (dC m1 k1)) 4 inf25 rfl rfl rfl rfl rfl rfl (by simp [putL]) ⟨.inl (by decide), ?_⟩⟩, trivial⟩ (by kernel_rfl)
    exact RO.fin (by kernel_rfl) ⟨b8, k1, rfl, ⟨rfl, rfl, rfl, rfl, rfl, rfl, rfl, rfl, trivial⟩⟩ (Sub.pick [4, 0, 0, 0, 0, 0, 0, 0] rfl)
  rintro ρ O ⟨b8, k1, rfl, hH⟩
  obtain ⟨ρ0, rfl⟩ := hH.elim
  clear hH
  refine T.seq ?_
  refine T.draws _ [(0, 0), (1, 0), (2, 0), (3, 0), (4, 0), (5, 0), (6, 0), (7, 0), (9, 0), (8, 1), (10, 1), (11, 0), (12, 0), (13, 2), (14, 2)] mixed (by kernel_rfl) (Sub.of (List.Sublist.refl _)) (fun _ _ _ h => h) ?_
  refine DO.quiet rfl (q_move rfl) (DO.quiet rfl (q_move rfl) (DO.quiet rfl (q_nilCheck rfl) (DO.quiet rfl (q_fieldAddr Tryd.underlying65 rfl inf59 rfl rfl) ?_)))
  refine DO.quiet rfl (q_fieldAddr Tryd.underlying27 rfl inf25 rfl rfl) (DO.quiet rfl (q_load_part 7 (vs := (dC a j1)) Tryd.underlying25 rfl inf25 rfl rfl rfl rfl) (DO.quiet rfl (q_fieldAddr Tryd.underlying27 rfl inf25 rfl rfl) (DO.quiet rfl (q_load_part 6 (vs := (dC c j3)) Tryd.underlying25 rfl inf25 rfl rfl rfl rfl) ?_)))
  refine DO.quiet rfl (q_load_boxAgg 0 Tryd.underlying25 rfl inf25 rfl rfl rfl) ?_
  have hk31 := CallT.under (A := [oI bp 65 (bC (.int .i64 0) S1 S2 s1 s2)]) (B := [oI b8 25 (dC m1 k1), dI 54 4 3 m1 k1, dI 54 4 3 S1 s1, dI 54 4 3 S2 s2, oI y3 27 [(.int .i64 0), (.int .i64 0), (.slice none 0 0), (.slice none 0 0), (.int .i64 0), (.int .i64 0), (.slice none 0 0), (.slice none 0 0)], oI y2 27 (cC c d j3 j4), oI y1 27 (cC a b j1 j2)]) (O := [oI b8 25 (dC m1 k1), dI 54 4 3 m1 k1, oI bp 65 (bC (.int .i64 0) S1 S2 s1 s2), dI 54 4 3 S1 s1, dI 54 4 3 S2 s2, oI y3 27 [(.int .i64 0), (.int .i64 0), (.slice none 0 0), (.slice none 0 0), (.int .i64 0), (.int .i64 0), (.slice none 0 0), (.slice none 0 0)], oI y2 27 (cC c d j3 j4), oI y1 27 (cC a b j1 j2)]) (doB w [] bp S1 S2 s1 s2 a c j1 j3 32 ent32 (fun w1 hI => haveI := Inv.tab (P := Tryd.prog) hI; orZ w1 hz ha hc j1 j3 (hI.atB hj1) (hI.atB hj3) em2)) (by exact Sub.pull [oI b8 25 (dC m1 k1), dI 54 4 3 m1 k1] _ (.k (.k (.k (.k (.k (.k (.k .z))))))))
  refine DO.loud rfl rfl (l_call ent28 hk31 rfl ?_)
  clear hk31
  rintro vr O' ⟨A1, rfl, k2, rfl, rfl⟩
  refine ⟨by exact Sub.d (.pull [oI bp 65 (bC (.int .i64 0) S1 S2 s1 s2)] _ (.pull [oI bp 65 (bC (.int .i64 0) S1 S2 s1 s2)] _ (.k (.k (.k (.k (.k (.k .z)))))))), ?_⟩
  
  have hk33 := CallT.under (A := [oI bp 65 (bC (.int .i64 0) S1 S2 s1 s2)]) (B := [dI 54 4 3 m2 k2, oI b8 25 (dC m1 k1), dI 54 4 3 m1 k1, dI 54 4 3 S1 s1, dI 54 4 3 S2 s2, oI y3 27 [(.int .i64 0), (.int .i64 0), (.slice none 0 0), (.slice none 0 0), (.int .i64 0), (.int .i64 0), (.slice none 0 0), (.slice none 0 0)], oI y2 27 (cC c d j3 j4), oI y1 27 (cC a b j1 j2)]) (O := [dI 54 4 3 m2 k2, oI bp 65 (bC (.int .i64 0) S1 S2 s1 s2), oI b8 25 (dC m1 k1), dI 54 4 3 m1 k1, dI 54 4 3 S1 s1, dI 54 4 3 S2 s2, oI y3 27 [(.int .i64 0), (.int .i64 0), (.slice none 0 0), (.slice none 0 0), (.int .i64 0), (.int .i64 0), (.slice none 0 0), (.slice none 0 0)], oI y2 27 (cC c d j3 j4), oI y1 27 (cC a b j1 j2)]) (built w [] bp S1 S2 s1 s2 m2 m1 k2 k1) (by exact Sub.pull [dI 54 4 3 m2 k2] _ (.k (.k (.k (.k (.k (.k (.k (.k .z)))))))))
  refine DO.loud rfl rfl (l_call ent40 hk33 rfl ?_)
  clear hk33
  rintro vr O' ⟨A1, rfl, rfl, rfl⟩
  refine ⟨by exact Sub.pull [oI bp 65 (bC (.int .i64 0) S1 S2 s1 s2), dI 54 4 3 m2 k2] _ (.pull [oI bp 65 (bC (.int .i64 0) S1 S2 s1 s2), dI 54 4 3 m2 k2] _ (.k (.d (.k (.k (.k (.k (.k .z)))))))), ?_⟩
  refine DO.quiet rfl (q_extract (vs := _) rfl rfl) (DO.quiet rfl (q_extract (vs := _) rfl rfl) ?_)
  refine DO.last rfl rfl (l_store_box (v := (cV m2 m1 k2 k1)) (vs := (cC m2 m1 k2 k1)) 6 inf27 rfl rfl rfl rfl rfl rfl (by simp [putL]) ?_)
  refine DO.last rfl rfl (LT.of_quiet rfl rfl (q_assign rfl) ?_)
  refine DO.done ?_
  refine T.ret (Res.drop ?_)
  refine Res.cell1b (.int .i64 0) (i := 6) Tryd.results20 Tryd.underlying27 rfl inf27 rfl rfl rfl rfl ?_
  exact ⟨[dI 54 4 3 m2 k2, dI 54 4 3 m1 k1], (Sub.pick [1, 2] rfl), k2, k1, by subst em2; subst em1; subst eS2; subst eS1; rfl, by subst em2; subst em1; subst eS2; subst eS1; rfl⟩
set_option maxHeartbeats 8000000 in
set_option maxRecDepth 20000 in
theorem joinC (w : World) [Tab Tryd.prog w] {z a b c d : DFA} {p q p2 q2 : List Nat → Bool} (hz : Valid z) (ha : InL z a p) (hb : InL z b q) (hc : InL z c p2) (hd : InL z d q2) (j1 j2 j3 j4 : DK) (hj1 : At w a j1) (hj2 : At w b j2) (hj3 : At w c j3) (hj4 : At w d j4) :
    PureT Tryd.prog 21 [cV a b j1 j2, cV c d j3 j4] w fun v N => ∃ k1 k2 : DK, v = .tuple #[cV (opD andB a c) (opD orB (satD a b) (satD c d)) k1 k2, .int .i64 0] ∧ N = [dI 54 4 3 (opD andB a c) k1, dI 54 4 3 (opD orB (satD a b) (satD c d)) k2] := by
  refine CallT.enter Tryd.func21 rfl Tryd.ntmps21 rfl ?_
  have hS1 := (InL.sat hz ha hb).2
  obtain ⟨S1, eS1⟩ : ∃ m, satD a b = m := ⟨_, rfl⟩
  rw [eS1] at hS1
  have hS2 := (InL.sat hz hc hd).2
  obtain ⟨S2, eS2⟩ : ∃ m, satD c d = m := ⟨_, rfl⟩
  rw [eS2] at hS2
  have hm1 := (InL.op (f := orB) hz hS1 hS2).2
  obtain ⟨m1, em1⟩ : ∃ m, opD orB S1 S2 = m := ⟨_, rfl⟩
  rw [em1] at hm1
  have hm2 := (InL.op (f := andB) hz ha hc).2
  obtain ⟨m2, em2⟩ : ∃ m, opD andB a c = m := ⟨_, rfl⟩
  rw [em2] at hm2
  refine T.seq (T.region ?_)
  refine TO.loud rfl (l_box (v := (cV a b j1 j2)) (cs := (cC a b j1 j2)) rfl rfl (fun y1 => ?_))
  refine TO.loud rfl (l_box (v := (cV c d j3 j4)) (cs := (cC c d j3 j4)) rfl rfl (fun y2 => ?_))
  refine TO.loud rfl (l_alloc inf27 rfl (fun y3 => ?_))
  refine TO.quiet (q_assign rfl) ?_
  refine TO.nil (T.seq (T.region ?_))
  refine TO.quiet (q_load_boxAgg 2 Tryd.underlying27 rfl inf27 rfl rfl rfl) (TO.quiet (q_load_boxAgg 1 Tryd.underlying27 rfl inf27 rfl rfl rfl) ?_)
  have hk10 := fun (w1 : World) (hI : Inv w [oI y3 27 [(.int .i64 0), (.int .i64 0), (.slice none 0 0), (.slice none 0 0), (.int .i64 0), (.int .i64 0), (.slice none 0 0), (.slice none 0 0)], oI y2 27 (cC c d j3 j4), oI y1 27 (cC a b j1 j2)] w1) => (haveI := Inv.tab (P := Tryd.prog) hI; startC w1 hz ha hb hc hd j1 j2 j3 j4 (hI.atB hj1) (hI.atB hj2) (hI.atB hj3) (hI.atB hj4) eS1 eS2)
  refine TO.loud rfl (l_call ent31 (CallT.of_pure hk10) rfl ?_)
  clear hk10
  rintro vr O' ⟨N, rfl, bp, s1, s2, rfl, rfl⟩
  refine TO.quiet (q_assign rfl) ?_
  refine TO.nil ?_
  refine T.cut (fun ρ O => ∃ (b8 : Nat) (k1 : DK), O = [oI b8 25 (dC m1 k1), dI 54 4 3 m1 k1, oI bp 65 (bC (.int .i64 0) S1 S2 s1 s2), dI 54 4 3 S1 s1, dI 54 4 3 S2 s2, oI y3 27 [(.int .i64 0), (.int .i64 0), (.slice none 0 0), (.slice none 0 0), (.int .i64 0), (.int .i64 0), (.slice none 0 0), (.slice none 0 0)], oI y2 27 (cC c d j3 j4), oI y1 27 (cC a b j1 j2)] ∧ Heads [(0, (cV a b j1 j2)), (1, (cV c d j3 j4)), (2, (.pointer (some ⟨y1, 0, none⟩))), (3, (.pointer (some ⟨y2, 0, none⟩))), (4, (.pointer (some ⟨y3, 0, none⟩))), (5, .int .i64 0), (6, (.pointer (some ⟨bp, 0, none⟩))), (7, (.pointer (some ⟨b8, 0, none⟩)))] ρ) ?_ ?_
  · refine T.treeT [oI bp 65 (bC (.int .i64 0) S1 S2 s1 s2), dI 54 4 3 S1 s1, dI 54 4 3 S2 s2, oI y3 27 [(.int .i64 0), (.int .i64 0), (.slice none 0 0), (.slice none 0 0), (.int .i64 0), (.int .i64 0), (.slice none 0 0), (.slice none 0 0)], oI y2 27 (cC c d j3 j4), oI y1 27 (cC a b j1 j2)] [13] 14 mixed rfl (by exact Sub.rf) (fun _ _ _ h => h) ?_
    refine RO.quietTT 0 rfl (by kernel_rfl) (q_move rfl) ?_
    refine RO.quietTT 1 rfl (by kernel_rfl) (q_nilCheck rfl) ?_
    refine RO.quietTT 2 rfl (by kernel_rfl) (q_fieldAddr Tryd.underlying65 rfl inf59 rfl rfl) ?_
    refine RO.quietTT 3 rfl (by kernel_rfl) (q_move rfl) ?_
    refine RO.quietTT 4 rfl (by kernel_rfl) (q_nilCheck rfl) ?_
    refine RO.quietTT 5 rfl (by kernel_rfl) (q_fieldAddr Tryd.underlying65 rfl inf25 rfl rfl) ?_
    refine RO.quietTT 6 rfl (by kernel_rfl) (q_load_part 0 (vs := (dC S1 s1)) Tryd.underlying25 rfl inf25 rfl rfl rfl rfl) ?_
    refine RO.quietTT 7 rfl (by kernel_rfl) (q_move rfl) ?_
    refine RO.quietTT 8 rfl (by kernel_rfl) (q_nilCheck rfl) ?_
    refine RO.quietTT 9 rfl (by kernel_rfl) (q_fieldAddr Tryd.underlying65 rfl inf25 rfl rfl) ?_
    refine RO.quietTT 10 rfl (by kernel_rfl) (q_load_part 0 (vs := (dC S2 s2)) Tryd.underlying25 rfl inf25 rfl rfl rfl rfl) ?_
    have hk22 := CallT.under (A := [oI bp 65 (bC (.int .i64 0) S1 S2 s1 s2), dI 54 4 3 S1 s1, dI 54 4 3 S2 s2]) (B := [oI y3 27 [(.int .i64 0), (.int .i64 0), (.slice none 0 0), (.slice none 0 0), (.int .i64 0), (.int .i64 0), (.slice none 0 0), (.slice none 0 0)], oI y2 27 (cC c d j3 j4), oI y1 27 (cC a b j1 j2)]) (O := [oI bp 65 (bC (.int .i64 0) S1 S2 s1 s2), dI 54 4 3 S1 s1, dI 54 4 3 S2 s2, oI y3 27 [(.int .i64 0), (.int .i64 0), (.slice none 0 0), (.slice none 0 0), (.int .i64 0), (.int .i64 0), (.slice none 0 0), (.slice none 0 0)], oI y2 27 (cC c d j3 j4), oI y1 27 (cC a b j1 j2)]) (doB w [dI 54 4 3 S1 s1, dI 54 4 3 S2 s2] bp S1 S2 s1 s2 S1 S2 s1 s2 32 ent32 (fun w1 hI => haveI := Inv.tab (P := Tryd.prog) hI; orZ w1 hz hS1 hS2 s1 s2 (hI.at (k := s1) (List.mem_of_getElem? (i := 0) rfl)) (hI.at (k := s2) (List.mem_of_getElem? (i := 1) rfl)) em1)) (by exact Sub.rf)
    refine RO.forkT [11, 12] (by kernel_rfl) rfl ⟨⟨_, rfl, rfl, l_call ent28 hk22 rfl ?_⟩, ⟨_, rfl, rfl, l_alloc inf25 rfl (fun b8 => ⟨.inr (by exact Sub.d (.k (.k (.k (.k (.k (.k .z))))))), ?_⟩)⟩, trivial⟩ (by kernel_rfl)
    · clear hk22
      rintro vr O' ⟨A1, rfl, k1, rfl, rfl⟩
      
      refine ⟨.inr (by exact Sub.d (.k (.k (.k (.k (.k (.k .z))))))), ?_⟩
      refine RO.forkT [12] (by kernel_rfl) rfl ⟨⟨_, rfl, rfl, l_alloc inf25 rfl (fun b8 => ⟨.inr (by exact Sub.d (.d (.k (.k (.k (.k (.k (.k .z)))))))), ?_⟩)⟩, trivial⟩ (by kernel_rfl)
      refine RO.forkT [13] (by kernel_rfl) rfl ⟨⟨_, rfl, rfl, l_store_box (v := (dV m1 k1)) (vs := (dC m1 k1)) 0 inf25 rfl rfl rfl rfl rfl rfl (by simp [putL]) ⟨.inl (by decide), ?_⟩⟩, trivial⟩ (by kernel_rfl)
      exact RO.fin (by kernel_rfl) ⟨b8, k1, rfl, ⟨rfl, rfl, rfl, rfl, rfl, rfl, rfl, rfl, trivial⟩⟩ (Sub.pick [0, 0, 0, 0, 0, 0, 0, 0] rfl)
    have hk22 := CallT.under (A := [oI bp 65 (bC (.int .i64 0) S1 S2 s1 s2), dI 54 4 3 S1 s1, dI 54 4 3 S2 s2]) (B := [oI b8 25 [(.int .i64 0), (.int .i64 0), (.slice none 0 0), (.slice none 0 0)], oI y3 27 [(.int .i64 0), (.int .i64 0), (.slice none 0 0), (.slice none 0 0), (.int .i64 0), (.int .i64 0), (.slice none 0 0), (.slice none 0 0)], oI y2 27 (cC c d j3 j4), oI y1 27 (cC a b j1 j2)]) (O := [oI b8 25 [(.int .i64 0), (.int .i64 0), (.slice none 0 0), (.slice none 0 0)], oI bp 65 (bC (.int .i64 0) S1 S2 s1 s2), dI 54 4 3 S1 s1, dI 54 4 3 S2 s2, oI y3 27 [(.int .i64 0), (.int .i64 0), (.slice none 0 0), (.slice none 0 0), (.int .i64 0), (.int .i64 0), (.slice none 0 0), (.slice none 0 0)], oI y2 27 (cC c d j3 j4), oI y1 27 (cC a b j1 j2)]) (doB w [dI 54 4 3 S1 s1, dI 54 4 3 S2 s2] bp S1 S2 s1 s2 S1 S2 s1 s2 32 ent32 (fun w1 hI => haveI := Inv.tab (P := Tryd.prog) hI; orZ w1 hz hS1 hS2 s1 s2 (hI.at (k := s1) (List.mem_of_getElem? (i := 0) rfl)) (hI.at (k := s2) (List.mem_of_getElem? (i := 1) rfl)) em1)) (by exact Sub.pull [oI b8 25 [(.int .i64 0), (.int .i64 0), (.slice none 0 0), (.slice none 0 0)]] _ (.pull [oI b8 25 [(.int .i64 0), (.int .i64 0), (.slice none 0 0), (.slice none 0 0)]] _ (.pull [oI b8 25 [(.int .i64 0), (.int .i64 0), (.slice none 0 0), (.slice none 0 0)]] _ (.k (.k (.k (.k .z)))))))
    refine RO.forkT [11] (by kernel_rfl) rfl ⟨⟨_, rfl, rfl, l_call ent28 hk22 rfl ?_⟩, trivial⟩ (by kernel_rfl)
    clear hk22
    rintro vr O' ⟨A1, rfl, k1, rfl, rfl⟩
    
    refine ⟨.inr (by exact Sub.d (.k (.k (.k (.d (.k (.k (.k .z)))))))), ?_⟩
    refine RO.forkT [13] (by kernel_rfl) rfl ⟨⟨_, rfl, rfl, l_store_box (v := (dV m1 k1)) (vs := (dC m1 k1)) 4 inf25 rfl rfl rfl rfl rfl rfl (by simp [putL]) ⟨.inl (by decide), ?_⟩⟩, trivial⟩ (by kernel_rfl)
    exact RO.fin (by kernel_rfl) ⟨b8, k1, rfl, ⟨rfl, rfl, rfl, rfl, rfl, rfl, rfl, rfl, trivial⟩⟩ (Sub.pick [4, 0, 0, 0, 0, 0, 0, 0] rfl)
  rintro ρ O ⟨b8, k1, rfl, hH⟩
  obtain ⟨ρ0, rfl⟩ := hH.elim
  clear hH
  refine T.seq ?_
  refine T.draws _ [(0, 0), (1, 0), (2, 0), (3, 0), (4, 0), (5, 0), (6, 0), (7, 0), (9, 0), (8, 1), (10, 1), (11, 0), (12, 0), (13, 2), (14, 2)] mixed (by kernel_rfl) (Sub.of (List.Sublist.refl _)) (fun _ _ _ h => h) ?_
  refine DO.quiet rfl (q_move rfl) (DO.quiet rfl (q_move rfl) (DO.quiet rfl (q_nilCheck rfl) (DO.quiet rfl (q_fieldAddr Tryd.underlying65 rfl inf59 rfl rfl) ?_)))
  refine DO.quiet rfl (q_fieldAddr Tryd.underlying27 rfl inf25 rfl rfl) (DO.quiet rfl (q_load_part 7 (vs := (dC a j1)) Tryd.underlying25 rfl inf25 rfl rfl rfl rfl) (DO.quiet rfl (q_fieldAddr Tryd.underlying27 rfl inf25 rfl rfl) (DO.quiet rfl (q_load_part 6 (vs := (dC c j3)) Tryd.underlying25 rfl inf25 rfl rfl rfl rfl) ?_)))
  refine DO.quiet rfl (q_load_boxAgg 0 Tryd.underlying25 rfl inf25 rfl rfl rfl) ?_
  have hk31 := CallT.under (A := [oI bp 65 (bC (.int .i64 0) S1 S2 s1 s2)]) (B := [oI b8 25 (dC m1 k1), dI 54 4 3 m1 k1, dI 54 4 3 S1 s1, dI 54 4 3 S2 s2, oI y3 27 [(.int .i64 0), (.int .i64 0), (.slice none 0 0), (.slice none 0 0), (.int .i64 0), (.int .i64 0), (.slice none 0 0), (.slice none 0 0)], oI y2 27 (cC c d j3 j4), oI y1 27 (cC a b j1 j2)]) (O := [oI b8 25 (dC m1 k1), dI 54 4 3 m1 k1, oI bp 65 (bC (.int .i64 0) S1 S2 s1 s2), dI 54 4 3 S1 s1, dI 54 4 3 S2 s2, oI y3 27 [(.int .i64 0), (.int .i64 0), (.slice none 0 0), (.slice none 0 0), (.int .i64 0), (.int .i64 0), (.slice none 0 0), (.slice none 0 0)], oI y2 27 (cC c d j3 j4), oI y1 27 (cC a b j1 j2)]) (doB w [] bp S1 S2 s1 s2 a c j1 j3 25 ent25 (fun w1 hI => haveI := Inv.tab (P := Tryd.prog) hI; andZ w1 hz ha hc j1 j3 (hI.atB hj1) (hI.atB hj3) em2)) (by exact Sub.pull [oI b8 25 (dC m1 k1), dI 54 4 3 m1 k1] _ (.k (.k (.k (.k (.k (.k (.k .z))))))))
  refine DO.loud rfl rfl (l_call ent28 hk31 rfl ?_)
  clear hk31
  rintro vr O' ⟨A1, rfl, k2, rfl, rfl⟩
  refine ⟨by exact Sub.d (.pull [oI bp 65 (bC (.int .i64 0) S1 S2 s1 s2)] _ (.pull [oI bp 65 (bC (.int .i64 0) S1 S2 s1 s2)] _ (.k (.k (.k (.k (.k (.k .z)))))))), ?_⟩
  
  have hk33 := CallT.under (A := [oI bp 65 (bC (.int .i64 0) S1 S2 s1 s2)]) (B := [dI 54 4 3 m2 k2, oI b8 25 (dC m1 k1), dI 54 4 3 m1 k1, dI 54 4 3 S1 s1, dI 54 4 3 S2 s2, oI y3 27 [(.int .i64 0), (.int .i64 0), (.slice none 0 0), (.slice none 0 0), (.int .i64 0), (.int .i64 0), (.slice none 0 0), (.slice none 0 0)], oI y2 27 (cC c d j3 j4), oI y1 27 (cC a b j1 j2)]) (O := [dI 54 4 3 m2 k2, oI bp 65 (bC (.int .i64 0) S1 S2 s1 s2), oI b8 25 (dC m1 k1), dI 54 4 3 m1 k1, dI 54 4 3 S1 s1, dI 54 4 3 S2 s2, oI y3 27 [(.int .i64 0), (.int .i64 0), (.slice none 0 0), (.slice none 0 0), (.int .i64 0), (.int .i64 0), (.slice none 0 0), (.slice none 0 0)], oI y2 27 (cC c d j3 j4), oI y1 27 (cC a b j1 j2)]) (built w [] bp S1 S2 s1 s2 m2 m1 k2 k1) (by exact Sub.pull [dI 54 4 3 m2 k2] _ (.k (.k (.k (.k (.k (.k (.k (.k .z)))))))))
  refine DO.loud rfl rfl (l_call ent40 hk33 rfl ?_)
  clear hk33
  rintro vr O' ⟨A1, rfl, rfl, rfl⟩
  refine ⟨by exact Sub.pull [oI bp 65 (bC (.int .i64 0) S1 S2 s1 s2), dI 54 4 3 m2 k2] _ (.pull [oI bp 65 (bC (.int .i64 0) S1 S2 s1 s2), dI 54 4 3 m2 k2] _ (.k (.d (.k (.k (.k (.k (.k .z)))))))), ?_⟩
  refine DO.quiet rfl (q_extract (vs := _) rfl rfl) (DO.quiet rfl (q_extract (vs := _) rfl rfl) ?_)
  refine DO.last rfl rfl (l_store_box (v := (cV m2 m1 k2 k1)) (vs := (cC m2 m1 k2 k1)) 6 inf27 rfl rfl rfl rfl rfl rfl (by simp [putL]) ?_)
  refine DO.last rfl rfl (LT.of_quiet rfl rfl (q_assign rfl) ?_)
  refine DO.done ?_
  refine T.ret (Res.drop ?_)
  refine Res.cell1b (.int .i64 0) (i := 6) Tryd.results21 Tryd.underlying27 rfl inf27 rfl rfl rfl rfl ?_
  exact ⟨[dI 54 4 3 m2 k2, dI 54 4 3 m1 k1], (Sub.pick [1, 2] rfl), k2, k1, by subst em2; subst em1; subst eS2; subst eS1; rfl, by subst em2; subst em1; subst eS2; subst eS1; rfl⟩
set_option maxHeartbeats 8000000 in
set_option maxRecDepth 20000 in
theorem compC (w : World) [Tab Tryd.prog w] {z a b c d : DFA} {p q p2 q2 : List Nat → Bool} (hz : Valid z) (ha : InL z a p) (hb : InL z b q) (hc : InL z c p2) (hd : InL z d q2) (j1 j2 j3 j4 : DK) (hj1 : At w a j1) (hj2 : At w b j2) (hj3 : At w c j3) (hj4 : At w d j4) :
    PureT Tryd.prog 16 [cV a b j1 j2, cV c d j3 j4] w fun v N => ∃ k1 k2 : DK, v = .tuple #[cV (opD orB (opD andB a c) (notD (opD andB (satD a b) (satD c d)))) (opD andB (satD a b) (satD c d)) k1 k2, .int .i64 0] ∧ N = [dI 54 4 3 (opD orB (opD andB a c) (notD (opD andB (satD a b) (satD c d)))) k1, dI 54 4 3 (opD andB (satD a b) (satD c d)) k2] := by
  refine CallT.enter Tryd.func16 rfl Tryd.ntmps16 rfl ?_
  have hS1 := (InL.sat hz ha hb).2
  obtain ⟨S1, eS1⟩ : ∃ m, satD a b = m := ⟨_, rfl⟩
  rw [eS1] at hS1
  have hS2 := (InL.sat hz hc hd).2
  obtain ⟨S2, eS2⟩ : ∃ m, satD c d = m := ⟨_, rfl⟩
  rw [eS2] at hS2
  have hm1 := (InL.op (f := andB) hz hS1 hS2).2
  obtain ⟨m1, em1⟩ : ∃ m, opD andB S1 S2 = m := ⟨_, rfl⟩
  rw [em1] at hm1
  have hm2 := (InL.op (f := andB) hz ha hc).2
  obtain ⟨m2, em2⟩ : ∃ m, opD andB a c = m := ⟨_, rfl⟩
  rw [em2] at hm2
  have hm3 := (InL.not hz hm1).2
  obtain ⟨m3, em3⟩ : ∃ m, notD m1 = m := ⟨_, rfl⟩
  rw [em3] at hm3
  have hm4 := (InL.op (f := orB) hz hm2 hm3).2
  obtain ⟨m4, em4⟩ : ∃ m, opD orB m2 m3 = m := ⟨_, rfl⟩
  rw [em4] at hm4
  refine T.seq (T.region ?_)
  refine TO.loud rfl (l_box (v := (cV a b j1 j2)) (cs := (cC a b j1 j2)) rfl rfl (fun y1 => ?_))
  refine TO.loud rfl (l_box (v := (cV c d j3 j4)) (cs := (cC c d j3 j4)) rfl rfl (fun y2 => ?_))
  refine TO.loud rfl (l_alloc inf27 rfl (fun y3 => ?_))
  refine TO.quiet (q_assign rfl) ?_
  refine TO.nil (T.seq (T.region ?_))
  refine TO.quiet (q_load_boxAgg 2 Tryd.underlying27 rfl inf27 rfl rfl rfl) (TO.quiet (q_load_boxAgg 1 Tryd.underlying27 rfl inf27 rfl rfl rfl) ?_)
  have hk12 := fun (w1 : World) (hI : Inv w [oI y3 27 [(.int .i64 0), (.int .i64 0), (.slice none 0 0), (.slice none 0 0), (.int .i64 0), (.int .i64 0), (.slice none 0 0), (.slice none 0 0)], oI y2 27 (cC c d j3 j4), oI y1 27 (cC a b j1 j2)] w1) => (haveI := Inv.tab (P := Tryd.prog) hI; startC w1 hz ha hb hc hd j1 j2 j3 j4 (hI.atB hj1) (hI.atB hj2) (hI.atB hj3) (hI.atB hj4) eS1 eS2)
  refine TO.loud rfl (l_call ent31 (CallT.of_pure hk12) rfl ?_)
  clear hk12
  rintro vr O' ⟨N, rfl, bp, s1, s2, rfl, rfl⟩
  refine TO.quiet (q_assign rfl) ?_
  refine TO.nil ?_
  refine T.cut (fun ρ O => ∃ (b7 : Nat) (k1 : DK), O = [oI b7 25 (dC m1 k1), dI 54 4 3 m1 k1, oI bp 65 (bC (.int .i64 0) S1 S2 s1 s2), dI 54 4 3 S1 s1, dI 54 4 3 S2 s2, oI y3 27 [(.int .i64 0), (.int .i64 0), (.slice none 0 0), (.slice none 0 0), (.int .i64 0), (.int .i64 0), (.slice none 0 0), (.slice none 0 0)], oI y2 27 (cC c d j3 j4), oI y1 27 (cC a b j1 j2)] ∧ Heads [(0, (cV a b j1 j2)), (1, (cV c d j3 j4)), (2, (.pointer (some ⟨y1, 0, none⟩))), (3, (.pointer (some ⟨y2, 0, none⟩))), (4, (.pointer (some ⟨y3, 0, none⟩))), (5, .int .i64 0), (6, (.pointer (some ⟨bp, 0, none⟩))), (7, (.pointer (some ⟨b7, 0, none⟩)))] ρ) ?_ ?_
  · refine T.treeT [oI bp 65 (bC (.int .i64 0) S1 S2 s1 s2), dI 54 4 3 S1 s1, dI 54 4 3 S2 s2, oI y3 27 [(.int .i64 0), (.int .i64 0), (.slice none 0 0), (.slice none 0 0), (.int .i64 0), (.int .i64 0), (.slice none 0 0), (.slice none 0 0)], oI y2 27 (cC c d j3 j4), oI y1 27 (cC a b j1 j2)] [13] 14 mixed rfl (by exact Sub.rf) (fun _ _ _ h => h) ?_
    refine RO.quietTT 0 rfl (by kernel_rfl) (q_move rfl) ?_
    refine RO.quietTT 1 rfl (by kernel_rfl) (q_nilCheck rfl) ?_
    refine RO.quietTT 2 rfl (by kernel_rfl) (q_fieldAddr Tryd.underlying65 rfl inf59 rfl rfl) ?_
    refine RO.quietTT 3 rfl (by kernel_rfl) (q_move rfl) ?_
    refine RO.quietTT 4 rfl (by kernel_rfl) (q_nilCheck rfl) ?_
    refine RO.quietTT 5 rfl (by kernel_rfl) (q_fieldAddr Tryd.underlying65 rfl inf25 rfl rfl) ?_
    refine RO.quietTT 6 rfl (by kernel_rfl) (q_load_part 0 (vs := (dC S1 s1)) Tryd.underlying25 rfl inf25 rfl rfl rfl rfl) ?_
    refine RO.quietTT 7 rfl (by kernel_rfl) (q_move rfl) ?_
    refine RO.quietTT 8 rfl (by kernel_rfl) (q_nilCheck rfl) ?_
    refine RO.quietTT 9 rfl (by kernel_rfl) (q_fieldAddr Tryd.underlying65 rfl inf25 rfl rfl) ?_
    refine RO.quietTT 10 rfl (by kernel_rfl) (q_load_part 0 (vs := (dC S2 s2)) Tryd.underlying25 rfl inf25 rfl rfl rfl rfl) ?_
    have hk24 := CallT.under (A := [oI bp 65 (bC (.int .i64 0) S1 S2 s1 s2), dI 54 4 3 S1 s1, dI 54 4 3 S2 s2]) (B := [oI y3 27 [(.int .i64 0), (.int .i64 0), (.slice none 0 0), (.slice none 0 0), (.int .i64 0), (.int .i64 0), (.slice none 0 0), (.slice none 0 0)], oI y2 27 (cC c d j3 j4), oI y1 27 (cC a b j1 j2)]) (O := [oI bp 65 (bC (.int .i64 0) S1 S2 s1 s2), dI 54 4 3 S1 s1, dI 54 4 3 S2 s2, oI y3 27 [(.int .i64 0), (.int .i64 0), (.slice none 0 0), (.slice none 0 0), (.int .i64 0), (.int .i64 0), (.slice none 0 0), (.slice none 0 0)], oI y2 27 (cC c d j3 j4), oI y1 27 (cC a b j1 j2)]) (doB w [dI 54 4 3 S1 s1, dI 54 4 3 S2 s2] bp S1 S2 s1 s2 S1 S2 s1 s2 25 ent25 (fun w1 hI => haveI := Inv.tab (P := Tryd.prog) hI; andZ w1 hz hS1 hS2 s1 s2 (hI.at (k := s1) (List.mem_of_getElem? (i := 0) rfl)) (hI.at (k := s2) (List.mem_of_getElem? (i := 1) rfl)) em1)) (by exact Sub.rf)
    refine RO.forkT [11, 12] (by kernel_rfl) rfl ⟨⟨_, rfl, rfl, l_call ent28 hk24 rfl ?_⟩, ⟨_, rfl, rfl, l_alloc inf25 rfl (fun b7 => ⟨.inr (by exact Sub.d (.k (.k (.k (.k (.k (.k .z))))))), ?_⟩)⟩, trivial⟩ (by kernel_rfl)
    · clear hk24
      rintro vr O' ⟨A1, rfl, k1, rfl, rfl⟩
      
      refine ⟨.inr (by exact Sub.d (.k (.k (.k (.k (.k (.k .z))))))), ?_⟩
      refine RO.forkT [12] (by kernel_rfl) rfl ⟨⟨_, rfl, rfl, l_alloc inf25 rfl (fun b7 => ⟨.inr (by exact Sub.d (.d (.k (.k (.k (.k (.k (.k .z)))))))), ?_⟩)⟩, trivial⟩ (by kernel_rfl)
      refine RO.forkT [13] (by kernel_rfl) rfl ⟨⟨_, rfl, rfl, l_store_box (v := (dV m1 k1)) (vs := (dC m1 k1)) 0 inf25 rfl rfl rfl rfl rfl rfl (by simp [putL]) ⟨.inl (by decide), ?_⟩⟩, trivial⟩ (by kernel_rfl)
      exact RO.fin (by kernel_rfl) ⟨b7, k1, rfl, ⟨rfl, rfl, rfl, rfl, rfl, rfl, rfl, rfl, trivial⟩⟩ (Sub.pick [0, 0, 0, 0, 0, 0, 0, 0] rfl)
    have hk24 := CallT.under (A := [oI bp 65 (bC (.int .i64 0) S1 S2 s1 s2), dI 54 4 3 S1 s1, dI 54 4 3 S2 s2]) (B := [oI b7 25 [(.int .i64 0), (.int .i64 0), (.slice none 0 0), (.slice none 0 0)], oI y3 27 [(.int .i64 0), (.int .i64 0), (.slice none 0 0), (.slice none 0 0), (.int .i64 0), (.int .i64 0), (.slice none 0 0), (.slice none 0 0)], oI y2 27 (cC c d j3 j4), oI y1 27 (cC a b j1 j2)]) (O := [oI b7 25 [(.int .i64 0), (.int .i64 0), (.slice none 0 0), (.slice none 0 0)], oI bp 65 (bC (.int .i64 0) S1 S2 s1 s2), dI 54 4 3 S1 s1, dI 54 4 3 S2 s2, oI y3 27 [(.int .i64 0), (.int .i64 0), (.slice none 0 0), (.slice none 0 0), (.int .i64 0), (.int .i64 0), (.slice none 0 0), (.slice none 0 0)], oI y2 27 (cC c d j3 j4), oI y1 27 (cC a b j1 j2)]) (doB w [dI 54 4 3 S1 s1, dI 54 4 3 S2 s2] bp S1 S2 s1 s2 S1 S2 s1 s2 25 ent25 (fun w1 hI => haveI := Inv.tab (P := Tryd.prog) hI; andZ w1 hz hS1 hS2 s1 s2 (hI.at (k := s1) (List.mem_of_getElem? (i := 0) rfl)) (hI.at (k := s2) (List.mem_of_getElem? (i := 1) rfl)) em1)) (by exact Sub.pull [oI b7 25 [(.int .i64 0), (.int .i64 0), (.slice none 0 0), (.slice none 0 0)]] _ (.pull [oI b7 25 [(.int .i64 0), (.int .i64 0), (.slice none 0 0), (.slice none 0 0)]] _ (.pull [oI b7 25 [(.int .i64 0), (.int .i64 0), (.slice none 0 0), (.slice none 0 0)]] _ (.k (.k (.k (.k .z)))))))
    refine RO.forkT [11] (by kernel_rfl) rfl ⟨⟨_, rfl, rfl, l_call ent28 hk24 rfl ?_⟩, trivial⟩ (by kernel_rfl)
    clear hk24
    rintro vr O' ⟨A1, rfl, k1, rfl, rfl⟩
    
    refine ⟨.inr (by exact Sub.d (.k (.k (.k (.d (.k (.k (.k .z)))))))), ?_⟩
    refine RO.forkT [13] (by kernel_rfl) rfl ⟨⟨_, rfl, rfl, l_store_box (v := (dV m1 k1)) (vs := (dC m1 k1)) 4 inf25 rfl rfl rfl rfl rfl rfl (by simp [putL]) ⟨.inl (by decide), ?_⟩⟩, trivial⟩ (by kernel_rfl)
    exact RO.fin (by kernel_rfl) ⟨b7, k1, rfl, ⟨rfl, rfl, rfl, rfl, rfl, rfl, rfl, rfl, trivial⟩⟩ (Sub.pick [4, 0, 0, 0, 0, 0, 0, 0] rfl)
  rintro ρ O ⟨b7, k1, rfl, hH⟩
  obtain ⟨ρ0, rfl⟩ := hH.elim
  clear hH
  refine T.cut (fun ρ O => ∃ (b8 : Nat) (k2 : DK), O = [oI b8 25 (dC m2 k2), dI 54 4 3 m2 k2, oI b7 25 (dC m1 k1), dI 54 4 3 m1 k1, oI bp 65 (bC (.int .i64 0) S1 S2 s1 s2), dI 54 4 3 S1 s1, dI 54 4 3 S2 s2, oI y3 27 [(.int .i64 0), (.int .i64 0), (.slice none 0 0), (.slice none 0 0), (.int .i64 0), (.int .i64 0), (.slice none 0 0), (.slice none 0 0)], oI y2 27 (cC c d j3 j4), oI y1 27 (cC a b j1 j2)] ∧ Heads [(0, (cV a b j1 j2)), (1, (cV c d j3 j4)), (2, (.pointer (some ⟨y1, 0, none⟩))), (3, (.pointer (some ⟨y2, 0, none⟩))), (4, (.pointer (some ⟨y3, 0, none⟩))), (5, .int .i64 0), (6, (.pointer (some ⟨bp, 0, none⟩))), (7, (.pointer (some ⟨b7, 0, none⟩))), (8, (.pointer (some ⟨b8, 0, none⟩)))] ρ) ?_ ?_
  · refine T.treeT [oI b7 25 (dC m1 k1), dI 54 4 3 m1 k1, oI bp 65 (bC (.int .i64 0) S1 S2 s1 s2), dI 54 4 3 S1 s1, dI 54 4 3 S2 s2, oI y3 27 [(.int .i64 0), (.int .i64 0), (.slice none 0 0), (.slice none 0 0), (.int .i64 0), (.int .i64 0), (.slice none 0 0), (.slice none 0 0)], oI y2 27 (cC c d j3 j4), oI y1 27 (cC a b j1 j2)] [9] 10 mixed rfl (by exact Sub.rf) (fun _ _ _ h => h) ?_
    refine RO.quietTT 0 rfl (by kernel_rfl) (q_move rfl) ?_
    refine RO.quietTT 1 rfl (by kernel_rfl) (q_nilCheck rfl) ?_
    refine RO.quietTT 2 rfl (by kernel_rfl) (q_fieldAddr Tryd.underlying65 rfl inf59 rfl rfl) ?_
    refine RO.quietTT 3 rfl (by kernel_rfl) (q_fieldAddr Tryd.underlying27 rfl inf25 rfl rfl) ?_
    refine RO.quietTT 4 rfl (by kernel_rfl) (q_load_part 7 (vs := (dC a j1)) Tryd.underlying25 rfl inf25 rfl rfl rfl rfl) ?_
    refine RO.quietTT 5 rfl (by kernel_rfl) (q_fieldAddr Tryd.underlying27 rfl inf25 rfl rfl) ?_
    refine RO.quietTT 6 rfl (by kernel_rfl) (q_load_part 6 (vs := (dC c j3)) Tryd.underlying25 rfl inf25 rfl rfl rfl rfl) ?_
    have hk32 := CallT.under (A := [oI bp 65 (bC (.int .i64 0) S1 S2 s1 s2)]) (B := [oI b7 25 (dC m1 k1), dI 54 4 3 m1 k1, dI 54 4 3 S1 s1, dI 54 4 3 S2 s2, oI y3 27 [(.int .i64 0), (.int .i64 0), (.slice none 0 0), (.slice none 0 0), (.int .i64 0), (.int .i64 0), (.slice none 0 0), (.slice none 0 0)], oI y2 27 (cC c d j3 j4), oI y1 27 (cC a b j1 j2)]) (O := [oI b7 25 (dC m1 k1), dI 54 4 3 m1 k1, oI bp 65 (bC (.int .i64 0) S1 S2 s1 s2), dI 54 4 3 S1 s1, dI 54 4 3 S2 s2, oI y3 27 [(.int .i64 0), (.int .i64 0), (.slice none 0 0), (.slice none 0 0), (.int .i64 0), (.int .i64 0), (.slice none 0 0), (.slice none 0 0)], oI y2 27 (cC c d j3 j4), oI y1 27 (cC a b j1 j2)]) (doB w [] bp S1 S2 s1 s2 a c j1 j3 25 ent25 (fun w1 hI => haveI := Inv.tab (P := Tryd.prog) hI; andZ w1 hz ha hc j1 j3 (hI.atB hj1) (hI.atB hj3) em2)) (by exact Sub.pull [oI b7 25 (dC m1 k1), dI 54 4 3 m1 k1] _ (.k (.k (.k (.k (.k (.k (.k .z))))))))
    refine RO.forkT [7, 8] (by kernel_rfl) rfl ⟨⟨_, rfl, rfl, l_call ent28 hk32 rfl ?_⟩, ⟨_, rfl, rfl, l_alloc inf25 rfl (fun b8 => ⟨.inr (by exact Sub.d (.k (.k (.k (.k (.k (.k (.k (.k .z))))))))), ?_⟩)⟩, trivial⟩ (by kernel_rfl)
    · clear hk32
      rintro vr O' ⟨A1, rfl, k2, rfl, rfl⟩
      
      refine ⟨.inr (by exact Sub.d (.pull [oI bp 65 (bC (.int .i64 0) S1 S2 s1 s2)] _ (.pull [oI bp 65 (bC (.int .i64 0) S1 S2 s1 s2)] _ (.k (.k (.k (.k (.k (.k .z))))))))), ?_⟩
      refine RO.forkT [8] (by kernel_rfl) rfl ⟨⟨_, rfl, rfl, l_alloc inf25 rfl (fun b8 => ⟨.inr (by exact Sub.d (.d (.pull [oI bp 65 (bC (.int .i64 0) S1 S2 s1 s2)] _ (.pull [oI bp 65 (bC (.int .i64 0) S1 S2 s1 s2)] _ (.k (.k (.k (.k (.k (.k .z)))))))))), ?_⟩)⟩, trivial⟩ (by kernel_rfl)
      refine RO.forkT [9] (by kernel_rfl) rfl ⟨⟨_, rfl, rfl, l_store_box (v := (dV m2 k2)) (vs := (dC m2 k2)) 0 inf25 rfl rfl rfl rfl rfl rfl (by simp [putL]) ⟨.inl (by decide), ?_⟩⟩, trivial⟩ (by kernel_rfl)
      exact RO.fin (by kernel_rfl) ⟨b8, k2, rfl, ⟨rfl, rfl, rfl, rfl, rfl, rfl, rfl, rfl, rfl, trivial⟩⟩ (Sub.pick [0, 0, 1, 1, 0, 0, 0, 0, 0, 0] rfl)
    have hk32 := CallT.under (A := [oI bp 65 (bC (.int .i64 0) S1 S2 s1 s2)]) (B := [oI b8 25 [(.int .i64 0), (.int .i64 0), (.slice none 0 0), (.slice none 0 0)], oI b7 25 (dC m1 k1), dI 54 4 3 m1 k1, dI 54 4 3 S1 s1, dI 54 4 3 S2 s2, oI y3 27 [(.int .i64 0), (.int .i64 0), (.slice none 0 0), (.slice none 0 0), (.int .i64 0), (.int .i64 0), (.slice none 0 0), (.slice none 0 0)], oI y2 27 (cC c d j3 j4), oI y1 27 (cC a b j1 j2)]) (O := [oI b8 25 [(.int .i64 0), (.int .i64 0), (.slice none 0 0), (.slice none 0 0)], oI b7 25 (dC m1 k1), dI 54 4 3 m1 k1, oI bp 65 (bC (.int .i64 0) S1 S2 s1 s2), dI 54 4 3 S1 s1, dI 54 4 3 S2 s2, oI y3 27 [(.int .i64 0), (.int .i64 0), (.slice none 0 0), (.slice none 0 0), (.int .i64 0), (.int .i64 0), (.slice none 0 0), (.slice none 0 0)], oI y2 27 (cC c d j3 j4), oI y1 27 (cC a b j1 j2)]) (doB w [] bp S1 S2 s1 s2 a c j1 j3 25 ent25 (fun w1 hI => haveI := Inv.tab (P := Tryd.prog) hI; andZ w1 hz ha hc j1 j3 (hI.atB hj1) (hI.atB hj3) em2)) (by exact Sub.pull [oI b8 25 [(.int .i64 0), (.int .i64 0), (.slice none 0 0), (.slice none 0 0)], oI b7 25 (dC m1 k1), dI 54 4 3 m1 k1] _ (.k (.k (.k (.k (.k (.k (.k (.k .z)))))))))
    refine RO.forkT [7] (by kernel_rfl) rfl ⟨⟨_, rfl, rfl, l_call ent28 hk32 rfl ?_⟩, trivial⟩ (by kernel_rfl)
    clear hk32
    rintro vr O' ⟨A1, rfl, k2, rfl, rfl⟩
    
    refine ⟨.inr (by exact Sub.d (.pull [oI bp 65 (bC (.int .i64 0) S1 S2 s1 s2), oI b8 25 [(.int .i64 0), (.int .i64 0), (.slice none 0 0), (.slice none 0 0)]] _ (.pull [oI bp 65 (bC (.int .i64 0) S1 S2 s1 s2), oI b8 25 [(.int .i64 0), (.int .i64 0), (.slice none 0 0), (.slice none 0 0)]] _ (.k (.d (.k (.k (.k (.k (.k .z)))))))))), ?_⟩
    refine RO.forkT [9] (by kernel_rfl) rfl ⟨⟨_, rfl, rfl, l_store_box (v := (dV m2 k2)) (vs := (dC m2 k2)) 2 inf25 rfl rfl rfl rfl rfl rfl (by simp [putL]) ⟨.inl (by decide), ?_⟩⟩, trivial⟩ (by kernel_rfl)
    exact RO.fin (by kernel_rfl) ⟨b8, k2, rfl, ⟨rfl, rfl, rfl, rfl, rfl, rfl, rfl, rfl, rfl, trivial⟩⟩ (Sub.pick [2, 0, 1, 1, 0, 0, 0, 0, 0, 0] rfl)
  rintro ρ O ⟨b8, k2, rfl, hH⟩
  obtain ⟨ρ0, rfl⟩ := hH.elim
  clear hH
  refine T.cut (fun ρ O => ∃ (b9 : Nat) (k3 : DK), O = [oI b9 25 (dC m3 k3), dI 54 4 3 m3 k3, oI b8 25 (dC m2 k2), dI 54 4 3 m2 k2, oI b7 25 (dC m1 k1), dI 54 4 3 m1 k1, oI bp 65 (bC (.int .i64 0) S1 S2 s1 s2), dI 54 4 3 S1 s1, dI 54 4 3 S2 s2, oI y3 27 [(.int .i64 0), (.int .i64 0), (.slice none 0 0), (.slice none 0 0), (.int .i64 0), (.int .i64 0), (.slice none 0 0), (.slice none 0 0)], oI y2 27 (cC c d j3 j4), oI y1 27 (cC a b j1 j2)] ∧ Heads [(0, (cV a b j1 j2)), (1, (cV c d j3 j4)), (2, (.pointer (some ⟨y1, 0, none⟩))), (3, (.pointer (some ⟨y2, 0, none⟩))), (4, (.pointer (some ⟨y3, 0, none⟩))), (5, .int .i64 0), (6, (.pointer (some ⟨bp, 0, none⟩))), (7, (.pointer (some ⟨b7, 0, none⟩))), (8, (.pointer (some ⟨b8, 0, none⟩))), (9, (.pointer (some ⟨b9, 0, none⟩)))] ρ) ?_ ?_
  · refine T.treeT [oI b8 25 (dC m2 k2), dI 54 4 3 m2 k2, oI b7 25 (dC m1 k1), dI 54 4 3 m1 k1, oI bp 65 (bC (.int .i64 0) S1 S2 s1 s2), dI 54 4 3 S1 s1, dI 54 4 3 S2 s2, oI y3 27 [(.int .i64 0), (.int .i64 0), (.slice none 0 0), (.slice none 0 0), (.int .i64 0), (.int .i64 0), (.slice none 0 0), (.slice none 0 0)], oI y2 27 (cC c d j3 j4), oI y1 27 (cC a b j1 j2)] [6] 7 mixed rfl (by exact Sub.rf) (fun _ _ _ h => h) ?_
    refine RO.quietTT 0 rfl (by kernel_rfl) (q_move rfl) ?_
    refine RO.quietTT 1 rfl (by kernel_rfl) (q_nilCheck rfl) ?_
    refine RO.quietTT 2 rfl (by kernel_rfl) (q_fieldAddr Tryd.underlying65 rfl inf59 rfl rfl) ?_
    refine RO.quietTT 3 rfl (by kernel_rfl) (q_load_boxAgg 2 Tryd.underlying25 rfl inf25 rfl rfl rfl) ?_
    have hk37 := CallT.under (A := [oI bp 65 (bC (.int .i64 0) S1 S2 s1 s2), dI 54 4 3 m1 k1]) (B := [oI b8 25 (dC m2 k2), dI 54 4 3 m2 k2, oI b7 25 (dC m1 k1), dI 54 4 3 S1 s1, dI 54 4 3 S2 s2, oI y3 27 [(.int .i64 0), (.int .i64 0), (.slice none 0 0), (.slice none 0 0), (.int .i64 0), (.int .i64 0), (.slice none 0 0), (.slice none 0 0)], oI y2 27 (cC c d j3 j4), oI y1 27 (cC a b j1 j2)]) (O := [oI b8 25 (dC m2 k2), dI 54 4 3 m2 k2, oI b7 25 (dC m1 k1), dI 54 4 3 m1 k1, oI bp 65 (bC (.int .i64 0) S1 S2 s1 s2), dI 54 4 3 S1 s1, dI 54 4 3 S2 s2, oI y3 27 [(.int .i64 0), (.int .i64 0), (.slice none 0 0), (.slice none 0 0), (.int .i64 0), (.int .i64 0), (.slice none 0 0), (.slice none 0 0)], oI y2 27 (cC c d j3 j4), oI y1 27 (cC a b j1 j2)]) (notM w [dI 54 4 3 m1 k1] bp S1 S2 s1 s2 hz hm1 k1 (fun w1 hI => haveI := Inv.tab (P := Tryd.prog) hI; (hI.at (k := k1) (List.mem_of_getElem? (i := 0) rfl))) em3) (by exact Sub.pull [oI b8 25 (dC m2 k2), dI 54 4 3 m2 k2, oI b7 25 (dC m1 k1), dI 54 4 3 m1 k1] _ (.pull [oI b8 25 (dC m2 k2), dI 54 4 3 m2 k2, oI b7 25 (dC m1 k1)] _ (.k (.k (.k (.k (.k (.k (.k (.k .z))))))))))
    refine RO.forkT [4, 5] (by kernel_rfl) rfl ⟨⟨_, rfl, rfl, l_call ent39 hk37 rfl ?_⟩, ⟨_, rfl, rfl, l_alloc inf25 rfl (fun b9 => ⟨.inr (by exact Sub.d (.k (.k (.k (.k (.k (.k (.k (.k (.k (.k .z))))))))))), ?_⟩)⟩, trivial⟩ (by kernel_rfl)
    · clear hk37
      rintro vr O' ⟨A1, rfl, k3, rfl, rfl⟩
      refine ⟨.inr (by exact Sub.d (.pull [oI bp 65 (bC (.int .i64 0) S1 S2 s1 s2), dI 54 4 3 m1 k1] _ (.pull [oI bp 65 (bC (.int .i64 0) S1 S2 s1 s2), dI 54 4 3 m1 k1] _ (.pull [oI bp 65 (bC (.int .i64 0) S1 S2 s1 s2), dI 54 4 3 m1 k1] _ (.pull [oI bp 65 (bC (.int .i64 0) S1 S2 s1 s2)] _ (.k (.k (.k (.k (.k (.k .z))))))))))), ?_⟩
      refine RO.forkT [5] (by kernel_rfl) rfl ⟨⟨_, rfl, rfl, l_alloc inf25 rfl (fun b9 => ⟨.inr (by exact Sub.d (.d (.pull [oI bp 65 (bC (.int .i64 0) S1 S2 s1 s2), dI 54 4 3 m1 k1] _ (.pull [oI bp 65 (bC (.int .i64 0) S1 S2 s1 s2), dI 54 4 3 m1 k1] _ (.pull [oI bp 65 (bC (.int .i64 0) S1 S2 s1 s2), dI 54 4 3 m1 k1] _ (.pull [oI bp 65 (bC (.int .i64 0) S1 S2 s1 s2)] _ (.k (.k (.k (.k (.k (.k .z)))))))))))), ?_⟩)⟩, trivial⟩ (by kernel_rfl)
      refine RO.forkT [6] (by kernel_rfl) rfl ⟨⟨_, rfl, rfl, l_store_box (v := (dV m3 k3)) (vs := (dC m3 k3)) 0 inf25 rfl rfl rfl rfl rfl rfl (by simp [putL]) ⟨.inl (by decide), ?_⟩⟩, trivial⟩ (by kernel_rfl)
      exact RO.fin (by kernel_rfl) ⟨b9, k3, rfl, ⟨rfl, rfl, rfl, rfl, rfl, rfl, rfl, rfl, rfl, rfl, trivial⟩⟩ (Sub.pick [0, 0, 2, 2, 2, 1, 0, 0, 0, 0, 0, 0] rfl)
    have hk37 := CallT.under (A := [oI bp 65 (bC (.int .i64 0) S1 S2 s1 s2), dI 54 4 3 m1 k1]) (B := [oI b9 25 [(.int .i64 0), (.int .i64 0), (.slice none 0 0), (.slice none 0 0)], oI b8 25 (dC m2 k2), dI 54 4 3 m2 k2, oI b7 25 (dC m1 k1), dI 54 4 3 S1 s1, dI 54 4 3 S2 s2, oI y3 27 [(.int .i64 0), (.int .i64 0), (.slice none 0 0), (.slice none 0 0), (.int .i64 0), (.int .i64 0), (.slice none 0 0), (.slice none 0 0)], oI y2 27 (cC c d j3 j4), oI y1 27 (cC a b j1 j2)]) (O := [oI b9 25 [(.int .i64 0), (.int .i64 0), (.slice none 0 0), (.slice none 0 0)], oI b8 25 (dC m2 k2), dI 54 4 3 m2 k2, oI b7 25 (dC m1 k1), dI 54 4 3 m1 k1, oI bp 65 (bC (.int .i64 0) S1 S2 s1 s2), dI 54 4 3 S1 s1, dI 54 4 3 S2 s2, oI y3 27 [(.int .i64 0), (.int .i64 0), (.slice none 0 0), (.slice none 0 0), (.int .i64 0), (.int .i64 0), (.slice none 0 0), (.slice none 0 0)], oI y2 27 (cC c d j3 j4), oI y1 27 (cC a b j1 j2)]) (notM w [dI 54 4 3 m1 k1] bp S1 S2 s1 s2 hz hm1 k1 (fun w1 hI => haveI := Inv.tab (P := Tryd.prog) hI; (hI.at (k := k1) (List.mem_of_getElem? (i := 0) rfl))) em3) (by exact Sub.pull [oI b9 25 [(.int .i64 0), (.int .i64 0), (.slice none 0 0), (.slice none 0 0)], oI b8 25 (dC m2 k2), dI 54 4 3 m2 k2, oI b7 25 (dC m1 k1), dI 54 4 3 m1 k1] _ (.pull [oI b9 25 [(.int .i64 0), (.int .i64 0), (.slice none 0 0), (.slice none 0 0)], oI b8 25 (dC m2 k2), dI 54 4 3 m2 k2, oI b7 25 (dC m1 k1)] _ (.k (.k (.k (.k (.k (.k (.k (.k (.k .z)))))))))))
    refine RO.forkT [4] (by kernel_rfl) rfl ⟨⟨_, rfl, rfl, l_call ent39 hk37 rfl ?_⟩, trivial⟩ (by kernel_rfl)
    clear hk37
    rintro vr O' ⟨A1, rfl, k3, rfl, rfl⟩
    refine ⟨.inr (by exact Sub.d (.pull [oI bp 65 (bC (.int .i64 0) S1 S2 s1 s2), dI 54 4 3 m1 k1, oI b9 25 [(.int .i64 0), (.int .i64 0), (.slice none 0 0), (.slice none 0 0)]] _ (.pull [oI bp 65 (bC (.int .i64 0) S1 S2 s1 s2), dI 54 4 3 m1 k1, oI b9 25 [(.int .i64 0), (.int .i64 0), (.slice none 0 0), (.slice none 0 0)]] _ (.pull [oI bp 65 (bC (.int .i64 0) S1 S2 s1 s2), dI 54 4 3 m1 k1, oI b9 25 [(.int .i64 0), (.int .i64 0), (.slice none 0 0), (.slice none 0 0)]] _ (.pull [oI bp 65 (bC (.int .i64 0) S1 S2 s1 s2)] _ (.k (.d (.k (.k (.k (.k (.k .z)))))))))))), ?_⟩
    refine RO.forkT [6] (by kernel_rfl) rfl ⟨⟨_, rfl, rfl, l_store_box (v := (dV m3 k3)) (vs := (dC m3 k3)) 3 inf25 rfl rfl rfl rfl rfl rfl (by simp [putL]) ⟨.inl (by decide), ?_⟩⟩, trivial⟩ (by kernel_rfl)
    exact RO.fin (by kernel_rfl) ⟨b9, k3, rfl, ⟨rfl, rfl, rfl, rfl, rfl, rfl, rfl, rfl, rfl, rfl, trivial⟩⟩ (Sub.pick [3, 0, 2, 2, 2, 1, 0, 0, 0, 0, 0, 0] rfl)
  rintro ρ O ⟨b9, k3, rfl, hH⟩
  obtain ⟨ρ0, rfl⟩ := hH.elim
  clear hH
  refine T.seq ?_
  refine T.draws _ [(0, 0), (1, 0), (2, 0), (3, 0), (4, 0), (5, 0), (7, 0), (6, 1), (8, 1), (9, 0), (10, 0), (11, 2), (12, 2)] mixed (by kernel_rfl) (Sub.of (List.Sublist.refl _)) (fun _ _ _ h => h) ?_
  refine DO.quiet rfl (q_move rfl) (DO.quiet rfl (q_move rfl) (DO.quiet rfl (q_nilCheck rfl) (DO.quiet rfl (q_fieldAddr Tryd.underlying65 rfl inf59 rfl rfl) ?_)))
  refine DO.quiet rfl (q_load_boxAgg 2 Tryd.underlying25 rfl inf25 rfl rfl rfl) (DO.quiet rfl (q_load_boxAgg 0 Tryd.underlying25 rfl inf25 rfl rfl rfl) (DO.quiet rfl (q_load_boxAgg 4 Tryd.underlying25 rfl inf25 rfl rfl rfl) ?_))
  have hk44 := CallT.under (A := [oI bp 65 (bC (.int .i64 0) S1 S2 s1 s2), dI 54 4 3 m2 k2, dI 54 4 3 m3 k3]) (B := [oI b9 25 (dC m3 k3), oI b8 25 (dC m2 k2), oI b7 25 (dC m1 k1), dI 54 4 3 m1 k1, dI 54 4 3 S1 s1, dI 54 4 3 S2 s2, oI y3 27 [(.int .i64 0), (.int .i64 0), (.slice none 0 0), (.slice none 0 0), (.int .i64 0), (.int .i64 0), (.slice none 0 0), (.slice none 0 0)], oI y2 27 (cC c d j3 j4), oI y1 27 (cC a b j1 j2)]) (O := [oI b9 25 (dC m3 k3), dI 54 4 3 m3 k3, oI b8 25 (dC m2 k2), dI 54 4 3 m2 k2, oI b7 25 (dC m1 k1), dI 54 4 3 m1 k1, oI bp 65 (bC (.int .i64 0) S1 S2 s1 s2), dI 54 4 3 S1 s1, dI 54 4 3 S2 s2, oI y3 27 [(.int .i64 0), (.int .i64 0), (.slice none 0 0), (.slice none 0 0), (.int .i64 0), (.int .i64 0), (.slice none 0 0), (.slice none 0 0)], oI y2 27 (cC c d j3 j4), oI y1 27 (cC a b j1 j2)]) (doB w [dI 54 4 3 m2 k2, dI 54 4 3 m3 k3] bp S1 S2 s1 s2 m2 m3 k2 k3 32 ent32 (fun w1 hI => haveI := Inv.tab (P := Tryd.prog) hI; orZ w1 hz hm2 hm3 k2 k3 (hI.at (k := k2) (List.mem_of_getElem? (i := 0) rfl)) (hI.at (k := k3) (List.mem_of_getElem? (i := 1) rfl)) em4)) (by exact Sub.pull [oI b9 25 (dC m3 k3), dI 54 4 3 m3 k3, oI b8 25 (dC m2 k2), dI 54 4 3 m2 k2, oI b7 25 (dC m1 k1), dI 54 4 3 m1 k1] _ (.pull [oI b9 25 (dC m3 k3), dI 54 4 3 m3 k3, oI b8 25 (dC m2 k2)] _ (.pull [oI b9 25 (dC m3 k3)] _ (.k (.k (.k (.k (.k (.k (.k (.k (.k .z))))))))))))
  refine DO.loud rfl rfl (l_call ent28 hk44 rfl ?_)
  clear hk44
  rintro vr O' ⟨A1, rfl, k4, rfl, rfl⟩
  refine ⟨by exact Sub.d (.pull [oI bp 65 (bC (.int .i64 0) S1 S2 s1 s2), dI 54 4 3 m2 k2, dI 54 4 3 m3 k3] _ (.pull [oI bp 65 (bC (.int .i64 0) S1 S2 s1 s2), dI 54 4 3 m2 k2] _ (.pull [oI bp 65 (bC (.int .i64 0) S1 S2 s1 s2), dI 54 4 3 m2 k2] _ (.pull [oI bp 65 (bC (.int .i64 0) S1 S2 s1 s2)] _ (.pull [oI bp 65 (bC (.int .i64 0) S1 S2 s1 s2)] _ (.pull [oI bp 65 (bC (.int .i64 0) S1 S2 s1 s2)] _ (.k (.k (.k (.k (.k (.k .z)))))))))))), ?_⟩
  
  have hk46 := CallT.under (A := [oI bp 65 (bC (.int .i64 0) S1 S2 s1 s2)]) (B := [dI 54 4 3 m4 k4, dI 54 4 3 m2 k2, dI 54 4 3 m3 k3, oI b9 25 (dC m3 k3), oI b8 25 (dC m2 k2), oI b7 25 (dC m1 k1), dI 54 4 3 m1 k1, dI 54 4 3 S1 s1, dI 54 4 3 S2 s2, oI y3 27 [(.int .i64 0), (.int .i64 0), (.slice none 0 0), (.slice none 0 0), (.int .i64 0), (.int .i64 0), (.slice none 0 0), (.slice none 0 0)], oI y2 27 (cC c d j3 j4), oI y1 27 (cC a b j1 j2)]) (O := [dI 54 4 3 m4 k4, oI bp 65 (bC (.int .i64 0) S1 S2 s1 s2), dI 54 4 3 m2 k2, dI 54 4 3 m3 k3, oI b9 25 (dC m3 k3), oI b8 25 (dC m2 k2), oI b7 25 (dC m1 k1), dI 54 4 3 m1 k1, dI 54 4 3 S1 s1, dI 54 4 3 S2 s2, oI y3 27 [(.int .i64 0), (.int .i64 0), (.slice none 0 0), (.slice none 0 0), (.int .i64 0), (.int .i64 0), (.slice none 0 0), (.slice none 0 0)], oI y2 27 (cC c d j3 j4), oI y1 27 (cC a b j1 j2)]) (built w [] bp S1 S2 s1 s2 m4 m1 k4 k1) (by exact Sub.pull [dI 54 4 3 m4 k4] _ (.k (.k (.k (.k (.k (.k (.k (.k (.k (.k (.k (.k .z)))))))))))))
  refine DO.loud rfl rfl (l_call ent40 hk46 rfl ?_)
  clear hk46
  rintro vr O' ⟨A1, rfl, rfl, rfl⟩
  refine ⟨by exact Sub.pull [oI bp 65 (bC (.int .i64 0) S1 S2 s1 s2), dI 54 4 3 m4 k4, dI 54 4 3 m2 k2, dI 54 4 3 m3 k3] _ (.pull [oI bp 65 (bC (.int .i64 0) S1 S2 s1 s2), dI 54 4 3 m4 k4, dI 54 4 3 m2 k2] _ (.pull [oI bp 65 (bC (.int .i64 0) S1 S2 s1 s2), dI 54 4 3 m4 k4, dI 54 4 3 m2 k2] _ (.pull [oI bp 65 (bC (.int .i64 0) S1 S2 s1 s2), dI 54 4 3 m4 k4] _ (.pull [oI bp 65 (bC (.int .i64 0) S1 S2 s1 s2), dI 54 4 3 m4 k4] _ (.pull [oI bp 65 (bC (.int .i64 0) S1 S2 s1 s2), dI 54 4 3 m4 k4] _ (.k (.d (.k (.k (.k (.k (.k .z)))))))))))), ?_⟩
  refine DO.quiet rfl (q_extract (vs := _) rfl rfl) (DO.quiet rfl (q_extract (vs := _) rfl rfl) ?_)
  refine DO.last rfl rfl (l_store_box (v := (cV m4 m1 k4 k1)) (vs := (cC m4 m1 k4 k1)) 10 inf27 rfl rfl rfl rfl rfl rfl (by simp [putL]) ?_)
  refine DO.last rfl rfl (LT.of_quiet rfl rfl (q_assign rfl) ?_)
  refine DO.done ?_
  refine T.ret (Res.drop ?_)
  refine Res.cell1b (.int .i64 0) (i := 10) Tryd.results16 Tryd.underlying27 rfl inf27 rfl rfl rfl rfl ?_
  exact ⟨[dI 54 4 3 m4 k4, dI 54 4 3 m1 k1], (Sub.pick [1, 6] rfl), k4, k1, by subst em4; subst em3; subst em2; subst em1; subst eS2; subst eS1; rfl, by subst em4; subst em3; subst em2; subst em1; subst eS2; subst eS1; rfl⟩
set_option maxHeartbeats 8000000 in
set_option maxRecDepth 20000 in
theorem satC (w : World) [Tab Tryd.prog w] {z a b : DFA} {p q : List Nat → Bool} (hz : Valid z) (ha : InL z a p) (hb : InL z b q) (j1 j2 : DK) (hj1 : At w a j1) (hj2 : At w b j2) :
    PureT Tryd.prog 23 [cV a b j1 j2] w fun v N => ∃ k1 k2 : DK, v = .tuple #[cV (minD a) (satD a b) k1 k2, .int .i64 0] ∧ N = [dI 54 4 3 (minD a) k1, dI 54 4 3 (satD a b) k2] := by
  refine CallT.enter Tryd.func23 rfl Tryd.ntmps23 rfl ?_
  have hS1 := (InL.sat hz ha hb).2
  obtain ⟨S1, eS1⟩ : ∃ m, satD a b = m := ⟨_, rfl⟩
  rw [eS1] at hS1
  obtain ⟨mA, emA⟩ : ∃ m, minD a = m := ⟨_, rfl⟩
  refine T.seq (T.region ?_)
  refine TO.loud rfl (l_box (v := (cV a b j1 j2)) (cs := (cC a b j1 j2)) rfl rfl (fun y1 => ?_))
  refine TO.loud rfl (l_alloc inf27 rfl (fun y2 => ?_))
  refine TO.quiet (q_assign rfl) ?_
  refine TO.nil (T.seq (T.region ?_))
  refine TO.quiet (q_load_boxAgg 1 Tryd.underlying27 rfl inf27 rfl rfl rfl) (TO.quiet (q_load_boxAgg 1 Tryd.underlying27 rfl inf27 rfl rfl rfl) ?_)
  have hk7 := fun (w1 : World) (hI : Inv w [oI y2 27 [(.int .i64 0), (.int .i64 0), (.slice none 0 0), (.slice none 0 0), (.int .i64 0), (.int .i64 0), (.slice none 0 0), (.slice none 0 0)], oI y1 27 (cC a b j1 j2)] w1) => (haveI := Inv.tab (P := Tryd.prog) hI; startC w1 hz ha hb ha hb j1 j2 j1 j2 (hI.atB hj1) (hI.atB hj2) (hI.atB hj1) (hI.atB hj2) eS1 eS1)
  refine TO.loud rfl (l_call ent31 (CallT.of_pure hk7) rfl ?_)
  clear hk7
  rintro vr O' ⟨N, rfl, bp, s1, s2, rfl, rfl⟩
  refine TO.quiet (q_assign rfl) ?_
  refine TO.nil (T.seq ?_)
  refine T.draws _ [(0, 0), (1, 0), (2, 0), (3, 0), (4, 0), (5, 0), (6, 0), (7, 0), (9, 0), (10, 0), (11, 0), (12, 0), (8, 1), (13, 1), (14, 0), (15, 0), (16, 2), (17, 2)] mixed (by kernel_rfl) (Sub.of (List.Sublist.refl _)) (fun _ _ _ h => h) ?_
  refine DO.quiet rfl (q_move rfl) (DO.quiet rfl (q_move rfl) (DO.quiet rfl (q_nilCheck rfl) (DO.quiet rfl (q_fieldAddr Tryd.underlying65 rfl inf59 rfl rfl) ?_)))
  refine DO.quiet rfl (q_fieldAddr Tryd.underlying27 rfl inf25 rfl rfl) (DO.quiet rfl (q_load_part 4 (vs := (dC a j1)) Tryd.underlying25 rfl inf25 rfl rfl rfl rfl) (DO.quiet rfl (q_fieldAddr Tryd.underlying27 rfl inf25 rfl rfl) (DO.quiet rfl (q_load_part 4 (vs := (dC a j1)) Tryd.underlying25 rfl inf25 rfl rfl rfl rfl) ?_)))
  refine DO.quiet rfl (q_move rfl) (DO.quiet rfl (q_nilCheck rfl) (DO.quiet rfl (q_fieldAddr Tryd.underlying65 rfl inf25 rfl rfl) (DO.quiet rfl (q_load_part 0 (vs := (dC S1 s1)) Tryd.underlying25 rfl inf25 rfl rfl rfl rfl) ?_)))
  have hk16 := CallT.under (A := [oI bp 65 (bC (.int .i64 0) S1 S1 s1 s2)]) (B := [dI 54 4 3 S1 s1, dI 54 4 3 S1 s2, oI y2 27 [(.int .i64 0), (.int .i64 0), (.slice none 0 0), (.slice none 0 0), (.int .i64 0), (.int .i64 0), (.slice none 0 0), (.slice none 0 0)], oI y1 27 (cC a b j1 j2)]) (O := [oI bp 65 (bC (.int .i64 0) S1 S1 s1 s2), dI 54 4 3 S1 s1, dI 54 4 3 S1 s2, oI y2 27 [(.int .i64 0), (.int .i64 0), (.slice none 0 0), (.slice none 0 0), (.int .i64 0), (.int .i64 0), (.slice none 0 0), (.slice none 0 0)], oI y1 27 (cC a b j1 j2)]) (doB w [] bp S1 S1 s1 s2 a a j1 j1 44 ent44 (fun w1 hI => haveI := Inv.tab (P := Tryd.prog) hI; min1Z w1 a a ha.has.valid j1 j1 (hI.atB hj1) emA)) (by exact Sub.rf)
  refine DO.loud rfl rfl (l_call ent28 hk16 rfl ?_)
  clear hk16
  rintro vr O' ⟨A1, rfl, kA, rfl, rfl⟩
  refine ⟨by exact Sub.d (.k (.k (.k (.k (.k .z))))), ?_⟩
  have hk21 := CallT.under (A := [oI bp 65 (bC (.int .i64 0) S1 S1 s1 s2)]) (B := [dI 54 4 3 mA kA, dI 54 4 3 S1 s1, dI 54 4 3 S1 s2, oI y2 27 [(.int .i64 0), (.int .i64 0), (.slice none 0 0), (.slice none 0 0), (.int .i64 0), (.int .i64 0), (.slice none 0 0), (.slice none 0 0)], oI y1 27 (cC a b j1 j2)]) (O := [dI 54 4 3 mA kA, oI bp 65 (bC (.int .i64 0) S1 S1 s1 s2), dI 54 4 3 S1 s1, dI 54 4 3 S1 s2, oI y2 27 [(.int .i64 0), (.int .i64 0), (.slice none 0 0), (.slice none 0 0), (.int .i64 0), (.int .i64 0), (.slice none 0 0), (.slice none 0 0)], oI y1 27 (cC a b j1 j2)]) (built w [] bp S1 S1 s1 s2 mA S1 kA s1) (by exact Sub.pull [dI 54 4 3 mA kA] _ (.k (.k (.k (.k (.k .z))))))
  refine DO.loud rfl rfl (l_call ent40 hk21 rfl ?_)
  clear hk21
  rintro vr O' ⟨A1, rfl, rfl, rfl⟩
  refine ⟨by exact Sub.k (.d (.k (.k (.k (.k .z))))), ?_⟩
  refine DO.quiet rfl (q_extract (vs := _) rfl rfl) (DO.quiet rfl (q_extract (vs := _) rfl rfl) ?_)
  refine DO.last rfl rfl (l_store_box (v := (cV mA S1 kA s1)) (vs := (cC mA S1 kA s1)) 4 inf27 rfl rfl rfl rfl rfl rfl (by simp [putL]) ?_)
  refine DO.last rfl rfl (LT.of_quiet rfl rfl (q_assign rfl) ?_)
  refine DO.done ?_
  refine T.ret (Res.drop ?_)
  refine Res.cell1b (.int .i64 0) (i := 4) Tryd.results23 Tryd.underlying27 rfl inf27 rfl rfl rfl rfl ?_
  exact ⟨[dI 54 4 3 mA kA, dI 54 4 3 S1 s1], (Sub.pick [1, 1] rfl), kA, s1, by subst eS1; subst emA; rfl, by subst eS1; subst emA; rfl⟩
end Go.Proofs.YtnpehjpookcfkaaDoor


namespace Go.Proofs.YtnpehjpookcfkaaDoor
open Go.Lx Go.RowKit
set_option linter.unusedVariables false
set_option linter.unusedSimpArgs false
set_option maxHeartbeats 1000000 in
set_option maxRecDepth 20000 in
theorem indexFunc (base : World) [Tab Tryd.prog base] (b : Option Addr) (c : Nat) (xs : List Nat) (hS : Sl base b (byts xs)) (hb : xs.length < 9223372036854775807) (fv : Value) (p : Nat → Bool) (OO : List Lx.Item) (hy : ∀ x ∈ xs, CallV Tryd.prog base fv [.int .u8 (x : Int)] OO (fun v O' => v = .bool (p x) ∧ O' = OO)) :
    CallT Tryd.prog base 81 [.slice b xs.length c, fv] OO (fun v O' => ∃ i : Int, v = .int .i64 i ∧ decide (i ≥ 0) = xs.any p ∧ O' = OO) := by
  refine CallT.enter Tryd.func81 rfl Tryd.ntmps81 rfl ?_
  refine T.seq (T.region ?_)
  refine TO.quiet (q_assign rfl) ?_
  refine TO.nil (T.seq (T.seq (T.region ?_)))
  refine TO.quiet (q_move rfl) (TO.quiet (q_len Tryd.underlying29 rfl) (TO.quiet (q_move rfl) ?_))
  refine TO.nil (T.block ?_)
  refine T.loop (fun (k : Nat) ρ O => O = ([] ++ OO) ∧ k ≤ xs.length ∧ (xs.take k).any p = false ∧ Heads [(0, (.slice b xs.length c)), (1, fv), (7, .int .i64 (xs.length : Int)), (8, .int .i64 (k : Int))] ρ) (fun k => xs.length - k) 0 ?_ ?_
  · exact ⟨rfl, Nat.zero_le _, rfl, ⟨rfl, rfl, rfl, rfl, trivial⟩⟩
  rintro k ρ O ⟨rfl, hk, hany, hH⟩
  obtain ⟨ρ0, rfl⟩ := hH.elim
  clear hH
  refine T.seq (T.region ?_)
  refine TO.quiet (q_lss rfl rfl) ?_
  refine TO.nil (T.seq ?_)
  refine T.condP rfl (fun hc => ?_) (fun hc => ?_)
  · have hlt9 : k < xs.length := by omega
    refine T.skip (T.seq (T.block (T.seq (T.region ?_))))
    refine TO.quiet (q_move rfl) (TO.quiet (q_assign rfl) ?_)
    refine TO.nil (T.seq (T.region ?_))
    refine TO.quiet (q_move rfl) (TO.quiet (q_move rfl) (TO.quiet (q_move rfl) (TO.quiet (q_ix (i := k) Tryd.underlying29 inf5 rfl rfl (Sl.o hS) hlt9 (by rw [List.length_map]; exact hlt9)) ?_)))
    refine TO.quiet (q_ld Tryd.underlying5 rfl rfl (Sl.o hS) (byts_get hlt9)) ?_
    have hk16 := hy xs[k] (List.getElem_mem hlt9)
    refine TO.loud rfl (l_callG hk16 rfl rfl ?_)
    clear hk16
    rintro v O' ⟨rfl, rfl⟩
    refine TO.nil ?_
    refine T.cond rfl (fun hc => ?_) (fun hc => ?_)
    · refine T.seq ?_
      refine T.region ?_
      refine TO.quiet (q_move rfl) (TO.quiet (q_assign rfl) ?_)
      refine TO.nil (T.ret (Res.drop ?_))
      refine Res.one (.int .i64 (k : Int)) Tryd.results81 rfl ?_
      exact ⟨_, Sub.of (List.Sublist.refl _), k, rfl, by rw [any_at hlt9 hc]; exact decide_eq_true (by omega), rfl⟩
    refine T.skip (T.region ?_)
    refine TO.quiet (q_inc rfl rfl (by omega)) (TO.quiet (q_move rfl) ?_)
    refine TO.nil ?_
    exact ⟨k + 1, by omega, rfl, by omega, any_take hlt9 hany hc, ⟨rfl, rfl, rfl, rfl, trivial⟩⟩
  have hge9 : ¬ k < xs.length := by omega
  refine T.exit ?_
  refine T.seq (T.region ?_)
  refine TO.quiet (q_assign rfl) ?_
  refine TO.nil (T.ret (Res.drop ?_))
  refine Res.one (.int .i64 (-1)) Tryd.results81 rfl ?_
  exact ⟨_, Sub.of (List.Sublist.refl _), -1, rfl, by rw [List.take_of_length_le (by omega)] at hany; rw [hany]; decide, rfl⟩
set_option maxHeartbeats 1000000 in
set_option maxRecDepth 20000 in
theorem containsFunc (base : World) [Tab Tryd.prog base] (b : Option Addr) (c : Nat) (xs : List Nat) (hS : Sl base b (byts xs)) (hb : xs.length < 9223372036854775807) (fv : Value) (p : Nat → Bool) (OO : List Lx.Item) (hy : ∀ x ∈ xs, CallV Tryd.prog base fv [.int .u8 (x : Int)] OO (fun v O' => v = .bool (p x) ∧ O' = OO)) :
    CallT Tryd.prog base 69 [.slice b xs.length c, fv] OO (fun v O' => v = .bool (xs.any p) ∧ O' = OO) := by
  refine CallT.enter Tryd.func69 rfl Tryd.ntmps69 rfl ?_
  refine T.seq (T.region ?_)
  refine TO.quiet (q_assign rfl) ?_
  refine TO.nil (T.seq (T.region ?_))
  refine TO.quiet (q_move rfl) (TO.quiet (q_move rfl) ?_)
  have hk7 := indexFunc base b c xs hS hb fv p OO hy
  refine TO.loud rfl (l_call ent81 hk7 rfl ?_)
  clear hk7
  rintro v O' ⟨i, rfl, hi, rfl⟩
  refine TO.quiet (q_geq rfl rfl) (TO.quiet (q_assign rfl) ?_)
  refine TO.nil (T.ret (Res.drop ?_))
  refine Res.one (.bool (decide (i ≥ 0))) Tryd.results69 rfl ?_
  exact ⟨_, Sub.of (List.Sublist.refl _), congrArg Value.bool hi, rfl⟩
set_option maxHeartbeats 1000000 in
set_option maxRecDepth 20000 in
theorem tooGreat (base : World) [Tab Tryd.prog base] (d : DFA) (nb fb : Option Addr) (nc fc : Nat) (hv0 : 0 ≤ d.vars) (hv6 : d.vars ≤ 6) (bx x : Nat) (hx : x < 256) :
    CallT Tryd.prog base 70 [.int .u8 (x : Int), .pointer (some ⟨bx, 0, none⟩)] [oI bx 25 [(.int .i64 d.vars), (.int .i64 d.start), (.slice nb d.next.length nc), (.slice fb d.final.length fc)]] (fun v O' => v = .bool (decide (2 ^ d.vars.toNat ≤ x)) ∧ O' = [oI bx 25 [(.int .i64 d.vars), (.int .i64 d.start), (.slice nb d.next.length nc), (.slice fb d.final.length fc)]]) := by
  refine CallT.enter Tryd.func70 rfl Tryd.ntmps70 rfl ?_
  refine T.seq (T.region ?_)
  refine TO.quiet (q_assign rfl) ?_
  refine TO.nil (T.seq (T.region ?_))
  refine TO.quiet (q_move rfl) (TO.quiet (q_conv_id Tryd.underlying5 Tryd.underlying3 rfl (wrap64_id ⟨by omega, by omega⟩)) (TO.quiet (q_fieldAddr Tryd.underlying25 rfl inf3 rfl rfl) (TO.quiet (q_load_box 0 Tryd.underlying3 rfl rfl rfl rfl) ?_)))
  refine TO.quiet (q_shl1 (v := d.vars.toNat) rfl (by show Value.int _ d.vars = _; rw [Int.toNat_of_nonneg hv0]) (by omega)) (TO.quiet (q_geq rfl rfl) (TO.quiet (q_assign rfl) ?_))
  refine TO.nil (T.ret ?_)
  refine Res.one (.bool (decide ((x : Int) ≥ ((2 ^ d.vars.toNat : Nat) : Int)))) Tryd.results70 rfl ?_
  exact ⟨congrArg Value.bool (decide_eq_decide.2 (by omega)), rfl⟩
set_option maxHeartbeats 1000000 in
set_option maxRecDepth 20000 in
theorem runM (w : World) [Tab Tryd.prog w] (d : DFA) (nb fb : Option Addr) (nc fc : Nat) (vs : List Value) (h : DfaAt w d nb vs fb) (hv : Valid d) (wb : Option Addr) (wc : Nat) (l : List Nat) (hW : Sl w wb (byts l)) (hwb : l.length < 9223372036854775807) (hwd : Wd d l) :
    PureT Tryd.prog 71 [.agg (dfaCells d nb nc fb fc).toArray, .slice wb l.length wc] w fun v N => v = .int .i64 ((Lx.runN d d.start.toNat l : Nat) : Int) ∧ N = [] := by
  refine CallT.enter Tryd.func71 rfl Tryd.ntmps71 rfl ?_
  have hs0 := hv.s0
  have hs1 := hv.s1
  have hvl := h.rows.1
  refine T.seq (T.region ?_)
  refine TO.loud rfl (l_box (v := (.agg #[(.int .i64 d.vars), (.int .i64 d.start), (.slice nb d.next.length nc), (.slice fb d.final.length fc)])) (cs := [(.int .i64 d.vars), (.int .i64 d.start), (.slice nb d.next.length nc), (.slice fb d.final.length fc)]) rfl rfl (fun b1 => ?_))
  refine TO.quiet (q_assign rfl) ?_
  refine TO.nil (T.seq (T.region ?_))
  refine TO.quiet (q_fieldAddr Tryd.underlying124 rfl inf25 rfl rfl) (TO.quiet (q_fieldAddr Tryd.underlying25 rfl inf3 rfl rfl) (TO.quiet (QT.cast (q_load_box 0 Tryd.underlying3 rfl rfl rfl rfl) (v' := .int .i64 ((Lx.runN d d.start.toNat (l.take 0) : Nat) : Int)) (by show Value.int _ d.start = _; rw [show Lx.runN d d.start.toNat (l.take 0) = d.start.toNat from rfl, Int.toNat_of_nonneg hs0])) (TO.quiet (q_assign rfl) ?_)))
  refine TO.nil (T.seq (T.seq (T.region ?_)))
  refine TO.quiet (q_move rfl) (TO.quiet (q_len Tryd.underlying29 rfl) (TO.quiet (q_move rfl) ?_))
  refine TO.nil (T.block ?_)
  refine T.loop (fun (k : Nat) ρ O => O = [oI b1 124 [(.int .i64 d.vars), (.int .i64 d.start), (.slice nb d.next.length nc), (.slice fb d.final.length fc)]] ∧ k ≤ l.length ∧ Heads [(0, (.agg #[(.int .i64 d.vars), (.int .i64 d.start), (.slice nb d.next.length nc), (.slice fb d.final.length fc)])), (1, (.slice wb l.length wc)), (2, (.pointer (some ⟨b1, 0, none⟩))), (4, .int .i64 0), (5, .int .i64 ((Lx.runN d d.start.toNat (l.take k) : Nat) : Int)), (11, (.slice wb l.length wc)), (12, .int .i64 (l.length : Int)), (13, .int .i64 (k : Int))] ρ) (fun k => l.length - k) 0 ?_ ?_
  · exact ⟨rfl, Nat.zero_le _, ⟨rfl, rfl, rfl, rfl, rfl, rfl, rfl, rfl, trivial⟩⟩
  rintro k ρ O ⟨rfl, hk, hH⟩
  obtain ⟨ρ0, rfl⟩ := hH.elim
  clear hH
  refine T.seq (T.region ?_)
  refine TO.quiet (q_lss rfl rfl) ?_
  refine TO.nil (T.seq ?_)
  refine T.condP rfl (fun hc => ?_) (fun hc => ?_)
  · have hlt14 : k < l.length := by omega
    obtain ⟨o, ho⟩ : ∃ o, Lx.runN d d.start.toNat (l.take k) = o := ⟨_, rfl⟩
    have ho9 : o < d.next.length := by rw [← ho]; exact runN_lt hv.toVal (by omega) _ (fun x hx => hwd x (List.mem_of_mem_take hx))
    have hlx : l[k] < 2 ^ d.vars.toNat := hwd _ (List.getElem_mem hlt14)
    obtain ⟨vb, vc, g1, s1⟩ := h.rows.get ho9
    have hl1 : d.next[o].length = 2 ^ d.vars.toNat := hv.len _ (List.getElem_mem ho9)
    obtain ⟨hta, _, hxk1, hx1⟩ := hv.toN_lt ho9 hlx
    have hx1 : (ints d.next[o])[l[k]]? = some (.int .i64 ((toN d o l[k] : Nat) : Int)) := by rw [ints_get hxk1, hx1]
    refine T.skip (T.seq (T.block (T.seq (T.region ?_))))
    refine TO.quiet (q_ix (i := k) Tryd.underlying29 inf5 rfl rfl (Sl.o hW) hlt14 (by rw [List.length_map]; exact hlt14)) (TO.quiet (q_ld Tryd.underlying5 rfl rfl (Sl.o hW) (byts_get hlt14)) (TO.quiet (q_assign rfl) ?_))
    refine TO.nil (T.region ?_)
    refine TO.quiet (q_fieldAddr Tryd.underlying124 rfl inf25 rfl rfl) (TO.quiet (q_fieldAddr Tryd.underlying25 rfl inf22 rfl rfl) (TO.quiet (q_load_box 0 Tryd.underlying22 rfl rfl rfl rfl) (TO.quiet (QT.cast (q_move rfl) (v' := .int .i64 ((o : Nat) : Int)) (by show Value.int _ _ = _; rw [ho])) ?_)))
    refine TO.quiet (q_ix (i := o) Tryd.underlying22 inf54 rfl rfl (Sl.o h.outer) ho9 (hvl ▸ ho9)) (TO.quiet (q_ld Tryd.underlying54 rfl rfl (Sl.o h.outer) g1) (TO.quiet (q_move rfl) (TO.quiet (q_ix (i := l[k]) Tryd.underlying54 inf3 rfl rfl (Sl.o s1) (by rw [hl1]; exact hlx) (by rw [List.length_map, hl1]; exact hlx)) ?_)))
    refine TO.quiet (q_ld Tryd.underlying3 rfl rfl (Sl.o s1) hx1) (TO.quiet (q_assign rfl) ?_)
    refine TO.nil (T.region ?_)
    refine TO.quiet (q_inc rfl rfl (by omega)) (TO.quiet (q_move rfl) ?_)
    refine TO.nil ?_
    refine ⟨k + 1, by omega, rfl, by omega, ?_⟩
    rw [runN_take hlt14, ho]; exact ⟨rfl, rfl, rfl, rfl, rfl, rfl, rfl, rfl, trivial⟩
  have hge14 : ¬ k < l.length := by omega
  refine T.exit ?_
  refine T.seq (T.region ?_)
  refine TO.quiet (q_move rfl) (TO.quiet (q_assign rfl) ?_)
  refine TO.nil (T.ret (Res.drop ?_))
  refine Res.one (.int .i64 ((Lx.runN d d.start.toNat (l.take k) : Nat) : Int)) Tryd.results71 rfl ?_
  have hke : k = l.length := by omega
  exact ⟨[], Sub.of (List.nil_sublist _), by rw [List.take_of_length_le (by omega)], rfl⟩
set_option maxHeartbeats 1000000 in
set_option maxRecDepth 20000 in
theorem runA (w : World) [Tab Tryd.prog w] (d : DFA) (nb fb : Option Addr) (nc fc : Nat) (vs : List Value) (h : DfaAt w d nb vs fb) (hb : d.next.length < 9223372036854775807) (hbr : ∀ r ∈ d.next, r.length < 9223372036854775807) (hbf : d.final.length < 9223372036854775807) (wb : Option Addr) (wc : Nat) (l : List Nat) (hW : Sl w wb (byts l)) (hwb : l.length < 9223372036854775807) (hw8 : ∀ x ∈ l, x < 256) :
    PureT Tryd.prog 55 [.agg (dfaCells d nb nc fb fc).toArray, .slice wb l.length wc] w fun v N => v = .tuple #[.int .i64 ((runV d l : Nat) : Int), .int .i64 ((runE d l : Nat) : Int)] ∧ N = [] := by
  refine CallT.enter Tryd.func55 rfl Tryd.ntmps55 rfl ?_
  refine T.seq (T.region ?_)
  refine TO.loud rfl (l_box (v := (.agg #[(.int .i64 d.vars), (.int .i64 d.start), (.slice nb d.next.length nc), (.slice fb d.final.length fc)])) (cs := [(.int .i64 d.vars), (.int .i64 d.start), (.slice nb d.next.length nc), (.slice fb d.final.length fc)]) rfl rfl (fun b1 => ?_))
  refine TO.quiet (q_assign rfl) (TO.quiet (q_assign rfl) ?_)
  refine TO.nil (T.seq (T.seq (T.region ?_)))
  refine TO.quiet (q_load_boxAgg 0 Tryd.underlying25 rfl inf25 rfl rfl rfl) ?_
  have hk9 := fun (w1 : World) (hI : Inv w [oI b1 25 [(.int .i64 d.vars), (.int .i64 d.start), (.slice nb d.next.length nc), (.slice fb d.final.length fc)]] w1) => (haveI := Inv.tab (P := Tryd.prog) hI; subsetCheck w1 d nb fb nc fc vs (hI.dfa h) hb hbr hbf)
  refine TO.loud rfl (l_call ent26 (CallT.of_pure hk9) rfl ?_)
  clear hk9
  rintro v O' ⟨N, rfl, rfl, rfl⟩
  refine TO.quiet (q_assign rfl) ?_
  refine TO.nil (T.seq (T.region ?_))
  refine TO.quiet (q_move rfl) ?_
  by_cases hE : (checkD d : Int) ≠ 0
  · refine TO.quiet (QT.toB (q_neq rfl rfl) (decide_eq_true hE)) ?_
    refine TO.nil ?_
    refine T.cond1 rfl ?_
    refine T.seq (T.region ?_)
    refine TO.quiet (q_move rfl) (TO.quiet (q_assign rfl) (TO.quiet (q_assign rfl) ?_))
    refine TO.nil (T.ret (Res.drop ?_))
    refine Res.two (.int .i64 0) (.int .i64 (checkD d : Int)) Tryd.results55 rfl rfl ?_
    have hE1 : runE d l = checkD d := by unfold runE; rw [if_pos (by omega)]
    have hE0 : ¬ runE d l = 0 := by omega
    exact ⟨[], Sub.of (List.nil_sublist _), by unfold runV; rw [if_neg hE0, hE1]; try rfl, rfl⟩
  refine TO.quiet (QT.toB (q_neq rfl rfl) (decide_eq_false hE)) ?_
  refine TO.nil ?_
  refine T.cond0 rfl ?_
  refine T.skip (T.seq (T.block (T.seq ?_)))
  have he : checkD d = 0 := by omega
  have hv : Valid d := checkD_zero.1 he
  refine T.region ?_
  refine TO.quiet (q_move rfl) (TO.quiet (q_len Tryd.underlying29 rfl) ?_)
  by_cases h64 : (l.length : Int) > 64
  · refine TO.quiet (QT.toB (q_gtr rfl rfl) (decide_eq_true h64)) ?_
    refine TO.quiet (q_assign rfl) ?_
    refine TO.nil ?_
    refine T.cond1 rfl ?_
    refine T.seq (T.region ?_)
    refine TO.quiet (q_assign rfl) (TO.quiet (q_assign rfl) ?_)
    refine TO.nil (T.ret (Res.drop ?_))
    refine Res.two (.int .i64 0) (.int .i64 4) Tryd.results55 rfl rfl ?_
    have hE1 : runE d l = 4 := by unfold runE; rw [if_neg (by simp [he]), if_pos (by omega)]
    have hE0 : ¬ runE d l = 0 := by omega
    exact ⟨[], Sub.of (List.nil_sublist _), by unfold runV; rw [if_neg hE0, hE1]; try rfl, rfl⟩
  refine TO.quiet (QT.toB (q_gtr rfl rfl) (decide_eq_false h64)) (TO.quiet (q_assign rfl) ?_)
  refine TO.nil ?_
  refine T.cond0 rfl ?_
  refine T.seq (T.region ?_)
  refine TO.quiet (q_move rfl) (TO.quiet (q_makeFunc) ?_)
  by_cases hany : l.any (fun x => decide (2 ^ d.vars.toNat ≤ x)) = true
  · have hk20 := (containsFunc w wb wc l hW hwb (.func (.func 70) #[] #[.pointer (some ⟨b1, 0, none⟩)]) (fun x => decide (2 ^ d.vars.toNat ≤ x)) [oI b1 25 [(.int .i64 d.vars), (.int .i64 d.start), (.slice nb d.next.length nc), (.slice fb d.final.length fc)]] (fun x hx => CallV.of_fn (first := []) (args := [.int .u8 (x : Int)]) (caps := [.pointer (some ⟨b1, 0, none⟩)]) ent70 (tooGreat w d nb fb nc fc hv.v0 hv.v6 b1 x (hw8 x hx)))).mono (fun v O' hh => (⟨hh.1.trans (congrArg Value.bool ((show ∀ b : Bool, b = decide (b = true) from fun b => by cases b <;> rfl) _)), hh.2⟩ : v = .bool (decide (l.any (fun x => decide (2 ^ d.vars.toNat ≤ x)) = true)) ∧ O' = [oI b1 25 [(.int .i64 d.vars), (.int .i64 d.start), (.slice nb d.next.length nc), (.slice fb d.final.length fc)]]))
    refine TO.loud rfl (l_call ent69 hk20 rfl ?_)
    clear hk20
    rintro v O' ⟨rfl, rfl⟩
    rw [decide_eq_true hany]
    refine TO.quiet (q_assign rfl) ?_
    refine TO.nil ?_
    refine T.cond1 rfl ?_
    refine T.seq (T.region ?_)
    refine TO.quiet (q_assign rfl) (TO.quiet (q_assign rfl) ?_)
    refine TO.nil (T.ret (Res.drop ?_))
    refine Res.two (.int .i64 0) (.int .i64 1) Tryd.results55 rfl rfl ?_
    have hE1 : runE d l = 1 := by unfold runE; rw [if_neg (by simp [he]), if_neg (by omega), if_pos hany]
    have hE0 : ¬ runE d l = 0 := by omega
    exact ⟨[], Sub.of (List.nil_sublist _), by unfold runV; rw [if_neg hE0, hE1]; try rfl, rfl⟩
  have hk20 := (containsFunc w wb wc l hW hwb (.func (.func 70) #[] #[.pointer (some ⟨b1, 0, none⟩)]) (fun x => decide (2 ^ d.vars.toNat ≤ x)) [oI b1 25 [(.int .i64 d.vars), (.int .i64 d.start), (.slice nb d.next.length nc), (.slice fb d.final.length fc)]] (fun x hx => CallV.of_fn (first := []) (args := [.int .u8 (x : Int)]) (caps := [.pointer (some ⟨b1, 0, none⟩)]) ent70 (tooGreat w d nb fb nc fc hv.v0 hv.v6 b1 x (hw8 x hx)))).mono (fun v O' hh => (⟨hh.1.trans (congrArg Value.bool ((show ∀ b : Bool, b = decide (b = true) from fun b => by cases b <;> rfl) _)), hh.2⟩ : v = .bool (decide (l.any (fun x => decide (2 ^ d.vars.toNat ≤ x)) = true)) ∧ O' = [oI b1 25 [(.int .i64 d.vars), (.int .i64 d.start), (.slice nb d.next.length nc), (.slice fb d.final.length fc)]]))
  refine TO.loud rfl (l_call ent69 hk20 rfl ?_)
  clear hk20
  rintro v O' ⟨rfl, rfl⟩
  rw [decide_eq_false hany]
  refine TO.quiet (q_assign rfl) ?_
  refine TO.nil ?_
  refine T.cond0 rfl ?_
  refine T.skip (T.seq ?_)
  have hE0 : runE d l = 0 := by unfold runE; rw [if_neg (by simp [he]), if_neg (by omega), if_neg hany]
  have hwd : Wd d l := (runE_zero.1 hE0).2.2
  refine T.region ?_
  refine TO.quiet (q_load_boxAgg 0 Tryd.underlying25 rfl inf25 rfl rfl rfl) (TO.quiet (q_build (cs := [(.int .i64 d.vars), (.int .i64 d.start), (.slice nb d.next.length nc), (.slice fb d.final.length fc)]) plan124 inf124 (by kernel_rfl)) (TO.quiet (q_makeFunc) (TO.quiet (q_assign rfl) ?_)))
  refine TO.nil (T.seq (T.region ?_))
  refine TO.quiet (q_move rfl) (TO.quiet (q_move rfl) ?_)
  have hk26 := CallV.of_fn (first := [.agg (dfaCells d nb nc fb fc).toArray]) (args := [.slice wb l.length wc]) (caps := []) ent71 (CallT.of_pure (fun w1 (hI : Inv w [oI b1 25 [(.int .i64 d.vars), (.int .i64 d.start), (.slice nb d.next.length nc), (.slice fb d.final.length fc)]] w1) => haveI := Inv.tab (P := Tryd.prog) hI; runM w1 d nb fb nc fc vs (hI.dfa h) hv wb wc l (hI.sl hW) hwb hwd))
  refine TO.loud rfl (l_callG hk26 rfl rfl ?_)
  clear hk26
  rintro v O' ⟨N, rfl, rfl, rfl⟩
  refine TO.quiet (q_assign rfl) (TO.quiet (q_assign rfl) ?_)
  refine TO.nil (T.ret (Res.drop ?_))
  refine Res.two (.int .i64 ((Lx.runN d d.start.toNat l : Nat) : Int)) (.int .i64 0) Tryd.results55 rfl rfl ?_
  have hE1 := hE0
  exact ⟨[], Sub.of (List.nil_sublist _), by unfold runV; rw [if_pos hE0, hE1]; try rfl, rfl⟩
set_option maxHeartbeats 1000000 in
set_option maxRecDepth 20000 in
theorem acceptsA (w : World) [Tab Tryd.prog w] (d : DFA) (nb fb : Option Addr) (nc fc : Nat) (vs : List Value) (h : DfaAt w d nb vs fb) (hb : d.next.length < 9223372036854775807) (hbr : ∀ r ∈ d.next, r.length < 9223372036854775807) (hbf : d.final.length < 9223372036854775807) (wb : Option Addr) (wc : Nat) (l : List Nat) (hW : Sl w wb (byts l)) (hwb : l.length < 9223372036854775807) (hw8 : ∀ x ∈ l, x < 256) :
    PureT Tryd.prog 33 [.agg (dfaCells d nb nc fb fc).toArray, .slice wb l.length wc] w fun v N => v = .tuple #[.bool (accV d l), .int .i64 ((runE d l : Nat) : Int)] ∧ N = [] := by
  refine CallT.enter Tryd.func33 rfl Tryd.ntmps33 rfl ?_
  refine T.seq (T.region ?_)
  refine TO.loud rfl (l_box (v := (.agg #[(.int .i64 d.vars), (.int .i64 d.start), (.slice nb d.next.length nc), (.slice fb d.final.length fc)])) (cs := [(.int .i64 d.vars), (.int .i64 d.start), (.slice nb d.next.length nc), (.slice fb d.final.length fc)]) rfl rfl (fun b1 => ?_))
  refine TO.quiet (q_assign rfl) (TO.quiet (q_assign rfl) ?_)
  refine TO.nil (T.seq (T.region ?_))
  refine TO.quiet (q_load_boxAgg 0 Tryd.underlying25 rfl inf25 rfl rfl rfl) (TO.quiet (q_move rfl) ?_)
  have hk11 := fun (w1 : World) (hI : Inv w [oI b1 25 [(.int .i64 d.vars), (.int .i64 d.start), (.slice nb d.next.length nc), (.slice fb d.final.length fc)]] w1) => (haveI := Inv.tab (P := Tryd.prog) hI; runA w1 d nb fb nc fc vs (hI.dfa h) hb hbr hbf wb wc l (hI.sl hW) hwb hw8)
  refine TO.loud rfl (l_call ent55 (CallT.of_pure hk11) rfl ?_)
  clear hk11
  rintro v O' ⟨N, rfl, rfl, rfl⟩
  refine TO.quiet (q_move rfl) (TO.quiet (q_extract (vs := _) rfl rfl) (TO.quiet (q_extract (vs := _) rfl rfl) (TO.quiet (q_assign rfl) ?_)))
  refine TO.quiet (q_assign rfl) ?_
  refine TO.nil (T.seq ?_)
  have hfin : runE d l = 0 → runV d l < d.final.length := fun h0 => by
    obtain ⟨hv, _, hwd⟩ := runE_zero.1 h0
    unfold runV; rw [if_pos h0, hv.fin]
    exact runN_lt hv.toVal (by have := hv.s0; have := hv.s1; omega) _ hwd
  refine T.region ?_
  refine TO.quiet (q_move rfl) ?_
  by_cases h0 : ((runE d l : Nat) : Int) = 0
  · refine TO.quiet (QT.toB (q_eql rfl rfl) (decide_eq_true h0)) ?_
    refine TO.quiet (q_move rfl) ?_
    refine TO.guarded rfl rfl rfl (LT.of_quiet rfl rfl (q_fieldAddr Tryd.underlying25 rfl inf23 rfl rfl) ?_)
    refine TO.guarded rfl rfl rfl (LT.of_quiet rfl rfl (q_load_box 0 Tryd.underlying23 rfl rfl rfl rfl) ?_)
    refine TO.guarded rfl rfl rfl (LT.of_quiet rfl rfl (q_move rfl) ?_)
    refine TO.guarded rfl rfl rfl (LT.of_quiet rfl rfl (q_ix (i := (runV d l)) Tryd.underlying23 inf4 rfl rfl (Sl.o h.final) (hfin (by omega)) (by rw [List.length_map]; exact hfin (by omega))) ?_)
    refine TO.guarded rfl rfl rfl (LT.of_quiet rfl rfl (q_ld Tryd.underlying4 rfl rfl (Sl.o h.final) (show (bools d.final)[runV d l]? = some (.bool (finN d (runV d l))) by rw [bools_get (hfin (by omega))]; simp [finN, hfin (by omega)])) ?_)
    refine TO.quiet (q_pick1 rfl rfl) (TO.quiet (q_move rfl) (TO.quiet (q_assign rfl) (TO.quiet (q_assign rfl) ?_)))
    refine TO.nil (T.ret (Res.drop ?_))
    refine Res.two (.bool (finN d (runV d l))) (.int .i64 ((runE d l : Nat) : Int)) Tryd.results33 rfl rfl ?_
    have h9 : runE d l = 0 := by omega
    exact ⟨[], Sub.of (List.nil_sublist _), by unfold accV runV; rw [if_pos h9, if_pos h9], rfl⟩
  refine TO.quiet (QT.toB (q_eql rfl rfl) (decide_eq_false h0)) (TO.quiet (q_move rfl) ?_)
  refine TO.passed rfl rfl ?_
  refine TO.passed rfl rfl ?_
  refine TO.passed rfl rfl ?_
  refine TO.passed rfl rfl ?_
  refine TO.passed rfl rfl ?_
  refine TO.quiet (q_pick0 rfl rfl) (TO.quiet (q_move rfl) (TO.quiet (q_assign rfl) (TO.quiet (q_assign rfl) ?_)))
  refine TO.nil (T.ret (Res.drop ?_))
  refine Res.two (.bool false) (.int .i64 ((runE d l : Nat) : Int)) Tryd.results33 rfl rfl ?_
  have h9 : ¬ runE d l = 0 := by omega
  exact ⟨[], Sub.of (List.nil_sublist _), by unfold accV; rw [if_neg h9], rfl⟩
end Go.Proofs.YtnpehjpookcfkaaDoor


namespace Go.Lx
open Go.RowKit
set_option linter.unusedVariables false
def Imp (v : Int) (p q r : List Nat → Bool) : Prop := ∀ w, WdV v w → p w = true → q w = true → r w = true
def Ref (v : Int) (p q p2 q2 : List Nat → Bool) : Prop := ∀ w, WdV v w → (p2 w = true → p w = true) ∧ ((q w || !p w) = true → (q2 w || !p2 w) = true)
noncomputable def impB (v : Int) (p q r : List Nat → Bool) : Bool := @decide (Imp v p q r) (Classical.propDecidable _)
noncomputable def refB (v : Int) (p q p2 q2 : List Nat → Bool) : Bool := @decide (Ref v p q p2 q2) (Classical.propDecidable _)
theorem impB_iff {v : Int} {p q r : List Nat → Bool} : impB v p q r = true ↔ Imp v p q r := @decide_eq_true_iff _ (Classical.propDecidable _)
theorem refB_iff {v : Int} {p q p2 q2 : List Nat → Bool} : refB v p q p2 q2 = true ↔ Ref v p q p2 q2 := @decide_eq_true_iff _ (Classical.propDecidable _)
theorem bool_iff {a b : Bool} (h : a = true ↔ b = true) : a = b := by cases a <;> cases b <;> simp_all
theorem isNone_iff {r : Option (List Nat)} : (!r.isSome) = true ↔ r = none := by cases r <;> simp
theorem impB_res {z x a g : DFA} {px p q : List Nat → Bool} (hz : Valid z) (hx : InL z x px) (ha : InL z a p) (hg : InL z g q) {res : Option (List Nat)} (h : LeastA (opD minusB (opD andB x a) g) res) : (!res.isSome) = impB z.vars px p q := by
  have hm := (InL.op (f := minusB) hz (InL.op (f := andB) hz hx ha).2 hg).1
  refine bool_iff (isNone_iff.trans ((h.none_iff hm.toHasL).trans (Iff.trans ?_ impB_iff.symm)))
  constructor
  · intro hh w hw e1 e2
    have := hh w hw
    simp [minusB, andB, e1, e2] at this; exact this
  · intro hh w hw
    have := hh w hw
    unfold minusB andB
    cases h1 : px w <;> cases h2 : p w <;> simp_all
theorem refB_res {z a b c d : DFA} {p q p2 q2 : List Nat → Bool} (hz : Valid z) (ha : InL z a p) (hb : InL z b q) (hc : InL z c p2) (hd : InL z d q2) {res : Option (List Nat)} (h : LeastA (opD orB (opD minusB c a) (opD minusB (satD a b) (satD c d))) res) : (!res.isSome) = refB z.vars p q p2 q2 := by
  have hm := (InL.op (f := orB) hz (InL.op (f := minusB) hz hc ha).2 (InL.op (f := minusB) hz (InL.sat hz ha hb).2 (InL.sat hz hc hd).2).2).1
  refine bool_iff (isNone_iff.trans ((h.none_iff hm.toHasL).trans (Iff.trans ?_ refB_iff.symm)))
  refine forall_congr' fun w => forall_congr' fun hw => ?_
  simp only [minusB, orB]
  cases p w <;> cases q w <;> cases p2 w <;> cases q2 w <;> simp
theorem res_none {r : Option (List Nat)} {b : Bool} (e : (!r.isSome) = b) (h : b = true) : r = none := isNone_iff.1 (e.trans h)
theorem InL.accV {z d : DFA} {p : List Nat → Bool} (h : InL z d p) {w : List Nat} (hw : WdV z.vars w) (hl : w.length ≤ 64) : Lx.accV d w = p w := h.has.accV hw hl
section
variable {v : Int} {px py p q p1 q1 p2 q2 p3 q3 : List Nat → Bool}
theorem Ref.imp (h : Ref v p q p1 q1) (h2 : Imp v px p q) : Imp v px p1 q1 := fun w hw e1 e2 => by
  have a1 := h w hw
  have a2 := h2 w hw e1
  cases h1 : p w <;> cases h2 : q w <;> cases h3 : q1 w <;> simp_all
end
def satP (p q : List Nat → Bool) : List Nat → Bool := fun w => q w || !p w
def orP (p q : List Nat → Bool) : List Nat → Bool := fun w => p w || q w
def andP (p q : List Nat → Bool) : List Nat → Bool := fun w => p w && q w
def compP (p q p2 q2 : List Nat → Bool) : List Nat → Bool := fun w => (p w && p2 w) || !((q w || !p w) && (q2 w || !p2 w))
section
variable {z x a b c d : DFA} {px p q p2 q2 : List Nat → Bool}
theorem InL.orI (hz : Valid z) (ha : InL z a p) (hb : InL z b q) : InL z (opD orB a b) (orP p q) := (InL.op (f := orB) hz ha hb).2
theorem InL.andI (hz : Valid z) (ha : InL z a p) (hb : InL z b q) : InL z (opD andB a b) (andP p q) := (InL.op (f := andB) hz ha hb).2
theorem InL.satI (hz : Valid z) (ha : InL z a p) (hb : InL z b q) : InL z (satD a b) (satP p q) := (InL.sat hz ha hb).2
theorem InL.meetG (hz : Valid z) (ha : InL z a p) (hb : InL z b q) (hc : InL z c p2) (hd : InL z d q2) : InL z (opD andB (satD a b) (satD c d)) (andP (satP p q) (satP p2 q2)) := InL.andI hz (InL.satI hz ha hb) (InL.satI hz hc hd)
theorem InL.joinG (hz : Valid z) (ha : InL z a p) (hb : InL z b q) (hc : InL z c p2) (hd : InL z d q2) : InL z (opD orB (satD a b) (satD c d)) (orP (satP p q) (satP p2 q2)) := InL.orI hz (InL.satI hz ha hb) (InL.satI hz hc hd)
theorem InL.compA (hz : Valid z) (ha : InL z a p) (hb : InL z b q) (hc : InL z c p2) (hd : InL z d q2) : MinL z.vars z.next.length (opD orB (opD andB a c) (notD (opD andB (satD a b) (satD c d)))) (compP p q p2 q2) ∧ InL z (opD orB (opD andB a c) (notD (opD andB (satD a b) (satD c d)))) (compP p q p2 q2) :=
  InL.op (f := orB) hz (InL.op (f := andB) hz ha hc).2 (InL.not hz (InL.meetG hz ha hb hc hd)).2
end
section
variable {v : Int} {px py p q p1 q1 p2 q2 p3 q3 : List Nat → Bool}
theorem fa {P : List Nat → Prop} (h : ∀ w, P w) : ∀ w, WdV v w → P w := fun w _ => h w
theorem fc {P Q R : List Nat → Prop} (h : ∀ w, P w ↔ Q w ∧ R w) : (∀ w, WdV v w → P w) ↔ (∀ w, WdV v w → Q w) ∧ ∀ w, WdV v w → R w :=
  ⟨fun a => ⟨fun w hw => ((h w).1 (a w hw)).1, fun w hw => ((h w).1 (a w hw)).2⟩, fun a w hw => (h w).2 ⟨a.1 w hw, a.2 w hw⟩⟩
theorem meet_ref1 : refB v (orP p1 p2) (andP (satP p1 q1) (satP p2 q2)) p1 q1 = true := refB_iff.2 (fa fun w => by simp only [satP, orP, andP]; cases p1 w <;> cases q1 w <;> cases p2 w <;> cases q2 w <;> simp)
theorem meet_ref2 : refB v (orP p1 p2) (andP (satP p1 q1) (satP p2 q2)) p2 q2 = true := refB_iff.2 (fa fun w => by simp only [satP, orP, andP]; cases p1 w <;> cases q1 w <;> cases p2 w <;> cases q2 w <;> simp)
theorem join_ref1 : refB v p1 q1 (andP p1 p2) (orP (satP p1 q1) (satP p2 q2)) = true := refB_iff.2 (fa fun w => by simp only [satP, orP, andP]; cases p1 w <;> cases q1 w <;> cases p2 w <;> cases q2 w <;> simp)
theorem join_ref2 : refB v p2 q2 (andP p1 p2) (orP (satP p1 q1) (satP p2 q2)) = true := refB_iff.2 (fa fun w => by simp only [satP, orP, andP]; cases p1 w <;> cases q1 w <;> cases p2 w <;> cases q2 w <;> simp)
theorem meet_imp : impB v px (orP p1 p2) (andP (satP p1 q1) (satP p2 q2)) = (impB v px p1 q1 && impB v px p2 q2) := by
  refine bool_iff (impB_iff.trans (Iff.trans (fc fun w => ?_) (Iff.trans (and_congr impB_iff.symm impB_iff.symm) (iff_of_eq (Bool.and_eq_true _ _).symm))))
  simp only [satP, orP, andP]; cases px w <;> cases p1 w <;> cases q1 w <;> cases p2 w <;> cases q2 w <;> simp
theorem meet_max : refB v p3 q3 (orP p1 p2) (andP (satP p1 q1) (satP p2 q2)) = (refB v p3 q3 p1 q1 && refB v p3 q3 p2 q2) := by
  refine bool_iff (refB_iff.trans (Iff.trans (fc fun w => ?_) (Iff.trans (and_congr refB_iff.symm refB_iff.symm) (iff_of_eq (Bool.and_eq_true _ _).symm))))
  simp only [satP, orP, andP]; cases p3 w <;> cases q3 w <;> cases p1 w <;> cases q1 w <;> cases p2 w <;> cases q2 w <;> simp
theorem join_min : refB v (andP p1 p2) (orP (satP p1 q1) (satP p2 q2)) p3 q3 = (refB v p1 q1 p3 q3 && refB v p2 q2 p3 q3) := by
  refine bool_iff (refB_iff.trans (Iff.trans (fc fun w => ?_) (Iff.trans (and_congr refB_iff.symm refB_iff.symm) (iff_of_eq (Bool.and_eq_true _ _).symm))))
  simp only [satP, orP, andP]; cases p3 w <;> cases q3 w <;> cases p1 w <;> cases q1 w <;> cases p2 w <;> cases q2 w <;> simp
end
end Go.Lx


namespace Go.Lx
open Go.RowKit
set_option linter.unusedVariables false
abbrev allA : DFA := stayD 1 true
structure AwZ (z : DFA) : Prop where
  hz : Valid z
  v1 : z.vars = 1
  o : InL z conO (acc conO)
  s : InL z conS (acc conS)
  a : InL z allA (acc allA)
  len : z.next.length ≤ 6
theorem aw_z : ∃ z, AwZ z := by
  obtain ⟨h1, h2, h3, h4⟩ := zP_ok (v := 1) (by decide) (by decide) (l := [conO, conS, allA]) (fun d hd => by
    simp only [List.mem_cons, List.not_mem_nil, or_false] at hd
    rcases hd with rfl | rfl | rfl
    · exact ⟨conO_valid.toVal, rfl⟩
    · exact ⟨conS_valid.toVal, rfl⟩
    · exact ⟨conA_valid.toVal, rfl⟩)
  have e : zN [conO, conS, allA] = 6 := rfl
  have hz : Valid (zP 1 [conO, conS, allA]) := ⟨h1, by rw [h3, e]; decide⟩
  refine ⟨zP 1 [conO, conS, allA], hz, h2, ?_, ?_, ?_, by rw [h3, e]; decide⟩
  · exact InL.of hz conO_valid h2 (by rw [h3]; exact (h4 conO (by simp)).2) (h4 conO (by simp)).1
  · exact InL.of hz conS_valid h2 (by rw [h3]; exact (h4 conS (by simp)).2) (h4 conS (by simp)).1
  · exact InL.of hz conA_valid h2 (by rw [h3]; exact (h4 allA (by simp)).2) (h4 allA (by simp)).1
section
variable {z : DFA} (h : AwZ z)
theorem w2 {u : List Nat} (hu : WdV 1 u) : ∀ x ∈ u, x < 2 := hu
theorem all_t {u : List Nat} (hu : WdV 1 u) : acc allA u = true := stay_accT hu
theorem wd11 : WdV 1 [1, 1] := fun x hx => by simp at hx; subst hx; decide
theorem wd0 : WdV 1 [0] := fun x hx => by simp at hx; subst hx; decide
theorem not11 {u : List Nat} (hu : WdV 1 u) (h1 : acc conO u = true) (h2 : acc conS u = false) : code [1, 1] ≤ code u :=
  code_ge2 ((ones_iff u hu).1 h1) (fun hl => by rw [(short_iff u hu).2 hl] at h2; cases h2)
include h in
theorem AwZ.imp1 {res : Option (List Nat)} (hr : LeastA (opD minusB (opD andB conS conO) conS) res) : res = none := by
  have e := impB_res h.hz h.s h.o h.s hr
  exact res_none e (impB_iff.2 fun w _ e1 _ => e1)
include h in
theorem AwZ.imp2 {res : Option (List Nat)} (hr : LeastA (opD minusB (opD andB allA conO) conS) res) : res = some [1, 1] := by
  have hm := (InL.op (f := minusB) h.hz (InL.op (f := andB) h.hz h.a h.o).2 h.s).1.toHasL
  rw [h.v1] at hm
  refine least_of hm wd11 (by decide) (fun u hu hp => ?_) hr
  simp [minusB, andB] at hp
  exact not11 hu hp.1.2 hp.2
include h in
theorem AwZ.ref1 {res : Option (List Nat)} (hr : LeastA (opD orB (opD minusB conO conO) (opD minusB (satD conO conS) (satD conO allA))) res) : res = none := by
  have e := refB_res h.hz h.o h.s h.o h.a hr
  refine res_none e (refB_iff.2 fun w hw => ⟨id, fun _ => ?_⟩)
  rw [h.v1] at hw
  rw [all_t hw]; rfl
include h in
theorem AwZ.ref2 {res : Option (List Nat)} (hr : LeastA (opD orB (opD minusB conO conO) (opD minusB (satD conO allA) (satD conO conS))) res) : res = some [1, 1] := by
  have hm := (InL.op (f := orB) h.hz (InL.op (f := minusB) h.hz h.o h.o).2 (InL.op (f := minusB) h.hz (InL.sat h.hz h.o h.a).2 (InL.sat h.hz h.o h.s).2).2).1.toHasL
  rw [h.v1] at hm
  refine least_of hm wd11 (by decide) (fun u hu hp => ?_) hr
  simp only [orB, minusB] at hp
  refine not11 hu ?_ ?_
  · cases h1 : acc conO u <;> simp_all
  · cases h1 : acc conO u <;> cases h2 : acc conS u <;> simp_all
include h in
theorem AwZ.ref3 {res : Option (List Nat)} (hr : LeastA (opD orB (opD minusB allA conO) (opD minusB (satD conO conS) (satD allA conS))) res) : res = some [0] := by
  have hm := (InL.op (f := orB) h.hz (InL.op (f := minusB) h.hz h.a h.o).2 (InL.op (f := minusB) h.hz (InL.sat h.hz h.o h.s).2 (InL.sat h.hz h.a h.s).2).2).1.toHasL
  rw [h.v1] at hm
  refine least_of hm wd0 (by decide) (fun u hu hp => ?_) hr
  refine code_ge1 (fun e => ?_)
  subst e
  revert hp; decide
include h in
theorem AwZ.satF : accV (satD conO conS) [1, 1] = false ∧ accV (satD conO conS) [0, 0] = true ∧ accV (satD conO conS) [1] = true := by
  have hs := (InL.sat h.hz h.o h.s).2
  refine ⟨?_, ?_, ?_⟩
  · rw [hs.accV (by rw [h.v1]; exact wd11) (by decide)]; decide
  · rw [hs.accV (by rw [h.v1]; exact fun x hx => by simp at hx; subst hx; decide) (by decide)]; decide
  · rw [hs.accV (by rw [h.v1]; exact fun x hx => by simp at hx; subst hx; decide) (by decide)]; decide
include h in
theorem AwZ.meet : opD orB conO allA = allA ∧ accV (opD andB (satD conO conS) (satD allA conS)) [0, 0] = false := by
  have hm := (InL.op (f := orB) h.hz h.o h.a).1
  have hi := (InL.min h.hz h.a).1
  rw [h.v1] at hm hi
  rw [show minD allA = allA from conA_min] at hi
  refine ⟨MinL.ext hm hi fun w hw => ?_, ?_⟩
  · rw [all_t hw]; simp [orB]
  · rw [(InL.meetG h.hz h.o h.s h.a h.s).accV (by rw [h.v1]; exact fun x hx => by simp at hx; subst hx; decide) (by decide)]; decide
include h in
theorem AwZ.comp : opD orB (opD andB conO conO) (notD (opD andB (satD conO conS) (satD conO conS))) = conO := by
  have hm := (InL.compA h.hz h.o h.s h.o h.s).1
  have hi := (InL.min h.hz h.o).1
  rw [conO_min] at hi
  refine MinL.ext hm hi fun w hw => ?_
  simp only [compP]
  cases h1 : acc conO w <;> cases h2 : acc conS w <;> rfl
end
end Go.Lx


/- Contracts of functions of the program (Ren): what each call answers and that it leaves memory as it was. Conditions: those each theorem names. -/
import Derived.Test.YthfemndklplpbaaDoorMin
set_option linter.unusedSectionVars false
set_option linter.unusedSimpArgs false
set_option linter.unusedVariables false
set_option linter.unnecessarySimpa false
namespace Go.Proofs.YthfemndklplpbaaDoor
open Go.Lx Go.RowKit
set_option linter.unusedVariables false
set_option linter.unusedSimpArgs false

set_option maxHeartbeats 1000000 in
set_option maxRecDepth 20000 in
theorem visitHit (base : World) (bx m : Nat) (ks : List (List UInt8)) (key : List UInt8) (hk : key ∈ ks) (hb : ks.length < 1000000) :
    CallT Tryd.prog base 67 [str key, .pointer (some ⟨bx, 0, none⟩)] [objI bx (.cells #[.map (some m)] 92 (0, 0)), mapI str (fun n : Nat => Value.int .i64 (n : Int)) m ks.zipIdx] (fun v O' => v = .int .i64 ((ix key (add ks key) : Nat) : Int) ∧ O' = [objI bx (.cells #[.map (some m)] 92 (0, 0)), mapI str (fun n : Nat => Value.int .i64 (n : Int)) m (add ks key).zipIdx]) := by
  refine CallT.enter Tryd.func67 rfl Tryd.ntmps67 rfl ?_
  refine T.seq ?_
  refine T.region ?_
  refine TO.quiet (q_assign rfl) ?_
  refine TO.nil ?_
  refine T.seq ?_
  refine T.region ?_
  refine TO.quiet (q_load_box 0 Tryd.underlying92 rfl rfl rfl rfl) ?_
  refine TO.quiet (q_move rfl) ?_
  refine TO.quiet (QT.cast (q_lookupOk (a := key) Tryd.underlying92 inf3 (KeyOk.string Tryd.underlying9) rfl rfl (List.mem_of_getElem? (i := 1) rfl)) (v' := (.tuple #[.int .i64 ((ix key ks : Nat) : Int), .bool true])) (by rw [look_zip]; simp [hk])) ?_
  refine TO.quiet (q_move rfl) ?_
  refine TO.quiet (q_extract (vs := _) rfl rfl) ?_
  refine TO.quiet (q_extract (vs := _) rfl rfl) ?_
  refine TO.quiet (q_assign rfl) ?_
  refine TO.quiet (q_assign rfl) ?_
  refine TO.nil ?_
  refine T.seq ?_
  refine T.seq ?_
  refine T.region ?_
  refine TO.quiet (q_move rfl) ?_
  refine TO.quiet (q_not rfl) ?_
  refine TO.nil ?_
  refine T.cond0 rfl ?_
  refine T.skip ?_
  refine T.seq ?_
  refine T.region ?_
  refine TO.quiet (q_move rfl) ?_
  refine TO.quiet (q_assign rfl) ?_
  refine TO.nil ?_
  refine T.ret ?_
  refine Res.one (.int .i64 ((ix key ks : Nat) : Int)) Tryd.results67 rfl ?_
  have ha : add ks key = ks := if_pos hk
  rw [ha]; exact ⟨rfl, rfl⟩

set_option maxHeartbeats 1000000 in
set_option maxRecDepth 20000 in
theorem visitMiss (base : World) (bx m : Nat) (ks : List (List UInt8)) (key : List UInt8) (hk : key ∉ ks) (hb : ks.length < 1000000) :
    CallT Tryd.prog base 67 [str key, .pointer (some ⟨bx, 0, none⟩)] [objI bx (.cells #[.map (some m)] 92 (0, 0)), mapI str (fun n : Nat => Value.int .i64 (n : Int)) m ks.zipIdx] (fun v O' => v = .int .i64 ((ix key (add ks key) : Nat) : Int) ∧ O' = [objI bx (.cells #[.map (some m)] 92 (0, 0)), mapI str (fun n : Nat => Value.int .i64 (n : Int)) m (add ks key).zipIdx]) := by
  refine CallT.enter Tryd.func67 rfl Tryd.ntmps67 rfl ?_
  refine T.seq ?_
  refine T.region ?_
  refine TO.quiet (q_assign rfl) ?_
  refine TO.nil ?_
  refine T.seq ?_
  refine T.region ?_
  refine TO.quiet (q_load_box 0 Tryd.underlying92 rfl rfl rfl rfl) ?_
  refine TO.quiet (q_move rfl) ?_
  refine TO.quiet (QT.cast (q_lookupOk (a := key) Tryd.underlying92 inf3 (KeyOk.string Tryd.underlying9) rfl rfl (List.mem_of_getElem? (i := 1) rfl)) (v' := (.tuple #[.int .i64 0, .bool false])) (by rw [look_zip]; simp [hk])) ?_
  refine TO.quiet (q_move rfl) ?_
  refine TO.quiet (q_extract (vs := _) rfl rfl) ?_
  refine TO.quiet (q_extract (vs := _) rfl rfl) ?_
  refine TO.quiet (q_assign rfl) ?_
  refine TO.quiet (q_assign rfl) ?_
  refine TO.nil ?_
  refine T.seq ?_
  refine T.seq ?_
  refine T.region ?_
  refine TO.quiet (q_move rfl) ?_
  refine TO.quiet (q_not rfl) ?_
  refine TO.nil ?_
  refine T.cond1 rfl ?_
  refine T.seq ?_
  refine T.region ?_
  refine TO.quiet (q_load_box 0 Tryd.underlying92 rfl rfl rfl rfl) ?_
  refine TO.quiet (QT.cast (q_lenMap Tryd.underlying92 rfl (List.mem_of_getElem? (i := 1) rfl)) (v' := .int .i64 ((ks.length : Nat) : Int)) (by simp)) ?_
  refine TO.quiet (q_assign rfl) ?_
  refine TO.nil ?_
  refine T.region ?_
  refine TO.quiet (q_load_box 0 Tryd.underlying92 rfl rfl rfl rfl) ?_
  refine TO.quiet (q_move rfl) ?_
  refine TO.quiet (q_move rfl) ?_
  refine TO.loud rfl (l_mapPut (a := key) (v := ks.length) 1 Tryd.underlying92 (KeyOk.string Tryd.underlying9) rfl rfl rfl rfl (by rw [zipIdx_fst]; exact hk) ?_)
  refine TO.nil ?_
  refine T.seq ?_
  refine T.region ?_
  refine TO.quiet (q_move rfl) ?_
  refine TO.quiet (q_assign rfl) ?_
  refine TO.nil ?_
  refine T.ret ?_
  refine Res.one (.int .i64 ((ks.length : Nat) : Int)) Tryd.results67 rfl ?_
  have ha : add ks key = ks ++ [key] := if_neg hk
  rw [ha]
  refine ⟨by rw [ix_append_right hk]; simp [ix], ?_⟩
  rw [show (ks ++ [key]).zipIdx = ks.zipIdx ++ [(key, ks.length)] by rw [List.zipIdx_append]; simp]; rfl

theorem visit (base : World) (bx m : Nat) (ks : List (List UInt8)) (key : List UInt8) (hb : ks.length < 1000000) :
    CallT Tryd.prog base 67 [str key, .pointer (some ⟨bx, 0, none⟩)] [objI bx (.cells #[.map (some m)] 92 (0, 0)), mapI str (fun n : Nat => Value.int .i64 (n : Int)) m ks.zipIdx] (fun v O' => v = .int .i64 ((ix key (add ks key) : Nat) : Int) ∧ O' = [objI bx (.cells #[.map (some m)] 92 (0, 0)), mapI str (fun n : Nat => Value.int .i64 (n : Int)) m (add ks key).zipIdx]) := by
  by_cases hk : key ∈ ks
  · exact visitHit base bx m ks key hk hb
  · exact visitMiss base bx m ks key hk hb

set_option maxHeartbeats 1000000 in
set_option maxRecDepth 20000 in
theorem exploreC (base : World) (tr : List UInt8 → Nat → List UInt8) (L B : Nat) (start : List UInt8) (fv : Value) (J : List (List UInt8) → List Lx.Item → Prop) (Good : List (List UInt8) → Prop) (hL : L ≤ 64) (hB : B ≤ 4096)
    (hn : ∀ (ks : List (List UInt8)) (s x : Nat) (O : List Lx.Item), s < ks.length → x < L → Good ks → J ks O → CallV Tryd.prog base fv [.int .i64 (s : Int), .int .u8 (x : Int)] O (fun v O' => v = str (tr (ks.getD s []) x) ∧ Good (add ks (tr (ks.getD s []) x)) ∧ J (add ks (tr (ks.getD s []) x)) O'))
    (hg : ∀ ks, Good ks → ks.length ≤ B) (O : List Lx.Item) (h0 : Good [start]) (hJ0 : J [start] O) :
    CallT Tryd.prog base 56 [.int .i64 (L : Int), .int .i64 (B : Int), str start, fv] O (fun v O' => ∃ b c qs N O1, v = .tuple #[.slice b N c, .bool true] ∧ O' = rowI b c 33 1 (vals qs) :: (itms 3 qs ++ O1) ∧ J (exN tr L start N) O1 ∧ Good (exN tr L start N) ∧ (exN tr L start N).length = N ∧ ExOk tr L (exN tr L start N) N (nums qs) ∧ ∀ i, i < N → i < (exN tr L start i).length) := by
  refine CallT.enter Tryd.func56 rfl Tryd.ntmps56 rfl ?_
  refine T.seq ?_
  refine T.region ?_
  refine TO.quiet (q_assign rfl) ?_
  refine TO.quiet (q_assign rfl) ?_
  refine TO.nil ?_
  refine T.scope ?_ (fun _ _ _ h => h)
  refine T.seq ?_
  refine T.region ?_
  refine TO.loud rfl (l_makeMap str (fun n : Nat => Value.int .i64 (n : Int)) (fun m1 => ?_))
  refine TO.quiet (q_move rfl) ?_
  refine TO.loud rfl (l_mapInsert (a := start) (v := (0 : Nat)) 0 Tryd.underlying92 (KeyOk.string Tryd.underlying9) rfl rfl rfl rfl (by simp) ?_)
  refine TO.quiet (q_move rfl) ?_
  refine TO.loud rfl (l_alloc inf92 rfl (fun b2 => ?_))
  refine TO.loud rfl (l_store_box (v := (.map (some m1))) (vs := [(.map (some m1))]) 0 inf92 rfl rfl rfl rfl rfl rfl (by simp) ?_)
  refine TO.nil ?_
  refine T.seq ?_
  refine T.region ?_
  refine TO.quiet (q_makeFunc) ?_
  refine TO.quiet (q_assign rfl) ?_
  refine TO.nil ?_
  refine T.seq ?_
  refine T.label ?_
  refine T.seq ?_
  refine T.seq ?_
  refine T.region ?_
  refine TO.quiet (q_assign rfl) ?_
  refine TO.nil ?_
  refine T.block ?_
  refine T.nilRow 33 1 ?_
  refine T.loop (fun (s : Nat) ρ O => ∃ (ks : List (List UInt8)) (qs : List Rec) (ob : Option Addr) (oc : Nat) (O1 : List Lx.Item), O = ([rowI ob oc 33 1 (vals qs), objI b2 (.cells (List.toArray [(.map (some m1))]) 92 (0, 0)), mapI str (fun n : Nat => Value.int .i64 (n : Int)) m1 ks.zipIdx] ++ itms 3 qs ++ O1) ∧ exN tr L start s = ks ∧ Good ks ∧ J ks O1 ∧ ExOk tr L ks s (nums qs) ∧ (∀ i, i < s → i < (exN tr L start i).length) ∧ Heads [(0, .int .i64 (L : Int)), (1, .int .i64 (B : Int)), (2, str start), (3, fv), (8, (.slice ob s oc)), (9, .bool false), (10, (.pointer (some ⟨b2, 0, none⟩))), (11, (.func (.func 67) #[] #[(.pointer (some ⟨b2, 0, none⟩))])), (12, .int .i64 (s : Int))] ρ) (fun s => B - s) 0 ?_ ?_
  · exact ⟨[start], [], none, 0, O, rfl, rfl, h0, hJ0, ⟨rfl, by simp, fun i hi => absurd hi (by omega), fun i hi => absurd hi (by omega)⟩, fun i hi => absurd hi (by omega), ⟨rfl, rfl, rfl, rfl, rfl, rfl, rfl, rfl, rfl, trivial⟩⟩
  · rintro s ρ O ⟨ks, qs, ob, oc, O1, rfl, hks, hG, hJ, hE, hen, hH⟩
    obtain ⟨ρ0, rfl⟩ := hH.elim
    clear hH
    have hgl := hg _ hG
    have hql : qs.length = s := by have := hE.len; simpa using this
    refine T.seq ?_
    refine T.seq ?_
    refine T.region ?_
    refine TO.quiet (q_move rfl) ?_
    refine TO.quiet (q_load_box 1 Tryd.underlying92 rfl rfl rfl rfl) ?_
    refine TO.quiet (QT.cast (q_lenMap Tryd.underlying92 rfl (List.mem_of_getElem? (i := 2) rfl)) (v' := .int .i64 (ks.length : Int)) (by rw [List.length_zipIdx])) ?_
    refine TO.quiet (q_lss rfl rfl) ?_
    refine TO.nil ?_
    refine T.condP rfl (fun hc => ?_) (fun hc => ?_)
    · have hlt22 : s < ks.length := by omega
      refine T.skip ?_
      refine T.seq ?_
      refine T.block ?_
      refine T.seq ?_
      refine T.region ?_
      refine TO.quiet (q_move rfl) ?_
      refine TO.loud rfl (l_makeSlice (m := L) Tryd.underlying33 inf3 rfl rfl (by omega) (by omega) (fun b3 => ?_))
      refine TO.quiet (q_assign rfl) ?_
      refine TO.nil ?_
      refine T.seq ?_
      refine T.seq ?_
      refine T.region ?_
      refine TO.quiet (q_move rfl) ?_
      refine TO.quiet (q_len Tryd.underlying33 rfl) ?_
      refine TO.quiet (q_move rfl) ?_
      refine TO.nil ?_
      refine T.block ?_
      refine T.loop (fun (x : Nat) ρ O => ∃ (ks2 : List (List UInt8)) (ys : List Int) (O2 : List Lx.Item), O = ([rowI (some ⟨b3, 0, none⟩) L 3 1 (ints ys), rowI ob oc 33 1 (vals qs), objI b2 (.cells (List.toArray [(.map (some m1))]) 92 (0, 0)), mapI str (fun n : Nat => Value.int .i64 (n : Int)) m1 ks2.zipIdx] ++ itms 3 qs ++ O2) ∧ x ≤ L ∧ ys.length = L ∧ Good ks2 ∧ J ks2 O2 ∧ ks2 = ((List.range x).map (tr (ks.getD s []))).foldl add ks ∧ (∀ i, i < x → ys[i]? = some ((ix (tr (ks.getD s []) i) ks2 : Nat) : Int)) ∧ Heads [(0, .int .i64 (L : Int)), (1, .int .i64 (B : Int)), (2, str start), (3, fv), (8, (.slice ob s oc)), (9, .bool false), (10, (.pointer (some ⟨b2, 0, none⟩))), (11, (.func (.func 67) #[] #[(.pointer (some ⟨b2, 0, none⟩))])), (12, .int .i64 (s : Int)), (13, (.slice (some ⟨b3, 0, none⟩) L L)), (28, .int .i64 (L : Int)), (29, .int .i64 (x : Int))] ρ) (fun x => L - x) 0 ?_ ?_
      · exact ⟨ks, List.replicate L 0, O1, by simp, Nat.zero_le _, by simp, hG, hJ, rfl, fun i hi => absurd hi (by omega), ⟨rfl, rfl, rfl, rfl, rfl, rfl, rfl, rfl, rfl, rfl, rfl, rfl, trivial⟩⟩
      · rintro x ρ O ⟨ks2, ys, O2, rfl, hx, hyl, hG2, hJ2, hk2, hys, hH⟩
        obtain ⟨ρ0, rfl⟩ := hH.elim
        clear hH
        have hgl2 := hg _ hG2
        have hpre : ks <+: ks2 := hk2 ▸ foldl_prefix _ _
        have hks2 : ks2.getD s [] = ks.getD s [] := prefix_getD hpre hlt22
        have hple := hpre.length_le
        refine T.seq ?_
        refine T.region ?_
        refine TO.quiet (q_lss rfl rfl) ?_
        refine TO.nil ?_
        refine T.seq ?_
        refine T.condP rfl (fun hc => ?_) (fun hc => ?_)
        · have hlt30 : x < L := by omega
          refine T.skip ?_
          refine T.seq ?_
          refine T.block ?_
          refine T.seq ?_
          refine T.region ?_
          refine TO.quiet (q_move rfl) ?_
          refine TO.quiet (q_assign rfl) ?_
          refine TO.nil ?_
          refine T.seq ?_
          refine T.region ?_
          refine TO.quiet (q_move rfl) ?_
          refine TO.quiet (q_move rfl) ?_
          refine TO.quiet (q_move rfl) ?_
          refine TO.quiet (q_move rfl) ?_
          refine TO.quiet (q_move rfl) ?_
          refine TO.quiet (q_move rfl) ?_
          refine TO.quiet (q_conv_id Tryd.underlying3 Tryd.underlying5 rfl (show IntKind.u8.wrap (x : Int) = (x : Int) by unfold IntKind.wrap; simp [IntKind.bits, IntKind.signed]; omega)) ?_
          have hk39 := CallV.under (B := [rowI (some ⟨b3, 0, none⟩) L 3 1 (ints ys), rowI ob oc 33 1 (vals qs), objI b2 (.cells (List.toArray [(.map (some m1))]) 92 (0, 0)), mapI str (fun n : Nat => Value.int .i64 (n : Int)) m1 ks2.zipIdx] ++ itms 3 qs) (O := ([rowI (some ⟨b3, 0, none⟩) L 3 1 (ints ys), rowI ob oc 33 1 (vals qs), objI b2 (.cells (List.toArray [(.map (some m1))]) 92 (0, 0)), mapI str (fun n : Nat => Value.int .i64 (n : Int)) m1 ks2.zipIdx] ++ itms 3 qs ++ O2)) (hn ks2 s x O2 (by omega) hlt30 hG2 hJ2) (Sub.cnt [] (by intro a; simp only [List.set_cons_zero, List.set_cons_succ, putL, List.cons_append, List.nil_append, List.append_nil, List.append_assoc, List.map_append, List.map_cons, List.map_nil, cnt_append, cnt_cons, cnt_nil] <;> omega))
          refine TO.loud rfl (l_callG hk39 rfl rfl ?_)
          clear hk39
          rintro v O' ⟨O3, rfl, rfl, hG3, hJ3⟩
          refine TO.sub (O' := ([rowI (some ⟨b3, 0, none⟩) L 3 1 (ints ys), rowI ob oc 33 1 (vals qs), objI b2 (.cells (List.toArray [(.map (some m1))]) 92 (0, 0)), mapI str (fun n : Nat => Value.int .i64 (n : Int)) m1 ks2.zipIdx] ++ (itms 3 qs ++ O3))) (Sub.cnt [] (by intro a; simp only [List.set_cons_zero, List.set_cons_succ, putL, List.cons_append, List.nil_append, List.append_nil, List.append_assoc, List.map_append, List.map_cons, List.map_nil, cnt_append, cnt_cons, cnt_nil] <;> omega)) ?_
          rw [hks2] at hG3 hJ3 ⊢
          have hk40 := CallV.of_fn (first := []) (args := [str (tr (ks.getD s []) x)]) (caps := [(.pointer (some ⟨b2, 0, none⟩))]) ent67 (CallT.under (B := [rowI (some ⟨b3, 0, none⟩) L 3 1 (ints ys), rowI ob oc 33 1 (vals qs)] ++ (itms 3 qs ++ O3)) (O := ([rowI (some ⟨b3, 0, none⟩) L 3 1 (ints ys), rowI ob oc 33 1 (vals qs), objI b2 (.cells (List.toArray [(.map (some m1))]) 92 (0, 0)), mapI str (fun n : Nat => Value.int .i64 (n : Int)) m1 ks2.zipIdx] ++ itms 3 qs ++ O3)) (visit base b2 m1 ks2 (tr (ks.getD s []) x) (by have := hg _ hG2; omega)) (Sub.pickR [2, 2, 0, 0] [rowI (some ⟨b3, 0, none⟩) L 3 1 (ints ys), rowI ob oc 33 1 (vals qs), objI b2 (.cells (List.toArray [(.map (some m1))]) 92 (0, 0)), mapI str (fun n : Nat => Value.int .i64 (n : Int)) m1 ks2.zipIdx] (itms 3 qs ++ O3) rfl rfl))
          refine TO.loud rfl (l_callG hk40 rfl rfl ?_)
          clear hk40
          rintro v O' ⟨A1, rfl, rfl, rfl⟩
          refine TO.sub (O' := ([rowI (some ⟨b3, 0, none⟩) L 3 1 (ints ys), rowI ob oc 33 1 (vals qs), objI b2 (.cells (List.toArray [(.map (some m1))]) 92 (0, 0)), mapI str (fun n : Nat => Value.int .i64 (n : Int)) m1 ((add ks2 (tr (ks.getD s []) x)).zipIdx)] ++ itms 3 qs ++ O3)) (Sub.pickR [2, 2, 0, 0] [objI b2 (.cells (List.toArray [(.map (some m1))]) 92 (0, 0)), mapI str (fun n : Nat => Value.int .i64 (n : Int)) m1 ((add ks2 (tr (ks.getD s []) x)).zipIdx), rowI (some ⟨b3, 0, none⟩) L 3 1 (ints ys), rowI ob oc 33 1 (vals qs)] (itms 3 qs ++ O3) rfl rfl) ?_
          refine TO.quiet (q_ix (i := x) Tryd.underlying33 inf3 rfl rfl (rowO (List.mem_of_getElem? (i := 0) rfl)) (by first | assumption | omega | (simp; omega) | simp_all) (by first | omega | (simp; done) | (simp; omega) | (simp_all; done) | (simp_all; omega))) ?_
          refine TO.loud rfl (l_st (j := x) (v := .int .i64 ((ix (tr (ks.getD s []) x) (add ks2 (tr (ks.getD s []) x)) : Nat) : Int)) (vs := [(.int .i64 ((ix (tr (ks.getD s []) x) (add ks2 (tr (ks.getD s []) x)) : Nat) : Int))]) (cs := ints ys) 0 inf3 rfl rfl rfl rfl rfl (by simp) rfl (by first | (simp; omega) | (simp_all; omega)) ?_)
          refine TO.sub (O' := ([rowI (some ⟨b3, 0, none⟩) L 3 1 (ints (ys.set x ((ix (tr (ks.getD s []) x) (add ks2 (tr (ks.getD s []) x)) : Nat) : Int))), rowI ob oc 33 1 (vals qs), objI b2 (.cells (List.toArray [(.map (some m1))]) 92 (0, 0)), mapI str (fun n : Nat => Value.int .i64 (n : Int)) m1 ((add ks2 (tr (ks.getD s []) x)).zipIdx)] ++ itms 3 qs ++ O3)) (by rw [show putL (ints ys) x [(.int .i64 ((ix (tr (ks.getD s []) x) (add ks2 (tr (ks.getD s []) x)) : Nat) : Int))] = ints (ys.set x ((ix (tr (ks.getD s []) x) (add ks2 (tr (ks.getD s []) x)) : Nat) : Int)) from by simp [putL]]; exact Sub.of (List.Sublist.refl _)) ?_
          refine TO.nil ?_
          refine T.seq ?_
          refine T.region ?_
          refine TO.quiet (q_load_box 2 Tryd.underlying92 rfl rfl rfl rfl) ?_
          refine TO.quiet (QT.cast (q_lenMap Tryd.underlying92 rfl (List.mem_of_getElem? (i := 3) rfl)) (v' := .int .i64 ((add ks2 (tr (ks.getD s []) x)).length : Int)) (by rw [List.length_zipIdx])) ?_
          refine TO.quiet (q_move rfl) ?_
          refine TO.quiet (q_gtr rfl rfl) ?_
          refine TO.nil ?_
          refine T.condP rfl (fun hc => ?_) (fun hc => ?_)
          · exact absurd hc (by have := hg _ hG3; omega)
          · have hge45 : ¬ (add ks2 (tr (ks.getD s []) x)).length > B := by omega
            refine T.skip ?_
            refine T.region ?_
            refine TO.quiet (q_inc rfl rfl (by omega)) ?_
            refine TO.quiet (q_move rfl) ?_
            refine TO.nil ?_
            have hmm : ∀ y, y < x → tr (ks.getD s []) y ∈ ks2 := fun y hy => by rw [hk2, mem_foldl_add]; exact .inr (List.mem_map_of_mem (List.mem_range.2 hy))
            refine ⟨x + 1, by omega, add ks2 (tr (ks.getD s []) x), ys.set x ((ix (tr (ks.getD s []) x) (add ks2 (tr (ks.getD s []) x)) : Nat) : Int), O3, rfl, by omega, by simp [hyl], hG3, hJ3, by rw [foldl_add_snoc, ← hk2], fun i hi => ?_, ⟨rfl, rfl, rfl, rfl, rfl, rfl, rfl, rfl, rfl, rfl, rfl, rfl, trivial⟩⟩
            by_cases e : i = x
            · subst e; rw [List.getElem?_set_self (by omega)]
            · rw [List.getElem?_set_ne (fun h => e h.symm), hys i (by omega), ix_prefix (add_prefix _ _) (hmm i (by omega))]
        · have hge30 : ¬ x < L := by omega
          refine T.exit ?_
          refine T.region ?_
          refine TO.quiet (q_move rfl) ?_
          refine TO.quiet (q_move rfl) ?_
          refine TO.loud rfl (l_build1 (v := (.slice (some ⟨b3, 0, none⟩) L L)) Tryd.underlying22 inf33 rfl rfl rfl (fun b4 => ?_))
          refine TO.loud rfl (l_append 2 Tryd.underlying22 Tryd.underlying22 inf33 rfl rfl rfl rfl (by simp [hql]) (by decide) (Src.row (j := 0) rfl (by simp)) (by simp [oneB]) (by omega) (by decide) (by decide) (fun b5 c6 => ?_))
          refine TO.quiet (q_assign rfl) ?_
          refine TO.nil ?_
          refine T.sub (O' := [rowI b5 c6 33 1 (vals (qs ++ [⟨(some ⟨b3, 0, none⟩), L, ys⟩])), objI b2 (.cells (List.toArray [(.map (some m1))]) 92 (0, 0)), mapI str (fun n : Nat => Value.int .i64 (n : Int)) m1 ks2.zipIdx] ++ (itms 3 (qs ++ [⟨(some ⟨b3, 0, none⟩), L, ys⟩]) ++ O2)) (by
            rw [show vals (qs ++ [⟨(some ⟨b3, 0, none⟩), L, ys⟩]) = (vals qs) ++ [(.slice (some ⟨b3, 0, none⟩) L L)] by simp [Rec.val, hyl]]
            exact Sub.cnt [rowI (some ⟨b4, 0, none⟩) 1 33 1 [(.slice (some ⟨b3, 0, none⟩) L L)]] (by intro a; simp only [List.set_cons_zero, List.set_cons_succ, itms, List.map_append, List.map_cons, List.map_nil, Rec.itm, cnt_append, cnt_cons, cnt_nil, List.cons_append, List.nil_append, List.append_assoc, List.append_nil] <;> omega)) ?_
          refine T.region ?_
          refine TO.quiet (q_move rfl) ?_
          refine TO.quiet (q_inc rfl rfl (by omega)) ?_
          refine TO.quiet (q_assign rfl) ?_
          refine TO.nil ?_
          have hxL : x = L := by omega
          have hmm : ∀ y, y < L → tr (ks.getD s []) y ∈ ks2 := fun y hy => by rw [hk2, mem_foldl_add]; exact .inr (List.mem_map_of_mem (List.mem_range.2 (by omega)))
          have hyr : ys = exRow tr L ks2 s := by
            apply List.ext_getElem?
            intro i
            by_cases hi : i < L
            · rw [hys i (by omega)]; simp only [exRow, hks2]; simp [hi]
            · rw [List.getElem?_eq_none (by omega), List.getElem?_eq_none (by simp [exRow]; omega)]
          have hE2 : ExOk tr L ks2 (s + 1) (nums (qs ++ [⟨(some ⟨b3, 0, none⟩), L, ys⟩])) := by
            have := hE.snoc hpre hlt22 hyr (by rw [hks2]; exact hmm)
            simpa [nums] using this
          have hen2 : ∀ i, i < s + 1 → i < (exN tr L start i).length := fun i hi => by
            by_cases e : i = s
            · subst e; rw [hks]; exact hlt22
            · exact hen i (by omega)
          exact ⟨s + 1, by omega, ks2, qs ++ [⟨(some ⟨b3, 0, none⟩), L, ys⟩], b5, c6, O2, rfl, by rw [exN, hks, hk2, hxL], hG2, hJ2, hE2, hen2, ⟨rfl, rfl, rfl, rfl, rfl, rfl, rfl, rfl, rfl, trivial⟩⟩
    · have hge22 : ¬ s < ks.length := by omega
      refine T.exit ?_
      refine T.seq ?_
      refine T.region ?_
      refine TO.quiet (q_move rfl) ?_
      refine TO.quiet (q_load_box 1 Tryd.underlying92 rfl rfl rfl rfl) ?_
      refine TO.quiet (QT.cast (q_lenMap Tryd.underlying92 rfl (List.mem_of_getElem? (i := 2) rfl)) (v' := .int .i64 (ks.length : Int)) (by rw [List.length_zipIdx])) ?_
      refine TO.quiet (q_move rfl) ?_
      refine TO.quiet (QT.toB (q_leq rfl rfl) (decide_eq_true (by have := hg _ hG; omega))) ?_
      refine TO.quiet (q_assign rfl) ?_
      refine TO.quiet (q_assign rfl) ?_
      refine TO.nil ?_
      refine T.ret ?_
      refine Res.drop ?_
      refine Res.two (.slice ob s oc) (.bool true) Tryd.results56 rfl rfl ?_
      have hN : ks.length = s := by have := hE.le; omega
      exact ⟨_, (Sub.pickR [0] [rowI ob oc 33 1 (vals qs), objI b2 (.cells (List.toArray [(.map (some m1))]) 92 (0, 0)), mapI str (fun n : Nat => Value.int .i64 (n : Int)) m1 ks.zipIdx] (itms 3 qs ++ O1) rfl rfl), ob, oc, qs, s, O1, rfl, rfl, by rw [hks]; exact hJ, by rw [hks]; exact hG, by rw [hks]; exact hN, by rw [hks]; exact hE, hen⟩

set_option maxHeartbeats 1000000 in
set_option maxRecDepth 20000 in
theorem nextC (base : World) (d : DFA) (nb fb : Option Addr) (nc fc : Nat) (vs : List Value) (h : DfaAt base d nb vs fb) (hv : Valid d) (hn : d.next.length < 100) (b1 b2 b3 : Nat) (os : List Nat) (sn : List Bool) (ob sb : Option Addr) (oc sc sc2 s x : Nat) (hs : s < os.length) (hx : x < 2 ^ d.vars.toNat) (hos : ∀ o ∈ os, o < d.next.length) (hnd : os.Nodup) (hsl : sn.length = d.next.length) (hsn : ∀ t, t < d.next.length → sn[t]? = some (decide (t ∈ os))) :
    CallT Tryd.prog base 54 ([.int .i64 (s : Int), .int .u8 (x : Int)] ++ [.pointer (some ⟨b1, 0, none⟩), .pointer (some ⟨b2, 0, none⟩), .pointer (some ⟨b3, 0, none⟩)])
      [objI b1 (.cells (List.toArray [(.int .i64 d.vars), (.int .i64 d.start), (.slice nb d.next.length nc), (.slice fb d.final.length fc)]) 25 (0, 0)), objI b2 (.cells (List.toArray [(.slice ob os.length oc)]) 33 (0, 0)), rowI ob oc 3 1 (nats os), objI b3 (.cells (List.toArray [(.slice sb d.next.length sc)]) 23 (0, 0)), rowI sb sc2 4 1 (bools sn)]
      (fun v O' => v = str (Lib.decDigits (toN d os[s] x)) ∧ ∃ ob' oc' sn', sn'.length = d.next.length ∧ (∀ t, t < d.next.length → sn'[t]? = some (decide (t ∈ add os (toN d os[s] x)))) ∧ O' = [objI b1 (.cells (List.toArray [(.int .i64 d.vars), (.int .i64 d.start), (.slice nb d.next.length nc), (.slice fb d.final.length fc)]) 25 (0, 0)), objI b2 (.cells (List.toArray [(.slice ob' ((add os (toN d os[s] x)).length) oc')]) 33 (0, 0)), rowI ob' oc' 3 1 (nats (add os (toN d os[s] x))), objI b3 (.cells (List.toArray [(.slice sb d.next.length sc)]) 23 (0, 0)), rowI sb sc2 4 1 (bools sn')]) := by
  refine CallT.enter Tryd.func54 rfl Tryd.ntmps54 rfl ?_
  obtain ⟨o, hso⟩ : ∃ o, os[s] = o := ⟨_, rfl⟩
  have hso2 : os[s]? = some o := by rw [List.getElem?_eq_getElem hs, hso]
  have ho : o < d.next.length := hso ▸ hos _ (List.getElem_mem hs)
  obtain ⟨t, ht⟩ : ∃ t, toN d o x = t := ⟨_, rfl⟩
  obtain ⟨htn, _, hxr, hdx⟩ := hv.toN_lt ho hx
  rw [ht] at htn hdx
  rw [hso, ht]
  have hvl := h.rows.1
  have hw := hv.width
  obtain ⟨vb, vc, g1, s1⟩ := h.rows.get ho
  have hxt : (ints d.next[o])[x]? = some (.int .i64 ((t : Nat) : Int)) := by rw [ints_get hxr, hdx]
  have hol := nodup_bound hnd hos
  have hst := hsn t htn
  have htl : t < sn.length := by omega
  refine T.seq ?_
  refine T.region ?_
  refine TO.quiet (q_assign rfl) ?_
  refine TO.nil ?_
  refine T.seq ?_
  refine T.draws _ [(0, 0), (1, 0), (2, 0), (3, 0), (4, 0), (5, 0), (6, 0), (7, 0), (8, 0), (9, 0), (10, 0), (11, 0)] mixed (by kernel_rfl) (Sub.of (List.Sublist.refl _)) (fun _ _ _ h => h) ?_
  refine DO.quiet rfl (q_fieldAddr Tryd.underlying25 rfl inf22 rfl rfl) ?_
  refine DO.quiet rfl (q_load_box 0 Tryd.underlying22 rfl rfl rfl rfl) ?_
  refine DO.quiet rfl (q_load_box 1 Tryd.underlying33 rfl rfl rfl rfl) ?_
  refine DO.quiet rfl (q_move rfl) ?_
  refine DO.quiet rfl (q_ix (i := s) Tryd.underlying33 inf3 rfl rfl (rowO (List.mem_of_getElem? (i := 2) rfl)) hs (by rw [List.length_map]; exact hs)) ?_
  refine DO.quiet rfl (q_ld Tryd.underlying3 rfl rfl (rowO (List.mem_of_getElem? (i := 2) rfl)) (show (nats os)[s]? = some (.int .i64 ((o : Nat) : Int)) by rw [List.getElem?_map, hso2]; rfl)) ?_
  refine DO.quiet rfl (q_ix (i := o) Tryd.underlying22 inf33 rfl rfl (Sl.o h.outer) ho (by first | omega | (simp; done) | (simp; omega) | (simp_all; done) | (simp_all; omega))) ?_
  refine DO.quiet rfl (q_ld Tryd.underlying33 rfl rfl (Sl.o h.outer) g1) ?_
  refine DO.quiet rfl (q_move rfl) ?_
  refine DO.quiet rfl (q_ix (i := x) Tryd.underlying33 inf3 rfl rfl (Sl.o s1) hxr (by rw [List.length_map]; exact hxr)) ?_
  refine DO.quiet rfl (q_ld Tryd.underlying3 rfl rfl (Sl.o s1) hxt) ?_
  refine DO.quiet rfl (q_assign rfl) ?_
  refine DO.done ?_
  refine T.seq ?_
  refine T.seq ?_
  refine T.region ?_
  refine TO.quiet (q_load_box 3 Tryd.underlying23 rfl rfl rfl rfl) ?_
  refine TO.quiet (q_move rfl) ?_
  refine TO.quiet (q_ix (i := t) Tryd.underlying23 inf4 rfl rfl (rowO (List.mem_of_getElem? (i := 4) rfl)) htn (by rw [List.length_map]; exact htl)) ?_
  refine TO.quiet (q_ld Tryd.underlying4 rfl rfl (rowO (List.mem_of_getElem? (i := 4) rfl)) (show (bools sn)[t]? = some (.bool (decide (t ∈ os))) by rw [List.getElem?_map, hst]; rfl)) ?_
  refine TO.quiet (q_not rfl) ?_
  refine TO.nil ?_
  refine T.condP (p := t ∉ os) (congrArg Value.bool (by simp)) (fun hc => ?_) (fun hc => ?_)
  · refine T.draws2 [objI b1 (.cells (List.toArray [(.int .i64 d.vars), (.int .i64 d.start), (.slice nb d.next.length nc), (.slice fb d.final.length fc)]) 25 (0, 0)), objI b3 (.cells (List.toArray [(.slice sb d.next.length sc)]) 23 (0, 0)), rowI sb sc2 4 1 (bools sn)] [objI b2 (.cells (List.toArray [(.slice ob os.length oc)]) 33 (0, 0))] [(0, 0), (1, 0), (2, 3), (3, 0), (4, 1), (5, 1), (6, 4), (7, 0), (8, 2)] mixed (by kernel_rfl) (Sub.pick [0, 2, 2] rfl) (Sub.pick [1] rfl) (fun _ _ _ h => h) ?_
    refine DO.quiet rfl (q_load_box 1 Tryd.underlying23 rfl rfl rfl rfl) ?_
    refine DO.quiet rfl (q_move rfl) ?_
    refine DO.quiet2 rfl (q_load_box 0 Tryd.underlying33 rfl rfl rfl rfl) ?_
    refine DO.quiet rfl (q_move rfl) ?_
    refine DO.loud2 rfl rfl (l_build1 (v := .int .i64 ((t : Nat) : Int)) Tryd.underlying33 inf3 rfl rfl rfl (fun z1 => ⟨Sub.pick [1, 3, 3] rfl, Sub.pick [2] rfl, ?_⟩))
    refine DO.loud2 rfl rfl (l_append 3 Tryd.underlying33 Tryd.underlying33 inf3 rfl rfl rfl rfl (by simp) (by decide) (Src.row (j := 0) rfl (by simp)) (by simp [oneB]) (by omega) (by decide) (by decide) (fun z2 zc3 => ⟨Sub.pick [1, 3, 3] rfl, Sub.pick [2] rfl, ?_⟩))
    refine DO.last2 rfl rfl (l_store_box (v := (.slice z2 (os.length + 1) zc3)) (vs := [(.slice z2 (os.length + 1) zc3)]) 2 inf33 rfl rfl rfl rfl rfl rfl (by simp) ⟨Sub.pick [1, 3, 3] rfl, ?_⟩)
    refine DO.quiet rfl (q_ix (i := t) Tryd.underlying23 inf4 rfl rfl (rowO (List.mem_of_getElem? (i := 2) rfl)) htn (by rw [List.length_map]; exact htl)) ?_
    refine DO.last rfl rfl (l_st (j := t) (v := .bool true) (vs := [(.bool true)]) (cs := bools sn) 5 inf4 rfl rfl rfl rfl rfl (by simp) rfl (by first | (simp; omega) | (simp_all; omega)) ?_)
    refine DO.sub (O' := [rowI (some ⟨z1, 0, none⟩) 1 3 1 [.int .i64 ((t : Nat) : Int)], objI b1 (.cells (List.toArray [(.int .i64 d.vars), (.int .i64 d.start), (.slice nb d.next.length nc), (.slice fb d.final.length fc)]) 25 (0, 0)), objI b2 (.cells (List.toArray [(.slice z2 (os.length + 1) zc3)]) 33 (0, 0)), rowI z2 zc3 3 1 ((nats os) ++ [.int .i64 ((t : Nat) : Int)]), objI b3 (.cells (List.toArray [(.slice sb d.next.length sc)]) 23 (0, 0)), rowI sb sc2 4 1 (bools (sn.set t true))]) (by rw [show putL (bools sn) t [(.bool true)] = bools (sn.set t true) from by simp [putL]]; exact Sub.of (List.Sublist.refl _)) ?_
    refine DO.done ?_
    refine T.seq ?_
    refine T.region ?_
    refine TO.quiet (q_move rfl) ?_
    have hk33 := fun (w1 : World) (hI : Inv base [rowI (some ⟨z1, 0, none⟩) 1 3 1 [.int .i64 ((t : Nat) : Int)], objI b1 (.cells (List.toArray [(.int .i64 d.vars), (.int .i64 d.start), (.slice nb d.next.length nc), (.slice fb d.final.length fc)]) 25 (0, 0)), objI b2 (.cells (List.toArray [(.slice z2 (os.length + 1) zc3)]) 33 (0, 0)), rowI z2 zc3 3 1 ((nats os) ++ [.int .i64 ((t : Nat) : Int)]), objI b3 (.cells (List.toArray [(.slice sb d.next.length sc)]) 23 (0, 0)), rowI sb sc2 4 1 (bools (sn.set t true))] w1) => itoaF w1 t (by omega)
    refine TO.loud rfl (l_call ent55 (CallT.of_pure hk33) rfl ?_)
    clear hk33
    rintro v O' ⟨N, rfl, rfl, rfl⟩
    refine TO.quiet (q_assign rfl) ?_
    refine TO.nil ?_
    refine T.ret ?_
    refine Res.drop ?_
    refine Res.one (str (Lib.decDigits t)) Tryd.results54 rfl ?_
    have ha : add os t = os ++ [t] := if_neg hc
    refine ⟨[objI b1 (.cells (List.toArray [(.int .i64 d.vars), (.int .i64 d.start), (.slice nb d.next.length nc), (.slice fb d.final.length fc)]) 25 (0, 0)), objI b2 (.cells (List.toArray [(.slice z2 (os.length + 1) zc3)]) 33 (0, 0)), rowI z2 zc3 3 1 ((nats os) ++ [.int .i64 ((t : Nat) : Int)]), objI b3 (.cells (List.toArray [(.slice sb d.next.length sc)]) 23 (0, 0)), rowI sb sc2 4 1 (bools (sn.set t true))], (Sub.pick [1, 1, 1, 1, 1] rfl), rfl, z2, zc3, sn.set t true, by simp [hsl], fun t2 ht2 => ?_, ?_⟩
    · rw [ha]
      by_cases e : t2 = t
      · subst e; rw [List.getElem?_set_self htl]; simp
      · rw [List.getElem?_set_ne (fun h => e h.symm), hsn t2 ht2]; simp [e]
    · rw [ha, List.length_append, show nats (os ++ [t]) = nats os ++ [.int .i64 ((t : Nat) : Int)] from List.map_append]; rfl
  · refine T.skip ?_
    refine T.seq ?_
    refine T.region ?_
    refine TO.quiet (q_move rfl) ?_
    have hk33 := fun (w1 : World) (hI : Inv base [objI b1 (.cells (List.toArray [(.int .i64 d.vars), (.int .i64 d.start), (.slice nb d.next.length nc), (.slice fb d.final.length fc)]) 25 (0, 0)), objI b2 (.cells (List.toArray [(.slice ob os.length oc)]) 33 (0, 0)), rowI ob oc 3 1 (nats os), objI b3 (.cells (List.toArray [(.slice sb d.next.length sc)]) 23 (0, 0)), rowI sb sc2 4 1 (bools sn)] w1) => itoaF w1 t (by omega)
    refine TO.loud rfl (l_call ent55 (CallT.of_pure hk33) rfl ?_)
    clear hk33
    rintro v O' ⟨N, rfl, rfl, rfl⟩
    refine TO.quiet (q_assign rfl) ?_
    refine TO.nil ?_
    refine T.ret ?_
    refine Res.drop ?_
    refine Res.one (str (Lib.decDigits t)) Tryd.results54 rfl ?_
    have ha : add os t = os := if_pos (Classical.not_not.1 hc)
    refine ⟨[objI b1 (.cells (List.toArray [(.int .i64 d.vars), (.int .i64 d.start), (.slice nb d.next.length nc), (.slice fb d.final.length fc)]) 25 (0, 0)), objI b2 (.cells (List.toArray [(.slice ob os.length oc)]) 33 (0, 0)), rowI ob oc 3 1 (nats os), objI b3 (.cells (List.toArray [(.slice sb d.next.length sc)]) 23 (0, 0)), rowI sb sc2 4 1 (bools sn)], (Sub.pick [0, 0, 0, 0, 0] rfl), rfl, ob, oc, sn, hsl, fun t2 ht2 => ?_, ?_⟩
    · rw [ha]; exact hsn t2 ht2
    · rw [ha]

/-- What explore's callback keeps. -/
def RenJ (d : DFA) (nb fb : Option Addr) (nc fc b1 bB bC bD : Nat) (ks : List (List UInt8)) (O : List Lx.Item) : Prop :=
  ∃ (os : List Nat) (sn : List Bool) (ob : Option Addr) (oc : Nat), ks = os.map Lib.decDigits ∧ O = [objI b1 (.cells (List.toArray [(.int .i64 d.vars), (.int .i64 d.start), (.slice nb d.next.length nc), (.slice fb d.final.length fc)]) 25 (0, 0)), objI bC (.cells (List.toArray [(.slice ob os.length oc)]) 33 (0, 0)), rowI ob oc 3 1 (nats os), objI bD (.cells (List.toArray [(.slice (some ⟨bB, 0, none⟩) d.next.length d.next.length)]) 23 (0, 0)), rowI (some ⟨bB, 0, none⟩) d.next.length 4 1 (bools sn)] ∧ os.Nodup ∧ (∀ o ∈ os, o < d.next.length) ∧ sn.length = d.next.length ∧ (∀ t, t < d.next.length → sn[t]? = some (decide (t ∈ os)))

theorem nextV (base : World) (d : DFA) (nb fb : Option Addr) (nc fc : Nat) (vs : List Value) (h : DfaAt base d nb vs fb) (hv : Valid d) (hn : d.next.length < 100) (b1 bB bC bD : Nat) (ks : List (List UInt8)) (s x : Nat) (O : List Lx.Item) (hs : s < ks.length) (hx : x < 2 ^ d.vars.toNat) (hJ : RenJ d nb fb nc fc b1 bB bC bD ks O) :
    CallV Tryd.prog base (.func (.func 54) #[] #[.pointer (some ⟨b1, 0, none⟩), .pointer (some ⟨bC, 0, none⟩), .pointer (some ⟨bD, 0, none⟩)]) [.int .i64 (s : Int), .int .u8 (x : Int)] O
      (fun v O' => v = str (trD d (ks.getD s []) x) ∧ (add ks (trD d (ks.getD s []) x)).length ≤ d.next.length ∧ RenJ d nb fb nc fc b1 bB bC bD (add ks (trD d (ks.getD s []) x)) O') := by
  obtain ⟨os, sn, ob, oc, rfl, rfl, hnd, hos, hsl, hsn⟩ := hJ
  have hs' : s < os.length := by simpa using hs
  have e : (os.map Lib.decDigits).getD s [] = Lib.decDigits os[s] := by simp [hs']
  have e2 : trD d ((os.map Lib.decDigits).getD s []) x = Lib.decDigits (toN d os[s] x) := by rw [e, trD, undec_dec]
  have hT := (hv.toN_lt (hos _ (List.getElem_mem hs')) hx).1
  have hos2 : ∀ o ∈ add os (toN d os[s] x), o < d.next.length := fun o ho => by
    rcases mem_add.1 ho with ho | ho
    · exact hos o ho
    · rw [ho]; exact hT
  refine CallV.mono (CallV.of_fn (first := []) (caps := [.pointer (some ⟨b1, 0, none⟩), .pointer (some ⟨bC, 0, none⟩), .pointer (some ⟨bD, 0, none⟩)]) ent54 (nextC base d nb fb nc fc vs h hv hn b1 bC bD os sn ob (some ⟨bB, 0, none⟩) oc d.next.length d.next.length s x hs' hx hos hnd hsl hsn)) ?_
  rintro v O' ⟨rfl, ob', oc', sn', h1, h2, rfl⟩
  rw [e2, ← map_add dec_inj]
  refine ⟨rfl, ?_, add os (toN d os[s] x), sn', ob', oc', rfl, rfl, add_nodup hnd, hos2, h1, h2⟩
  rw [List.length_map]; exact nodup_bound (add_nodup hnd) hos2
end Go.Proofs.YthfemndklplpbaaDoor

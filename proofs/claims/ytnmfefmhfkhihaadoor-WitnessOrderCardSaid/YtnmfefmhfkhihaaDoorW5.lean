/- Contracts of functions of the program (Ren, Rn, Quo, Dist, Uni, P1, P2, P3, P4, P5, W1, W2, W3, WtL, W5): what each call answers and that it leaves memory as it was. Conditions: those each theorem names. -/
import Derived.Test.YtnmfefmhfkhihaaDoorCoreW
import Derived.Test.YtnmfefmhfkhihaaDoorMin
set_option linter.unusedSectionVars false
set_option linter.unusedSimpArgs false
set_option linter.unusedVariables false
set_option linter.unnecessarySimpa false
namespace Go.Proofs.YtnmfefmhfkhihaaDoor
open Go.Lx Go.RowKit
set_option linter.unusedVariables false
set_option linter.unusedSimpArgs false
set_option maxHeartbeats 1000000 in
set_option maxRecDepth 20000 in
theorem visitHit (base : World) [Tab Tryd.prog base] (bx m : Nat) (ks : List (List UInt8)) (key : List UInt8) (hk : key ∈ ks) (hb : ks.length < 1000000) :
    CallT Tryd.prog base 77 [str key, .pointer (some ⟨bx, 0, none⟩)] [objI bx (.cells #[.map (some m)] 108 (0, 0)), mapI str (fun n : Nat => Value.int .i64 (n : Int)) m ks.zipIdx] (fun v O' => v = .int .i64 ((ix key (add ks key) : Nat) : Int) ∧ O' = [objI bx (.cells #[.map (some m)] 108 (0, 0)), mapI str (fun n : Nat => Value.int .i64 (n : Int)) m (add ks key).zipIdx]) := by
  refine CallT.enter Tryd.func77 rfl Tryd.ntmps77 rfl ?_
  refine T.seq (T.region ?_)
  refine TO.quiet (q_assign rfl) ?_
  refine TO.nil (T.seq (T.region ?_))
  refine TO.quiet (q_load_box 0 Tryd.underlying108 rfl rfl rfl rfl) (TO.quiet (q_move rfl) (TO.quiet (QT.cast (q_lookupOk (a := key) Tryd.underlying108 inf3 (KeyOk.string Tryd.underlying9) rfl rfl (List.mem_of_getElem? (i := 1) rfl)) (v' := (.tuple #[.int .i64 ((ix key ks : Nat) : Int), .bool true])) (by rw [look_zip]; simp [hk])) (TO.quiet (q_move rfl) ?_)))
  refine TO.quiet (q_extract (vs := _) rfl rfl) (TO.quiet (q_extract (vs := _) rfl rfl) (TO.quiet (q_assign rfl) (TO.quiet (q_assign rfl) ?_)))
  refine TO.nil (T.seq (T.seq (T.region ?_)))
  refine TO.quiet (q_move rfl) (TO.quiet (q_not rfl) ?_)
  refine TO.nil ?_
  refine T.cond0 rfl ?_
  refine T.skip (T.seq (T.region ?_))
  refine TO.quiet (q_move rfl) (TO.quiet (q_assign rfl) ?_)
  refine TO.nil (T.ret ?_)
  refine Res.one (.int .i64 ((ix key ks : Nat) : Int)) Tryd.results77 rfl ?_
  have ha : add ks key = ks := if_pos hk
  rw [ha]; exact ⟨rfl, rfl⟩
set_option maxHeartbeats 1000000 in
set_option maxRecDepth 20000 in
theorem visitMiss (base : World) [Tab Tryd.prog base] (bx m : Nat) (ks : List (List UInt8)) (key : List UInt8) (hk : key ∉ ks) (hb : ks.length < 1000000) :
    CallT Tryd.prog base 77 [str key, .pointer (some ⟨bx, 0, none⟩)] [objI bx (.cells #[.map (some m)] 108 (0, 0)), mapI str (fun n : Nat => Value.int .i64 (n : Int)) m ks.zipIdx] (fun v O' => v = .int .i64 ((ix key (add ks key) : Nat) : Int) ∧ O' = [objI bx (.cells #[.map (some m)] 108 (0, 0)), mapI str (fun n : Nat => Value.int .i64 (n : Int)) m (add ks key).zipIdx]) := by
  refine CallT.enter Tryd.func77 rfl Tryd.ntmps77 rfl ?_
  refine T.seq (T.region ?_)
  refine TO.quiet (q_assign rfl) ?_
  refine TO.nil (T.seq (T.region ?_))
  refine TO.quiet (q_load_box 0 Tryd.underlying108 rfl rfl rfl rfl) (TO.quiet (q_move rfl) (TO.quiet (QT.cast (q_lookupOk (a := key) Tryd.underlying108 inf3 (KeyOk.string Tryd.underlying9) rfl rfl (List.mem_of_getElem? (i := 1) rfl)) (v' := (.tuple #[.int .i64 0, .bool false])) (by rw [look_zip]; simp [hk])) (TO.quiet (q_move rfl) ?_)))
  refine TO.quiet (q_extract (vs := _) rfl rfl) (TO.quiet (q_extract (vs := _) rfl rfl) (TO.quiet (q_assign rfl) (TO.quiet (q_assign rfl) ?_)))
  refine TO.nil (T.seq (T.seq (T.region ?_)))
  refine TO.quiet (q_move rfl) (TO.quiet (q_not rfl) ?_)
  refine TO.nil ?_
  refine T.cond1 rfl ?_
  refine T.seq (T.region ?_)
  refine TO.quiet (q_load_box 0 Tryd.underlying108 rfl rfl rfl rfl) (TO.quiet (QT.cast (q_lenMap Tryd.underlying108 rfl (List.mem_of_getElem? (i := 1) rfl)) (v' := .int .i64 ((ks.length : Nat) : Int)) (by simp)) (TO.quiet (q_assign rfl) ?_))
  refine TO.nil (T.region ?_)
  refine TO.quiet (q_load_box 0 Tryd.underlying108 rfl rfl rfl rfl) (TO.quiet (q_move rfl) (TO.quiet (q_move rfl) ?_))
  refine TO.loud rfl (l_mapPut (a := key) (v := ks.length) 1 Tryd.underlying108 (KeyOk.string Tryd.underlying9) rfl rfl rfl rfl (by rw [zipIdx_fst]; exact hk) ?_)
  refine TO.nil (T.seq (T.region ?_))
  refine TO.quiet (q_move rfl) (TO.quiet (q_assign rfl) ?_)
  refine TO.nil (T.ret ?_)
  refine Res.one (.int .i64 ((ks.length : Nat) : Int)) Tryd.results77 rfl ?_
  have ha : add ks key = ks ++ [key] := if_neg hk
  rw [ha]
  refine ⟨by rw [ix_append_right hk]; simp [ix], ?_⟩
  rw [show (ks ++ [key]).zipIdx = ks.zipIdx ++ [(key, ks.length)] by rw [List.zipIdx_append]; simp]; rfl
theorem visit (base : World) [Tab Tryd.prog base] (bx m : Nat) (ks : List (List UInt8)) (key : List UInt8) (hb : ks.length < 1000000) :
    CallT Tryd.prog base 77 [str key, .pointer (some ⟨bx, 0, none⟩)] [objI bx (.cells #[.map (some m)] 108 (0, 0)), mapI str (fun n : Nat => Value.int .i64 (n : Int)) m ks.zipIdx] (fun v O' => v = .int .i64 ((ix key (add ks key) : Nat) : Int) ∧ O' = [objI bx (.cells #[.map (some m)] 108 (0, 0)), mapI str (fun n : Nat => Value.int .i64 (n : Int)) m (add ks key).zipIdx]) := by
  by_cases hk : key ∈ ks
  · exact visitHit base bx m ks key hk hb
  · exact visitMiss base bx m ks key hk hb
set_option maxHeartbeats 1000000 in
set_option maxRecDepth 20000 in
theorem exploreC (base : World) [Tab Tryd.prog base] (tr : List UInt8 → Nat → List UInt8) (L B : Nat) (start : List UInt8) (fv : Value) (J : List (List UInt8) → List Lx.Item → Prop) (Good : List (List UInt8) → Prop) (hL : L ≤ 64) (hB : B ≤ 4096)
    (hn : ∀ (ks : List (List UInt8)) (s x : Nat) (O : List Lx.Item), s < ks.length → x < L → Good ks → J ks O → CallV Tryd.prog base fv [.int .i64 (s : Int), .int .u8 (x : Int)] O (fun v O' => v = str (tr (ks.getD s []) x) ∧ Good (add ks (tr (ks.getD s []) x)) ∧ J (add ks (tr (ks.getD s []) x)) O'))
    (hg : ∀ ks, Good ks → ks.length ≤ B) (O : List Lx.Item) (h0 : Good [start]) (hJ0 : J [start] O) :
    CallT Tryd.prog base 66 [.int .i64 (L : Int), .int .i64 (B : Int), str start, fv] O (fun v O' => ∃ b c qs N O1, v = .tuple #[.slice b N c, .bool true] ∧ O' = rowI b c 41 1 (vals qs) :: (itms 3 qs ++ O1) ∧ J (exN tr L start N) O1 ∧ Good (exN tr L start N) ∧ (exN tr L start N).length = N ∧ ExOk tr L (exN tr L start N) N (nums qs) ∧ ∀ i, i < N → i < (exN tr L start i).length) := by
  refine CallT.enter Tryd.func66 rfl Tryd.ntmps66 rfl ?_
  refine T.seq (T.region ?_)
  refine TO.quiet (q_assign rfl) (TO.quiet (q_assign rfl) ?_)
  refine TO.nil ?_
  refine T.scope ?_ (fun _ _ _ h => h)
  refine T.seq (T.region ?_)
  refine TO.loud rfl (l_makeMap str (fun n : Nat => Value.int .i64 (n : Int)) (fun m1 => ?_))
  refine TO.quiet (q_move rfl) ?_
  refine TO.loud rfl (l_mapInsert (a := start) (v := (0 : Nat)) 0 Tryd.underlying108 (KeyOk.string Tryd.underlying9) rfl rfl rfl rfl (by simp) ?_)
  refine TO.quiet (q_move rfl) ?_
  refine TO.loud rfl (l_alloc inf108 rfl (fun b2 => ?_))
  refine TO.loud rfl (l_store_box (v := (.map (some m1))) (vs := [(.map (some m1))]) 0 inf108 rfl rfl rfl rfl rfl rfl (by simp [putL]) ?_)
  refine TO.nil (T.seq (T.region ?_))
  refine TO.quiet (q_makeFunc) (TO.quiet (q_assign rfl) ?_)
  refine TO.nil (T.seq ?_)
  refine T.label ?_
  refine T.seq (T.seq (T.region ?_))
  refine TO.quiet (q_assign rfl) ?_
  refine TO.nil (T.block ?_)
  refine T.nilRow 41 1 ?_
  refine T.loop (fun (s : Nat) ρ O => ∃ (ks : List (List UInt8)) (qs : List Rec) (ob : Option Addr) (oc : Nat) (O1 : List Lx.Item), O = ([rowI ob oc 41 1 (vals qs), oI b2 108 [(.map (some m1))], mapI str (fun n : Nat => Value.int .i64 (n : Int)) m1 ks.zipIdx] ++ (itms 3 qs ++ O1)) ∧ exN tr L start s = ks ∧ Good ks ∧ J ks O1 ∧ ExOk tr L ks s (nums qs) ∧ (∀ i, i < s → i < (exN tr L start i).length) ∧ Heads [(0, .int .i64 (L : Int)), (1, .int .i64 (B : Int)), (2, str start), (3, fv), (8, (.slice ob s oc)), (9, .bool false), (10, (.pointer (some ⟨b2, 0, none⟩))), (11, (.func (.func 77) #[] #[(.pointer (some ⟨b2, 0, none⟩))])), (12, .int .i64 (s : Int))] ρ) (fun s => B - s) 0 ?_ ?_
  · exact ⟨[start], [], none, 0, O, rfl, rfl, h0, hJ0, ⟨rfl, by simp, fun i hi => absurd hi (by omega), fun i hi => absurd hi (by omega)⟩, fun i hi => absurd hi (by omega), ⟨rfl, rfl, rfl, rfl, rfl, rfl, rfl, rfl, rfl, trivial⟩⟩
  rintro s ρ O ⟨ks, qs, ob, oc, O1, rfl, hks, hG, hJ, hE, hen, hH⟩
  obtain ⟨ρ0, rfl⟩ := hH.elim
  clear hH
  have hgl := hg _ hG
  have hql : qs.length = s := by have := hE.len; simpa using this
  refine T.seq (T.seq (T.region ?_))
  refine TO.quiet (q_move rfl) (TO.quiet (q_load_box 1 Tryd.underlying108 rfl rfl rfl rfl) (TO.quiet (QT.cast (q_lenMap Tryd.underlying108 rfl (List.mem_of_getElem? (i := 2) rfl)) (v' := .int .i64 (ks.length : Int)) (by rw [List.length_zipIdx])) (TO.quiet (q_lss rfl rfl) ?_)))
  refine TO.nil ?_
  refine T.condP rfl (fun hc => ?_) (fun hc => ?_)
  · have hlt22 : s < ks.length := by omega
    refine T.skip (T.seq (T.block (T.seq (T.region ?_))))
    refine TO.quiet (q_move rfl) ?_
    refine TO.loud rfl (l_makeSlice (m := L) Tryd.underlying41 inf3 rfl rfl (by omega) (by omega) (fun b3 => ?_))
    refine TO.quiet (q_assign rfl) ?_
    refine TO.nil (T.seq (T.seq (T.region ?_)))
    refine TO.quiet (q_move rfl) (TO.quiet (q_len Tryd.underlying41 rfl) (TO.quiet (q_move rfl) ?_))
    refine TO.nil (T.block ?_)
    refine T.loop (fun (x : Nat) ρ O => ∃ (ks2 : List (List UInt8)) (ys : List Int) (O2 : List Lx.Item), O = ([rowI (some ⟨b3, 0, none⟩) L 3 1 (ints ys), rowI ob oc 41 1 (vals qs), oI b2 108 [(.map (some m1))], mapI str (fun n : Nat => Value.int .i64 (n : Int)) m1 ks2.zipIdx] ++ (itms 3 qs ++ O2)) ∧ x ≤ L ∧ ys.length = L ∧ Good ks2 ∧ J ks2 O2 ∧ ks2 = ((List.range x).map (tr (ks.getD s []))).foldl add ks ∧ (∀ i, i < x → ys[i]? = some ((ix (tr (ks.getD s []) i) ks2 : Nat) : Int)) ∧ Heads [(0, .int .i64 (L : Int)), (1, .int .i64 (B : Int)), (2, str start), (3, fv), (8, (.slice ob s oc)), (9, .bool false), (10, (.pointer (some ⟨b2, 0, none⟩))), (11, (.func (.func 77) #[] #[(.pointer (some ⟨b2, 0, none⟩))])), (12, .int .i64 (s : Int)), (13, (.slice (some ⟨b3, 0, none⟩) L L)), (28, .int .i64 (L : Int)), (29, .int .i64 (x : Int))] ρ) (fun x => L - x) 0 ?_ ?_
    · exact ⟨ks, List.replicate L 0, O1, by simp, Nat.zero_le _, by simp, hG, hJ, rfl, fun i hi => absurd hi (by omega), ⟨rfl, rfl, rfl, rfl, rfl, rfl, rfl, rfl, rfl, rfl, rfl, rfl, trivial⟩⟩
    rintro x ρ O ⟨ks2, ys, O2, rfl, hx, hyl, hG2, hJ2, hk2, hys, hH⟩
    obtain ⟨ρ0, rfl⟩ := hH.elim
    clear hH
    have hgl2 := hg _ hG2
    have hpre : ks <+: ks2 := hk2 ▸ foldl_prefix _ _
    have hks2 : ks2.getD s [] = ks.getD s [] := prefix_getD hpre hlt22
    have hple := hpre.length_le
    refine T.seq (T.region ?_)
    refine TO.quiet (q_lss rfl rfl) ?_
    refine TO.nil (T.seq ?_)
    refine T.condP rfl (fun hc => ?_) (fun hc => ?_)
    · have hlt30 : x < L := by omega
      refine T.skip (T.seq (T.block (T.seq (T.region ?_))))
      refine TO.quiet (q_move rfl) (TO.quiet (q_assign rfl) ?_)
      refine TO.nil (T.seq (T.region ?_))
      refine TO.quiet (q_move rfl) (TO.quiet (q_move rfl) (TO.quiet (q_move rfl) (TO.quiet (q_move rfl) ?_)))
      refine TO.quiet (q_move rfl) (TO.quiet (q_move rfl) (TO.quiet (q_conv_id Tryd.underlying3 Tryd.underlying5 rfl (show IntKind.u8.wrap (x : Int) = (x : Int) by unfold IntKind.wrap; simp [IntKind.bits, IntKind.signed]; omega)) ?_))
      have hk39 := CallV.under (B := [rowI (some ⟨b3, 0, none⟩) L 3 1 (ints ys), rowI ob oc 41 1 (vals qs), oI b2 108 [(.map (some m1))], mapI str (fun n : Nat => Value.int .i64 (n : Int)) m1 ks2.zipIdx] ++ itms 3 qs) (O := ([rowI (some ⟨b3, 0, none⟩) L 3 1 (ints ys), rowI ob oc 41 1 (vals qs), oI b2 108 [(.map (some m1))], mapI str (fun n : Nat => Value.int .i64 (n : Int)) m1 ks2.zipIdx] ++ (itms 3 qs ++ O2))) (hn ks2 s x O2 (by omega) hlt30 hG2 hJ2) (Sub.cnt [] (by intro a; simp only [itms, oI, List.set_cons_zero, List.set_cons_succ, putL, List.cons_append, List.nil_append, List.append_nil, List.append_assoc, List.map_append, List.map_cons, List.map_nil, cnt_append, cnt_cons, cnt_nil] <;> omega))
      refine TO.loud rfl (l_callG hk39 rfl rfl ?_)
      clear hk39
      rintro v O' ⟨O3, rfl, rfl, hG3, hJ3⟩
      refine TO.sub (O' := ([rowI (some ⟨b3, 0, none⟩) L 3 1 (ints ys), rowI ob oc 41 1 (vals qs), oI b2 108 [(.map (some m1))], mapI str (fun n : Nat => Value.int .i64 (n : Int)) m1 ks2.zipIdx] ++ (itms 3 qs ++ O3))) (Sub.cnt [] (by intro a; simp only [itms, oI, List.set_cons_zero, List.set_cons_succ, putL, List.cons_append, List.nil_append, List.append_nil, List.append_assoc, List.map_append, List.map_cons, List.map_nil, cnt_append, cnt_cons, cnt_nil] <;> omega)) ?_
      rw [hks2] at hG3 hJ3 ⊢
      have hk40 := CallV.of_fn (first := []) (args := [str (tr (ks.getD s []) x)]) (caps := [(.pointer (some ⟨b2, 0, none⟩))]) ent77 (CallT.under (B := [rowI (some ⟨b3, 0, none⟩) L 3 1 (ints ys), rowI ob oc 41 1 (vals qs)] ++ (itms 3 qs ++ O3)) (O := ([rowI (some ⟨b3, 0, none⟩) L 3 1 (ints ys), rowI ob oc 41 1 (vals qs), oI b2 108 [(.map (some m1))], mapI str (fun n : Nat => Value.int .i64 (n : Int)) m1 ks2.zipIdx] ++ (itms 3 qs ++ O3))) (visit base b2 m1 ks2 (tr (ks.getD s []) x) (by have := hg _ hG2; omega)) (Sub.pickR [2, 2, 0, 0] [rowI (some ⟨b3, 0, none⟩) L 3 1 (ints ys), rowI ob oc 41 1 (vals qs), oI b2 108 [(.map (some m1))], mapI str (fun n : Nat => Value.int .i64 (n : Int)) m1 ks2.zipIdx] (itms 3 qs ++ O3) rfl rfl))
      refine TO.loud rfl (l_callG hk40 rfl rfl ?_)
      clear hk40
      rintro v O' ⟨A1, rfl, rfl, rfl⟩
      refine TO.sub (O' := ([rowI (some ⟨b3, 0, none⟩) L 3 1 (ints ys), rowI ob oc 41 1 (vals qs), oI b2 108 [(.map (some m1))], mapI str (fun n : Nat => Value.int .i64 (n : Int)) m1 ((add ks2 (tr (ks.getD s []) x)).zipIdx)] ++ (itms 3 qs ++ O3))) (Sub.pickR [2, 2, 0, 0] [oI b2 108 [(.map (some m1))], mapI str (fun n : Nat => Value.int .i64 (n : Int)) m1 ((add ks2 (tr (ks.getD s []) x)).zipIdx), rowI (some ⟨b3, 0, none⟩) L 3 1 (ints ys), rowI ob oc 41 1 (vals qs)] (itms 3 qs ++ O3) rfl rfl) ?_
      refine TO.quiet (q_ix (i := x) Tryd.underlying41 inf3 rfl rfl (rowO (List.mem_of_getElem? (i := 0) rfl))) ?_
      refine TO.loud rfl (l_st (j := x) (v := .int .i64 ((ix (tr (ks.getD s []) x) (add ks2 (tr (ks.getD s []) x)) : Nat) : Int)) (vs := [(.int .i64 ((ix (tr (ks.getD s []) x) (add ks2 (tr (ks.getD s []) x)) : Nat) : Int))]) (cs := ints ys) 0 inf3 rfl rfl rfl rfl rfl (by simp) rfl (by first | (simp; omega) | (simp_all; omega)) ?_)
      refine TO.sub (O' := ([rowI (some ⟨b3, 0, none⟩) L 3 1 (ints (ys.set x ((ix (tr (ks.getD s []) x) (add ks2 (tr (ks.getD s []) x)) : Nat) : Int))), rowI ob oc 41 1 (vals qs), oI b2 108 [(.map (some m1))], mapI str (fun n : Nat => Value.int .i64 (n : Int)) m1 ((add ks2 (tr (ks.getD s []) x)).zipIdx)] ++ (itms 3 qs ++ O3))) (by rw [show putL (ints ys) x [(.int .i64 ((ix (tr (ks.getD s []) x) (add ks2 (tr (ks.getD s []) x)) : Nat) : Int))] = ints (ys.set x ((ix (tr (ks.getD s []) x) (add ks2 (tr (ks.getD s []) x)) : Nat) : Int)) from by simp [putL]]; exact Sub.of (List.Sublist.refl _)) ?_
      refine TO.nil (T.seq (T.region ?_))
      refine TO.quiet (q_load_box 2 Tryd.underlying108 rfl rfl rfl rfl) (TO.quiet (QT.cast (q_lenMap Tryd.underlying108 rfl (List.mem_of_getElem? (i := 3) rfl)) (v' := .int .i64 ((add ks2 (tr (ks.getD s []) x)).length : Int)) (by rw [List.length_zipIdx])) (TO.quiet (q_move rfl) (TO.quiet (q_gtr rfl rfl) ?_)))
      refine TO.nil ?_
      refine T.condP rfl (fun hc => ?_) (fun hc => ?_)
      · exact absurd hc (by have := hg _ hG3; omega)
      have hge45 : ¬ (add ks2 (tr (ks.getD s []) x)).length > B := by omega
      refine T.skip (T.region ?_)
      refine TO.quiet (q_inc rfl rfl (by omega)) (TO.quiet (q_move rfl) ?_)
      refine TO.nil ?_
      have hmm : ∀ y, y < x → tr (ks.getD s []) y ∈ ks2 := fun y hy => by rw [hk2, mem_foldl_add]; exact .inr (List.mem_map_of_mem (List.mem_range.2 hy))
      refine ⟨x + 1, by omega, add ks2 (tr (ks.getD s []) x), ys.set x ((ix (tr (ks.getD s []) x) (add ks2 (tr (ks.getD s []) x)) : Nat) : Int), O3, rfl, by omega, by simp [hyl], hG3, hJ3, by rw [foldl_add_snoc, ← hk2], fun i hi => ?_, ⟨rfl, rfl, rfl, rfl, rfl, rfl, rfl, rfl, rfl, rfl, rfl, rfl, trivial⟩⟩
      by_cases e : i = x
      · subst e; rw [List.getElem?_set_self (by omega)]
      · rw [List.getElem?_set_ne (fun h => e h.symm), hys i (by omega), ix_prefix (add_prefix _ _) (hmm i (by omega))]
    have hge30 : ¬ x < L := by omega
    refine T.exit ?_
    refine T.region ?_
    refine TO.quiet (q_move rfl) (TO.quiet (q_move rfl) ?_)
    refine TO.loud rfl (l_build1 (v := (.slice (some ⟨b3, 0, none⟩) L L)) Tryd.underlying22 inf41 rfl rfl rfl (fun b4 => ?_))
    refine TO.loud rfl (l_append 2 Tryd.underlying22 Tryd.underlying22 inf41 rfl rfl rfl rfl (by simp [hql]) (by decide) (Src.row (j := 0) rfl (by simp)) (by simp [oneB]) (by omega) (by decide) (by decide) (fun b5 c6 => ?_))
    refine TO.quiet (q_assign rfl) ?_
    refine TO.nil ?_
    refine T.sub (O' := [rowI b5 c6 41 1 (vals (qs ++ [⟨(some ⟨b3, 0, none⟩), L, ys⟩])), oI b2 108 [(.map (some m1))], mapI str (fun n : Nat => Value.int .i64 (n : Int)) m1 ks2.zipIdx] ++ (itms 3 (qs ++ [⟨(some ⟨b3, 0, none⟩), L, ys⟩]) ++ O2)) (by
      rw [show vals (qs ++ [⟨(some ⟨b3, 0, none⟩), L, ys⟩]) = (vals qs) ++ [(.slice (some ⟨b3, 0, none⟩) L L)] by simp [Rec.val, hyl]]
      exact Sub.cnt [rowI (some ⟨b4, 0, none⟩) 1 41 1 [(.slice (some ⟨b3, 0, none⟩) L L)]] (by intro a; simp only [List.set_cons_zero, List.set_cons_succ, itms, List.map_append, List.map_cons, List.map_nil, Rec.itm, cnt_append, cnt_cons, cnt_nil, List.cons_append, List.nil_append, List.append_assoc, List.append_nil] <;> omega)) ?_
    refine T.region ?_
    refine TO.quiet (q_move rfl) (TO.quiet (q_inc rfl rfl (by omega)) (TO.quiet (q_assign rfl) ?_))
    refine TO.nil ?_
    have hxL : x = L := by omega
    have hmm : ∀ y, y < L → tr (ks.getD s []) y ∈ ks2 := fun y hy => by rw [hk2, mem_foldl_add]; exact .inr (List.mem_map_of_mem (List.mem_range.2 (by omega)))
    have hyr : ys = exRow tr L ks2 s := by
      apply List.ext_getElem?
      intro i
      by_cases hi : i < L
      · rw [hys i (by omega)]; simp only [exRow, hks2]; simp [hi]
      · rw [List.getElem?_eq_none (by omega), List.getElem?_eq_none (by simp [exRow]; omega)]
    have hE2 : ExOk tr L ks2 (s + 1) (nums (qs ++ [⟨(some ⟨b3, 0, none⟩), L, ys⟩])) := by
      have := hE.snoc hpre hlt22 hyr (by rw [hks2]; exact hmm)
      simpa [nums] using this
    have hen2 : ∀ i, i < s + 1 → i < (exN tr L start i).length := fun i hi => by
      by_cases e : i = s
      · subst e; rw [hks]; exact hlt22
      · exact hen i (by omega)
    exact ⟨s + 1, by omega, ks2, qs ++ [⟨(some ⟨b3, 0, none⟩), L, ys⟩], b5, c6, O2, rfl, by rw [exN, hks, hk2, hxL], hG2, hJ2, hE2, hen2, ⟨rfl, rfl, rfl, rfl, rfl, rfl, rfl, rfl, rfl, trivial⟩⟩
  have hge22 : ¬ s < ks.length := by omega
  refine T.exit ?_
  refine T.seq (T.region ?_)
  refine TO.quiet (q_move rfl) (TO.quiet (q_load_box 1 Tryd.underlying108 rfl rfl rfl rfl) (TO.quiet (QT.cast (q_lenMap Tryd.underlying108 rfl (List.mem_of_getElem? (i := 2) rfl)) (v' := .int .i64 (ks.length : Int)) (by rw [List.length_zipIdx])) (TO.quiet (q_move rfl) ?_)))
  refine TO.quiet (QT.toB (q_leq rfl rfl) (decide_eq_true (by have := hg _ hG; omega))) (TO.quiet (q_assign rfl) (TO.quiet (q_assign rfl) ?_))
  refine TO.nil (T.ret (Res.drop ?_))
  refine Res.two (.slice ob s oc) (.bool true) Tryd.results66 rfl rfl ?_
  have hN : ks.length = s := by have := hE.le; omega
  exact ⟨_, (Sub.pickR [0] [rowI ob oc 41 1 (vals qs), oI b2 108 [(.map (some m1))], mapI str (fun n : Nat => Value.int .i64 (n : Int)) m1 ks.zipIdx] (itms 3 qs ++ O1) rfl rfl), ob, oc, qs, s, O1, rfl, rfl, by rw [hks]; exact hJ, by rw [hks]; exact hG, by rw [hks]; exact hN, by rw [hks]; exact hE, hen⟩
set_option maxHeartbeats 1000000 in
set_option maxRecDepth 20000 in
theorem nextC (base : World) [Tab Tryd.prog base] (d : DFA) (nb fb : Option Addr) (nc fc : Nat) (vs : List Value) (h : DfaAt base d nb vs fb) (hv : Valid d) (hn : d.next.length < 10000) (b1 b2 b3 : Nat) (os : List Nat) (sn : List Bool) (ob sb : Option Addr) (oc sc sc2 s x : Nat) (hs : s < os.length) (hx : x < 2 ^ d.vars.toNat) (hos : ∀ o ∈ os, o < d.next.length) (hnd : os.Nodup) (hsl : sn.length = d.next.length) (hsn : ∀ t, t < d.next.length → sn[t]? = some (decide (t ∈ os))) :
    CallT Tryd.prog base 64 ([.int .i64 (s : Int), .int .u8 (x : Int)] ++ [.pointer (some ⟨b1, 0, none⟩), .pointer (some ⟨b2, 0, none⟩), .pointer (some ⟨b3, 0, none⟩)])
      [oI b1 25 [(.int .i64 d.vars), (.int .i64 d.start), (.slice nb d.next.length nc), (.slice fb d.final.length fc)], oI b2 41 [(.slice ob os.length oc)], rowI ob oc 3 1 (nats os), oI b3 23 [(.slice sb d.next.length sc)], rowI sb sc2 4 1 (bools sn)]
      (fun v O' => v = str (Lib.decDigits (toN d os[s] x)) ∧ ∃ ob' oc' sn', sn'.length = d.next.length ∧ (∀ t, t < d.next.length → sn'[t]? = some (decide (t ∈ add os (toN d os[s] x)))) ∧ O' = [oI b1 25 [(.int .i64 d.vars), (.int .i64 d.start), (.slice nb d.next.length nc), (.slice fb d.final.length fc)], oI b2 41 [(.slice ob' ((add os (toN d os[s] x)).length) oc')], rowI ob' oc' 3 1 (nats (add os (toN d os[s] x))), oI b3 23 [(.slice sb d.next.length sc)], rowI sb sc2 4 1 (bools sn')]) := by
  refine CallT.enter Tryd.func64 rfl Tryd.ntmps64 rfl ?_
  obtain ⟨o, hso⟩ : ∃ o, os[s] = o := ⟨_, rfl⟩
  have hso2 : os[s]? = some o := by rw [List.getElem?_eq_getElem hs, hso]
  have ho : o < d.next.length := hso ▸ hos _ (List.getElem_mem hs)
  obtain ⟨t, ht⟩ : ∃ t, toN d o x = t := ⟨_, rfl⟩
  obtain ⟨htn, _, hxr, hdx⟩ := hv.toN_lt ho hx
  rw [ht] at htn hdx
  rw [hso, ht]
  have hvl := h.rows.1
  have hw := hv.width
  obtain ⟨vb, vc, g1, s1⟩ := h.rows.get ho
  have hxt : (ints d.next[o])[x]? = some (.int .i64 ((t : Nat) : Int)) := by rw [ints_get hxr, hdx]
  have hol := nodup_bound hnd hos
  have hst := hsn t htn
  have htl : t < sn.length := by omega
  refine T.seq (T.region ?_)
  refine TO.quiet (q_assign rfl) ?_
  refine TO.nil (T.seq ?_)
  refine T.draws _ [(0, 0), (1, 0), (2, 0), (3, 0), (4, 0), (5, 0), (6, 0), (7, 0), (8, 0), (9, 0), (10, 0), (11, 0)] mixed (drawF_ok (by kernel_rfl)) (Sub.of (List.Sublist.refl _)) (fun _ _ _ h => h) ?_
  refine DO.quiet rfl (q_fieldAddr Tryd.underlying25 rfl inf22 rfl rfl) (DO.quiet rfl (q_load_box 0 Tryd.underlying22 rfl rfl rfl rfl) (DO.quiet rfl (q_load_box 1 Tryd.underlying41 rfl rfl rfl rfl) (DO.quiet rfl (q_move rfl) ?_)))
  refine DO.quiet rfl (q_ix (i := s) Tryd.underlying41 inf3 rfl rfl (rowO (List.mem_of_getElem? (i := 2) rfl)) hs (by rw [List.length_map]; exact hs)) (DO.quiet rfl (q_ld Tryd.underlying3 rfl rfl (rowO (List.mem_of_getElem? (i := 2) rfl)) (show (nats os)[s]? = some (.int .i64 ((o : Nat) : Int)) by rw [List.getElem?_map, hso2]; rfl)) (DO.quiet rfl (q_ix (i := o) Tryd.underlying22 inf41 rfl rfl (Sl.o h.outer) ho) (DO.quiet rfl (q_ld Tryd.underlying41 rfl rfl (Sl.o h.outer) g1) ?_)))
  refine DO.quiet rfl (q_move rfl) (DO.quiet rfl (q_ix (i := x) Tryd.underlying41 inf3 rfl rfl (Sl.o s1) hxr (by rw [List.length_map]; exact hxr)) (DO.quiet rfl (q_ld Tryd.underlying3 rfl rfl (Sl.o s1) hxt) (DO.quiet rfl (q_assign rfl) ?_)))
  refine DO.done ?_
  refine T.seq (T.seq (T.region ?_))
  refine TO.quiet (q_load_box 3 Tryd.underlying23 rfl rfl rfl rfl) (TO.quiet (q_move rfl) (TO.quiet (q_ix (i := t) Tryd.underlying23 inf4 rfl rfl (rowO (List.mem_of_getElem? (i := 4) rfl)) htn (by rw [List.length_map]; exact htl)) (TO.quiet (q_ld Tryd.underlying4 rfl rfl (rowO (List.mem_of_getElem? (i := 4) rfl)) (show (bools sn)[t]? = some (.bool (decide (t ∈ os))) by rw [List.getElem?_map, hst]; rfl)) ?_)))
  refine TO.quiet (q_not rfl) ?_
  refine TO.nil ?_
  refine T.condP (p := t ∉ os) (congrArg Value.bool (by simp)) (fun hc => ?_) (fun hc => ?_)
  · refine T.draws2 [oI b1 25 [(.int .i64 d.vars), (.int .i64 d.start), (.slice nb d.next.length nc), (.slice fb d.final.length fc)], oI b3 23 [(.slice sb d.next.length sc)], rowI sb sc2 4 1 (bools sn)] [oI b2 41 [(.slice ob os.length oc)]] [(0, 0), (1, 0), (2, 3), (3, 0), (4, 1), (5, 1), (6, 4), (7, 0), (8, 2)] mixed (by kernel_rfl) (Sub.pick [0, 2, 2] rfl) (Sub.pick [1] rfl) (fun _ _ _ h => h) ?_
    refine DO.quiet rfl (q_load_box 1 Tryd.underlying23 rfl rfl rfl rfl) (DO.quiet rfl (q_move rfl) ?_)
    refine DO.quiet2 rfl (q_load_box 0 Tryd.underlying41 rfl rfl rfl rfl) ?_
    refine DO.quiet rfl (q_move rfl) ?_
    refine DO.loud2 rfl rfl (l_build1 (v := .int .i64 ((t : Nat) : Int)) Tryd.underlying41 inf3 rfl rfl rfl (fun z1 => ⟨Sub.pick [1, 3, 3] rfl, Sub.pick [2] rfl, ?_⟩))
    refine DO.loud2 rfl rfl (l_append 3 Tryd.underlying41 Tryd.underlying41 inf3 rfl rfl rfl rfl (by simp) (by decide) (Src.row (j := 0) rfl (by simp)) (by simp [oneB]) (by omega) (by decide) (by decide) (fun z2 zc3 => ⟨Sub.pick [1, 3, 3] rfl, Sub.pick [2] rfl, ?_⟩))
    refine DO.last2 rfl rfl (l_store_box (v := (.slice z2 (os.length + 1) zc3)) (vs := [(.slice z2 (os.length + 1) zc3)]) 2 inf41 rfl rfl rfl rfl rfl rfl (by simp [putL]) ⟨Sub.pick [1, 3, 3] rfl, ?_⟩)
    refine DO.quiet rfl (q_ix (i := t) Tryd.underlying23 inf4 rfl rfl (rowO (List.mem_of_getElem? (i := 2) rfl)) htn (by rw [List.length_map]; exact htl)) ?_
    refine DO.last rfl rfl (l_st (j := t) (v := .bool true) (vs := [(.bool true)]) (cs := bools sn) 5 inf4 rfl rfl rfl rfl rfl (by simp) rfl (by first | (simp; omega) | (simp_all; omega)) ?_)
    refine DO.sub (O' := [rowI (some ⟨z1, 0, none⟩) 1 3 1 [.int .i64 ((t : Nat) : Int)], oI b1 25 [(.int .i64 d.vars), (.int .i64 d.start), (.slice nb d.next.length nc), (.slice fb d.final.length fc)], oI b2 41 [(.slice z2 (os.length + 1) zc3)], rowI z2 zc3 3 1 ((nats os) ++ [.int .i64 ((t : Nat) : Int)]), oI b3 23 [(.slice sb d.next.length sc)], rowI sb sc2 4 1 (bools (sn.set t true))]) (by rw [show putL (bools sn) t [(.bool true)] = bools (sn.set t true) from by simp [putL]]; exact Sub.of (List.Sublist.refl _)) ?_
    refine DO.done ?_
    refine T.seq (T.region ?_)
    refine TO.quiet (q_move rfl) ?_
    have hk33 := fun (w1 : World) (hI : Inv base [rowI (some ⟨z1, 0, none⟩) 1 3 1 [.int .i64 ((t : Nat) : Int)], oI b1 25 [(.int .i64 d.vars), (.int .i64 d.start), (.slice nb d.next.length nc), (.slice fb d.final.length fc)], oI b2 41 [(.slice z2 (os.length + 1) zc3)], rowI z2 zc3 3 1 ((nats os) ++ [.int .i64 ((t : Nat) : Int)]), oI b3 23 [(.slice sb d.next.length sc)], rowI sb sc2 4 1 (bools (sn.set t true))] w1) => (haveI := Inv.tab (P := Tryd.prog) hI; itoaF w1 t (by omega))
    refine TO.loud rfl (l_call ent65 (CallT.of_pure hk33) rfl ?_)
    clear hk33
    rintro v O' ⟨N, rfl, rfl, rfl⟩
    refine TO.quiet (q_assign rfl) ?_
    refine TO.nil (T.ret (Res.drop ?_))
    refine Res.one (str (Lib.decDigits t)) Tryd.results64 rfl ?_
    have ha : add os t = os ++ [t] := if_neg hc
    refine ⟨[oI b1 25 [(.int .i64 d.vars), (.int .i64 d.start), (.slice nb d.next.length nc), (.slice fb d.final.length fc)], oI b2 41 [(.slice z2 (os.length + 1) zc3)], rowI z2 zc3 3 1 ((nats os) ++ [.int .i64 ((t : Nat) : Int)]), oI b3 23 [(.slice sb d.next.length sc)], rowI sb sc2 4 1 (bools (sn.set t true))], (Sub.pick [1, 1, 1, 1, 1] rfl), rfl, z2, zc3, sn.set t true, by simp [hsl], fun t2 ht2 => ?_, ?_⟩
    · rw [ha]
      by_cases e : t2 = t
      · subst e; rw [List.getElem?_set_self htl]; simp
      · rw [List.getElem?_set_ne (fun h => e h.symm), hsn t2 ht2]; simp [e]
    · rw [ha, List.length_append, show nats (os ++ [t]) = nats os ++ [.int .i64 ((t : Nat) : Int)] from List.map_append]; rfl
  refine T.skip (T.seq (T.region ?_))
  refine TO.quiet (q_move rfl) ?_
  have hk33 := fun (w1 : World) (hI : Inv base [oI b1 25 [(.int .i64 d.vars), (.int .i64 d.start), (.slice nb d.next.length nc), (.slice fb d.final.length fc)], oI b2 41 [(.slice ob os.length oc)], rowI ob oc 3 1 (nats os), oI b3 23 [(.slice sb d.next.length sc)], rowI sb sc2 4 1 (bools sn)] w1) => (haveI := Inv.tab (P := Tryd.prog) hI; itoaF w1 t (by omega))
  refine TO.loud rfl (l_call ent65 (CallT.of_pure hk33) rfl ?_)
  clear hk33
  rintro v O' ⟨N, rfl, rfl, rfl⟩
  refine TO.quiet (q_assign rfl) ?_
  refine TO.nil (T.ret (Res.drop ?_))
  refine Res.one (str (Lib.decDigits t)) Tryd.results64 rfl ?_
  have ha : add os t = os := if_pos (Classical.not_not.1 hc)
  refine ⟨[oI b1 25 [(.int .i64 d.vars), (.int .i64 d.start), (.slice nb d.next.length nc), (.slice fb d.final.length fc)], oI b2 41 [(.slice ob os.length oc)], rowI ob oc 3 1 (nats os), oI b3 23 [(.slice sb d.next.length sc)], rowI sb sc2 4 1 (bools sn)], (Sub.pick [0, 0, 0, 0, 0] rfl), rfl, ob, oc, sn, hsl, fun t2 ht2 => ?_, ?_⟩
  · rw [ha]; exact hsn t2 ht2
  · rw [ha]
def RenJ (d : DFA) (nb fb : Option Addr) (nc fc b1 bB bC bD : Nat) (ks : List (List UInt8)) (O : List Lx.Item) : Prop :=
  ∃ (os : List Nat) (sn : List Bool) (ob : Option Addr) (oc : Nat), ks = os.map Lib.decDigits ∧ O = [objI b1 (.cells (List.toArray [(.int .i64 d.vars), (.int .i64 d.start), (.slice nb d.next.length nc), (.slice fb d.final.length fc)]) 25 (0, 0)), objI bC (.cells (List.toArray [(.slice ob os.length oc)]) 41 (0, 0)), rowI ob oc 3 1 (nats os), objI bD (.cells (List.toArray [(.slice (some ⟨bB, 0, none⟩) d.next.length d.next.length)]) 23 (0, 0)), rowI (some ⟨bB, 0, none⟩) d.next.length 4 1 (bools sn)] ∧ os.Nodup ∧ (∀ o ∈ os, o < d.next.length) ∧ sn.length = d.next.length ∧ (∀ t, t < d.next.length → sn[t]? = some (decide (t ∈ os)))
set_option maxRecDepth 20000 in
theorem nextV (base : World) [Tab Tryd.prog base] (d : DFA) (nb fb : Option Addr) (nc fc : Nat) (vs : List Value) (h : DfaAt base d nb vs fb) (hv : Valid d) (hn : d.next.length < 10000) (b1 bB bC bD : Nat) (ks : List (List UInt8)) (s x : Nat) (O : List Lx.Item) (hs : s < ks.length) (hx : x < 2 ^ d.vars.toNat) (hJ : RenJ d nb fb nc fc b1 bB bC bD ks O) :
    CallV Tryd.prog base (.func (.func 64) #[] #[.pointer (some ⟨b1, 0, none⟩), .pointer (some ⟨bC, 0, none⟩), .pointer (some ⟨bD, 0, none⟩)]) [.int .i64 (s : Int), .int .u8 (x : Int)] O
      (fun v O' => v = str (trD d (ks.getD s []) x) ∧ (add ks (trD d (ks.getD s []) x)).length ≤ d.next.length ∧ RenJ d nb fb nc fc b1 bB bC bD (add ks (trD d (ks.getD s []) x)) O') := by
  obtain ⟨os, sn, ob, oc, rfl, rfl, hnd, hos, hsl, hsn⟩ := hJ
  have hs' : s < os.length := by simpa using hs
  have e : (os.map Lib.decDigits).getD s [] = Lib.decDigits os[s] := by simp [hs']
  have e2 : trD d ((os.map Lib.decDigits).getD s []) x = Lib.decDigits (toN d os[s] x) := by rw [e, trD, undec_dec]
  have hT := (hv.toN_lt (hos _ (List.getElem_mem hs')) hx).1
  have hos2 : ∀ o ∈ add os (toN d os[s] x), o < d.next.length := fun o ho => by
    rcases mem_add.1 ho with ho | ho
    · exact hos o ho
    · rw [ho]; exact hT
  refine CallV.mono (CallV.of_fn (first := []) (caps := [.pointer (some ⟨b1, 0, none⟩), .pointer (some ⟨bC, 0, none⟩), .pointer (some ⟨bD, 0, none⟩)]) ent64 (nextC base d nb fb nc fc vs h hv hn b1 bC bD os sn ob (some ⟨bB, 0, none⟩) oc d.next.length d.next.length s x hs' hx hos hnd hsl hsn)) ?_
  rintro v O' ⟨rfl, ob', oc', sn', h1, h2, rfl⟩
  rw [e2, ← map_add dec_inj]
  refine ⟨rfl, ?_, add os (toN d os[s] x), sn', ob', oc', rfl, rfl, add_nodup hnd, hos2, h1, h2⟩
  rw [List.length_map]; exact nodup_bound (add_nodup hnd) hos2
end Go.Proofs.YtnmfefmhfkhihaaDoor


namespace Go.Proofs.YtnmfefmhfkhihaaDoor
open Go.Lx Go.RowKit
set_option linter.unusedVariables false
set_option linter.unusedSimpArgs false
set_option maxHeartbeats 1000000 in
set_option maxRecDepth 20000 in
theorem renumBad (w : World) [Tab Tryd.prog w] (d : DFA) (nb fb : Option Addr) (nc fc : Nat) (vs : List Value) (h : DfaAt w d nb vs fb) (hb : d.next.length < 9223372036854775807) (hbr : ∀ r ∈ d.next, r.length < 9223372036854775807) (hbf : d.final.length < 9223372036854775807) (he : checkD d ≠ 0) :
    PureT Tryd.prog 45 [.agg (dfaCells d nb nc fb fc).toArray] w fun v N => v = .tuple #[.agg #[.int .i64 0, .int .i64 0, .slice none 0 0, .slice none 0 0], .int .i64 (checkD d : Int)] ∧ N = [] := by
  refine CallT.enter Tryd.func45 rfl Tryd.ntmps45 rfl ?_
  refine T.seq (T.region ?_)
  refine TO.loud rfl (l_box (v := (.agg #[(.int .i64 d.vars), (.int .i64 d.start), (.slice nb d.next.length nc), (.slice fb d.final.length fc)])) (cs := [(.int .i64 d.vars), (.int .i64 d.start), (.slice nb d.next.length nc), (.slice fb d.final.length fc)]) rfl rfl (fun b1 => ?_))
  refine TO.loud rfl (l_alloc inf25 rfl (fun b2 => ?_))
  refine TO.quiet (q_assign rfl) ?_
  refine TO.nil (T.seq (T.seq (T.region ?_)))
  refine TO.quiet (q_load_boxAgg 1 Tryd.underlying25 rfl inf25 rfl rfl rfl) ?_
  have hk11 := fun (w1 : World) (hI : Inv w [oI b2 25 [(.int .i64 0), (.int .i64 0), (.slice none 0 0), (.slice none 0 0)], oI b1 25 [(.int .i64 d.vars), (.int .i64 d.start), (.slice nb d.next.length nc), (.slice fb d.final.length fc)]] w1) => (haveI := Inv.tab (P := Tryd.prog) hI; subsetCheck w1 d nb fb nc fc vs (hI.dfa h) hb hbr hbf)
  refine TO.loud rfl (l_call ent33 (CallT.of_pure hk11) rfl ?_)
  clear hk11
  rintro v O' ⟨N, rfl, rfl, rfl⟩
  refine TO.quiet (q_assign rfl) ?_
  refine TO.nil (T.seq (T.region ?_))
  refine TO.quiet (q_move rfl) (TO.quiet (QT.toB (q_neq rfl rfl) (decide_eq_true (by omega))) ?_)
  refine TO.nil ?_
  refine T.cond1 rfl ?_
  refine T.seq (T.region ?_)
  refine TO.quiet (q_build plan25 inf25 rfl) (TO.quiet (q_move rfl) ?_)
  refine TO.loud rfl (l_store_box (v := (.agg #[(.int .i64 0), (.int .i64 0), (.slice none 0 0), (.slice none 0 0)])) (vs := [(.int .i64 0), (.int .i64 0), (.slice none 0 0), (.slice none 0 0)]) 0 inf25 rfl rfl rfl rfl rfl rfl (by simp [putL]) ?_)
  refine TO.quiet (q_assign rfl) ?_
  refine TO.nil (T.ret (Res.drop ?_))
  refine Res.cell1b (.int .i64 (checkD d : Int)) (i := 0) Tryd.results45 Tryd.underlying25 rfl inf25 rfl rfl rfl rfl ?_
  exact ⟨[], Sub.of (List.nil_sublist _), rfl, rfl⟩
set_option maxHeartbeats 1000000 in
set_option maxRecDepth 20000 in
theorem renumOk (w : World) [Tab Tryd.prog w] (d : DFA) (nb fb : Option Addr) (nc fc : Nat) (vs : List Value) (h : DfaAt w d nb vs fb) (hv : Valid d) (hn : d.next.length < 10000) :
    PureT Tryd.prog 45 [.agg (dfaCells d nb nc fb fc).toArray] w fun v N => ∃ nb' nc' fb' fc' qs, v = .tuple #[.agg (dfaCells (renum d) nb' nc' fb' fc').toArray, .int .i64 0] ∧ N = [rowI nb' nc' 41 1 (vals qs), rowI fb' fc' 4 1 (bools (renum d).final)] ++ itms 3 qs ∧ nums qs = (renum d).next := by
  refine CallT.enter Tryd.func45 rfl Tryd.ntmps45 rfl ?_
  have he := checkD_zero.2 hv
  have hb : d.next.length < 9223372036854775807 := by omega
  have hbr : ∀ r ∈ d.next, r.length < 9223372036854775807 := hv.bound
  have hbf : d.final.length < 9223372036854775807 := by have := hv.fin; omega
  have hn0 := hv.n0
  have hs0 := hv.s0
  have hs1 := hv.s1
  have hsn : d.start.toNat < d.next.length := by omega
  refine T.seq (T.region ?_)
  refine TO.loud rfl (l_box (v := (.agg #[(.int .i64 d.vars), (.int .i64 d.start), (.slice nb d.next.length nc), (.slice fb d.final.length fc)])) (cs := [(.int .i64 d.vars), (.int .i64 d.start), (.slice nb d.next.length nc), (.slice fb d.final.length fc)]) rfl rfl (fun z1 => ?_))
  refine TO.loud rfl (l_alloc inf25 rfl (fun z2 => ?_))
  refine TO.quiet (q_assign rfl) ?_
  refine TO.nil (T.seq (T.seq (T.region ?_)))
  refine TO.quiet (q_load_boxAgg 1 Tryd.underlying25 rfl inf25 rfl rfl rfl) ?_
  have hk11 := fun (w1 : World) (hI : Inv w [oI z2 25 [(.int .i64 0), (.int .i64 0), (.slice none 0 0), (.slice none 0 0)], oI z1 25 [(.int .i64 d.vars), (.int .i64 d.start), (.slice nb d.next.length nc), (.slice fb d.final.length fc)]] w1) => (haveI := Inv.tab (P := Tryd.prog) hI; subsetCheck w1 d nb fb nc fc vs (hI.dfa h) hb hbr hbf)
  refine TO.loud rfl (l_call ent33 (CallT.of_pure hk11) rfl ?_)
  clear hk11
  rintro v O' ⟨N, rfl, rfl, rfl⟩
  rw [he]
  refine TO.quiet (q_assign rfl) ?_
  refine TO.nil (T.seq (T.region ?_))
  refine TO.quiet (q_move rfl) (TO.quiet (q_neq rfl rfl) ?_)
  refine TO.nil ?_
  refine T.cond0 rfl ?_
  refine T.skip ?_
  refine T.cut (fun ρ O => ∃ (bA bB bC bD : Nat), O = [oI bC 41 [(.slice (some ⟨bA, 0, none⟩) 1 1)], oI bD 23 [(.slice (some ⟨bB, 0, none⟩) d.next.length d.next.length)], rowI (some ⟨bA, 0, none⟩) 1 3 1 [(.int .i64 d.start)], rowI (some ⟨bB, 0, none⟩) d.next.length 4 1 (List.replicate d.next.length (.bool false)), oI z2 25 [(.int .i64 0), (.int .i64 0), (.slice none 0 0), (.slice none 0 0)], oI z1 25 [(.int .i64 d.vars), (.int .i64 d.start), (.slice nb d.next.length nc), (.slice fb d.final.length fc)]] ∧ Heads [(0, (.agg #[(.int .i64 d.vars), (.int .i64 d.start), (.slice nb d.next.length nc), (.slice fb d.final.length fc)])), (1, (.pointer (some ⟨z1, 0, none⟩))), (2, (.pointer (some ⟨z2, 0, none⟩))), (3, .int .i64 0), (4, .int .i64 ((0 : Nat) : Int)), (5, (.pointer (some ⟨bC, 0, none⟩))), (6, (.pointer (some ⟨bD, 0, none⟩)))] ρ) ?_ ?_
  · refine T.tree [oI z1 25 [(.int .i64 d.vars), (.int .i64 d.start), (.slice nb d.next.length nc), (.slice fb d.final.length fc)]] 11 mixed rfl (Sub.pick [1] rfl) (fun _ _ _ h => h) ?_
    refine RO.quietT 0 rfl (by kernel_rfl) (q_fieldAddr Tryd.underlying25 rfl inf3 rfl rfl) ?_
    refine RO.quietT 1 rfl (by kernel_rfl) (q_load_box 0 Tryd.underlying3 rfl rfl rfl rfl) ?_
    refine RO.quietT 3 rfl (by kernel_rfl) (q_fieldAddr Tryd.underlying25 rfl inf22 rfl rfl) ?_
    refine RO.quietT 4 rfl (by kernel_rfl) (q_load_box 0 Tryd.underlying22 rfl rfl rfl rfl) ?_
    refine RO.quietT 5 rfl (by kernel_rfl) (q_len Tryd.underlying22 rfl) ?_
    refine RO.fork [2, 6, 7, 8] (by kernel_rfl) rfl ⟨⟨_, rfl, rfl, l_build1 (v := (.int .i64 d.start)) Tryd.underlying41 inf3 rfl rfl rfl (fun bA => ⟨Sub.pick [2] rfl, ?_⟩)⟩, ⟨_, rfl, rfl, l_makeSlice (m := d.next.length) Tryd.underlying23 inf4 rfl rfl (by omega) (by omega) (fun bB => ⟨Sub.pick [2] rfl, ?_⟩)⟩, ⟨_, rfl, rfl, l_alloc inf41 rfl (fun bC => ⟨Sub.pick [2] rfl, ?_⟩)⟩, ⟨_, rfl, rfl, l_alloc inf23 rfl (fun bD => ⟨Sub.pick [2] rfl, ?_⟩)⟩, trivial⟩
    · refine RO.fork [6, 7, 8] (by kernel_rfl) rfl ⟨⟨_, rfl, rfl, l_makeSlice (m := d.next.length) Tryd.underlying23 inf4 rfl rfl (by omega) (by omega) (fun bB => ⟨Sub.pick [3] rfl, ?_⟩)⟩, ⟨_, rfl, rfl, l_alloc inf41 rfl (fun bC => ⟨Sub.pick [3] rfl, ?_⟩)⟩, ⟨_, rfl, rfl, l_alloc inf23 rfl (fun bD => ⟨Sub.pick [3] rfl, ?_⟩)⟩, trivial⟩
      · refine RO.fork [7, 8] (by kernel_rfl) rfl ⟨⟨_, rfl, rfl, l_alloc inf41 rfl (fun bC => ⟨Sub.pick [4] rfl, ?_⟩)⟩, ⟨_, rfl, rfl, l_alloc inf23 rfl (fun bD => ⟨Sub.pick [4] rfl, ?_⟩)⟩, trivial⟩
        · refine RO.fork [8] (by kernel_rfl) rfl ⟨⟨_, rfl, rfl, l_alloc inf23 rfl (fun bD => ⟨Sub.pick [5] rfl, ?_⟩)⟩, trivial⟩
          refine RO.fork [9] (by kernel_rfl) rfl ⟨⟨_, rfl, rfl, l_store_box (v := (.slice (some ⟨bA, 0, none⟩) 1 1)) (vs := [(.slice (some ⟨bA, 0, none⟩) 1 1)]) 1 inf41 rfl rfl rfl rfl rfl rfl (by simp [putL]) ⟨Sub.pick [5] rfl, ?_⟩⟩, trivial⟩
          refine RO.fork [10] (by kernel_rfl) rfl ⟨⟨_, rfl, rfl, l_store_box (v := (.slice (some ⟨bB, 0, none⟩) d.next.length d.next.length)) (vs := [(.slice (some ⟨bB, 0, none⟩) d.next.length d.next.length)]) 0 inf23 rfl rfl rfl rfl rfl rfl (by simp [putL]) ⟨Sub.pick [5] rfl, ?_⟩⟩, trivial⟩
          exact RO.fin (by kernel_rfl) ⟨bA, bB, bC, bD, rfl, ⟨rfl, rfl, rfl, rfl, rfl, rfl, rfl, trivial⟩⟩ (Sub.pick [1, 0, 1, 0, 0, 0] rfl)
        refine RO.fork [7] (by kernel_rfl) rfl ⟨⟨_, rfl, rfl, l_alloc inf41 rfl (fun bC => ⟨Sub.pick [5] rfl, ?_⟩)⟩, trivial⟩
        refine RO.fork [9] (by kernel_rfl) rfl ⟨⟨_, rfl, rfl, l_store_box (v := (.slice (some ⟨bA, 0, none⟩) 1 1)) (vs := [(.slice (some ⟨bA, 0, none⟩) 1 1)]) 0 inf41 rfl rfl rfl rfl rfl rfl (by simp [putL]) ⟨Sub.pick [5] rfl, ?_⟩⟩, trivial⟩
        refine RO.fork [10] (by kernel_rfl) rfl ⟨⟨_, rfl, rfl, l_store_box (v := (.slice (some ⟨bB, 0, none⟩) d.next.length d.next.length)) (vs := [(.slice (some ⟨bB, 0, none⟩) d.next.length d.next.length)]) 1 inf23 rfl rfl rfl rfl rfl rfl (by simp [putL]) ⟨Sub.pick [5] rfl, ?_⟩⟩, trivial⟩
        exact RO.fin (by kernel_rfl) ⟨bA, bB, bC, bD, rfl, ⟨rfl, rfl, rfl, rfl, rfl, rfl, rfl, trivial⟩⟩ (Sub.pick [0, 0, 1, 0, 0, 0] rfl)
      · refine RO.fork [6, 8] (by kernel_rfl) rfl ⟨⟨_, rfl, rfl, l_makeSlice (m := d.next.length) Tryd.underlying23 inf4 rfl rfl (by omega) (by omega) (fun bB => ⟨Sub.pick [4] rfl, ?_⟩)⟩, ⟨_, rfl, rfl, l_alloc inf23 rfl (fun bD => ⟨Sub.pick [4] rfl, ?_⟩)⟩, trivial⟩
        · refine RO.fork [8] (by kernel_rfl) rfl ⟨⟨_, rfl, rfl, l_alloc inf23 rfl (fun bD => ⟨Sub.pick [5] rfl, ?_⟩)⟩, trivial⟩
          refine RO.fork [9] (by kernel_rfl) rfl ⟨⟨_, rfl, rfl, l_store_box (v := (.slice (some ⟨bA, 0, none⟩) 1 1)) (vs := [(.slice (some ⟨bA, 0, none⟩) 1 1)]) 2 inf41 rfl rfl rfl rfl rfl rfl (by simp [putL]) ⟨Sub.pick [5] rfl, ?_⟩⟩, trivial⟩
          refine RO.fork [10] (by kernel_rfl) rfl ⟨⟨_, rfl, rfl, l_store_box (v := (.slice (some ⟨bB, 0, none⟩) d.next.length d.next.length)) (vs := [(.slice (some ⟨bB, 0, none⟩) d.next.length d.next.length)]) 0 inf23 rfl rfl rfl rfl rfl rfl (by simp [putL]) ⟨Sub.pick [5] rfl, ?_⟩⟩, trivial⟩
          exact RO.fin (by kernel_rfl) ⟨bA, bB, bC, bD, rfl, ⟨rfl, rfl, rfl, rfl, rfl, rfl, rfl, trivial⟩⟩ (Sub.pick [2, 0, 1, 0, 0, 0] rfl)
        refine RO.fork [6, 9] (by kernel_rfl) rfl ⟨⟨_, rfl, rfl, l_makeSlice (m := d.next.length) Tryd.underlying23 inf4 rfl rfl (by omega) (by omega) (fun bB => ⟨Sub.pick [5] rfl, ?_⟩)⟩, ⟨_, rfl, rfl, l_store_box (v := (.slice (some ⟨bA, 0, none⟩) 1 1)) (vs := [(.slice (some ⟨bA, 0, none⟩) 1 1)]) 1 inf41 rfl rfl rfl rfl rfl rfl (by simp [putL]) ⟨Sub.pick [4] rfl, ?_⟩⟩, trivial⟩
        · refine RO.fork [9] (by kernel_rfl) rfl ⟨⟨_, rfl, rfl, l_store_box (v := (.slice (some ⟨bA, 0, none⟩) 1 1)) (vs := [(.slice (some ⟨bA, 0, none⟩) 1 1)]) 2 inf41 rfl rfl rfl rfl rfl rfl (by simp [putL]) ⟨Sub.pick [5] rfl, ?_⟩⟩, trivial⟩
          refine RO.fork [10] (by kernel_rfl) rfl ⟨⟨_, rfl, rfl, l_store_box (v := (.slice (some ⟨bB, 0, none⟩) d.next.length d.next.length)) (vs := [(.slice (some ⟨bB, 0, none⟩) d.next.length d.next.length)]) 1 inf23 rfl rfl rfl rfl rfl rfl (by simp [putL]) ⟨Sub.pick [5] rfl, ?_⟩⟩, trivial⟩
          exact RO.fin (by kernel_rfl) ⟨bA, bB, bC, bD, rfl, ⟨rfl, rfl, rfl, rfl, rfl, rfl, rfl, trivial⟩⟩ (Sub.pick [2, 1, 1, 0, 0, 0] rfl)
        refine RO.fork [6] (by kernel_rfl) rfl ⟨⟨_, rfl, rfl, l_makeSlice (m := d.next.length) Tryd.underlying23 inf4 rfl rfl (by omega) (by omega) (fun bB => ⟨Sub.pick [5] rfl, ?_⟩)⟩, trivial⟩
        refine RO.fork [10] (by kernel_rfl) rfl ⟨⟨_, rfl, rfl, l_store_box (v := (.slice (some ⟨bB, 0, none⟩) d.next.length d.next.length)) (vs := [(.slice (some ⟨bB, 0, none⟩) d.next.length d.next.length)]) 1 inf23 rfl rfl rfl rfl rfl rfl (by simp [putL]) ⟨Sub.pick [5] rfl, ?_⟩⟩, trivial⟩
        exact RO.fin (by kernel_rfl) ⟨bA, bB, bC, bD, rfl, ⟨rfl, rfl, rfl, rfl, rfl, rfl, rfl, trivial⟩⟩ (Sub.pick [2, 1, 1, 0, 0, 0] rfl)
      refine RO.fork [6, 7] (by kernel_rfl) rfl ⟨⟨_, rfl, rfl, l_makeSlice (m := d.next.length) Tryd.underlying23 inf4 rfl rfl (by omega) (by omega) (fun bB => ⟨Sub.pick [4] rfl, ?_⟩)⟩, ⟨_, rfl, rfl, l_alloc inf41 rfl (fun bC => ⟨Sub.pick [4] rfl, ?_⟩)⟩, trivial⟩
      · refine RO.fork [7] (by kernel_rfl) rfl ⟨⟨_, rfl, rfl, l_alloc inf41 rfl (fun bC => ⟨Sub.pick [5] rfl, ?_⟩)⟩, trivial⟩
        refine RO.fork [9] (by kernel_rfl) rfl ⟨⟨_, rfl, rfl, l_store_box (v := (.slice (some ⟨bA, 0, none⟩) 1 1)) (vs := [(.slice (some ⟨bA, 0, none⟩) 1 1)]) 0 inf41 rfl rfl rfl rfl rfl rfl (by simp [putL]) ⟨Sub.pick [5] rfl, ?_⟩⟩, trivial⟩
        refine RO.fork [10] (by kernel_rfl) rfl ⟨⟨_, rfl, rfl, l_store_box (v := (.slice (some ⟨bB, 0, none⟩) d.next.length d.next.length)) (vs := [(.slice (some ⟨bB, 0, none⟩) d.next.length d.next.length)]) 2 inf23 rfl rfl rfl rfl rfl rfl (by simp [putL]) ⟨Sub.pick [5] rfl, ?_⟩⟩, trivial⟩
        exact RO.fin (by kernel_rfl) ⟨bA, bB, bC, bD, rfl, ⟨rfl, rfl, rfl, rfl, rfl, rfl, rfl, trivial⟩⟩ (Sub.pick [0, 1, 1, 0, 0, 0] rfl)
      refine RO.fork [6, 9] (by kernel_rfl) rfl ⟨⟨_, rfl, rfl, l_makeSlice (m := d.next.length) Tryd.underlying23 inf4 rfl rfl (by omega) (by omega) (fun bB => ⟨Sub.pick [5] rfl, ?_⟩)⟩, ⟨_, rfl, rfl, l_store_box (v := (.slice (some ⟨bA, 0, none⟩) 1 1)) (vs := [(.slice (some ⟨bA, 0, none⟩) 1 1)]) 0 inf41 rfl rfl rfl rfl rfl rfl (by simp [putL]) ⟨Sub.pick [4] rfl, ?_⟩⟩, trivial⟩
      · refine RO.fork [9] (by kernel_rfl) rfl ⟨⟨_, rfl, rfl, l_store_box (v := (.slice (some ⟨bA, 0, none⟩) 1 1)) (vs := [(.slice (some ⟨bA, 0, none⟩) 1 1)]) 1 inf41 rfl rfl rfl rfl rfl rfl (by simp [putL]) ⟨Sub.pick [5] rfl, ?_⟩⟩, trivial⟩
        refine RO.fork [10] (by kernel_rfl) rfl ⟨⟨_, rfl, rfl, l_store_box (v := (.slice (some ⟨bB, 0, none⟩) d.next.length d.next.length)) (vs := [(.slice (some ⟨bB, 0, none⟩) d.next.length d.next.length)]) 2 inf23 rfl rfl rfl rfl rfl rfl (by simp [putL]) ⟨Sub.pick [5] rfl, ?_⟩⟩, trivial⟩
        exact RO.fin (by kernel_rfl) ⟨bA, bB, bC, bD, rfl, ⟨rfl, rfl, rfl, rfl, rfl, rfl, rfl, trivial⟩⟩ (Sub.pick [1, 1, 1, 0, 0, 0] rfl)
      refine RO.fork [6] (by kernel_rfl) rfl ⟨⟨_, rfl, rfl, l_makeSlice (m := d.next.length) Tryd.underlying23 inf4 rfl rfl (by omega) (by omega) (fun bB => ⟨Sub.pick [5] rfl, ?_⟩)⟩, trivial⟩
      refine RO.fork [10] (by kernel_rfl) rfl ⟨⟨_, rfl, rfl, l_store_box (v := (.slice (some ⟨bB, 0, none⟩) d.next.length d.next.length)) (vs := [(.slice (some ⟨bB, 0, none⟩) d.next.length d.next.length)]) 2 inf23 rfl rfl rfl rfl rfl rfl (by simp [putL]) ⟨Sub.pick [5] rfl, ?_⟩⟩, trivial⟩
      exact RO.fin (by kernel_rfl) ⟨bA, bB, bC, bD, rfl, ⟨rfl, rfl, rfl, rfl, rfl, rfl, rfl, trivial⟩⟩ (Sub.pick [1, 1, 1, 0, 0, 0] rfl)
    · refine RO.fork [2, 7, 8] (by kernel_rfl) rfl ⟨⟨_, rfl, rfl, l_build1 (v := (.int .i64 d.start)) Tryd.underlying41 inf3 rfl rfl rfl (fun bA => ⟨Sub.pick [3] rfl, ?_⟩)⟩, ⟨_, rfl, rfl, l_alloc inf41 rfl (fun bC => ⟨Sub.pick [3] rfl, ?_⟩)⟩, ⟨_, rfl, rfl, l_alloc inf23 rfl (fun bD => ⟨Sub.pick [3] rfl, ?_⟩)⟩, trivial⟩
      · refine RO.fork [7, 8] (by kernel_rfl) rfl ⟨⟨_, rfl, rfl, l_alloc inf41 rfl (fun bC => ⟨Sub.pick [4] rfl, ?_⟩)⟩, ⟨_, rfl, rfl, l_alloc inf23 rfl (fun bD => ⟨Sub.pick [4] rfl, ?_⟩)⟩, trivial⟩
        · refine RO.fork [8] (by kernel_rfl) rfl ⟨⟨_, rfl, rfl, l_alloc inf23 rfl (fun bD => ⟨Sub.pick [5] rfl, ?_⟩)⟩, trivial⟩
          refine RO.fork [9] (by kernel_rfl) rfl ⟨⟨_, rfl, rfl, l_store_box (v := (.slice (some ⟨bA, 0, none⟩) 1 1)) (vs := [(.slice (some ⟨bA, 0, none⟩) 1 1)]) 1 inf41 rfl rfl rfl rfl rfl rfl (by simp [putL]) ⟨Sub.pick [5] rfl, ?_⟩⟩, trivial⟩
          refine RO.fork [10] (by kernel_rfl) rfl ⟨⟨_, rfl, rfl, l_store_box (v := (.slice (some ⟨bB, 0, none⟩) d.next.length d.next.length)) (vs := [(.slice (some ⟨bB, 0, none⟩) d.next.length d.next.length)]) 0 inf23 rfl rfl rfl rfl rfl rfl (by simp [putL]) ⟨Sub.pick [5] rfl, ?_⟩⟩, trivial⟩
          exact RO.fin (by kernel_rfl) ⟨bA, bB, bC, bD, rfl, ⟨rfl, rfl, rfl, rfl, rfl, rfl, rfl, trivial⟩⟩ (Sub.pick [1, 0, 0, 0, 0, 0] rfl)
        refine RO.fork [7] (by kernel_rfl) rfl ⟨⟨_, rfl, rfl, l_alloc inf41 rfl (fun bC => ⟨Sub.pick [5] rfl, ?_⟩)⟩, trivial⟩
        refine RO.fork [9] (by kernel_rfl) rfl ⟨⟨_, rfl, rfl, l_store_box (v := (.slice (some ⟨bA, 0, none⟩) 1 1)) (vs := [(.slice (some ⟨bA, 0, none⟩) 1 1)]) 0 inf41 rfl rfl rfl rfl rfl rfl (by simp [putL]) ⟨Sub.pick [5] rfl, ?_⟩⟩, trivial⟩
        refine RO.fork [10] (by kernel_rfl) rfl ⟨⟨_, rfl, rfl, l_store_box (v := (.slice (some ⟨bB, 0, none⟩) d.next.length d.next.length)) (vs := [(.slice (some ⟨bB, 0, none⟩) d.next.length d.next.length)]) 1 inf23 rfl rfl rfl rfl rfl rfl (by simp [putL]) ⟨Sub.pick [5] rfl, ?_⟩⟩, trivial⟩
        exact RO.fin (by kernel_rfl) ⟨bA, bB, bC, bD, rfl, ⟨rfl, rfl, rfl, rfl, rfl, rfl, rfl, trivial⟩⟩ (Sub.pick [0, 0, 0, 0, 0, 0] rfl)
      · refine RO.fork [2, 8] (by kernel_rfl) rfl ⟨⟨_, rfl, rfl, l_build1 (v := (.int .i64 d.start)) Tryd.underlying41 inf3 rfl rfl rfl (fun bA => ⟨Sub.pick [4] rfl, ?_⟩)⟩, ⟨_, rfl, rfl, l_alloc inf23 rfl (fun bD => ⟨Sub.pick [4] rfl, ?_⟩)⟩, trivial⟩
        · refine RO.fork [8] (by kernel_rfl) rfl ⟨⟨_, rfl, rfl, l_alloc inf23 rfl (fun bD => ⟨Sub.pick [5] rfl, ?_⟩)⟩, trivial⟩
          refine RO.fork [9] (by kernel_rfl) rfl ⟨⟨_, rfl, rfl, l_store_box (v := (.slice (some ⟨bA, 0, none⟩) 1 1)) (vs := [(.slice (some ⟨bA, 0, none⟩) 1 1)]) 2 inf41 rfl rfl rfl rfl rfl rfl (by simp [putL]) ⟨Sub.pick [5] rfl, ?_⟩⟩, trivial⟩
          refine RO.fork [10] (by kernel_rfl) rfl ⟨⟨_, rfl, rfl, l_store_box (v := (.slice (some ⟨bB, 0, none⟩) d.next.length d.next.length)) (vs := [(.slice (some ⟨bB, 0, none⟩) d.next.length d.next.length)]) 0 inf23 rfl rfl rfl rfl rfl rfl (by simp [putL]) ⟨Sub.pick [5] rfl, ?_⟩⟩, trivial⟩
          exact RO.fin (by kernel_rfl) ⟨bA, bB, bC, bD, rfl, ⟨rfl, rfl, rfl, rfl, rfl, rfl, rfl, trivial⟩⟩ (Sub.pick [2, 0, 0, 0, 0, 0] rfl)
        refine RO.fork [2] (by kernel_rfl) rfl ⟨⟨_, rfl, rfl, l_build1 (v := (.int .i64 d.start)) Tryd.underlying41 inf3 rfl rfl rfl (fun bA => ⟨Sub.pick [5] rfl, ?_⟩)⟩, trivial⟩
        refine RO.fork [9] (by kernel_rfl) rfl ⟨⟨_, rfl, rfl, l_store_box (v := (.slice (some ⟨bA, 0, none⟩) 1 1)) (vs := [(.slice (some ⟨bA, 0, none⟩) 1 1)]) 2 inf41 rfl rfl rfl rfl rfl rfl (by simp [putL]) ⟨Sub.pick [5] rfl, ?_⟩⟩, trivial⟩
        refine RO.fork [10] (by kernel_rfl) rfl ⟨⟨_, rfl, rfl, l_store_box (v := (.slice (some ⟨bB, 0, none⟩) d.next.length d.next.length)) (vs := [(.slice (some ⟨bB, 0, none⟩) d.next.length d.next.length)]) 1 inf23 rfl rfl rfl rfl rfl rfl (by simp [putL]) ⟨Sub.pick [5] rfl, ?_⟩⟩, trivial⟩
        exact RO.fin (by kernel_rfl) ⟨bA, bB, bC, bD, rfl, ⟨rfl, rfl, rfl, rfl, rfl, rfl, rfl, trivial⟩⟩ (Sub.pick [2, 1, 0, 0, 0, 0] rfl)
      refine RO.fork [2, 7] (by kernel_rfl) rfl ⟨⟨_, rfl, rfl, l_build1 (v := (.int .i64 d.start)) Tryd.underlying41 inf3 rfl rfl rfl (fun bA => ⟨Sub.pick [4] rfl, ?_⟩)⟩, ⟨_, rfl, rfl, l_alloc inf41 rfl (fun bC => ⟨Sub.pick [4] rfl, ?_⟩)⟩, trivial⟩
      · refine RO.fork [7] (by kernel_rfl) rfl ⟨⟨_, rfl, rfl, l_alloc inf41 rfl (fun bC => ⟨Sub.pick [5] rfl, ?_⟩)⟩, trivial⟩
        refine RO.fork [9] (by kernel_rfl) rfl ⟨⟨_, rfl, rfl, l_store_box (v := (.slice (some ⟨bA, 0, none⟩) 1 1)) (vs := [(.slice (some ⟨bA, 0, none⟩) 1 1)]) 0 inf41 rfl rfl rfl rfl rfl rfl (by simp [putL]) ⟨Sub.pick [5] rfl, ?_⟩⟩, trivial⟩
        refine RO.fork [10] (by kernel_rfl) rfl ⟨⟨_, rfl, rfl, l_store_box (v := (.slice (some ⟨bB, 0, none⟩) d.next.length d.next.length)) (vs := [(.slice (some ⟨bB, 0, none⟩) d.next.length d.next.length)]) 2 inf23 rfl rfl rfl rfl rfl rfl (by simp [putL]) ⟨Sub.pick [5] rfl, ?_⟩⟩, trivial⟩
        exact RO.fin (by kernel_rfl) ⟨bA, bB, bC, bD, rfl, ⟨rfl, rfl, rfl, rfl, rfl, rfl, rfl, trivial⟩⟩ (Sub.pick [0, 1, 0, 0, 0, 0] rfl)
      refine RO.fork [2] (by kernel_rfl) rfl ⟨⟨_, rfl, rfl, l_build1 (v := (.int .i64 d.start)) Tryd.underlying41 inf3 rfl rfl rfl (fun bA => ⟨Sub.pick [5] rfl, ?_⟩)⟩, trivial⟩
      refine RO.fork [9] (by kernel_rfl) rfl ⟨⟨_, rfl, rfl, l_store_box (v := (.slice (some ⟨bA, 0, none⟩) 1 1)) (vs := [(.slice (some ⟨bA, 0, none⟩) 1 1)]) 1 inf41 rfl rfl rfl rfl rfl rfl (by simp [putL]) ⟨Sub.pick [5] rfl, ?_⟩⟩, trivial⟩
      refine RO.fork [10] (by kernel_rfl) rfl ⟨⟨_, rfl, rfl, l_store_box (v := (.slice (some ⟨bB, 0, none⟩) d.next.length d.next.length)) (vs := [(.slice (some ⟨bB, 0, none⟩) d.next.length d.next.length)]) 2 inf23 rfl rfl rfl rfl rfl rfl (by simp [putL]) ⟨Sub.pick [5] rfl, ?_⟩⟩, trivial⟩
      exact RO.fin (by kernel_rfl) ⟨bA, bB, bC, bD, rfl, ⟨rfl, rfl, rfl, rfl, rfl, rfl, rfl, trivial⟩⟩ (Sub.pick [1, 1, 0, 0, 0, 0] rfl)
    · refine RO.fork [2, 6, 8] (by kernel_rfl) rfl ⟨⟨_, rfl, rfl, l_build1 (v := (.int .i64 d.start)) Tryd.underlying41 inf3 rfl rfl rfl (fun bA => ⟨Sub.pick [3] rfl, ?_⟩)⟩, ⟨_, rfl, rfl, l_makeSlice (m := d.next.length) Tryd.underlying23 inf4 rfl rfl (by omega) (by omega) (fun bB => ⟨Sub.pick [3] rfl, ?_⟩)⟩, ⟨_, rfl, rfl, l_alloc inf23 rfl (fun bD => ⟨Sub.pick [3] rfl, ?_⟩)⟩, trivial⟩
      · refine RO.fork [6, 8] (by kernel_rfl) rfl ⟨⟨_, rfl, rfl, l_makeSlice (m := d.next.length) Tryd.underlying23 inf4 rfl rfl (by omega) (by omega) (fun bB => ⟨Sub.pick [4] rfl, ?_⟩)⟩, ⟨_, rfl, rfl, l_alloc inf23 rfl (fun bD => ⟨Sub.pick [4] rfl, ?_⟩)⟩, trivial⟩
        · refine RO.fork [8] (by kernel_rfl) rfl ⟨⟨_, rfl, rfl, l_alloc inf23 rfl (fun bD => ⟨Sub.pick [5] rfl, ?_⟩)⟩, trivial⟩
          refine RO.fork [9] (by kernel_rfl) rfl ⟨⟨_, rfl, rfl, l_store_box (v := (.slice (some ⟨bA, 0, none⟩) 1 1)) (vs := [(.slice (some ⟨bA, 0, none⟩) 1 1)]) 3 inf41 rfl rfl rfl rfl rfl rfl (by simp [putL]) ⟨Sub.pick [5] rfl, ?_⟩⟩, trivial⟩
          refine RO.fork [10] (by kernel_rfl) rfl ⟨⟨_, rfl, rfl, l_store_box (v := (.slice (some ⟨bB, 0, none⟩) d.next.length d.next.length)) (vs := [(.slice (some ⟨bB, 0, none⟩) d.next.length d.next.length)]) 0 inf23 rfl rfl rfl rfl rfl rfl (by simp [putL]) ⟨Sub.pick [5] rfl, ?_⟩⟩, trivial⟩
          exact RO.fin (by kernel_rfl) ⟨bA, bB, bC, bD, rfl, ⟨rfl, rfl, rfl, rfl, rfl, rfl, rfl, trivial⟩⟩ (Sub.pick [3, 0, 1, 0, 0, 0] rfl)
        refine RO.fork [6, 9] (by kernel_rfl) rfl ⟨⟨_, rfl, rfl, l_makeSlice (m := d.next.length) Tryd.underlying23 inf4 rfl rfl (by omega) (by omega) (fun bB => ⟨Sub.pick [5] rfl, ?_⟩)⟩, ⟨_, rfl, rfl, l_store_box (v := (.slice (some ⟨bA, 0, none⟩) 1 1)) (vs := [(.slice (some ⟨bA, 0, none⟩) 1 1)]) 2 inf41 rfl rfl rfl rfl rfl rfl (by simp [putL]) ⟨Sub.pick [4] rfl, ?_⟩⟩, trivial⟩
        · refine RO.fork [9] (by kernel_rfl) rfl ⟨⟨_, rfl, rfl, l_store_box (v := (.slice (some ⟨bA, 0, none⟩) 1 1)) (vs := [(.slice (some ⟨bA, 0, none⟩) 1 1)]) 3 inf41 rfl rfl rfl rfl rfl rfl (by simp [putL]) ⟨Sub.pick [5] rfl, ?_⟩⟩, trivial⟩
          refine RO.fork [10] (by kernel_rfl) rfl ⟨⟨_, rfl, rfl, l_store_box (v := (.slice (some ⟨bB, 0, none⟩) d.next.length d.next.length)) (vs := [(.slice (some ⟨bB, 0, none⟩) d.next.length d.next.length)]) 1 inf23 rfl rfl rfl rfl rfl rfl (by simp [putL]) ⟨Sub.pick [5] rfl, ?_⟩⟩, trivial⟩
          exact RO.fin (by kernel_rfl) ⟨bA, bB, bC, bD, rfl, ⟨rfl, rfl, rfl, rfl, rfl, rfl, rfl, trivial⟩⟩ (Sub.pick [3, 1, 1, 0, 0, 0] rfl)
        refine RO.fork [6] (by kernel_rfl) rfl ⟨⟨_, rfl, rfl, l_makeSlice (m := d.next.length) Tryd.underlying23 inf4 rfl rfl (by omega) (by omega) (fun bB => ⟨Sub.pick [5] rfl, ?_⟩)⟩, trivial⟩
        refine RO.fork [10] (by kernel_rfl) rfl ⟨⟨_, rfl, rfl, l_store_box (v := (.slice (some ⟨bB, 0, none⟩) d.next.length d.next.length)) (vs := [(.slice (some ⟨bB, 0, none⟩) d.next.length d.next.length)]) 1 inf23 rfl rfl rfl rfl rfl rfl (by simp [putL]) ⟨Sub.pick [5] rfl, ?_⟩⟩, trivial⟩
        exact RO.fin (by kernel_rfl) ⟨bA, bB, bC, bD, rfl, ⟨rfl, rfl, rfl, rfl, rfl, rfl, rfl, trivial⟩⟩ (Sub.pick [3, 1, 1, 0, 0, 0] rfl)
      · refine RO.fork [2, 8] (by kernel_rfl) rfl ⟨⟨_, rfl, rfl, l_build1 (v := (.int .i64 d.start)) Tryd.underlying41 inf3 rfl rfl rfl (fun bA => ⟨Sub.pick [4] rfl, ?_⟩)⟩, ⟨_, rfl, rfl, l_alloc inf23 rfl (fun bD => ⟨Sub.pick [4] rfl, ?_⟩)⟩, trivial⟩
        · refine RO.fork [8] (by kernel_rfl) rfl ⟨⟨_, rfl, rfl, l_alloc inf23 rfl (fun bD => ⟨Sub.pick [5] rfl, ?_⟩)⟩, trivial⟩
          refine RO.fork [9] (by kernel_rfl) rfl ⟨⟨_, rfl, rfl, l_store_box (v := (.slice (some ⟨bA, 0, none⟩) 1 1)) (vs := [(.slice (some ⟨bA, 0, none⟩) 1 1)]) 3 inf41 rfl rfl rfl rfl rfl rfl (by simp [putL]) ⟨Sub.pick [5] rfl, ?_⟩⟩, trivial⟩
          refine RO.fork [10] (by kernel_rfl) rfl ⟨⟨_, rfl, rfl, l_store_box (v := (.slice (some ⟨bB, 0, none⟩) d.next.length d.next.length)) (vs := [(.slice (some ⟨bB, 0, none⟩) d.next.length d.next.length)]) 0 inf23 rfl rfl rfl rfl rfl rfl (by simp [putL]) ⟨Sub.pick [5] rfl, ?_⟩⟩, trivial⟩
          exact RO.fin (by kernel_rfl) ⟨bA, bB, bC, bD, rfl, ⟨rfl, rfl, rfl, rfl, rfl, rfl, rfl, trivial⟩⟩ (Sub.pick [3, 0, 0, 0, 0, 0] rfl)
        refine RO.fork [2] (by kernel_rfl) rfl ⟨⟨_, rfl, rfl, l_build1 (v := (.int .i64 d.start)) Tryd.underlying41 inf3 rfl rfl rfl (fun bA => ⟨Sub.pick [5] rfl, ?_⟩)⟩, trivial⟩
        refine RO.fork [9] (by kernel_rfl) rfl ⟨⟨_, rfl, rfl, l_store_box (v := (.slice (some ⟨bA, 0, none⟩) 1 1)) (vs := [(.slice (some ⟨bA, 0, none⟩) 1 1)]) 3 inf41 rfl rfl rfl rfl rfl rfl (by simp [putL]) ⟨Sub.pick [5] rfl, ?_⟩⟩, trivial⟩
        refine RO.fork [10] (by kernel_rfl) rfl ⟨⟨_, rfl, rfl, l_store_box (v := (.slice (some ⟨bB, 0, none⟩) d.next.length d.next.length)) (vs := [(.slice (some ⟨bB, 0, none⟩) d.next.length d.next.length)]) 1 inf23 rfl rfl rfl rfl rfl rfl (by simp [putL]) ⟨Sub.pick [5] rfl, ?_⟩⟩, trivial⟩
        exact RO.fin (by kernel_rfl) ⟨bA, bB, bC, bD, rfl, ⟨rfl, rfl, rfl, rfl, rfl, rfl, rfl, trivial⟩⟩ (Sub.pick [3, 1, 0, 0, 0, 0] rfl)
      refine RO.fork [2, 6] (by kernel_rfl) rfl ⟨⟨_, rfl, rfl, l_build1 (v := (.int .i64 d.start)) Tryd.underlying41 inf3 rfl rfl rfl (fun bA => ⟨Sub.pick [4] rfl, ?_⟩)⟩, ⟨_, rfl, rfl, l_makeSlice (m := d.next.length) Tryd.underlying23 inf4 rfl rfl (by omega) (by omega) (fun bB => ⟨Sub.pick [4] rfl, ?_⟩)⟩, trivial⟩
      · refine RO.fork [6, 9] (by kernel_rfl) rfl ⟨⟨_, rfl, rfl, l_makeSlice (m := d.next.length) Tryd.underlying23 inf4 rfl rfl (by omega) (by omega) (fun bB => ⟨Sub.pick [5] rfl, ?_⟩)⟩, ⟨_, rfl, rfl, l_store_box (v := (.slice (some ⟨bA, 0, none⟩) 1 1)) (vs := [(.slice (some ⟨bA, 0, none⟩) 1 1)]) 2 inf41 rfl rfl rfl rfl rfl rfl (by simp [putL]) ⟨Sub.pick [4] rfl, ?_⟩⟩, trivial⟩
        · refine RO.fork [9] (by kernel_rfl) rfl ⟨⟨_, rfl, rfl, l_store_box (v := (.slice (some ⟨bA, 0, none⟩) 1 1)) (vs := [(.slice (some ⟨bA, 0, none⟩) 1 1)]) 3 inf41 rfl rfl rfl rfl rfl rfl (by simp [putL]) ⟨Sub.pick [5] rfl, ?_⟩⟩, trivial⟩
          refine RO.fork [10] (by kernel_rfl) rfl ⟨⟨_, rfl, rfl, l_store_box (v := (.slice (some ⟨bB, 0, none⟩) d.next.length d.next.length)) (vs := [(.slice (some ⟨bB, 0, none⟩) d.next.length d.next.length)]) 2 inf23 rfl rfl rfl rfl rfl rfl (by simp [putL]) ⟨Sub.pick [5] rfl, ?_⟩⟩, trivial⟩
          exact RO.fin (by kernel_rfl) ⟨bA, bB, bC, bD, rfl, ⟨rfl, rfl, rfl, rfl, rfl, rfl, rfl, trivial⟩⟩ (Sub.pick [3, 2, 1, 0, 0, 0] rfl)
        refine RO.fork [6] (by kernel_rfl) rfl ⟨⟨_, rfl, rfl, l_makeSlice (m := d.next.length) Tryd.underlying23 inf4 rfl rfl (by omega) (by omega) (fun bB => ⟨Sub.pick [5] rfl, ?_⟩)⟩, trivial⟩
        refine RO.fork [10] (by kernel_rfl) rfl ⟨⟨_, rfl, rfl, l_store_box (v := (.slice (some ⟨bB, 0, none⟩) d.next.length d.next.length)) (vs := [(.slice (some ⟨bB, 0, none⟩) d.next.length d.next.length)]) 2 inf23 rfl rfl rfl rfl rfl rfl (by simp [putL]) ⟨Sub.pick [5] rfl, ?_⟩⟩, trivial⟩
        exact RO.fin (by kernel_rfl) ⟨bA, bB, bC, bD, rfl, ⟨rfl, rfl, rfl, rfl, rfl, rfl, rfl, trivial⟩⟩ (Sub.pick [3, 2, 1, 0, 0, 0] rfl)
      refine RO.fork [2] (by kernel_rfl) rfl ⟨⟨_, rfl, rfl, l_build1 (v := (.int .i64 d.start)) Tryd.underlying41 inf3 rfl rfl rfl (fun bA => ⟨Sub.pick [5] rfl, ?_⟩)⟩, trivial⟩
      refine RO.fork [9] (by kernel_rfl) rfl ⟨⟨_, rfl, rfl, l_store_box (v := (.slice (some ⟨bA, 0, none⟩) 1 1)) (vs := [(.slice (some ⟨bA, 0, none⟩) 1 1)]) 3 inf41 rfl rfl rfl rfl rfl rfl (by simp [putL]) ⟨Sub.pick [5] rfl, ?_⟩⟩, trivial⟩
      refine RO.fork [10] (by kernel_rfl) rfl ⟨⟨_, rfl, rfl, l_store_box (v := (.slice (some ⟨bB, 0, none⟩) d.next.length d.next.length)) (vs := [(.slice (some ⟨bB, 0, none⟩) d.next.length d.next.length)]) 2 inf23 rfl rfl rfl rfl rfl rfl (by simp [putL]) ⟨Sub.pick [5] rfl, ?_⟩⟩, trivial⟩
      exact RO.fin (by kernel_rfl) ⟨bA, bB, bC, bD, rfl, ⟨rfl, rfl, rfl, rfl, rfl, rfl, rfl, trivial⟩⟩ (Sub.pick [3, 2, 0, 0, 0, 0] rfl)
    refine RO.fork [2, 6, 7] (by kernel_rfl) rfl ⟨⟨_, rfl, rfl, l_build1 (v := (.int .i64 d.start)) Tryd.underlying41 inf3 rfl rfl rfl (fun bA => ⟨Sub.pick [3] rfl, ?_⟩)⟩, ⟨_, rfl, rfl, l_makeSlice (m := d.next.length) Tryd.underlying23 inf4 rfl rfl (by omega) (by omega) (fun bB => ⟨Sub.pick [3] rfl, ?_⟩)⟩, ⟨_, rfl, rfl, l_alloc inf41 rfl (fun bC => ⟨Sub.pick [3] rfl, ?_⟩)⟩, trivial⟩
    · refine RO.fork [6, 7] (by kernel_rfl) rfl ⟨⟨_, rfl, rfl, l_makeSlice (m := d.next.length) Tryd.underlying23 inf4 rfl rfl (by omega) (by omega) (fun bB => ⟨Sub.pick [4] rfl, ?_⟩)⟩, ⟨_, rfl, rfl, l_alloc inf41 rfl (fun bC => ⟨Sub.pick [4] rfl, ?_⟩)⟩, trivial⟩
      · refine RO.fork [7] (by kernel_rfl) rfl ⟨⟨_, rfl, rfl, l_alloc inf41 rfl (fun bC => ⟨Sub.pick [5] rfl, ?_⟩)⟩, trivial⟩
        refine RO.fork [9] (by kernel_rfl) rfl ⟨⟨_, rfl, rfl, l_store_box (v := (.slice (some ⟨bA, 0, none⟩) 1 1)) (vs := [(.slice (some ⟨bA, 0, none⟩) 1 1)]) 0 inf41 rfl rfl rfl rfl rfl rfl (by simp [putL]) ⟨Sub.pick [5] rfl, ?_⟩⟩, trivial⟩
        refine RO.fork [10] (by kernel_rfl) rfl ⟨⟨_, rfl, rfl, l_store_box (v := (.slice (some ⟨bB, 0, none⟩) d.next.length d.next.length)) (vs := [(.slice (some ⟨bB, 0, none⟩) d.next.length d.next.length)]) 3 inf23 rfl rfl rfl rfl rfl rfl (by simp [putL]) ⟨Sub.pick [5] rfl, ?_⟩⟩, trivial⟩
        exact RO.fin (by kernel_rfl) ⟨bA, bB, bC, bD, rfl, ⟨rfl, rfl, rfl, rfl, rfl, rfl, rfl, trivial⟩⟩ (Sub.pick [0, 2, 1, 0, 0, 0] rfl)
      refine RO.fork [6, 9] (by kernel_rfl) rfl ⟨⟨_, rfl, rfl, l_makeSlice (m := d.next.length) Tryd.underlying23 inf4 rfl rfl (by omega) (by omega) (fun bB => ⟨Sub.pick [5] rfl, ?_⟩)⟩, ⟨_, rfl, rfl, l_store_box (v := (.slice (some ⟨bA, 0, none⟩) 1 1)) (vs := [(.slice (some ⟨bA, 0, none⟩) 1 1)]) 0 inf41 rfl rfl rfl rfl rfl rfl (by simp [putL]) ⟨Sub.pick [4] rfl, ?_⟩⟩, trivial⟩
      · refine RO.fork [9] (by kernel_rfl) rfl ⟨⟨_, rfl, rfl, l_store_box (v := (.slice (some ⟨bA, 0, none⟩) 1 1)) (vs := [(.slice (some ⟨bA, 0, none⟩) 1 1)]) 1 inf41 rfl rfl rfl rfl rfl rfl (by simp [putL]) ⟨Sub.pick [5] rfl, ?_⟩⟩, trivial⟩
        refine RO.fork [10] (by kernel_rfl) rfl ⟨⟨_, rfl, rfl, l_store_box (v := (.slice (some ⟨bB, 0, none⟩) d.next.length d.next.length)) (vs := [(.slice (some ⟨bB, 0, none⟩) d.next.length d.next.length)]) 3 inf23 rfl rfl rfl rfl rfl rfl (by simp [putL]) ⟨Sub.pick [5] rfl, ?_⟩⟩, trivial⟩
        exact RO.fin (by kernel_rfl) ⟨bA, bB, bC, bD, rfl, ⟨rfl, rfl, rfl, rfl, rfl, rfl, rfl, trivial⟩⟩ (Sub.pick [1, 2, 1, 0, 0, 0] rfl)
      refine RO.fork [6] (by kernel_rfl) rfl ⟨⟨_, rfl, rfl, l_makeSlice (m := d.next.length) Tryd.underlying23 inf4 rfl rfl (by omega) (by omega) (fun bB => ⟨Sub.pick [5] rfl, ?_⟩)⟩, trivial⟩
      refine RO.fork [10] (by kernel_rfl) rfl ⟨⟨_, rfl, rfl, l_store_box (v := (.slice (some ⟨bB, 0, none⟩) d.next.length d.next.length)) (vs := [(.slice (some ⟨bB, 0, none⟩) d.next.length d.next.length)]) 3 inf23 rfl rfl rfl rfl rfl rfl (by simp [putL]) ⟨Sub.pick [5] rfl, ?_⟩⟩, trivial⟩
      exact RO.fin (by kernel_rfl) ⟨bA, bB, bC, bD, rfl, ⟨rfl, rfl, rfl, rfl, rfl, rfl, rfl, trivial⟩⟩ (Sub.pick [1, 2, 1, 0, 0, 0] rfl)
    · refine RO.fork [2, 7] (by kernel_rfl) rfl ⟨⟨_, rfl, rfl, l_build1 (v := (.int .i64 d.start)) Tryd.underlying41 inf3 rfl rfl rfl (fun bA => ⟨Sub.pick [4] rfl, ?_⟩)⟩, ⟨_, rfl, rfl, l_alloc inf41 rfl (fun bC => ⟨Sub.pick [4] rfl, ?_⟩)⟩, trivial⟩
      · refine RO.fork [7] (by kernel_rfl) rfl ⟨⟨_, rfl, rfl, l_alloc inf41 rfl (fun bC => ⟨Sub.pick [5] rfl, ?_⟩)⟩, trivial⟩
        refine RO.fork [9] (by kernel_rfl) rfl ⟨⟨_, rfl, rfl, l_store_box (v := (.slice (some ⟨bA, 0, none⟩) 1 1)) (vs := [(.slice (some ⟨bA, 0, none⟩) 1 1)]) 0 inf41 rfl rfl rfl rfl rfl rfl (by simp [putL]) ⟨Sub.pick [5] rfl, ?_⟩⟩, trivial⟩
        refine RO.fork [10] (by kernel_rfl) rfl ⟨⟨_, rfl, rfl, l_store_box (v := (.slice (some ⟨bB, 0, none⟩) d.next.length d.next.length)) (vs := [(.slice (some ⟨bB, 0, none⟩) d.next.length d.next.length)]) 3 inf23 rfl rfl rfl rfl rfl rfl (by simp [putL]) ⟨Sub.pick [5] rfl, ?_⟩⟩, trivial⟩
        exact RO.fin (by kernel_rfl) ⟨bA, bB, bC, bD, rfl, ⟨rfl, rfl, rfl, rfl, rfl, rfl, rfl, trivial⟩⟩ (Sub.pick [0, 2, 0, 0, 0, 0] rfl)
      refine RO.fork [2] (by kernel_rfl) rfl ⟨⟨_, rfl, rfl, l_build1 (v := (.int .i64 d.start)) Tryd.underlying41 inf3 rfl rfl rfl (fun bA => ⟨Sub.pick [5] rfl, ?_⟩)⟩, trivial⟩
      refine RO.fork [9] (by kernel_rfl) rfl ⟨⟨_, rfl, rfl, l_store_box (v := (.slice (some ⟨bA, 0, none⟩) 1 1)) (vs := [(.slice (some ⟨bA, 0, none⟩) 1 1)]) 1 inf41 rfl rfl rfl rfl rfl rfl (by simp [putL]) ⟨Sub.pick [5] rfl, ?_⟩⟩, trivial⟩
      refine RO.fork [10] (by kernel_rfl) rfl ⟨⟨_, rfl, rfl, l_store_box (v := (.slice (some ⟨bB, 0, none⟩) d.next.length d.next.length)) (vs := [(.slice (some ⟨bB, 0, none⟩) d.next.length d.next.length)]) 3 inf23 rfl rfl rfl rfl rfl rfl (by simp [putL]) ⟨Sub.pick [5] rfl, ?_⟩⟩, trivial⟩
      exact RO.fin (by kernel_rfl) ⟨bA, bB, bC, bD, rfl, ⟨rfl, rfl, rfl, rfl, rfl, rfl, rfl, trivial⟩⟩ (Sub.pick [1, 2, 0, 0, 0, 0] rfl)
    refine RO.fork [2, 6] (by kernel_rfl) rfl ⟨⟨_, rfl, rfl, l_build1 (v := (.int .i64 d.start)) Tryd.underlying41 inf3 rfl rfl rfl (fun bA => ⟨Sub.pick [4] rfl, ?_⟩)⟩, ⟨_, rfl, rfl, l_makeSlice (m := d.next.length) Tryd.underlying23 inf4 rfl rfl (by omega) (by omega) (fun bB => ⟨Sub.pick [4] rfl, ?_⟩)⟩, trivial⟩
    · refine RO.fork [6, 9] (by kernel_rfl) rfl ⟨⟨_, rfl, rfl, l_makeSlice (m := d.next.length) Tryd.underlying23 inf4 rfl rfl (by omega) (by omega) (fun bB => ⟨Sub.pick [5] rfl, ?_⟩)⟩, ⟨_, rfl, rfl, l_store_box (v := (.slice (some ⟨bA, 0, none⟩) 1 1)) (vs := [(.slice (some ⟨bA, 0, none⟩) 1 1)]) 1 inf41 rfl rfl rfl rfl rfl rfl (by simp [putL]) ⟨Sub.pick [4] rfl, ?_⟩⟩, trivial⟩
      · refine RO.fork [9] (by kernel_rfl) rfl ⟨⟨_, rfl, rfl, l_store_box (v := (.slice (some ⟨bA, 0, none⟩) 1 1)) (vs := [(.slice (some ⟨bA, 0, none⟩) 1 1)]) 2 inf41 rfl rfl rfl rfl rfl rfl (by simp [putL]) ⟨Sub.pick [5] rfl, ?_⟩⟩, trivial⟩
        refine RO.fork [10] (by kernel_rfl) rfl ⟨⟨_, rfl, rfl, l_store_box (v := (.slice (some ⟨bB, 0, none⟩) d.next.length d.next.length)) (vs := [(.slice (some ⟨bB, 0, none⟩) d.next.length d.next.length)]) 3 inf23 rfl rfl rfl rfl rfl rfl (by simp [putL]) ⟨Sub.pick [5] rfl, ?_⟩⟩, trivial⟩
        exact RO.fin (by kernel_rfl) ⟨bA, bB, bC, bD, rfl, ⟨rfl, rfl, rfl, rfl, rfl, rfl, rfl, trivial⟩⟩ (Sub.pick [2, 2, 1, 0, 0, 0] rfl)
      refine RO.fork [6] (by kernel_rfl) rfl ⟨⟨_, rfl, rfl, l_makeSlice (m := d.next.length) Tryd.underlying23 inf4 rfl rfl (by omega) (by omega) (fun bB => ⟨Sub.pick [5] rfl, ?_⟩)⟩, trivial⟩
      refine RO.fork [10] (by kernel_rfl) rfl ⟨⟨_, rfl, rfl, l_store_box (v := (.slice (some ⟨bB, 0, none⟩) d.next.length d.next.length)) (vs := [(.slice (some ⟨bB, 0, none⟩) d.next.length d.next.length)]) 3 inf23 rfl rfl rfl rfl rfl rfl (by simp [putL]) ⟨Sub.pick [5] rfl, ?_⟩⟩, trivial⟩
      exact RO.fin (by kernel_rfl) ⟨bA, bB, bC, bD, rfl, ⟨rfl, rfl, rfl, rfl, rfl, rfl, rfl, trivial⟩⟩ (Sub.pick [2, 2, 1, 0, 0, 0] rfl)
    refine RO.fork [2] (by kernel_rfl) rfl ⟨⟨_, rfl, rfl, l_build1 (v := (.int .i64 d.start)) Tryd.underlying41 inf3 rfl rfl rfl (fun bA => ⟨Sub.pick [5] rfl, ?_⟩)⟩, trivial⟩
    refine RO.fork [9] (by kernel_rfl) rfl ⟨⟨_, rfl, rfl, l_store_box (v := (.slice (some ⟨bA, 0, none⟩) 1 1)) (vs := [(.slice (some ⟨bA, 0, none⟩) 1 1)]) 2 inf41 rfl rfl rfl rfl rfl rfl (by simp [putL]) ⟨Sub.pick [5] rfl, ?_⟩⟩, trivial⟩
    refine RO.fork [10] (by kernel_rfl) rfl ⟨⟨_, rfl, rfl, l_store_box (v := (.slice (some ⟨bB, 0, none⟩) d.next.length d.next.length)) (vs := [(.slice (some ⟨bB, 0, none⟩) d.next.length d.next.length)]) 3 inf23 rfl rfl rfl rfl rfl rfl (by simp [putL]) ⟨Sub.pick [5] rfl, ?_⟩⟩, trivial⟩
    exact RO.fin (by kernel_rfl) ⟨bA, bB, bC, bD, rfl, ⟨rfl, rfl, rfl, rfl, rfl, rfl, rfl, trivial⟩⟩ (Sub.pick [2, 2, 0, 0, 0, 0] rfl)
  rintro ρ O ⟨bA, bB, bC, bD, rfl, hH⟩
  obtain ⟨ρ0, rfl⟩ := hH.elim
  clear hH
  refine T.seq (T.region ?_)
  refine TO.quiet (q_load_box 1 Tryd.underlying23 rfl rfl rfl rfl) (TO.quiet (q_fieldAddr Tryd.underlying25 rfl inf3 rfl rfl) (TO.quiet (q_load_box 5 Tryd.underlying3 rfl rfl rfl rfl) (TO.quiet (q_ixz (i := d.start) Tryd.underlying23 inf4 rfl rfl (rowO (List.mem_of_getElem? (i := 3) rfl)) hs0 hsn (by rw [List.length_replicate]; exact hsn)) ?_)))
  refine TO.loud rfl (l_st (j := d.start.toNat) (v := .bool true) (vs := [(.bool true)]) (cs := List.replicate d.next.length (.bool false)) 3 inf4 rfl rfl rfl rfl rfl (by simp) rfl (by first | (simp; omega) | (simp_all; omega)) ?_)
  refine TO.sub (O' := [oI bC 41 [(.slice (some ⟨bA, 0, none⟩) 1 1)], oI bD 23 [(.slice (some ⟨bB, 0, none⟩) d.next.length d.next.length)], rowI (some ⟨bA, 0, none⟩) 1 3 1 [(.int .i64 d.start)], rowI (some ⟨bB, 0, none⟩) d.next.length 4 1 (bools ((List.replicate d.next.length false).set d.start.toNat true)), oI z2 25 [(.int .i64 0), (.int .i64 0), (.slice none 0 0), (.slice none 0 0)], oI z1 25 [(.int .i64 d.vars), (.int .i64 d.start), (.slice nb d.next.length nc), (.slice fb d.final.length fc)]]) (by rw [show putL (List.replicate d.next.length (.bool false)) d.start.toNat [(.bool true)] = bools ((List.replicate d.next.length false).set d.start.toNat true) from by simp [putL]]; exact Sub.of (List.Sublist.refl _)) ?_
  refine TO.nil (T.seq (T.region ?_))
  refine TO.quiet (q_makeFunc) (TO.quiet (q_assign rfl) ?_)
  refine TO.nil (T.seq (T.region ?_))
  refine TO.quiet (q_fieldAddr Tryd.underlying25 rfl inf3 rfl rfl) (TO.quiet (q_load_box 5 Tryd.underlying3 rfl rfl rfl rfl) (TO.quiet (q_fieldAddr Tryd.underlying25 rfl inf3 rfl rfl) ?_))
  refine TO.loud rfl (l_store_box (v := (.int .i64 d.vars)) (vs := [(.int .i64 d.vars)]) 4 inf3 rfl rfl rfl rfl rfl rfl (by simp [putL]) ?_)
  refine TO.nil (T.seq ?_)
  have hJ0 : [oI z1 25 [(.int .i64 d.vars), (.int .i64 d.start), (.slice nb d.next.length nc), (.slice fb d.final.length fc)], oI bC 41 [(.slice (some ⟨bA, 0, none⟩) 1 1)], rowI (some ⟨bA, 0, none⟩) 1 3 1 [(.int .i64 d.start)], oI bD 23 [(.slice (some ⟨bB, 0, none⟩) d.next.length d.next.length)], rowI (some ⟨bB, 0, none⟩) d.next.length 4 1 (bools ((List.replicate d.next.length false).set d.start.toNat true))] = [oI z1 25 [(.int .i64 d.vars), (.int .i64 d.start), (.slice nb d.next.length nc), (.slice fb d.final.length fc)], oI bC 41 [(.slice (some ⟨bA, 0, none⟩) 1 1)], rowI (some ⟨bA, 0, none⟩) 1 3 1 (nats [d.start.toNat]), oI bD 23 [(.slice (some ⟨bB, 0, none⟩) d.next.length d.next.length)], rowI (some ⟨bB, 0, none⟩) d.next.length 4 1 (bools ((List.replicate d.next.length false).set d.start.toNat true))] := by
    rw [show nats [d.start.toNat] = [.int .i64 d.start] by simp [Int.toNat_of_nonneg hs0]]
  have hseen : ∀ t, t < d.next.length → ((List.replicate d.next.length false).set d.start.toNat true)[t]? = some (decide (t ∈ [d.start.toNat])) := fun t ht => by
    by_cases e : t = d.start.toNat
    · subst e; rw [List.getElem?_set_self (by simpa using ht)]; simp
    · rw [List.getElem?_set_ne (fun h => e h.symm)]; simp [ht, e]
  refine T.draws [oI z1 25 [(.int .i64 d.vars), (.int .i64 d.start), (.slice nb d.next.length nc), (.slice fb d.final.length fc)]] [(0, 0), (1, 0), (2, 0), (3, 0), (4, 0), (5, 0), (6, 0), (7, 0), (9, 0), (8, 1), (10, 1), (11, 0), (12, 0), (13, 0), (14, 0), (15, 1)] mixed (drawF_ok (by kernel_rfl)) (Sub.pick [5] rfl) (fun _ _ _ h => h) ?_
  refine DO.quiet rfl (q_fieldAddr Tryd.underlying25 rfl inf3 rfl rfl) (DO.quiet rfl (q_load_box 0 Tryd.underlying3 rfl rfl rfl rfl) (DO.quiet rfl (q_shl1 (v := d.vars.toNat) rfl (by show Value.int _ d.vars = _; rw [Int.toNat_of_nonneg hv.v0]) (by have := hv.v6; omega)) (DO.quiet rfl (q_fieldAddr Tryd.underlying25 rfl inf22 rfl rfl) ?_)))
  refine DO.quiet rfl (q_load_box 0 Tryd.underlying22 rfl rfl rfl rfl) (DO.quiet rfl (q_len Tryd.underlying22 rfl) (DO.quiet rfl (q_fieldAddr Tryd.underlying25 rfl inf3 rfl rfl) (DO.quiet rfl (QT.cast (q_load_box 0 Tryd.underlying3 rfl rfl rfl rfl) (v' := .int .i64 ((d.start.toNat : Nat) : Int)) (by rw [Int.toNat_of_nonneg hs0])) ?_)))
  refine DO.quiet rfl (q_move rfl) ?_
  have hk40 := fun (w1 : World) (hI : Inv w [oI bC 41 [(.slice (some ⟨bA, 0, none⟩) 1 1)], oI bD 23 [(.slice (some ⟨bB, 0, none⟩) d.next.length d.next.length)], rowI (some ⟨bA, 0, none⟩) 1 3 1 [(.int .i64 d.start)], rowI (some ⟨bB, 0, none⟩) d.next.length 4 1 (bools ((List.replicate d.next.length false).set d.start.toNat true)), oI z2 25 [(.int .i64 d.vars), (.int .i64 0), (.slice none 0 0), (.slice none 0 0)], oI z1 25 [(.int .i64 d.vars), (.int .i64 d.start), (.slice nb d.next.length nc), (.slice fb d.final.length fc)]] w1) => (haveI := Inv.tab (P := Tryd.prog) hI; itoaF w1 d.start.toNat (by omega))
  refine DO.loud rfl rfl (l_call ent65 (CallT.of_pure hk40) rfl ?_)
  clear hk40
  rintro v O' ⟨N, rfl, rfl, rfl⟩
  refine ⟨Sub.pick [5] rfl, ?_⟩
  have hk42 := CallT.under (B := [oI z2 25 [(.int .i64 d.vars), (.int .i64 0), (.slice none 0 0), (.slice none 0 0)]]) (O := [oI bC 41 [(.slice (some ⟨bA, 0, none⟩) 1 1)], oI bD 23 [(.slice (some ⟨bB, 0, none⟩) d.next.length d.next.length)], rowI (some ⟨bA, 0, none⟩) 1 3 1 [(.int .i64 d.start)], rowI (some ⟨bB, 0, none⟩) d.next.length 4 1 (bools ((List.replicate d.next.length false).set d.start.toNat true)), oI z2 25 [(.int .i64 d.vars), (.int .i64 0), (.slice none 0 0), (.slice none 0 0)], oI z1 25 [(.int .i64 d.vars), (.int .i64 d.start), (.slice nb d.next.length nc), (.slice fb d.final.length fc)]]) (exploreC w (trD d) (2 ^ d.vars.toNat) d.next.length (Lib.decDigits d.start.toNat) (.func (.func 64) #[] #[.pointer (some ⟨z1, 0, none⟩), .pointer (some ⟨bC, 0, none⟩), .pointer (some ⟨bD, 0, none⟩)]) (RenJ d nb fb nc fc z1 bB bC bD) (fun ks => ks.length ≤ d.next.length) hv.width hv.n4 (fun ks s x O hs hx _ hJ => nextV w d nb fb nc fc vs h hv hn z1 bB bC bD ks s x O hs hx hJ) (fun _ h => h) [oI z1 25 [(.int .i64 d.vars), (.int .i64 d.start), (.slice nb d.next.length nc), (.slice fb d.final.length fc)], oI bC 41 [(.slice (some ⟨bA, 0, none⟩) 1 1)], rowI (some ⟨bA, 0, none⟩) 1 3 1 [(.int .i64 d.start)], oI bD 23 [(.slice (some ⟨bB, 0, none⟩) d.next.length d.next.length)], rowI (some ⟨bB, 0, none⟩) d.next.length 4 1 (bools ((List.replicate d.next.length false).set d.start.toNat true))] (by simp; omega) ⟨[d.start.toNat], (List.replicate d.next.length false).set d.start.toNat true, some ⟨bA, 0, none⟩, 1, rfl, hJ0, by simp, by simp; omega, by simp, hseen⟩) (Sub.pick [5, 0, 1, 0, 0, 0] rfl)
  refine DO.loud rfl rfl (l_call ent66 hk42 rfl ?_)
  clear hk42
  rintro v O' ⟨A1, rfl, rb, rc, qs, N, O1, rfl, rfl, ⟨os, sn, ob, oc, hks, rfl, hnd, hos, hsl, hsn9⟩, hgl, hlenN, hE, hen⟩
  refine ⟨Sub.cnt ([rowI rb rc 41 1 (vals qs)] ++ itms 3 qs ++ [oI bC 41 [(.slice ob os.length oc)], rowI ob oc 3 1 (nats os), oI bD 23 [(.slice (some ⟨bB, 0, none⟩) d.next.length d.next.length)], rowI (some ⟨bB, 0, none⟩) d.next.length 4 1 (bools sn), oI z2 25 [(.int .i64 d.vars), (.int .i64 0), (.slice none 0 0), (.slice none 0 0)]]) (by intro a; simp only [itms, oI, List.set_cons_zero, List.set_cons_succ, putL, List.cons_append, List.nil_append, List.append_nil, List.append_assoc, List.map_append, List.map_cons, List.map_nil, cnt_append, cnt_cons, cnt_nil] <;> omega), ?_⟩
  refine DO.sub (O' := [rowI rb rc 41 1 (vals qs), oI z1 25 [(.int .i64 d.vars), (.int .i64 d.start), (.slice nb d.next.length nc), (.slice fb d.final.length fc)], oI bC 41 [(.slice ob os.length oc)], rowI ob oc 3 1 (nats os), oI bD 23 [(.slice (some ⟨bB, 0, none⟩) d.next.length d.next.length)], rowI (some ⟨bB, 0, none⟩) d.next.length 4 1 (bools sn), oI z2 25 [(.int .i64 d.vars), (.int .i64 0), (.slice none 0 0), (.slice none 0 0)]] ++ itms 3 qs) (Sub.cnt [] (by intro a; simp only [itms, oI, List.set_cons_zero, List.set_cons_succ, putL, List.cons_append, List.nil_append, List.append_nil, List.append_assoc, List.map_append, List.map_cons, List.map_nil, cnt_append, cnt_cons, cnt_nil] <;> omega)) ?_
  refine DO.quiet rfl (q_move rfl) (DO.quiet rfl (q_extract (vs := _) rfl rfl) (DO.quiet rfl (q_extract (vs := _) rfl rfl) (DO.quiet rfl (q_fieldAddr Tryd.underlying25 rfl inf22 rfl rfl) ?_)))
  refine DO.loud rfl rfl (l_store_box (v := (.slice rb N rc)) (vs := [(.slice rb N rc)]) 6 inf22 rfl rfl rfl rfl rfl rfl (by simp [putL]) ⟨Sub.pick0 [1] [rowI rb rc 41 1 (vals qs), oI z1 25 [(.int .i64 d.vars), (.int .i64 d.start), (.slice nb d.next.length nc), (.slice fb d.final.length fc)], oI bC 41 [(.slice ob os.length oc)], rowI ob oc 3 1 (nats os), oI bD 23 [(.slice (some ⟨bB, 0, none⟩) d.next.length d.next.length)], rowI (some ⟨bB, 0, none⟩) d.next.length 4 1 (bools sn), oI z2 25 [(.int .i64 d.vars), (.int .i64 0), (.slice rb N rc), (.slice none 0 0)]] (itms 3 qs) rfl rfl, ?_⟩)
  refine DO.done ?_
  refine T.seq (T.seq (T.region ?_))
  refine TO.quiet (q_load_box 2 Tryd.underlying41 rfl rfl rfl rfl) (TO.quiet (q_len Tryd.underlying41 rfl) (TO.quiet (q_move rfl) ?_))
  refine TO.nil (T.block ?_)
  have hol := nodup_bound hnd hos
  refine T.nilRow 4 1 ?_
  refine T.loop (fun (k : Nat) ρ O => ∃ (fb9 : Option Addr) (fc9 : Nat), O = ([rowI fb9 fc9 4 1 (bools ((os.take k).map fun o => d.final.getD o false)), rowI rb rc 41 1 (vals qs), oI z1 25 [(.int .i64 d.vars), (.int .i64 d.start), (.slice nb d.next.length nc), (.slice fb d.final.length fc)], oI bC 41 [(.slice ob os.length oc)], rowI ob oc 3 1 (nats os), oI bD 23 [(.slice (some ⟨bB, 0, none⟩) d.next.length d.next.length)], rowI (some ⟨bB, 0, none⟩) d.next.length 4 1 (bools sn), oI z2 25 [(.int .i64 d.vars), (.int .i64 0), (.slice rb N rc), (.slice fb9 k fc9)]] ++ (itms 3 qs)) ∧ k ≤ os.length ∧ Heads [(0, (.agg #[(.int .i64 d.vars), (.int .i64 d.start), (.slice nb d.next.length nc), (.slice fb d.final.length fc)])), (1, (.pointer (some ⟨z1, 0, none⟩))), (2, (.pointer (some ⟨z2, 0, none⟩))), (3, .int .i64 0), (4, .int .i64 ((0 : Nat) : Int)), (5, (.pointer (some ⟨bC, 0, none⟩))), (6, (.pointer (some ⟨bD, 0, none⟩))), (7, (.func (.func 64) #[] #[(.pointer (some ⟨z1, 0, none⟩)), (.pointer (some ⟨bC, 0, none⟩)), (.pointer (some ⟨bD, 0, none⟩))])), (46, (.slice ob os.length oc)), (47, .int .i64 (os.length : Int)), (48, .int .i64 (k : Int))] ρ) (fun k => os.length - k) 0 ?_ ?_
  · exact ⟨none, 0, rfl, Nat.zero_le _, ⟨rfl, rfl, rfl, rfl, rfl, rfl, rfl, rfl, rfl, rfl, rfl, trivial⟩⟩
  rintro k ρ O ⟨fb9, fc9, rfl, hk, hH⟩
  obtain ⟨ρ0, rfl⟩ := hH.elim
  clear hH
  refine T.seq (T.region ?_)
  refine TO.quiet (q_lss rfl rfl) ?_
  refine TO.nil (T.seq ?_)
  refine T.condP rfl (fun hc => ?_) (fun hc => ?_)
  · have hlt49 : k < os.length := by omega
    have hok : os[k] < d.next.length := hos _ (List.getElem_mem hlt49)
    have hokf : os[k] < d.final.length := by have := hv.fin; omega
    refine T.skip (T.seq (T.block (T.seq (T.region ?_))))
    refine TO.quiet (q_ix (i := k) Tryd.underlying41 inf3 rfl rfl (rowO (List.mem_of_getElem? (i := 4) rfl))) (TO.quiet (q_ld Tryd.underlying3 rfl rfl (rowO (List.mem_of_getElem? (i := 4) rfl)) nats_get) (TO.quiet (q_assign rfl) ?_))
    refine TO.nil ?_
    refine T.draws [oI z1 25 [(.int .i64 d.vars), (.int .i64 d.start), (.slice nb d.next.length nc), (.slice fb d.final.length fc)], oI z2 25 [(.int .i64 d.vars), (.int .i64 0), (.slice rb N rc), (.slice fb9 k fc9)]] [(0, 0), (1, 0), (2, 0), (3, 0), (4, 0), (5, 0), (6, 0), (7, 1), (8, 2), (9, 2), (10, 2)] mixed (by kernel_rfl) (Sub.pick0 [2, 6] [rowI fb9 fc9 4 1 (bools ((os.take k).map fun o => d.final.getD o false)), rowI rb rc 41 1 (vals qs), oI z1 25 [(.int .i64 d.vars), (.int .i64 d.start), (.slice nb d.next.length nc), (.slice fb d.final.length fc)], oI bC 41 [(.slice ob os.length oc)], rowI ob oc 3 1 (nats os), oI bD 23 [(.slice (some ⟨bB, 0, none⟩) d.next.length d.next.length)], rowI (some ⟨bB, 0, none⟩) d.next.length 4 1 (bools sn), oI z2 25 [(.int .i64 d.vars), (.int .i64 0), (.slice rb N rc), (.slice fb9 k fc9)]] (itms 3 qs) rfl rfl) (fun _ _ _ h => h) ?_
    refine DO.quiet rfl (q_fieldAddr Tryd.underlying25 rfl inf23 rfl rfl) (DO.quiet rfl (q_load_box 1 Tryd.underlying23 rfl rfl rfl rfl) (DO.quiet rfl (q_fieldAddr Tryd.underlying25 rfl inf23 rfl rfl) (DO.quiet rfl (q_load_box 0 Tryd.underlying23 rfl rfl rfl rfl) ?_)))
    refine DO.quiet rfl (q_move rfl) (DO.quiet rfl (q_ix (i := os[k]) Tryd.underlying23 inf4 rfl rfl (Sl.o h.final)) (DO.quiet rfl (q_ld Tryd.underlying4 rfl rfl (Sl.o h.final) bools_get) ?_))
    refine DO.loud rfl rfl (l_build1 (v := .bool d.final[os[k]]) Tryd.underlying23 inf4 rfl rfl rfl (fun z3 => ⟨Sub.pick0 [3, 7] [rowI (some ⟨z3, 0, none⟩) 1 4 1 [.bool d.final[os[k]]], rowI fb9 fc9 4 1 (bools ((os.take k).map fun o => d.final.getD o false)), rowI rb rc 41 1 (vals qs), oI z1 25 [(.int .i64 d.vars), (.int .i64 d.start), (.slice nb d.next.length nc), (.slice fb d.final.length fc)], oI bC 41 [(.slice ob os.length oc)], rowI ob oc 3 1 (nats os), oI bD 23 [(.slice (some ⟨bB, 0, none⟩) d.next.length d.next.length)], rowI (some ⟨bB, 0, none⟩) d.next.length 4 1 (bools sn), oI z2 25 [(.int .i64 d.vars), (.int .i64 0), (.slice rb N rc), (.slice fb9 k fc9)]] (itms 3 qs) rfl rfl, ?_⟩))
    refine DO.last rfl rfl (l_append 1 Tryd.underlying23 Tryd.underlying23 inf4 rfl rfl rfl rfl (by simp; omega) (by decide) (Src.row (j := 0) rfl (by simp)) (by simp [oneB]) (by omega) (by decide) (by decide) (fun z4 zc5 => ?_))
    refine DO.last rfl rfl (LT.of_quiet rfl rfl (q_fieldAddr Tryd.underlying25 rfl inf23 rfl rfl) ?_)
    refine DO.last rfl rfl (l_store_box (v := (.slice z4 (k + 1) zc5)) (vs := [(.slice z4 (k + 1) zc5)]) 8 inf23 rfl rfl rfl rfl rfl rfl (by simp [putL]) ?_)
    refine DO.sub (O' := ([rowI z4 zc5 4 1 ((bools ((os.take k).map fun o => d.final.getD o false)) ++ [.bool d.final[os[k]]]), rowI rb rc 41 1 (vals qs), oI z1 25 [(.int .i64 d.vars), (.int .i64 d.start), (.slice nb d.next.length nc), (.slice fb d.final.length fc)], oI bC 41 [(.slice ob os.length oc)], rowI ob oc 3 1 (nats os), oI bD 23 [(.slice (some ⟨bB, 0, none⟩) d.next.length d.next.length)], rowI (some ⟨bB, 0, none⟩) d.next.length 4 1 (bools sn), oI z2 25 [(.int .i64 d.vars), (.int .i64 0), (.slice rb N rc), (.slice z4 (k + 1) zc5)]] ++ (itms 3 qs))) (Sub.pickR [1, 1, 1, 1, 1, 1, 1, 1] [rowI (some ⟨z3, 0, none⟩) 1 4 1 [.bool d.final[os[k]]], rowI z4 zc5 4 1 ((bools ((os.take k).map fun o => d.final.getD o false)) ++ [.bool d.final[os[k]]]), rowI rb rc 41 1 (vals qs), oI z1 25 [(.int .i64 d.vars), (.int .i64 d.start), (.slice nb d.next.length nc), (.slice fb d.final.length fc)], oI bC 41 [(.slice ob os.length oc)], rowI ob oc 3 1 (nats os), oI bD 23 [(.slice (some ⟨bB, 0, none⟩) d.next.length d.next.length)], rowI (some ⟨bB, 0, none⟩) d.next.length 4 1 (bools sn), oI z2 25 [(.int .i64 d.vars), (.int .i64 0), (.slice rb N rc), (.slice z4 (k + 1) zc5)]] (itms 3 qs) rfl rfl) ?_
    refine DO.done ?_
    refine T.region ?_
    refine TO.quiet (q_inc rfl rfl (by omega)) (TO.quiet (q_move rfl) ?_)
    refine TO.nil ?_
    have hst : (List.take (k + 1) os).map (fun o => d.final.getD o false) = (List.take k os).map (fun o => d.final.getD o false) ++ [d.final[os[k]]] := by
      rw [List.take_succ_eq_append_getElem hlt49, List.map_append]; simp [hokf]
    exact ⟨k + 1, by omega, z4, zc5, by rw [hst, show bools ((List.take k os).map (fun o => d.final.getD o false) ++ [d.final[os[k]]]) = bools ((List.take k os).map fun o => d.final.getD o false) ++ [.bool d.final[os[k]]] from List.map_append], by omega, ⟨rfl, rfl, rfl, rfl, rfl, rfl, rfl, rfl, rfl, rfl, rfl, trivial⟩⟩
  have hge49 : ¬ k < os.length := by omega
  refine T.exit ?_
  refine T.seq (T.region ?_)
  refine TO.quiet (q_load_boxAgg 7 Tryd.underlying25 rfl inf25 rfl rfl rfl) ?_
  refine TO.loud rfl (l_store_box (v := (.agg #[(.int .i64 d.vars), (.int .i64 0), (.slice rb N rc), (.slice fb9 k fc9)])) (vs := [(.int .i64 d.vars), (.int .i64 0), (.slice rb N rc), (.slice fb9 k fc9)]) 7 inf25 rfl rfl rfl rfl rfl rfl (by simp [putL]) ?_)
  refine TO.quiet (q_assign rfl) ?_
  refine TO.nil (T.ret (Res.drop ?_))
  refine Res.cell1b (.int .i64 0) (i := 7) Tryd.results45 Tryd.underlying25 rfl inf25 rfl rfl rfl rfl ?_
  have hke : k = os.length := by omega
  obtain ⟨ho, hN9⟩ := ren_order hen hks hlenN (nodup_bound hnd hos)
  have hnx := ren_next hks hE ho hN9
  have hfx : (List.take k os).map (fun o => d.final.getD o false) = (renum d).final := by rw [List.take_of_length_le (by omega), ho]; rfl
  have hl1 : (renum d).next.length = N := by rw [← hnx, hE.len]
  have hl2 : (renum d).final.length = k := by rw [← hfx, List.length_map, List.length_take]; omega
  refine ⟨[rowI rb rc 41 1 (vals qs), rowI fb9 fc9 4 1 (bools ((os.take k).map fun o => d.final.getD o false))] ++ itms 3 qs, (Sub.pickR [1, 0] [rowI fb9 fc9 4 1 (bools ((os.take k).map fun o => d.final.getD o false)), rowI rb rc 41 1 (vals qs), oI z1 25 [(.int .i64 d.vars), (.int .i64 d.start), (.slice nb d.next.length nc), (.slice fb d.final.length fc)], oI bC 41 [(.slice ob os.length oc)], rowI ob oc 3 1 (nats os), oI bD 23 [(.slice (some ⟨bB, 0, none⟩) d.next.length d.next.length)], rowI (some ⟨bB, 0, none⟩) d.next.length 4 1 (bools sn), oI z2 25 [(.int .i64 d.vars), (.int .i64 0), (.slice rb N rc), (.slice fb9 k fc9)]] (itms 3 qs) rfl rfl), rb, rc, fb9, fc9, qs, ?_, by rw [hfx], hnx⟩
  show Value.tuple #[Value.agg (List.toArray [.int .i64 d.vars, .int .i64 0, .slice rb N rc, .slice fb9 k fc9]), _] = Value.tuple #[Value.agg (List.toArray [.int .i64 d.vars, .int .i64 0, .slice rb (renum d).next.length rc, .slice fb9 (renum d).final.length fc9]), _]
  rw [hl1, hl2]
end Go.Proofs.YtnmfefmhfkhihaaDoor


namespace Go.Proofs.YtnmfefmhfkhihaaDoor
open Go.Lx Go.RowKit
set_option linter.unusedVariables false
set_option linter.unusedSimpArgs false
end Go.Proofs.YtnmfefmhfkhihaaDoor


namespace Go.Proofs.YtnmfefmhfkhihaaDoor
open Go.Lx Go.RowKit
set_option linter.unusedVariables false
set_option linter.unusedSimpArgs false
set_option maxHeartbeats 1000000 in
set_option maxRecDepth 20000 in
theorem cloneNil (w : World) [Tab Tryd.prog w] (c : Nat) :
    PureT Tryd.prog 44 [.slice none 0 c] w fun v N => ∃ b' c', v = .slice b' 0 c' ∧ N = [rowI b' c' 5 1 []] := by
  refine CallT.enter Tryd.func44 rfl Tryd.ntmps44 rfl ?_
  refine T.seq (T.region ?_)
  refine TO.quiet (q_assign rfl) ?_
  refine TO.nil (T.seq (T.seq (T.region ?_)))
  refine TO.quiet (q_move rfl) (TO.quiet (q_eqlNil Tryd.underlying29 rfl rfl) ?_)
  refine TO.nil ?_
  refine T.cond1 rfl ?_
  refine T.seq ?_
  refine T.nilRow 5 1 ?_
  refine T.region ?_
  refine TO.quiet (q_assign rfl) ?_
  refine TO.nil (T.ret ?_)
  refine Res.one (.slice none 0 0) Tryd.results44 rfl ?_
  exact ⟨_, _, rfl, rfl⟩
set_option maxHeartbeats 1000000 in
set_option maxRecDepth 20000 in
theorem cloneSome (w : World) [Tab Tryd.prog w] (a : Addr) (c : Nat) (xs : List Nat) (h1 : Sl w (some a) (byts xs)) (hb : xs.length * 1 ≤ 70368744177664) :
    PureT Tryd.prog 44 [.slice (some a) xs.length c] w fun v N => ∃ b' c', v = .slice b' xs.length c' ∧ N = [rowI b' c' 5 1 (byts xs)] := by
  refine CallT.enter Tryd.func44 rfl Tryd.ntmps44 rfl ?_
  refine T.seq (T.region ?_)
  refine TO.quiet (q_assign rfl) ?_
  refine TO.nil (T.seq (T.seq (T.region ?_)))
  refine TO.quiet (q_move rfl) (TO.quiet (q_eqlNil Tryd.underlying29 rfl rfl) ?_)
  refine TO.nil ?_
  refine T.cond0 rfl ?_
  refine T.skip (T.seq (T.region ?_))
  refine TO.loud rfl (l_buildSlice (m := 0) (parts := []) (cs := []) Tryd.underlying29 inf5 (by decide) (by simp [Instr.fill]) rfl (fun b1 => ?_))
  refine TO.quiet (q_move rfl) ?_
  refine TO.loud rfl (l_append 0 Tryd.underlying29 Tryd.underlying29 inf5 rfl rfl rfl rfl (by simp) (by decide) (Src.sl h1 (by simp)) (byts_one xs) (by omega) (by decide) (by decide) (fun b1 c2 => ?_))
  refine TO.quiet (q_assign rfl) ?_
  refine TO.nil (T.ret ?_)
  refine Res.one (.slice b1 (0 + xs.length) c2) Tryd.results44 rfl ?_
  exact ⟨_, _, by rw [Nat.zero_add], rfl⟩
theorem cloneC (w : World) [Tab Tryd.prog w] (b : Option Addr) (c : Nat) (xs : List Nat) (h1 : Sl w b (byts xs)) (hb : xs.length * 1 ≤ 70368744177664) :
    PureT Tryd.prog 44 [.slice b xs.length c] w fun v N => ∃ b' c', v = .slice b' xs.length c' ∧ N = [rowI b' c' 5 1 (byts xs)] := by
  cases b with
  | none =>
    have hx : xs = [] := by
      cases xs with
      | nil => rfl
      | cons x xs => obtain ⟨_, _, e⟩ := h1.addr (i := 0) (by simp); cases e
    subst hx
    exact cloneNil w c
  | some a => exact cloneSome w a c xs h1 hb
end Go.Proofs.YtnmfefmhfkhihaaDoor


namespace Go.Proofs.YtnmfefmhfkhihaaDoor
open Go.Lx Go.RowKit
set_option linter.unusedVariables false
set_option linter.unusedSimpArgs false
end Go.Proofs.YtnmfefmhfkhihaaDoor


namespace Go.Proofs.YtnmfefmhfkhihaaDoor
open Go.Lx Go.RowKit
set_option linter.unusedVariables false
set_option linter.unusedSimpArgs false
end Go.Proofs.YtnmfefmhfkhihaaDoor


namespace Go.Proofs.YtnmfefmhfkhihaaDoor
open Go.Lx Go.RowKit
set_option linter.unusedVariables false
set_option linter.unusedSimpArgs false
end Go.Proofs.YtnmfefmhfkhihaaDoor


namespace Go.Proofs.YtnmfefmhfkhihaaDoor
open Go.Lx Go.RowKit
set_option linter.unusedVariables false
set_option linter.unusedSimpArgs false
end Go.Proofs.YtnmfefmhfkhihaaDoor


namespace Go.Proofs.YtnmfefmhfkhihaaDoor
open Go.Lx Go.RowKit
set_option linter.unusedVariables false
set_option linter.unusedSimpArgs false
end Go.Proofs.YtnmfefmhfkhihaaDoor


namespace Go.Proofs.YtnmfefmhfkhihaaDoor
open Go.Lx Go.RowKit
set_option linter.unusedVariables false
set_option linter.unusedSimpArgs false
end Go.Proofs.YtnmfefmhfkhihaaDoor


namespace Go.Proofs.YtnmfefmhfkhihaaDoor
open Go.Lx Go.RowKit
set_option linter.unusedVariables false
set_option linter.unusedSimpArgs false
set_option maxHeartbeats 1000000 in
set_option maxRecDepth 20000 in
theorem countBad (w : World) [Tab Tryd.prog w] (a : DFA) (k : DK) (ha : At w a k) (haa : a.next.length < 9223372036854775807) (haar : ∀ r ∈ a.next, r.length < 9223372036854775807) (haaf : a.final.length < 9223372036854775807) (he : checkD a ≠ 0) (n : Int) :
    PureT Tryd.prog 22 [dV a k, .int .i64 n] w fun v N => v = .tuple #[.int .u64 0, .int .i64 (checkD a : Int)] ∧ N = [] := by
  refine CallT.enter Tryd.func22 rfl Tryd.ntmps22 rfl ?_
  refine T.seq (T.region ?_)
  refine TO.loud rfl (l_box (v := (dV a k)) (cs := (dC a k)) rfl rfl (fun bx1 => ?_))
  refine TO.quiet (q_assign rfl) (TO.quiet (q_assign rfl) ?_)
  refine TO.nil (T.seq (T.seq (T.region ?_)))
  refine TO.quiet (q_load_boxAgg 0 Tryd.underlying25 rfl inf25 rfl rfl rfl) ?_
  have hk17 := fun (w1 : World) (hI : Inv w [oI bx1 25 (dC a k)] w1) => (haveI := Inv.tab (P := Tryd.prog) hI; subsetCheck w1 a k.nb k.fb k.nc k.fc (vals k.qs) (hI.dfa ha) haa haar haaf)
  refine TO.loud rfl (l_call ent33 (CallT.of_pure hk17) rfl ?_)
  clear hk17
  rintro vr O' ⟨N, rfl, rfl, rfl⟩
  refine TO.quiet (q_assign rfl) ?_
  refine TO.nil (T.seq (T.region ?_))
  refine TO.quiet (q_move rfl) (TO.quiet (QT.toB (q_neq rfl rfl) (decide_eq_true (by omega))) ?_)
  refine TO.nil ?_
  refine T.cond1 rfl ?_
  refine T.seq (T.region ?_)
  refine TO.quiet (q_move rfl) (TO.quiet (q_assign rfl) (TO.quiet (q_assign rfl) ?_))
  refine TO.nil (T.ret (Res.drop ?_))
  refine Res.two (.int .u64 0) (.int .i64 (checkD a : Int)) Tryd.results22 rfl rfl ?_
  exact ⟨[], Sub.z, rfl, rfl⟩
set_option maxHeartbeats 1000000 in
set_option maxRecDepth 20000 in
theorem countLo (w : World) [Tab Tryd.prog w] (a : DFA) (k : DK) (ha : At w a k) (hv : Valid a) (n : Int) (hn : n < 0) :
    PureT Tryd.prog 22 [dV a k, .int .i64 n] w fun v N => v = .tuple #[.int .u64 0, .int .i64 1] ∧ N = [] := by
  refine CallT.enter Tryd.func22 rfl Tryd.ntmps22 rfl ?_
  have he := checkD_zero.2 hv
  have h4 := hv.n4
  have hww : letN a ≤ 64 := hv.width
  have hfin := hv.fin
  have hvl := ha.rows.1
  have hsl := start_lt hv.toVal
  have hs0 := hv.s0
  have hs1 := hv.s1
  refine T.seq (T.region ?_)
  refine TO.loud rfl (l_box (v := (dV a k)) (cs := (dC a k)) rfl rfl (fun bx1 => ?_))
  refine TO.quiet (q_assign rfl) (TO.quiet (q_assign rfl) ?_)
  refine TO.nil (T.seq (T.seq (T.region ?_)))
  refine TO.quiet (q_load_boxAgg 0 Tryd.underlying25 rfl inf25 rfl rfl rfl) ?_
  have hk17 := fun (w1 : World) (hI : Inv w [oI bx1 25 (dC a k)] w1) => (haveI := Inv.tab (P := Tryd.prog) hI; (show PureT _ _ _ _ _ from by
      have h9 := subsetCheck w1 a k.nb k.fb k.nc k.fc (vals k.qs) (hI.dfa ha) (by omega) hv.bound (by omega)
      rw [he] at h9
      exact h9))
  refine TO.loud rfl (l_call ent33 (CallT.of_pure hk17) rfl ?_)
  clear hk17
  rintro vr O' ⟨N, rfl, rfl, rfl⟩
  refine TO.quiet (q_assign rfl) ?_
  refine TO.nil (T.seq (T.region ?_))
  refine TO.quiet (q_move rfl) (TO.quiet (q_neq rfl rfl) ?_)
  refine TO.nil ?_
  refine T.cond0 rfl ?_
  refine T.skip (T.seq (T.seq (T.region ?_)))
  refine TO.quiet (q_move rfl) (TO.quiet (QT.toB (q_lss rfl rfl) (decide_eq_true (by omega))) (TO.quiet (q_move rfl) ?_))
  refine TO.passed rfl rfl ?_
  refine TO.passed rfl rfl ?_
  refine TO.quiet (q_pick1 rfl rfl) ?_
  refine TO.nil ?_
  refine T.cond1 rfl ?_
  refine T.seq (T.region ?_)
  refine TO.quiet (q_assign rfl) (TO.quiet (q_assign rfl) ?_)
  refine TO.nil (T.ret (Res.drop ?_))
  refine Res.two (.int .u64 0) (.int .i64 1) Tryd.results22 rfl rfl ?_
  exact ⟨[], Sub.z, rfl, rfl⟩
set_option maxHeartbeats 1000000 in
set_option maxRecDepth 20000 in
theorem countHi (w : World) [Tab Tryd.prog w] (a : DFA) (k : DK) (ha : At w a k) (hv : Valid a) (n : Int) (hn : 64 < n) :
    PureT Tryd.prog 22 [dV a k, .int .i64 n] w fun v N => v = .tuple #[.int .u64 0, .int .i64 1] ∧ N = [] := by
  refine CallT.enter Tryd.func22 rfl Tryd.ntmps22 rfl ?_
  have he := checkD_zero.2 hv
  have h4 := hv.n4
  have hww : letN a ≤ 64 := hv.width
  have hfin := hv.fin
  have hvl := ha.rows.1
  have hsl := start_lt hv.toVal
  have hs0 := hv.s0
  have hs1 := hv.s1
  refine T.seq (T.region ?_)
  refine TO.loud rfl (l_box (v := (dV a k)) (cs := (dC a k)) rfl rfl (fun bx1 => ?_))
  refine TO.quiet (q_assign rfl) (TO.quiet (q_assign rfl) ?_)
  refine TO.nil (T.seq (T.seq (T.region ?_)))
  refine TO.quiet (q_load_boxAgg 0 Tryd.underlying25 rfl inf25 rfl rfl rfl) ?_
  have hk17 := fun (w1 : World) (hI : Inv w [oI bx1 25 (dC a k)] w1) => (haveI := Inv.tab (P := Tryd.prog) hI; (show PureT _ _ _ _ _ from by
      have h9 := subsetCheck w1 a k.nb k.fb k.nc k.fc (vals k.qs) (hI.dfa ha) (by omega) hv.bound (by omega)
      rw [he] at h9
      exact h9))
  refine TO.loud rfl (l_call ent33 (CallT.of_pure hk17) rfl ?_)
  clear hk17
  rintro vr O' ⟨N, rfl, rfl, rfl⟩
  refine TO.quiet (q_assign rfl) ?_
  refine TO.nil (T.seq (T.region ?_))
  refine TO.quiet (q_move rfl) (TO.quiet (q_neq rfl rfl) ?_)
  refine TO.nil ?_
  refine T.cond0 rfl ?_
  refine T.skip (T.seq (T.seq (T.region ?_)))
  refine TO.quiet (q_move rfl) (TO.quiet (QT.toB (q_lss rfl rfl) (decide_eq_false (by omega))) (TO.quiet (q_move rfl) ?_))
  refine TO.guarded rfl rfl rfl (LT.of_quiet rfl rfl (q_move rfl) ?_)
  refine TO.guarded rfl rfl rfl (LT.of_quiet rfl rfl (QT.toB (q_gtr rfl rfl) (decide_eq_true (by omega))) ?_)
  refine TO.quiet (q_pick0 rfl rfl) ?_
  refine TO.nil ?_
  refine T.cond1 rfl ?_
  refine T.seq (T.region ?_)
  refine TO.quiet (q_assign rfl) (TO.quiet (q_assign rfl) ?_)
  refine TO.nil (T.ret (Res.drop ?_))
  refine Res.two (.int .u64 0) (.int .i64 1) Tryd.results22 rfl rfl ?_
  exact ⟨[], Sub.z, rfl, rfl⟩
set_option maxHeartbeats 8000000 in
set_option maxRecDepth 20000 in
theorem countOk (w : World) [Tab Tryd.prog w] (a : DFA) (k : DK) (ha : At w a k) (hv : Valid a) (n : Nat) (hn : n ≤ 64) :
    PureT Tryd.prog 22 [dV a k, .int .i64 ((n : Nat) : Int)] w fun v N => v = .tuple #[.int .u64 ((cntN a n a.start.toNat % 18446744073709551616 : Nat) : Int), .int .i64 0] ∧ N = [] := by
  refine CallT.enter Tryd.func22 rfl Tryd.ntmps22 rfl ?_
  have he := checkD_zero.2 hv
  have h4 := hv.n4
  have hww : letN a ≤ 64 := hv.width
  have hfin := hv.fin
  have hvl := ha.rows.1
  have hsl := start_lt hv.toVal
  have hs0 := hv.s0
  have hs1 := hv.s1
  have hs1 : a.start = ((a.start.toNat : Nat) : Int) := (Int.toNat_of_nonneg hv.s0).symm
  refine T.seq (T.region ?_)
  refine TO.loud rfl (l_box (v := (dV a k)) (cs := (dC a k)) rfl rfl (fun z1 => ?_))
  refine TO.quiet (q_assign rfl) (TO.quiet (q_assign rfl) ?_)
  refine TO.nil (T.seq (T.seq (T.region ?_)))
  refine TO.quiet (q_load_boxAgg 0 Tryd.underlying25 rfl inf25 rfl rfl rfl) ?_
  have hk17 := fun (w1 : World) (hI : Inv w [oI z1 25 (dC a k)] w1) => (haveI := Inv.tab (P := Tryd.prog) hI; (show PureT _ _ _ _ _ from by
      have h9 := subsetCheck w1 a k.nb k.fb k.nc k.fc (vals k.qs) (hI.dfa ha) (by omega) hv.bound (by omega)
      rw [he] at h9
      exact h9))
  refine TO.loud rfl (l_call ent33 (CallT.of_pure hk17) rfl ?_)
  clear hk17
  rintro vr O' ⟨N, rfl, rfl, rfl⟩
  refine TO.quiet (q_assign rfl) ?_
  refine TO.nil (T.seq (T.region ?_))
  refine TO.quiet (q_move rfl) (TO.quiet (q_neq rfl rfl) ?_)
  refine TO.nil ?_
  refine T.cond0 rfl ?_
  refine T.skip (T.seq (T.seq (T.region ?_)))
  refine TO.quiet (q_move rfl) (TO.quiet (QT.toB (q_lss rfl rfl) (decide_eq_false (by omega))) (TO.quiet (q_move rfl) ?_))
  refine TO.guarded rfl rfl rfl (LT.of_quiet rfl rfl (q_move rfl) ?_)
  refine TO.guarded rfl rfl rfl (LT.of_quiet rfl rfl (QT.toB (q_gtr rfl rfl) (decide_eq_false (by omega))) ?_)
  refine TO.quiet (q_pick0 rfl rfl) ?_
  refine TO.nil ?_
  refine T.cond0 rfl ?_
  refine T.skip (T.seq (T.region ?_))
  refine TO.quiet (q_fieldAddr Tryd.underlying25 rfl inf22 rfl rfl) (TO.quiet (q_load_box 0 Tryd.underlying22 rfl rfl rfl rfl) (TO.quiet (q_len Tryd.underlying22 rfl) ?_))
  refine TO.loud rfl (l_makeSlice (m := a.next.length) Tryd.underlying62 inf26 rfl rfl (by omega) (by omega) (fun z2 => ?_))
  refine TO.quiet (q_assign rfl) ?_
  refine TO.nil (T.seq (T.region ?_))
  refine TO.quiet (q_move rfl) (TO.quiet (q_fieldAddr Tryd.underlying25 rfl inf3 rfl rfl) (TO.quiet (q_load_box 1 Tryd.underlying3 rfl rfl rfl rfl) (TO.quiet (q_ixz (i := a.start) Tryd.underlying62 inf26 rfl rfl (rowO (List.mem_of_getElem? (i := 0) rfl)) hs0 hsl (by rw [List.length_replicate]; omega)) ?_)))
  refine TO.loud rfl (l_st (j := a.start.toNat) (v := .int .u64 1) (vs := [(.int .u64 1)]) (cs := List.replicate a.next.length (.int .u64 0)) 0 inf26 rfl rfl rfl rfl rfl (by simp) rfl (by rw [List.length_replicate]; simp; omega) ?_)
  refine TO.sub (O' := [rowI (some ⟨z2, 0, none⟩) a.next.length 26 1 (uns ((List.replicate a.next.length 0).set a.start.toNat 1)), oI z1 25 (dC a k)]) (by rw [show putL (List.replicate a.next.length (.int .u64 0)) a.start.toNat [(.int .u64 1)] = uns ((List.replicate a.next.length 0).set a.start.toNat 1) from by simp [putL]]; exact Sub.of (List.Sublist.refl _)) ?_
  refine TO.nil (T.seq (T.seq (T.region ?_)))
  refine TO.quiet (q_move rfl) (TO.quiet (q_move rfl) ?_)
  refine TO.nil (T.block ?_)
  refine T.loopS (fun (i : Nat) ρ O => ∃ (pb : Nat) (p : List Nat), O = [rowI (some ⟨pb, 0, none⟩) a.next.length 26 1 (uns p), oI z1 25 (dC a k)] ∧ i ≤ n ∧ PathI a n i p ∧ Heads [(0, (dV a k)), (1, .int .i64 ((n : Nat) : Int)), (2, (.pointer (some ⟨z1, 0, none⟩))), (4, .int .u64 0), (5, .int .i64 0), (6, .int .i64 0), (7, (.slice (some ⟨pb, 0, none⟩) a.next.length a.next.length)), (35, .int .i64 ((n : Nat) : Int)), (36, .int .i64 ((i : Nat) : Int))] ρ) (fun i => n - i) 0 ?_ ?_
  · exact ⟨z2, _, rfl, Nat.zero_le _, PathI.zero hsl n, ⟨rfl, rfl, rfl, rfl, rfl, rfl, rfl, rfl, rfl, trivial⟩⟩
  rintro i ρ O ⟨pb, p, rfl, hin, hp, hH⟩
  obtain ⟨ρ0, rfl⟩ := hH.elim
  clear hH
  have hpl := hp.len
  refine T.seq (T.region ?_)
  refine TO.quiet (q_lss rfl rfl) ?_
  refine TO.nil (T.seq ?_)
  refine T.condP rfl (fun hc => ?_) (fun hc => ?_)
  · have hlt37 : i < n := by omega
    refine T.skip (T.seq (T.block (T.seq (T.region ?_))))
    refine TO.quiet (q_move rfl) (TO.quiet (q_len Tryd.underlying62 rfl) ?_)
    refine TO.loud rfl (l_makeSlice (m := a.next.length) Tryd.underlying62 inf26 rfl rfl (by omega) (by omega) (fun z3 => ?_))
    refine TO.quiet (q_assign rfl) ?_
    refine TO.nil (T.seq (T.seq (T.region ?_)))
    refine TO.quiet (q_fieldAddr Tryd.underlying25 rfl inf22 rfl rfl) (TO.quiet (q_load_box 2 Tryd.underlying22 rfl rfl rfl rfl) (TO.quiet (q_len Tryd.underlying22 rfl) (TO.quiet (q_move rfl) ?_)))
    refine TO.nil (T.block ?_)
    refine T.loop (fun (s : Nat) ρ O => ∃ (q9 : List Nat), O = [rowI (some ⟨z3, 0, none⟩) a.next.length 26 1 (uns q9), rowI (some ⟨pb, 0, none⟩) a.next.length 26 1 (uns p), oI z1 25 (dC a k)] ∧ s ≤ a.next.length ∧ NextI a (n - (i + 1)) p q9 s 0 ∧ Heads [(0, (dV a k)), (1, .int .i64 ((n : Nat) : Int)), (2, (.pointer (some ⟨z1, 0, none⟩))), (4, .int .u64 0), (5, .int .i64 0), (6, .int .i64 0), (7, (.slice (some ⟨pb, 0, none⟩) a.next.length a.next.length)), (8, (.slice (some ⟨z3, 0, none⟩) a.next.length a.next.length)), (35, .int .i64 ((n : Nat) : Int)), (36, .int .i64 ((i : Nat) : Int)), (42, (.slice k.nb a.next.length k.nc)), (43, .int .i64 (a.next.length : Int)), (44, .int .i64 ((s : Nat) : Int))] ρ) (fun s => a.next.length - s) 0 ?_ ?_
    · exact ⟨List.replicate a.next.length 0, by simp, Nat.zero_le _, NextI.zero _ p, ⟨rfl, rfl, rfl, rfl, rfl, rfl, rfl, rfl, rfl, rfl, rfl, rfl, rfl, trivial⟩⟩
    rintro s ρ O ⟨q9, rfl, hs, hq, hH⟩
    obtain ⟨ρ0, rfl⟩ := hH.elim
    clear hH
    refine T.seq (T.region ?_)
    refine TO.quiet (q_lss rfl rfl) ?_
    refine TO.nil (T.seq ?_)
    refine T.condP rfl (fun hc => ?_) (fun hc => ?_)
    · have hlt45 : s < a.next.length := by omega
      obtain ⟨v1, c1, g1, s1⟩ := ha.rows.get hlt45
      have hl1 : a.next[s].length = letN a := hv.len _ (List.getElem_mem hlt45)
      refine T.skip (T.seq (T.block (T.seq (T.region ?_))))
      refine TO.quiet (q_move rfl) (TO.quiet (q_ix (i := s) Tryd.underlying22 inf41 rfl rfl (Sl.o ha.outer) hlt45 (hvl ▸ hlt45)) (TO.quiet (q_ld Tryd.underlying41 rfl rfl (Sl.o ha.outer) g1) (TO.quiet (q_assign rfl) ?_)))
      refine TO.quiet (q_assign rfl) ?_
      refine TO.nil (T.seq (T.region ?_))
      refine TO.quiet (q_move rfl) (TO.quiet (q_len Tryd.underlying41 rfl) (TO.quiet (q_move rfl) ?_))
      refine TO.nil (T.block ?_)
      refine T.loop (fun (x : Nat) ρ O => ∃ (q9 : List Nat), O = [rowI (some ⟨z3, 0, none⟩) a.next.length 26 1 (uns q9), rowI (some ⟨pb, 0, none⟩) a.next.length 26 1 (uns p), oI z1 25 (dC a k)] ∧ x ≤ letN a ∧ NextI a (n - (i + 1)) p q9 s x ∧ Heads [(0, (dV a k)), (1, .int .i64 ((n : Nat) : Int)), (2, (.pointer (some ⟨z1, 0, none⟩))), (4, .int .u64 0), (5, .int .i64 0), (6, .int .i64 0), (7, (.slice (some ⟨pb, 0, none⟩) a.next.length a.next.length)), (8, (.slice (some ⟨z3, 0, none⟩) a.next.length a.next.length)), (9, .int .i64 ((s : Nat) : Int)), (10, (.slice v1 a.next[s].length c1)), (35, .int .i64 ((n : Nat) : Int)), (36, .int .i64 ((i : Nat) : Int)), (42, (.slice k.nb a.next.length k.nc)), (43, .int .i64 (a.next.length : Int)), (44, .int .i64 ((s : Nat) : Int)), (49, (.slice v1 a.next[s].length c1)), (50, .int .i64 (a.next[s].length : Int)), (51, .int .i64 ((x : Nat) : Int))] ρ) (fun x => letN a - x) 0 ?_ ?_
      · exact ⟨q9, rfl, Nat.zero_le _, hq, ⟨rfl, rfl, rfl, rfl, rfl, rfl, rfl, rfl, rfl, rfl, rfl, rfl, rfl, rfl, rfl, rfl, rfl, rfl, trivial⟩⟩
      rintro x ρ O ⟨q9, rfl, hx, hq, hH⟩
      obtain ⟨ρ0, rfl⟩ := hH.elim
      clear hH
      have hql := hq.len
      refine T.seq (T.region ?_)
      refine TO.quiet (q_lss rfl rfl) ?_
      refine TO.nil (T.seq ?_)
      refine T.condP rfl (fun hc => ?_) (fun hc => ?_)
      · have hlt52 : x < a.next[s].length := by omega
        have hxl : x < letN a := by omega
        obtain ⟨hto, _, hxk1, hx1⟩ := hv.toN_lt hlt45 hxl
        have hx1 : (ints a.next[s])[x]? = some (.int .i64 ((toN a s x : Nat) : Int)) := by rw [ints_get hxk1, hx1]
        refine T.skip (T.seq (T.block (T.seq (T.region ?_))))
        refine TO.quiet (q_ix (i := x) Tryd.underlying41 inf3 rfl rfl (Sl.o s1) hxk1 (by rw [List.length_map]; exact hxk1)) (TO.quiet (q_ld Tryd.underlying3 rfl rfl (Sl.o s1) hx1) (TO.quiet (q_assign rfl) ?_))
        refine TO.nil ?_
        refine T.draws _ [(0, 0), (1, 0), (2, 0), (3, 0), (4, 0), (5, 0), (6, 0), (7, 0), (8, 0), (9, 0), (10, 2)] mixed (by kernel_rfl) (Sub.of (List.Sublist.refl _)) (fun _ _ _ h => h) ?_
        refine DO.quiet rfl (q_move rfl) (DO.quiet rfl (q_move rfl) (DO.quiet rfl (q_ix (i := (toN a s x)) Tryd.underlying62 inf26 rfl rfl (rowO (List.mem_of_getElem? (i := 0) rfl)) hto (by rw [List.length_map]; omega)) (DO.quiet rfl (q_ld Tryd.underlying26 rfl rfl (rowO (List.mem_of_getElem? (i := 0) rfl)) (uns_at (by omega))) ?_)))
        refine DO.quiet rfl (q_move rfl) (DO.quiet rfl (q_move rfl) (DO.quiet rfl (q_ix (i := s) Tryd.underlying62 inf26 rfl rfl (rowO (List.mem_of_getElem? (i := 1) rfl)) hlt45 (by rw [List.length_map]; omega)) (DO.quiet rfl (q_ld Tryd.underlying26 rfl rfl (rowO (List.mem_of_getElem? (i := 1) rfl)) (uns_at (by omega))) ?_)))
        refine DO.quiet rfl (q_addM rfl rfl) (DO.quiet rfl (q_ix (i := (toN a s x)) Tryd.underlying62 inf26 rfl rfl (rowO (List.mem_of_getElem? (i := 0) rfl)) hto (by rw [List.length_map]; omega)) ?_)
        refine DO.last rfl rfl (l_st (j := (toN a s x)) (v := .int .u64 ((((q9.getD (toN a s x) 0 + p.getD s 0) % 18446744073709551616) : Nat) : Int)) (vs := [(.int .u64 ((((q9.getD (toN a s x) 0 + p.getD s 0) % 18446744073709551616) : Nat) : Int))]) (cs := uns q9) 0 inf26 rfl rfl rfl rfl rfl (by simp) rfl (by rw [List.length_map]; simp; omega) ?_)
        refine DO.sub (O' := [rowI (some ⟨z3, 0, none⟩) a.next.length 26 1 (uns (q9.set (toN a s x) ((q9.getD (toN a s x) 0 + p.getD s 0) % 18446744073709551616))), rowI (some ⟨pb, 0, none⟩) a.next.length 26 1 (uns p), oI z1 25 (dC a k)]) (by rw [show putL (uns q9) (toN a s x) [(.int .u64 ((((q9.getD (toN a s x) 0 + p.getD s 0) % 18446744073709551616) : Nat) : Int))] = uns (q9.set (toN a s x) ((q9.getD (toN a s x) 0 + p.getD s 0) % 18446744073709551616)) from by simp [putL]]; exact Sub.of (List.Sublist.refl _)) ?_
        refine DO.done ?_
        refine T.region ?_
        refine TO.quiet (q_addN (a := x) (b := 1) rfl rfl (by omega)) (TO.quiet (q_move rfl) ?_)
        refine TO.nil ?_
        exact ⟨x + 1, by omega, _, rfl, by omega, hq.step hto, ⟨rfl, rfl, rfl, rfl, rfl, rfl, rfl, rfl, rfl, rfl, rfl, rfl, rfl, rfl, rfl, rfl, rfl, rfl, trivial⟩⟩
      have hge52 : ¬ x < a.next[s].length := by omega
      refine T.exit ?_
      refine T.region ?_
      refine TO.quiet (q_addN (a := s) (b := 1) rfl rfl (by omega)) (TO.quiet (q_move rfl) ?_)
      refine TO.nil ?_
      exact ⟨s + 1, by omega, q9, rfl, by omega, ((show x = letN a by omega) ▸ hq).row, ⟨rfl, rfl, rfl, rfl, rfl, rfl, rfl, rfl, rfl, rfl, rfl, rfl, rfl, trivial⟩⟩
    have hge45 : ¬ s < a.next.length := by omega
    refine T.exit ?_
    refine T.region ?_
    refine TO.quiet (q_move rfl) (TO.quiet (q_assign rfl) ?_)
    refine TO.nil (T.region ?_)
    refine TO.quiet (q_addN (a := i) (b := 1) rfl rfl (by omega)) (TO.quiet (q_move rfl) ?_)
    refine TO.nil ?_
    have hse : s = a.next.length := by omega
    exact ⟨i + 1, by omega, [rowI (some ⟨z3, 0, none⟩) a.next.length 26 1 (uns q9), oI z1 25 (dC a k)], (by exact Sub.k (.d (.k .z))), z3, q9, rfl, by omega, NextI.done hlt37 hp (hse ▸ hq), ⟨rfl, rfl, rfl, rfl, rfl, rfl, rfl, rfl, rfl, trivial⟩⟩
  have hge37 : ¬ i < n := by omega
  refine T.exit ?_
  refine T.seq (T.region ?_)
  refine TO.quiet (q_assign rfl) ?_
  refine TO.nil (T.seq (T.seq (T.region ?_)))
  refine TO.quiet (q_move rfl) (TO.quiet (q_len Tryd.underlying62 rfl) (TO.quiet (q_move rfl) ?_))
  refine TO.nil (T.block ?_)
  have hie : i = n := by omega
  rw [hie] at hp
  refine T.loop (fun (s : Nat) ρ O => O = [rowI (some ⟨pb, 0, none⟩) a.next.length 26 1 (uns p), oI z1 25 (dC a k)] ∧ s ≤ a.next.length ∧ Heads [(0, (dV a k)), (1, .int .i64 ((n : Nat) : Int)), (2, (.pointer (some ⟨z1, 0, none⟩))), (4, .int .u64 0), (5, .int .i64 0), (6, .int .i64 0), (7, (.slice (some ⟨pb, 0, none⟩) a.next.length a.next.length)), (13, .int .u64 ((finS a p s : Nat) : Int)), (69, (.slice (some ⟨pb, 0, none⟩) a.next.length a.next.length)), (70, .int .i64 (a.next.length : Int)), (71, .int .i64 ((s : Nat) : Int))] ρ) (fun s => a.next.length - s) 0 ?_ ?_
  · exact ⟨rfl, Nat.zero_le _, ⟨rfl, rfl, rfl, rfl, rfl, rfl, rfl, rfl, rfl, rfl, rfl, trivial⟩⟩
  rintro s ρ O ⟨rfl, hs, hH⟩
  obtain ⟨ρ0, rfl⟩ := hH.elim
  clear hH
  refine T.seq (T.region ?_)
  refine TO.quiet (q_lss rfl rfl) ?_
  refine TO.nil (T.seq ?_)
  refine T.condP rfl (fun hc => ?_) (fun hc => ?_)
  · have hlt72 : s < a.next.length := by omega
    refine T.skip (T.seq (T.block (T.seq (T.region ?_))))
    refine TO.quiet (q_move rfl) (TO.quiet (q_ix (i := s) Tryd.underlying62 inf26 rfl rfl (rowO (List.mem_of_getElem? (i := 0) rfl)) hlt72 (by rw [List.length_map]; omega)) (TO.quiet (q_ld Tryd.underlying26 rfl rfl (rowO (List.mem_of_getElem? (i := 0) rfl)) (uns_at (by omega))) (TO.quiet (q_assign rfl) ?_)))
    refine TO.quiet (q_assign rfl) ?_
    refine TO.nil (T.seq (T.region ?_))
    refine TO.quiet (q_fieldAddr Tryd.underlying25 rfl inf23 rfl rfl) (TO.quiet (q_load_box 1 Tryd.underlying23 rfl rfl rfl rfl) (TO.quiet (q_move rfl) (TO.quiet (q_ix (i := s) Tryd.underlying23 inf4 rfl rfl (Sl.o ha.final) (by omega) (by rw [List.length_map]; omega)) ?_)))
    refine TO.quiet (q_ld Tryd.underlying4 rfl rfl (Sl.o ha.final) (bools_get (by omega))) ?_
    refine TO.nil ?_
    refine T.cond rfl (fun hc => ?_) (fun hc => ?_)
    · have hfn : finN a s = true := by rw [← hc]; simp [finN, show s < a.final.length by omega]
      refine T.region ?_
      refine TO.quiet (q_move rfl) (TO.quiet (q_move rfl) (TO.quiet (q_addM rfl rfl) (TO.quiet (q_assign rfl) ?_)))
      refine TO.nil (T.region ?_)
      refine TO.quiet (q_addN (a := s) (b := 1) rfl rfl (by omega)) (TO.quiet (q_move rfl) ?_)
      refine TO.nil ?_
      exact ⟨s + 1, by omega, rfl, by omega, ⟨rfl, rfl, rfl, rfl, rfl, rfl, rfl, (congrArg (fun n : Nat => Value.int .u64 (n : Int)) (finS_yes hfn)), rfl, rfl, rfl, trivial⟩⟩
    have hfn : finN a s = false := by rw [← hc]; simp [finN, show s < a.final.length by omega]
    refine T.skip (T.region ?_)
    refine TO.quiet (q_addN (a := s) (b := 1) rfl rfl (by omega)) (TO.quiet (q_move rfl) ?_)
    refine TO.nil ?_
    exact ⟨s + 1, by omega, rfl, by omega, ⟨rfl, rfl, rfl, rfl, rfl, rfl, rfl, (congrArg (fun n : Nat => Value.int .u64 (n : Int)) (finS_no hfn)), rfl, rfl, rfl, trivial⟩⟩
  have hge72 : ¬ s < a.next.length := by omega
  refine T.exit ?_
  refine T.seq (T.region ?_)
  refine TO.quiet (q_move rfl) (TO.quiet (q_assign rfl) (TO.quiet (q_assign rfl) ?_))
  refine TO.nil (T.ret (Res.drop ?_))
  refine Res.two (.int .u64 ((finS a p s : Nat) : Int)) (.int .i64 0) Tryd.results22 rfl rfl ?_
  have hse : s = a.next.length := by omega
  subst hse
  exact ⟨[], Sub.z, by rw [hp.end], rfl⟩
theorem countC (w : World) [Tab Tryd.prog w] (a : DFA) (k : DK) (ha : At w a k) (haa : a.next.length < 9223372036854775807) (haar : ∀ r ∈ a.next, r.length < 9223372036854775807) (haaf : a.final.length < 9223372036854775807) (n : Int) :
    PureT Tryd.prog 22 [dV a k, .int .i64 n] w fun v N => v = .tuple #[.int .u64 ((cntV a n : Nat) : Int), .int .i64 ((cntE a n : Nat) : Int)] ∧ N = [] := by
  unfold cntV cntE
  by_cases he : checkD a ≠ 0
  · rw [if_pos he, if_neg he]
    exact countBad w a k ha haa haar haaf he n
  · have hv : Valid a := checkD_zero.1 (by omega)
    rw [if_neg he]
    by_cases hn : n < 0 ∨ 64 < n
    · rw [if_pos hn, if_neg (by decide)]
      rcases hn with h | h
      · exact countLo w a k ha hv n h
      · exact countHi w a k ha hv n h
    · rw [if_neg hn, if_pos rfl]
      obtain ⟨m, rfl⟩ : ∃ m : Nat, n = (m : Int) := ⟨n.toNat, by omega⟩
      exact countOk w a k ha hv m (by omega)
end Go.Proofs.YtnmfefmhfkhihaaDoor


namespace Go.Proofs.YtnmfefmhfkhihaaDoor
open Go.Lx Go.RowKit
set_option linter.unusedVariables false
set_option linter.unusedSimpArgs false
set_option maxHeartbeats 8000000 in
set_option maxRecDepth 20000 in
theorem tableN (w : World) [Tab Tryd.prog w] (a : DFA) (k : DK) (ha : At w a k) (hv : Valid a) :
    PureT Tryd.prog 42 [dV a k] w fun v N => ∃ tb us, TabOk a us ∧ v = .slice tb 65 65 ∧ N = [rowI tb 65 62 1 (uvals us)] ++ uitms 26 us := by
  refine CallT.enter Tryd.func42 rfl Tryd.ntmps42 rfl ?_
  have he := checkD_zero.2 hv
  have h4 := hv.n4
  have hww : letN a ≤ 64 := hv.width
  have hfin := hv.fin
  have hvl := ha.rows.1
  have hsl := start_lt hv.toVal
  have hs0 := hv.s0
  have hs1 := hv.s1
  refine T.seq (T.region ?_)
  refine TO.loud rfl (l_box (v := (dV a k)) (cs := (dC a k)) rfl rfl (fun z1 => ?_))
  refine TO.quiet (q_assign rfl) ?_
  refine TO.nil (T.seq (T.region ?_))
  refine TO.loud rfl (l_makeSlice (m := 65) Tryd.underlying64 inf62 rfl rfl (by omega) (by omega) (fun z2 => ?_))
  refine TO.quiet (q_assign rfl) ?_
  refine TO.nil (T.seq (T.seq (T.region ?_)))
  refine TO.quiet (q_move rfl) (TO.quiet (q_len Tryd.underlying64 rfl) (TO.quiet (q_move rfl) ?_))
  refine TO.nil (T.block ?_)
  refine T.loop (fun (n : Nat) ρ O => ∃ (us : List URec), O = ([rowI (some ⟨z2, 0, none⟩) 65 62 1 (uvals us ++ List.replicate (65 - n) (.slice none 0 0)), oI z1 25 (dC a k)] ++ (uitms 26 us)) ∧ n ≤ 65 ∧ us.map URec.xs = (List.range n).map (tabR a) ∧ Heads [(0, (dV a k)), (1, (.pointer (some ⟨z1, 0, none⟩))), (2, (.slice none 0 0)), (3, (.slice (some ⟨z2, 0, none⟩) 65 65)), (11, (.slice (some ⟨z2, 0, none⟩) 65 65)), (12, .int .i64 (65 : Int)), (13, .int .i64 ((n : Nat) : Int))] ρ) (fun n => 65 - n) 0 ?_ ?_
  · exact ⟨[], rfl, Nat.zero_le _, rfl, ⟨rfl, rfl, rfl, rfl, rfl, rfl, rfl, trivial⟩⟩
  rintro n ρ O ⟨us, rfl, hn, hus, hH⟩
  obtain ⟨ρ0, rfl⟩ := hH.elim
  clear hH
  have hul : us.length = n := by have := congrArg List.length hus; simpa using this
  refine T.seq (T.region ?_)
  refine TO.quiet (q_lss rfl rfl) ?_
  refine TO.nil (T.seq ?_)
  refine T.condP rfl (fun hc => ?_) (fun hc => ?_)
  · have hlt14 : n < 65 := by omega
    refine T.skip (T.seq (T.block (T.seq (T.region ?_))))
    refine TO.quiet (q_move rfl) (TO.quiet (q_assign rfl) ?_)
    refine TO.nil (T.seq (T.region ?_))
    refine TO.quiet (q_move rfl) (TO.quiet (q_move rfl) (TO.quiet (q_fieldAddr Tryd.underlying25 rfl inf22 rfl rfl) (TO.quiet (q_load_box 1 Tryd.underlying22 rfl rfl rfl rfl) ?_)))
    refine TO.quiet (q_len Tryd.underlying22 rfl) ?_
    refine TO.loud rfl (l_makeSlice (m := a.next.length) Tryd.underlying62 inf26 rfl rfl (by omega) (by omega) (fun z3 => ?_))
    refine TO.quiet (q_ix (i := n) Tryd.underlying64 inf62 rfl rfl (rowO (List.mem_of_getElem? (i := 1) rfl)) hlt14 (by rw [List.length_append, List.length_map, List.length_replicate]; omega)) ?_
    refine TO.loud rfl (l_st (j := n) (v := (.slice (some ⟨z3, 0, none⟩) a.next.length a.next.length)) (vs := [(.slice (some ⟨z3, 0, none⟩) a.next.length a.next.length)]) (cs := uvals us ++ List.replicate (65 - n) (.slice none 0 0)) 1 inf62 rfl rfl rfl rfl rfl (by simp) rfl (by rw [List.length_append, List.length_map, List.length_replicate]; simp; omega) ?_)
    refine TO.sub (O' := ([rowI (some ⟨z3, 0, none⟩) a.next.length 26 1 (List.replicate a.next.length (.int .u64 0)), rowI (some ⟨z2, 0, none⟩) 65 62 1 (uvals us ++ ((.slice (some ⟨z3, 0, none⟩) a.next.length a.next.length) :: List.replicate (65 - 1 - n) (.slice none 0 0))), oI z1 25 (dC a k)] ++ (uitms 26 us))) (by rw [show putL (uvals us ++ List.replicate (65 - n) (.slice none 0 0)) n [(.slice (some ⟨z3, 0, none⟩) a.next.length a.next.length)] = uvals us ++ ((.slice (some ⟨z3, 0, none⟩) a.next.length a.next.length) :: List.replicate (65 - 1 - n) (.slice none 0 0)) from tput hul hlt14]; exact Sub.of (List.Sublist.refl _)) ?_
    refine TO.nil (T.seq (T.region ?_))
    refine TO.quiet (q_fieldAddr Tryd.underlying25 rfl inf22 rfl rfl) (TO.quiet (q_load_box 2 Tryd.underlying22 rfl rfl rfl rfl) (TO.quiet (q_len Tryd.underlying22 rfl) (TO.quiet (q_move rfl) ?_)))
    refine TO.nil (T.block ?_)
    refine T.loop (fun (s : Nat) ρ O => O = ([rowI (some ⟨z3, 0, none⟩) a.next.length 26 1 (uns (tabX a n s 0)), rowI (some ⟨z2, 0, none⟩) 65 62 1 (uvals us ++ ((.slice (some ⟨z3, 0, none⟩) a.next.length a.next.length) :: List.replicate (65 - 1 - n) (.slice none 0 0))), oI z1 25 (dC a k)] ++ (uitms 26 us)) ∧ s ≤ a.next.length ∧ Heads [(0, (dV a k)), (1, (.pointer (some ⟨z1, 0, none⟩))), (2, (.slice none 0 0)), (3, (.slice (some ⟨z2, 0, none⟩) 65 65)), (4, .int .i64 ((n : Nat) : Int)), (11, (.slice (some ⟨z2, 0, none⟩) 65 65)), (12, .int .i64 (65 : Int)), (13, .int .i64 ((n : Nat) : Int)), (24, (.slice k.nb a.next.length k.nc)), (25, .int .i64 (a.next.length : Int)), (26, .int .i64 ((s : Nat) : Int))] ρ) (fun s => a.next.length - s) 0 ?_ ?_
    · exact ⟨by rw [tabX_zero], Nat.zero_le _, ⟨rfl, rfl, rfl, rfl, rfl, rfl, rfl, rfl, rfl, rfl, rfl, trivial⟩⟩
    rintro s ρ O ⟨rfl, hs, hH⟩
    obtain ⟨ρ0, rfl⟩ := hH.elim
    clear hH
    refine T.seq (T.region ?_)
    refine TO.quiet (q_lss rfl rfl) ?_
    refine TO.nil (T.seq ?_)
    refine T.condP rfl (fun hc => ?_) (fun hc => ?_)
    · have hlt27 : s < a.next.length := by omega
      obtain ⟨v1, c1, g1, s1⟩ := ha.rows.get hlt27
      have hl1 : a.next[s].length = letN a := hv.len _ (List.getElem_mem hlt27)
      refine T.skip (T.seq (T.block (T.seq (T.region ?_))))
      refine TO.quiet (q_move rfl) (TO.quiet (q_ix (i := s) Tryd.underlying22 inf41 rfl rfl (Sl.o ha.outer) hlt27 (hvl ▸ hlt27)) (TO.quiet (q_ld Tryd.underlying41 rfl rfl (Sl.o ha.outer) g1) (TO.quiet (q_assign rfl) ?_)))
      refine TO.quiet (q_assign rfl) ?_
      refine TO.nil (T.block (T.seq (T.region ?_)))
      refine TO.quiet (q_move rfl) (TO.quiet (q_gtr rfl rfl) (TO.quiet (q_assign rfl) ?_))
      refine TO.nil ?_
      refine T.condP rfl (fun hc => ?_) (fun hc => ?_)
      · have hlt31 : n > 0 := by omega
        obtain ⟨m, hm⟩ : ∃ m, n = m + 1 := ⟨n - 1, by omega⟩
        obtain ⟨q0, hq0⟩ : ∃ q, us[m]? = some q := ⟨us[m]'(by omega), List.getElem?_eq_getElem (by omega)⟩
        have hxq : q0.xs = tabR a m := by
          have h9 := congrArg (·[m]?) hus
          simp only [List.getElem?_map, hq0, List.getElem?_range (show m < n by omega), Option.map_some] at h9
          exact Option.some.inj h9
        refine T.seq (T.region ?_)
        refine TO.quiet (q_move rfl) (TO.quiet (q_len Tryd.underlying41 rfl) (TO.quiet (q_move rfl) ?_))
        refine TO.nil (T.block ?_)
        refine T.loop (fun (x : Nat) ρ O => O = ([rowI (some ⟨z3, 0, none⟩) a.next.length 26 1 (uns (tabX a n s x)), rowI (some ⟨z2, 0, none⟩) 65 62 1 (uvals us ++ ((.slice (some ⟨z3, 0, none⟩) a.next.length a.next.length) :: List.replicate (65 - 1 - n) (.slice none 0 0))), oI z1 25 (dC a k)] ++ (uitms 26 us)) ∧ x ≤ letN a ∧ Heads [(0, (dV a k)), (1, (.pointer (some ⟨z1, 0, none⟩))), (2, (.slice none 0 0)), (3, (.slice (some ⟨z2, 0, none⟩) 65 65)), (4, .int .i64 ((n : Nat) : Int)), (5, .int .i64 ((s : Nat) : Int)), (6, (.slice v1 a.next[s].length c1)), (11, (.slice (some ⟨z2, 0, none⟩) 65 65)), (12, .int .i64 (65 : Int)), (13, .int .i64 ((n : Nat) : Int)), (24, (.slice k.nb a.next.length k.nc)), (25, .int .i64 (a.next.length : Int)), (26, .int .i64 ((s : Nat) : Int)), (31, .bool (decide (((n : Nat) : Int) > 0))), (34, (.slice v1 a.next[s].length c1)), (35, .int .i64 (a.next[s].length : Int)), (36, .int .i64 ((x : Nat) : Int))] ρ) (fun x => letN a - x) 0 ?_ ?_
        · exact ⟨rfl, Nat.zero_le _, ⟨rfl, rfl, rfl, rfl, rfl, rfl, rfl, rfl, rfl, rfl, rfl, rfl, rfl, rfl, rfl, rfl, rfl, trivial⟩⟩
        rintro x ρ O ⟨rfl, hx, hH⟩
        obtain ⟨ρ0, rfl⟩ := hH.elim
        clear hH
        refine T.seq (T.region ?_)
        refine TO.quiet (q_lss rfl rfl) ?_
        refine TO.nil (T.seq ?_)
        refine T.condP rfl (fun hc => ?_) (fun hc => ?_)
        · have hlt37 : x < a.next[s].length := by omega
          have hxl : x < letN a := by omega
          obtain ⟨hto, _, hxk1, hx1⟩ := hv.toN_lt hlt27 hxl
          have hx1 : (ints a.next[s])[x]? = some (.int .i64 ((toN a s x : Nat) : Int)) := by rw [ints_get hxk1, hx1]
          refine T.skip (T.seq (T.block (T.seq (T.region ?_))))
          refine TO.quiet (q_ix (i := x) Tryd.underlying41 inf3 rfl rfl (Sl.o s1) hxk1 (by rw [List.length_map]; exact hxk1)) (TO.quiet (q_ld Tryd.underlying3 rfl rfl (Sl.o s1) hx1) (TO.quiet (q_assign rfl) ?_))
          refine TO.nil (T.seq ?_)
          refine T.draws _ [(0, 0), (1, 0), (2, 0), (3, 0), (4, 0), (5, 0), (6, 0), (7, 0), (8, 0), (9, 0), (10, 0), (11, 0), (12, 0), (13, 0), (14, 0), (15, 0), (16, 0)] mixed (drawF_ok (by kernel_rfl)) (Sub.of (List.Sublist.refl _)) (fun _ _ _ h => h) ?_
          refine DO.quiet rfl (q_move rfl) (DO.quiet rfl (q_move rfl) (DO.quiet rfl (q_ix (i := n) Tryd.underlying64 inf62 rfl rfl (rowO (List.mem_of_getElem? (i := 1) rfl)) hlt14 (by rw [List.length_append, List.length_cons, List.length_map, List.length_replicate]; omega)) (DO.quiet rfl (q_ld Tryd.underlying62 rfl rfl (rowO (List.mem_of_getElem? (i := 1) rfl)) (tget_at hul)) ?_)))
          refine DO.quiet rfl (q_move rfl) (DO.quiet rfl (q_ix (i := s) Tryd.underlying62 inf26 rfl rfl (rowO (List.mem_of_getElem? (i := 0) rfl)) hlt27 (by rw [List.length_map, tabX_len]; omega)) (DO.quiet rfl (q_ld Tryd.underlying26 rfl rfl (rowO (List.mem_of_getElem? (i := 0) rfl)) (tabX_at hm hlt27)) (DO.quiet rfl (q_move rfl) ?_)))
          refine DO.quiet rfl (q_move rfl) (DO.quiet rfl (QT.cast (q_sub64 rfl rfl (by omega)) (v' := .int .i64 ((m : Nat) : Int)) (congrArg (Value.int .i64) (by omega))) (DO.quiet rfl (q_ix (i := m) Tryd.underlying64 inf62 rfl rfl (rowO (List.mem_of_getElem? (i := 1) rfl)) (by omega) (by rw [List.length_append, List.length_cons, List.length_map, List.length_replicate]; omega)) (DO.quiet rfl (q_ld Tryd.underlying62 rfl rfl (rowO (List.mem_of_getElem? (i := 1) rfl)) (tget_lt hq0)) ?_)))
          refine DO.quiet rfl (q_move rfl) (DO.quiet rfl (q_ix (i := (toN a s x)) Tryd.underlying62 inf26 rfl rfl (hxq ▸ uitmO (List.mem_append_right _ (List.mem_map_of_mem (List.mem_of_getElem? hq0)))) (by rw [hxq, tabR_len]; exact hto) (by rw [List.length_map, tabR_len]; exact hto)) (DO.quiet rfl (q_ld Tryd.underlying26 rfl rfl (hxq ▸ uitmO (List.mem_append_right _ (List.mem_map_of_mem (List.mem_of_getElem? hq0)))) (tabR_get hto)) (DO.quiet rfl (q_addM rfl rfl) ?_)))
          refine DO.quiet rfl (q_assign rfl) ?_
          refine DO.done ?_
          refine T.seq (T.seq (T.region ?_))
          refine TO.quiet (q_move rfl) (TO.quiet (q_move rfl) (TO.quiet (q_move rfl) (TO.quiet (q_ix (i := n) Tryd.underlying64 inf62 rfl rfl (rowO (List.mem_of_getElem? (i := 1) rfl)) hlt14 (by rw [List.length_append, List.length_cons, List.length_map, List.length_replicate]; omega)) ?_)))
          refine TO.quiet (q_ld Tryd.underlying62 rfl rfl (rowO (List.mem_of_getElem? (i := 1) rfl)) (tget_at hul)) (TO.quiet (q_move rfl) (TO.quiet (q_ix (i := s) Tryd.underlying62 inf26 rfl rfl (rowO (List.mem_of_getElem? (i := 0) rfl)) hlt27 (by rw [List.length_map, tabX_len]; omega)) (TO.quiet (q_ld Tryd.underlying26 rfl rfl (rowO (List.mem_of_getElem? (i := 0) rfl)) (tabX_at hm hlt27)) ?_)))
          refine TO.quiet (q_lss rfl rfl) ?_
          refine TO.nil ?_
          refine T.condP rfl (fun hc => ?_) (fun hc => ?_)
          · have hlt64 : ((psat 18446744073709551615 a m s x + satN 18446744073709551615 a m (toN a s x)) % 18446744073709551616) < psat 18446744073709551615 a m s x := by omega
            have hov : ((psat 18446744073709551615 a m s x + satN 18446744073709551615 a m (toN a s x)) % 18446744073709551616) < psat 18446744073709551615 a m s x := by omega
            refine T.region ?_
            refine TO.quiet (q_assign rfl) ?_
            refine TO.nil (T.region ?_)
            refine TO.quiet (q_move rfl) (TO.quiet (q_move rfl) (TO.quiet (q_ix (i := n) Tryd.underlying64 inf62 rfl rfl (rowO (List.mem_of_getElem? (i := 1) rfl)) hlt14 (by rw [List.length_append, List.length_cons, List.length_map, List.length_replicate]; omega)) (TO.quiet (q_ld Tryd.underlying62 rfl rfl (rowO (List.mem_of_getElem? (i := 1) rfl)) (tget_at hul)) ?_)))
            refine TO.quiet (q_move rfl) (TO.quiet (q_move rfl) (TO.quiet (q_ix (i := s) Tryd.underlying62 inf26 rfl rfl (rowO (List.mem_of_getElem? (i := 0) rfl)) hlt27 (by rw [List.length_map, tabX_len]; omega)) ?_))
            refine TO.loud rfl (l_st (j := s) (v := .int .u64 18446744073709551615) (vs := [(.int .u64 18446744073709551615)]) (cs := uns (tabX a n s x)) 0 inf26 rfl rfl rfl rfl rfl (by simp) rfl (by rw [List.length_map, tabX_len]; simp; omega) ?_)
            refine TO.sub (O' := ([rowI (some ⟨z3, 0, none⟩) a.next.length 26 1 (uns ((tabX a n s x).set s 18446744073709551615)), rowI (some ⟨z2, 0, none⟩) 65 62 1 (uvals us ++ ((.slice (some ⟨z3, 0, none⟩) a.next.length a.next.length) :: List.replicate (65 - 1 - n) (.slice none 0 0))), oI z1 25 (dC a k)] ++ (uitms 26 us))) (by rw [show putL (uns (tabX a n s x)) s [(.int .u64 18446744073709551615)] = uns ((tabX a n s x).set s 18446744073709551615) from by simp [putL]]; exact Sub.of (List.Sublist.refl _)) ?_
            refine TO.nil (T.region ?_)
            refine TO.quiet (q_addN (a := x) (b := 1) rfl rfl (by omega)) (TO.quiet (q_move rfl) ?_)
            refine TO.nil ?_
            exact ⟨x + 1, by omega, by rw [tabX_set hm hlt27 (psat_hit hov).symm], by omega, ⟨rfl, rfl, rfl, rfl, rfl, rfl, rfl, rfl, rfl, rfl, rfl, rfl, rfl, rfl, rfl, rfl, rfl, trivial⟩⟩
          have hge64 : ¬ ((psat 18446744073709551615 a m s x + satN 18446744073709551615 a m (toN a s x)) % 18446744073709551616) < psat 18446744073709551615 a m s x := by omega
          have hov : ¬ ((psat 18446744073709551615 a m s x + satN 18446744073709551615 a m (toN a s x)) % 18446744073709551616) < psat 18446744073709551615 a m s x := by omega
          refine T.skip (T.region ?_)
          refine TO.quiet (q_move rfl) (TO.quiet (q_move rfl) (TO.quiet (q_ix (i := n) Tryd.underlying64 inf62 rfl rfl (rowO (List.mem_of_getElem? (i := 1) rfl)) hlt14 (by rw [List.length_append, List.length_cons, List.length_map, List.length_replicate]; omega)) (TO.quiet (q_ld Tryd.underlying62 rfl rfl (rowO (List.mem_of_getElem? (i := 1) rfl)) (tget_at hul)) ?_)))
          refine TO.quiet (q_move rfl) (TO.quiet (q_move rfl) (TO.quiet (q_ix (i := s) Tryd.underlying62 inf26 rfl rfl (rowO (List.mem_of_getElem? (i := 0) rfl)) hlt27 (by rw [List.length_map, tabX_len]; omega)) ?_))
          refine TO.loud rfl (l_st (j := s) (v := .int .u64 ((((psat 18446744073709551615 a m s x + satN 18446744073709551615 a m (toN a s x)) % 18446744073709551616) : Nat) : Int)) (vs := [(.int .u64 ((((psat 18446744073709551615 a m s x + satN 18446744073709551615 a m (toN a s x)) % 18446744073709551616) : Nat) : Int))]) (cs := uns (tabX a n s x)) 0 inf26 rfl rfl rfl rfl rfl (by simp) rfl (by rw [List.length_map, tabX_len]; simp; omega) ?_)
          refine TO.sub (O' := ([rowI (some ⟨z3, 0, none⟩) a.next.length 26 1 (uns ((tabX a n s x).set s ((psat 18446744073709551615 a m s x + satN 18446744073709551615 a m (toN a s x)) % 18446744073709551616))), rowI (some ⟨z2, 0, none⟩) 65 62 1 (uvals us ++ ((.slice (some ⟨z3, 0, none⟩) a.next.length a.next.length) :: List.replicate (65 - 1 - n) (.slice none 0 0))), oI z1 25 (dC a k)] ++ (uitms 26 us))) (by rw [show putL (uns (tabX a n s x)) s [(.int .u64 ((((psat 18446744073709551615 a m s x + satN 18446744073709551615 a m (toN a s x)) % 18446744073709551616) : Nat) : Int))] = uns ((tabX a n s x).set s ((psat 18446744073709551615 a m s x + satN 18446744073709551615 a m (toN a s x)) % 18446744073709551616)) from by simp [putL]]; exact Sub.of (List.Sublist.refl _)) ?_
          refine TO.nil (T.region ?_)
          refine TO.quiet (q_addN (a := x) (b := 1) rfl rfl (by omega)) (TO.quiet (q_move rfl) ?_)
          refine TO.nil ?_
          exact ⟨x + 1, by omega, by rw [tabX_set hm hlt27 (psat_miss hov).symm], by omega, ⟨rfl, rfl, rfl, rfl, rfl, rfl, rfl, rfl, rfl, rfl, rfl, rfl, rfl, rfl, rfl, rfl, rfl, trivial⟩⟩
        have hge37 : ¬ x < a.next[s].length := by omega
        refine T.exit ?_
        refine T.region ?_
        refine TO.quiet (q_addN (a := s) (b := 1) rfl rfl (by omega)) (TO.quiet (q_move rfl) ?_)
        refine TO.nil ?_
        exact ⟨s + 1, by omega, by rw [tabX_row hm (show x = letN a by omega)], by omega, ⟨rfl, rfl, rfl, rfl, rfl, rfl, rfl, rfl, rfl, rfl, rfl, trivial⟩⟩
      have hge31 : ¬ n > 0 := by omega
      have hn0 : n = 0 := by omega
      refine T.seq (T.region ?_)
      refine TO.quiet (q_fieldAddr Tryd.underlying25 rfl inf23 rfl rfl) (TO.quiet (q_load_box 2 Tryd.underlying23 rfl rfl rfl rfl) (TO.quiet (q_move rfl) (TO.quiet (q_ix (i := s) Tryd.underlying23 inf4 rfl rfl (Sl.o ha.final) (by omega) (by rw [List.length_map]; omega)) ?_)))
      refine TO.quiet (q_ld Tryd.underlying4 rfl rfl (Sl.o ha.final) (bools_get (by omega))) (TO.quiet (q_assign rfl) ?_)
      refine TO.nil ?_
      refine T.cond rfl (fun hc => ?_) (fun hc => ?_)
      · have hfn : finN a s = true := by rw [← hc]; simp [finN, show s < a.final.length by omega]
        refine T.region ?_
        refine TO.quiet (q_move rfl) (TO.quiet (q_move rfl) (TO.quiet (q_ix (i := n) Tryd.underlying64 inf62 rfl rfl (rowO (List.mem_of_getElem? (i := 1) rfl)) hlt14 (by rw [List.length_append, List.length_cons, List.length_map, List.length_replicate]; omega)) (TO.quiet (q_ld Tryd.underlying62 rfl rfl (rowO (List.mem_of_getElem? (i := 1) rfl)) (tget_at hul)) ?_)))
        refine TO.quiet (q_move rfl) (TO.quiet (q_ix (i := s) Tryd.underlying62 inf26 rfl rfl (rowO (List.mem_of_getElem? (i := 0) rfl)) hlt27 (by rw [List.length_map, tabX_len]; omega)) ?_)
        refine TO.loud rfl (l_st (j := s) (v := .int .u64 1) (vs := [(.int .u64 1)]) (cs := uns (tabX a n s 0)) 0 inf26 rfl rfl rfl rfl rfl (by simp) rfl (by rw [List.length_map, tabX_len]; simp; omega) ?_)
        refine TO.sub (O' := ([rowI (some ⟨z3, 0, none⟩) a.next.length 26 1 (uns ((tabX a n s 0).set s 1)), rowI (some ⟨z2, 0, none⟩) 65 62 1 (uvals us ++ ((.slice (some ⟨z3, 0, none⟩) a.next.length a.next.length) :: List.replicate (65 - 1 - n) (.slice none 0 0))), oI z1 25 (dC a k)] ++ (uitms 26 us))) (by rw [show putL (uns (tabX a n s 0)) s [(.int .u64 1)] = uns ((tabX a n s 0).set s 1) from by simp [putL]]; exact Sub.of (List.Sublist.refl _)) ?_
        refine TO.nil (T.region ?_)
        refine TO.quiet (q_addN (a := s) (b := 1) rfl rfl (by omega)) (TO.quiet (q_move rfl) ?_)
        refine TO.nil ?_
        exact ⟨s + 1, by omega, by rw [← tabX_yes hn0 hlt27 hfn], by omega, ⟨rfl, rfl, rfl, rfl, rfl, rfl, rfl, rfl, rfl, rfl, rfl, trivial⟩⟩
      have hfn : finN a s = false := by rw [← hc]; simp [finN, show s < a.final.length by omega]
      refine T.skip (T.region ?_)
      refine TO.quiet (q_addN (a := s) (b := 1) rfl rfl (by omega)) (TO.quiet (q_move rfl) ?_)
      refine TO.nil ?_
      exact ⟨s + 1, by omega, by rw [← tabX_no hn0 hfn], by omega, ⟨rfl, rfl, rfl, rfl, rfl, rfl, rfl, rfl, rfl, rfl, rfl, trivial⟩⟩
    have hge27 : ¬ s < a.next.length := by omega
    refine T.exit ?_
    have hse : s = a.next.length := by omega
    refine T.sub (O' := (([rowI (some ⟨z2, 0, none⟩) 65 62 1 (uvals us ++ ((.slice (some ⟨z3, 0, none⟩) a.next.length a.next.length) :: List.replicate (65 - 1 - n) (.slice none 0 0))), oI z1 25 (dC a k)] ++ [rowI (some ⟨z3, 0, none⟩) a.next.length 26 1 (uns (tabR a n))]) ++ uitms 26 us)) (by rw [← tabX_end hse]; exact Sub.pull [rowI (some ⟨z3, 0, none⟩) a.next.length 26 1 (uns (tabX a n s 0))] _ (.pull [rowI (some ⟨z3, 0, none⟩) a.next.length 26 1 (uns (tabX a n s 0))] _ (.k .rf))) ?_
    refine T.sub (O' := ([rowI (some ⟨z2, 0, none⟩) 65 62 1 (uvals (us ++ [⟨(some ⟨z3, 0, none⟩), a.next.length, tabR a n⟩]) ++ List.replicate (65 - 1 - n) (.slice none 0 0)), oI z1 25 (dC a k)] ++ uitms 26 (us ++ [⟨(some ⟨z3, 0, none⟩), a.next.length, tabR a n⟩]))) (by rw [show uvals (us ++ [⟨(some ⟨z3, 0, none⟩), a.next.length, tabR a n⟩]) = uvals us ++ [(.slice (some ⟨z3, 0, none⟩) a.next.length a.next.length)] by simp [URec.val, tabR_len], List.append_assoc]; exact Sub.foldN [rowI (some ⟨z2, 0, none⟩) 65 62 1 (uvals us ++ ((.slice (some ⟨z3, 0, none⟩) a.next.length a.next.length) :: List.replicate (65 - 1 - n) (.slice none 0 0))), oI z1 25 (dC a k)] (rowI (some ⟨z3, 0, none⟩) a.next.length 26 1 (uns (tabR a n))) (uitms 26 us) _ (uitms_snoc 26 us ⟨(some ⟨z3, 0, none⟩), a.next.length, tabR a n⟩)) ?_
    refine T.region ?_
    refine TO.quiet (q_addN (a := n) (b := 1) rfl rfl (by omega)) (TO.quiet (q_move rfl) ?_)
    refine TO.nil ?_
    exact ⟨n + 1, by omega, us ++ [⟨(some ⟨z3, 0, none⟩), a.next.length, tabR a n⟩], by rw [show 65 - (n + 1) = 65 - 1 - n by omega], by omega, by rw [List.map_append, hus, List.range_succ, List.map_append]; rfl, ⟨rfl, rfl, rfl, rfl, rfl, rfl, rfl, trivial⟩⟩
  have hge14 : ¬ n < 65 := by omega
  refine T.exit ?_
  refine T.seq (T.region ?_)
  refine TO.quiet (q_move rfl) (TO.quiet (q_assign rfl) ?_)
  refine TO.nil (T.ret (Res.drop ?_))
  refine Res.one (.slice (some ⟨z2, 0, none⟩) 65 65) Tryd.results42 rfl ?_
  obtain rfl : n = 65 := by omega
  exact ⟨([rowI (some ⟨z2, 0, none⟩) 65 62 1 (uvals us)] ++ uitms 26 us), (by rw [show uvals us ++ List.replicate (65 - 65) (.slice none 0 0) = uvals us by simp]; exact Sub.k (Sub.d Sub.rf)), (some ⟨z2, 0, none⟩), us, hus, rfl, rfl⟩
theorem tableC (w : World) [Tab Tryd.prog w] (a : DFA) (k : DK) (ha : At w a k) (hv : Valid a) :
    PureT Tryd.prog 42 [dV a k] w fun v N => ∃ tb us, TabOk a us ∧ v = .slice tb 65 65 ∧ N = [tabI 62 26 a tb us] :=
  CallT.packR (tableN w a k ha hv) fun v O' hR => by
    obtain ⟨tb, us, h1, h2, h3⟩ := hR
    exact ⟨TabOk a us, _, [], h1, by rw [h3]; simp, tb, us, h1, h2, rfl⟩
end Go.Proofs.YtnmfefmhfkhihaaDoor


namespace Go.Proofs.YtnmfefmhfkhihaaDoor
open Go.Lx Go.RowKit
set_option linter.unusedVariables false
set_option linter.unusedSimpArgs false
set_option maxHeartbeats 1000000 in
set_option maxRecDepth 20000 in
theorem nthBad (w : World) [Tab Tryd.prog w] (a : DFA) (k : DK) (ha : At w a k) (haa : a.next.length < 9223372036854775807) (haar : ∀ r ∈ a.next, r.length < 9223372036854775807) (haaf : a.final.length < 9223372036854775807) (he : checkD a ≠ 0) (k0 : Nat) :
    PureT Tryd.prog 14 [dV a k, .int .u64 ((k0 : Nat) : Int)] w fun v N => v = .tuple #[.slice none 0 0, .bool false, .int .i64 (checkD a : Int)] ∧ N = [] := by
  refine CallT.enter Tryd.func14 rfl Tryd.ntmps14 rfl ?_
  refine T.seq (T.region ?_)
  refine TO.loud rfl (l_box (v := (dV a k)) (cs := (dC a k)) rfl rfl (fun bx1 => ?_))
  refine TO.quiet (q_assign rfl) (TO.quiet (q_assign rfl) (TO.quiet (q_assign rfl) ?_))
  refine TO.nil (T.seq (T.seq (T.region ?_)))
  refine TO.quiet (q_load_boxAgg 0 Tryd.underlying25 rfl inf25 rfl rfl rfl) ?_
  have hk15 := fun (w1 : World) (hI : Inv w [oI bx1 25 (dC a k)] w1) => (haveI := Inv.tab (P := Tryd.prog) hI; subsetCheck w1 a k.nb k.fb k.nc k.fc (vals k.qs) (hI.dfa ha) haa haar haaf)
  refine TO.loud rfl (l_call ent33 (CallT.of_pure hk15) rfl ?_)
  clear hk15
  rintro vr O' ⟨N, rfl, rfl, rfl⟩
  refine TO.quiet (q_assign rfl) ?_
  refine TO.nil (T.seq (T.region ?_))
  refine TO.quiet (q_move rfl) (TO.quiet (QT.toB (q_neq rfl rfl) (decide_eq_true (by omega))) ?_)
  refine TO.nil ?_
  refine T.cond1 rfl ?_
  refine T.seq (T.region ?_)
  refine TO.quiet (q_move rfl) (TO.quiet (q_assign rfl) (TO.quiet (q_assign rfl) (TO.quiet (q_assign rfl) ?_)))
  refine TO.nil (T.ret (Res.drop ?_))
  refine Res.three (.slice none 0 0) (.bool false) (.int .i64 (checkD a : Int)) Tryd.results14 rfl rfl rfl ?_
  exact ⟨[], Sub.z, rfl, rfl⟩
set_option maxHeartbeats 1000000 in
set_option maxRecDepth 20000 in
theorem nthBig (w : World) [Tab Tryd.prog w] (a : DFA) (k : DK) (ha : At w a k) (hv : Valid a) (k0 : Nat) (hk : 4611686018427387904 ≤ k0) :
    PureT Tryd.prog 14 [dV a k, .int .u64 ((k0 : Nat) : Int)] w fun v N => v = .tuple #[.slice none 0 0, .bool false, .int .i64 1] ∧ N = [] := by
  refine CallT.enter Tryd.func14 rfl Tryd.ntmps14 rfl ?_
  have he := checkD_zero.2 hv
  have h4 := hv.n4
  have hww : letN a ≤ 64 := hv.width
  have hfin := hv.fin
  have hvl := ha.rows.1
  have hsl := start_lt hv.toVal
  have hs0 := hv.s0
  have hs1 := hv.s1
  refine T.seq (T.region ?_)
  refine TO.loud rfl (l_box (v := (dV a k)) (cs := (dC a k)) rfl rfl (fun bx1 => ?_))
  refine TO.quiet (q_assign rfl) (TO.quiet (q_assign rfl) (TO.quiet (q_assign rfl) ?_))
  refine TO.nil (T.seq (T.seq (T.region ?_)))
  refine TO.quiet (q_load_boxAgg 0 Tryd.underlying25 rfl inf25 rfl rfl rfl) ?_
  have hk15 := fun (w1 : World) (hI : Inv w [oI bx1 25 (dC a k)] w1) => (haveI := Inv.tab (P := Tryd.prog) hI; (show PureT _ _ _ _ _ from by
      have h9 := subsetCheck w1 a k.nb k.fb k.nc k.fc (vals k.qs) (hI.dfa ha) (by omega) hv.bound (by omega)
      rw [he] at h9
      exact h9))
  refine TO.loud rfl (l_call ent33 (CallT.of_pure hk15) rfl ?_)
  clear hk15
  rintro vr O' ⟨N, rfl, rfl, rfl⟩
  refine TO.quiet (q_assign rfl) ?_
  refine TO.nil (T.seq (T.region ?_))
  refine TO.quiet (q_move rfl) (TO.quiet (q_neq rfl rfl) ?_)
  refine TO.nil ?_
  refine T.cond0 rfl ?_
  refine T.skip (T.seq (T.seq (T.region ?_)))
  refine TO.quiet (q_move rfl) (TO.quiet (QT.toB (q_geq rfl rfl) (decide_eq_true (by omega))) ?_)
  refine TO.nil ?_
  refine T.cond1 rfl ?_
  refine T.seq (T.region ?_)
  refine TO.quiet (q_assign rfl) (TO.quiet (q_assign rfl) (TO.quiet (q_assign rfl) ?_))
  refine TO.nil (T.ret (Res.drop ?_))
  refine Res.three (.slice none 0 0) (.bool false) (.int .i64 1) Tryd.results14 rfl rfl rfl ?_
  exact ⟨[], Sub.z, rfl, rfl⟩
set_option maxHeartbeats 8000000 in
set_option maxRecDepth 20000 in
theorem nthN (w : World) [Tab Tryd.prog w] (a : DFA) (k : DK) (ha : At w a k) (hv : Valid a) (k0 : Nat) (hk : k0 < 4611686018427387904) :
    PureT Tryd.prog 14 [dV a k, .int .u64 ((k0 : Nat) : Int)] w fun v N => ∃ res wb wc, (allW a 65)[k0]? = res ∧ v = .tuple #[.slice wb (res.getD []).length wc, .bool res.isSome, .int .i64 0] ∧ ((res ≠ none ∧ N = [rowI wb wc 5 1 (byts (res.getD []))]) ∨ (res = none ∧ N = [] ∧ wb = none ∧ wc = 0)) := by
  refine CallT.enter Tryd.func14 rfl Tryd.ntmps14 rfl ?_
  have he := checkD_zero.2 hv
  have h4 := hv.n4
  have hww : letN a ≤ 64 := hv.width
  have hfin := hv.fin
  have hvl := ha.rows.1
  have hsl := start_lt hv.toVal
  have hs0 := hv.s0
  have hs1 := hv.s1
  have hss : a.start = ((a.start.toNat : Nat) : Int) := (Int.toNat_of_nonneg hv.s0).symm
  refine T.seq (T.region ?_)
  refine TO.loud rfl (l_box (v := (dV a k)) (cs := (dC a k)) rfl rfl (fun z1 => ?_))
  refine TO.quiet (q_assign rfl) (TO.quiet (q_assign rfl) (TO.quiet (q_assign rfl) ?_))
  refine TO.nil (T.seq (T.seq (T.region ?_)))
  refine TO.quiet (q_load_boxAgg 0 Tryd.underlying25 rfl inf25 rfl rfl rfl) ?_
  have hk15 := fun (w1 : World) (hI : Inv w [oI z1 25 (dC a k)] w1) => (haveI := Inv.tab (P := Tryd.prog) hI; (show PureT _ _ _ _ _ from by
      have h9 := subsetCheck w1 a k.nb k.fb k.nc k.fc (vals k.qs) (hI.dfa ha) (by omega) hv.bound (by omega)
      rw [he] at h9
      exact h9))
  refine TO.loud rfl (l_call ent33 (CallT.of_pure hk15) rfl ?_)
  clear hk15
  rintro vr O' ⟨N, rfl, rfl, rfl⟩
  refine TO.quiet (q_assign rfl) ?_
  refine TO.nil (T.seq (T.region ?_))
  refine TO.quiet (q_move rfl) (TO.quiet (q_neq rfl rfl) ?_)
  refine TO.nil ?_
  refine T.cond0 rfl ?_
  refine T.skip (T.seq (T.seq (T.region ?_)))
  refine TO.quiet (q_move rfl) (TO.quiet (QT.toB (q_geq rfl rfl) (decide_eq_false (by omega))) ?_)
  refine TO.nil ?_
  refine T.cond0 rfl ?_
  refine T.skip (T.seq (T.region ?_))
  refine TO.quiet (q_load_boxAgg 0 Tryd.underlying25 rfl inf25 rfl rfl rfl) ?_
  have hk22 := fun (w1 : World) (hI : Inv w [oI z1 25 (dC a k)] w1) => (haveI := Inv.tab (P := Tryd.prog) hI; tableC w1 a k (hI.atB ha) hv)
  refine TO.loud rfl (l_call ent42 (CallT.of_pure hk22) rfl ?_)
  clear hk22
  rintro vr O' ⟨N, rfl, tb, us, hT, rfl, rfl⟩
  refine TO.quiet (q_assign rfl) ?_
  refine TO.nil (T.seq (T.region ?_))
  refine TO.quiet (q_assign rfl) ?_
  refine TO.nil (T.seq (T.block ?_))
  refine T.loop (fun (n : Nat) ρ O => ∃ (k9 : Nat), O = [tabI 62 26 a tb us, oI z1 25 (dC a k)] ∧ n ≤ 65 ∧ k9 ≤ k0 ∧ (allW a 65)[k0]? = (fromW a n 65)[k9]? ∧ Heads [(0, (dV a k)), (1, .int .u64 ((k9 : Nat) : Int)), (2, (.pointer (some ⟨z1, 0, none⟩))), (4, (.slice none 0 0)), (5, .bool false), (6, .int .i64 0), (7, .int .i64 0), (8, (.slice tb 65 65)), (9, .int .i64 ((n : Nat) : Int))] ρ) (fun n => 65 - n) 0 ?_ ?_
  · exact ⟨k0, rfl, Nat.zero_le _, Nat.le_refl _, by rw [fromW_zero], ⟨rfl, rfl, rfl, rfl, rfl, rfl, rfl, rfl, rfl, trivial⟩⟩
  rintro n ρ O ⟨k9, rfl, hn, hk9, hr, hH⟩
  obtain ⟨ρ0, rfl⟩ := hH.elim
  clear hH
  refine T.seq (T.seq ?_)
  refine T.draws _ [(0, 0), (1, 0), (2, 0), (3, 0), (4, 0), (5, 0), (6, 0), (7, 0), (8, 0), (9, 0), (10, 0), (11, 0), (12, 0), (13, 0), (14, 0), (15, 0)] mixed (drawF_ok (by kernel_rfl)) (Sub.of (List.Sublist.refl _)) (fun _ _ _ h => h) ?_
  refine DO.quiet rfl (q_move rfl) (DO.quiet rfl (q_move rfl) (DO.quiet rfl (q_len Tryd.underlying64 rfl) ?_))
  by_cases hn65 : n < 65
  · refine DO.quiet rfl (QT.toB (QT.cast (q_lss rfl rfl) (v' := .bool (decide (n < 65))) (congrArg Value.bool (decide_eq_decide.2 (by omega)))) (decide_eq_true hn65)) ?_
    refine DO.quiet rfl (q_move rfl) ?_
    obtain ⟨q1, hq1, hz1⟩ := hT.get hn65
    refine DO.guarded rfl rfl rfl (q_move rfl) ?_
    refine DO.guarded rfl rfl rfl (q_move rfl) ?_
    refine DO.guarded rfl rfl rfl (q_move rfl) ?_
    refine DO.guarded rfl rfl rfl (q_ix (i := n) Tryd.underlying64 inf62 rfl rfl (tabO (List.mem_of_getElem? (i := 0) rfl)) hn65 (by rw [List.length_map, hT.len]; omega)) ?_
    refine DO.guarded rfl rfl rfl (q_ld Tryd.underlying62 rfl rfl (tabO (List.mem_of_getElem? (i := 0) rfl)) (uvals_at hq1)) ?_
    refine DO.guarded rfl rfl rfl (q_fieldAddr Tryd.underlying25 rfl inf3 rfl rfl) ?_
    refine DO.guarded rfl rfl rfl (q_load_box 1 Tryd.underlying3 rfl rfl rfl rfl) ?_
    refine DO.guarded rfl rfl rfl (q_ixz (i := a.start) Tryd.underlying62 inf26 rfl rfl (tabQR (List.mem_of_getElem? (i := 0) rfl) hq1 hz1) hs0 (by rw [hz1, tabR_len]; exact hsl) (by rw [List.length_map, tabR_len]; exact hsl)) ?_
    refine DO.guarded rfl rfl rfl (q_ld Tryd.underlying26 rfl rfl (tabQR (List.mem_of_getElem? (i := 0) rfl) hq1 hz1) (tabR_get hsl)) ?_
    refine DO.guarded rfl rfl rfl (q_geq rfl rfl) ?_
    refine DO.quiet rfl (q_pick1 rfl rfl) ?_
    refine DO.done ?_
    refine T.condP rfl (fun hc => ?_) (fun hc => ?_)
    · have hlt38 : k9 ≥ satN 18446744073709551615 a n a.start.toNat := by omega
      have hge : satN 18446744073709551615 a n a.start.toNat ≤ k9 := by omega
      refine T.skip (T.seq (T.block ?_))
      refine T.draws _ [(0, 0), (1, 0), (2, 0), (3, 0), (4, 0), (5, 0), (6, 0), (7, 0), (8, 0), (9, 0), (10, 0)] mixed (by kernel_rfl) (Sub.of (List.Sublist.refl _)) (fun _ _ _ h => h) ?_
      refine DO.quiet rfl (q_move rfl) (DO.quiet rfl (q_move rfl) (DO.quiet rfl (q_move rfl) (DO.quiet rfl (q_ix (i := n) Tryd.underlying64 inf62 rfl rfl (tabO (List.mem_of_getElem? (i := 0) rfl)) hn65 (by rw [List.length_map, hT.len]; omega)) ?_)))
      refine DO.quiet rfl (q_ld Tryd.underlying62 rfl rfl (tabO (List.mem_of_getElem? (i := 0) rfl)) (uvals_at hq1)) (DO.quiet rfl (q_fieldAddr Tryd.underlying25 rfl inf3 rfl rfl) (DO.quiet rfl (q_load_box 1 Tryd.underlying3 rfl rfl rfl rfl) (DO.quiet rfl (q_ixz (i := a.start) Tryd.underlying62 inf26 rfl rfl (tabQR (List.mem_of_getElem? (i := 0) rfl) hq1 hz1) hs0 (by rw [hz1, tabR_len]; exact hsl) (by rw [List.length_map, tabR_len]; exact hsl)) ?_)))
      refine DO.quiet rfl (q_ld Tryd.underlying26 rfl rfl (tabQR (List.mem_of_getElem? (i := 0) rfl) hq1 hz1) (tabR_get hsl)) (DO.quiet rfl (q_subU (a := k9) (b := (satN 18446744073709551615 a n a.start.toNat)) .u64 rfl rfl (by show _ < 18446744073709551616; omega) (by omega)) (DO.quiet rfl (q_assign rfl) ?_))
      refine DO.done ?_
      refine T.region ?_
      refine TO.quiet (q_move rfl) (TO.quiet (q_addN (a := n) (b := 1) rfl rfl (by omega)) (TO.quiet (q_assign rfl) ?_))
      refine TO.nil ?_
      exact ⟨n + 1, by omega, k9 - satN 18446744073709551615 a n a.start.toNat, rfl, by omega, by omega, by rw [hr, nth_len (by decide) hn65 (by omega) hge], ⟨rfl, rfl, rfl, rfl, rfl, rfl, rfl, rfl, rfl, trivial⟩⟩
    have hge38 : ¬ k9 ≥ satN 18446744073709551615 a n a.start.toNat := by omega
    have hge : ¬ satN 18446744073709551615 a n a.start.toNat ≤ k9 := by omega
    refine T.exit ?_
    refine T.seq (T.seq (T.region ?_))
    refine TO.quiet (q_move rfl) (TO.quiet (q_move rfl) (TO.quiet (q_len Tryd.underlying64 rfl) (TO.quiet (q_eql rfl rfl) ?_)))
    refine TO.nil ?_
    refine T.cond0 (congrArg Value.bool (decide_eq_false (by omega))) ?_
    refine T.skip (T.seq (T.region ?_))
    refine TO.quiet (q_fieldAddr Tryd.underlying25 rfl inf3 rfl rfl) (TO.quiet (q_load_box 1 Tryd.underlying3 rfl rfl rfl rfl) (TO.quiet (q_assign rfl) ?_))
    refine TO.nil (T.seq (T.block ?_))
    obtain ⟨r, hre⟩ : ∃ r, r = (allW a 65)[k0]? := ⟨_, rfl⟩
    refine T.nilRow 5 1 ?_
    refine T.loopS (fun (m : Nat) ρ O => ∃ (s9 k8 : Nat) (u : List Nat) (wb : Option Addr) (wc : Nat), O = [rowI wb wc 5 1 (byts u), tabI 62 26 a tb us, oI z1 25 (dC a k)] ∧ u.length + m ≤ 64 ∧ k8 ≤ k0 ∧ s9 < a.next.length ∧ NthI a r m s9 k8 u ∧ Heads [(0, (dV a k)), (1, .int .u64 ((k8 : Nat) : Int)), (2, (.pointer (some ⟨z1, 0, none⟩))), (4, (.slice wb u.length wc)), (5, .bool false), (6, .int .i64 0), (7, .int .i64 0), (8, (.slice tb 65 65)), (9, .int .i64 ((m : Nat) : Int)), (10, .int .i64 ((s9 : Nat) : Int))] ρ) (fun m => m) n ?_ ?_
    · exact ⟨a.start.toNat, k9, [], none, 0, rfl, (by show 0 + n ≤ 64; omega), hk9, hsl, NthI.start (by decide) hn65 (by omega) hge (hre.trans hr), ⟨rfl, rfl, rfl, rfl, rfl, rfl, rfl, rfl, rfl, (congrArg (Value.int .i64) hss), trivial⟩⟩
    rintro m ρ O ⟨s9, k8, u, wb, wc, rfl, hul, hk8, hs9, hN, hH⟩
    obtain ⟨ρ0, rfl⟩ := hH.elim
    clear hH
    refine T.seq (T.seq (T.region ?_))
    refine TO.quiet (q_move rfl) (TO.quiet (q_gtr rfl rfl) ?_)
    refine TO.nil ?_
    refine T.condP rfl (fun hc => ?_) (fun hc => ?_)
    · have hlt58 : m > 0 := by omega
      obtain ⟨m1, hm⟩ : ∃ m1, m = m1 + 1 := ⟨m - 1, by omega⟩
      obtain ⟨v1, c1, g1, s1⟩ := ha.rows.get hs9
      have hl1 : a.next[s9].length = letN a := hv.len _ (List.getElem_mem hs9)
      obtain ⟨q2, hq2, hz2⟩ := hT.get (show m1 < 65 by omega)
      refine T.skip (T.seq (T.block (T.seq (T.region ?_))))
      refine TO.quiet (q_fieldAddr Tryd.underlying25 rfl inf22 rfl rfl) (TO.quiet (q_load_box 2 Tryd.underlying22 rfl rfl rfl rfl) (TO.quiet (q_move rfl) (TO.quiet (q_ix (i := s9) Tryd.underlying22 inf41 rfl rfl (Sl.o ha.outer) hs9 (hvl ▸ hs9)) ?_)))
      refine TO.quiet (q_ld Tryd.underlying41 rfl rfl (Sl.o ha.outer) g1) (TO.quiet (q_len Tryd.underlying41 rfl) (TO.quiet (q_move rfl) ?_))
      refine TO.nil (T.block ?_)
      refine T.loop (fun (x : Nat) ρ O => ∃ (k7 : Nat), O = [rowI wb wc 5 1 (byts u), tabI 62 26 a tb us, oI z1 25 (dC a k)] ∧ k7 ≤ k0 ∧ LetI a r m1 s9 k7 x u ∧ Heads [(0, (dV a k)), (1, .int .u64 ((k7 : Nat) : Int)), (2, (.pointer (some ⟨z1, 0, none⟩))), (4, (.slice wb u.length wc)), (5, .bool false), (6, .int .i64 0), (7, .int .i64 0), (8, (.slice tb 65 65)), (9, .int .i64 ((m : Nat) : Int)), (10, .int .i64 ((s9 : Nat) : Int)), (65, (.slice v1 a.next[s9].length c1)), (66, .int .i64 (a.next[s9].length : Int)), (67, .int .i64 ((x : Nat) : Int))] ρ) (fun x => letN a - x) 0 ?_ ?_
      · exact ⟨k8, rfl, hk8, (hm ▸ hN).let, ⟨rfl, rfl, rfl, rfl, rfl, rfl, rfl, rfl, rfl, rfl, rfl, rfl, rfl, trivial⟩⟩
      rintro x ρ O ⟨k7, rfl, hk7, hL, hH⟩
      obtain ⟨ρ0, rfl⟩ := hH.elim
      clear hH
      have hxl := hL.in
      obtain ⟨hto, _, hxk1, hx1⟩ := hv.toN_lt hs9 hxl
      have hx1 : (ints a.next[s9])[x]? = some (.int .i64 ((toN a s9 x : Nat) : Int)) := by rw [ints_get hxk1, hx1]
      refine T.seq (T.region ?_)
      refine TO.quiet (q_lss rfl rfl) ?_
      refine TO.nil (T.seq ?_)
      refine T.condP rfl (fun hc => ?_) (fun hc => ?_)
      · have hlt68 : x < a.next[s9].length := by omega
        refine T.skip (T.seq (T.block (T.seq (T.region ?_))))
        refine TO.quiet (q_move rfl) (TO.quiet (q_ix (i := x) Tryd.underlying41 inf3 rfl rfl (Sl.o s1) hxk1 (by rw [List.length_map]; exact hxk1)) (TO.quiet (q_ld Tryd.underlying3 rfl rfl (Sl.o s1) hx1) (TO.quiet (q_assign rfl) ?_)))
        refine TO.quiet (q_assign rfl) ?_
        refine TO.nil (T.seq (T.seq (T.region ?_)))
        refine TO.quiet (q_move rfl) (TO.quiet (q_move rfl) (TO.quiet (QT.cast (q_sub64 rfl rfl (by omega)) (v' := .int .i64 ((m1 : Nat) : Int)) (congrArg (Value.int .i64) (by omega))) (TO.quiet (q_ix (i := m1) Tryd.underlying64 inf62 rfl rfl (tabO (List.mem_of_getElem? (i := 1) rfl)) (by omega) (by rw [List.length_map, hT.len]; omega)) ?_)))
        refine TO.quiet (q_ld Tryd.underlying62 rfl rfl (tabO (List.mem_of_getElem? (i := 1) rfl)) (uvals_at hq2)) (TO.quiet (q_move rfl) (TO.quiet (q_ix (i := (toN a s9 x)) Tryd.underlying62 inf26 rfl rfl (tabQR (List.mem_of_getElem? (i := 1) rfl) hq2 hz2) (by rw [hz2, tabR_len]; exact hto) (by rw [List.length_map, tabR_len]; exact hto)) (TO.quiet (q_ld Tryd.underlying26 rfl rfl (tabQR (List.mem_of_getElem? (i := 1) rfl) hq2 hz2) (tabR_get hto)) ?_)))
        refine TO.quiet (q_assign rfl) ?_
        refine TO.nil (T.seq (T.region ?_))
        refine TO.quiet (q_move rfl) (TO.quiet (q_move rfl) (TO.quiet (q_geq rfl rfl) ?_))
        refine TO.nil ?_
        refine T.condP rfl (fun hc => ?_) (fun hc => ?_)
        · have hlt82 : k7 ≥ satN 18446744073709551615 a m1 (toN a s9 x) := by omega
          have hcc : satN 18446744073709551615 a m1 (toN a s9 x) ≤ k7 := by omega
          refine T.seq (T.region ?_)
          refine TO.quiet (q_move rfl) (TO.quiet (q_move rfl) (TO.quiet (q_subU (a := k7) (b := (satN 18446744073709551615 a m1 (toN a s9 x))) .u64 rfl rfl (by show _ < 18446744073709551616; omega) (by omega)) (TO.quiet (q_assign rfl) ?_)))
          refine TO.nil ?_
          refine T.exit ?_
          refine T.region ?_
          refine TO.quiet (q_addN (a := x) (b := 1) rfl rfl (by omega)) (TO.quiet (q_move rfl) ?_)
          refine TO.nil ?_
          exact ⟨x + 1, by omega, _, rfl, by omega, hL.next (by decide) (by omega) hcc, ⟨rfl, rfl, rfl, rfl, rfl, rfl, rfl, rfl, rfl, rfl, rfl, rfl, rfl, trivial⟩⟩
        have hge82 : ¬ k7 ≥ satN 18446744073709551615 a m1 (toN a s9 x) := by omega
        have hcc : ¬ satN 18446744073709551615 a m1 (toN a s9 x) ≤ k7 := by omega
        refine T.skip (T.seq (T.region ?_))
        refine TO.quiet (q_move rfl) (TO.quiet (q_move rfl) (TO.quiet (q_conv_id Tryd.underlying3 Tryd.underlying5 rfl (wrap8 (by omega))) ?_))
        refine TO.loud rfl (l_build1 (v := .int .u8 ((x : Nat) : Int)) Tryd.underlying29 inf5 rfl rfl rfl (fun z2 => ?_))
        refine TO.loud rfl (l_append 1 Tryd.underlying29 Tryd.underlying29 inf5 rfl rfl rfl rfl (by rw [List.length_map, Nat.mul_one]) (by decide) (Src.row (j := 0) rfl (by simp)) (by simp [oneB]) (by omega) (by decide) (by decide) (fun z3 zc4 => ?_))
        refine TO.quiet (q_move rfl) (TO.quiet (q_assign rfl) (TO.quiet (q_assign rfl) ?_))
        refine TO.nil ?_
        refine T.exit ?_
        refine T.region ?_
        refine TO.quiet (q_move rfl) (TO.quiet (q_subN (a := m) (b := 1) rfl rfl (by omega) (by omega)) (TO.quiet (q_assign rfl) ?_))
        refine TO.nil ?_
        have hst : byts (u ++ [x]) = byts u ++ [.int .u8 ((x : Nat) : Int)] := List.map_append
        have hN2 := hL.hit (by decide) (by omega) hcc
        exact ⟨m1, by omega, [rowI z3 zc4 5 1 ((byts u) ++ [.int .u8 ((x : Nat) : Int)]), tabI 62 26 a tb us, oI z1 25 (dC a k)], (by exact Sub.d (.k (.k (.k .z)))), toN a s9 x, k7, u ++ [x], z3, zc4, by rw [hst], by rw [List.length_append]; simp; omega, by omega, hto, hN2, ⟨rfl, rfl, rfl, (congrArg (fun n9 => Value.slice _ n9 _) (by simp : u.length + 1 = (u ++ [x]).length)), rfl, rfl, rfl, rfl, (congrArg (Value.int .i64) (by omega)), rfl, trivial⟩⟩
      exact absurd hc (by omega)
    have hge58 : ¬ m > 0 := by omega
    have hm0 : m = 0 := by omega
    refine T.exit ?_
    refine T.seq (T.region ?_)
    refine TO.quiet (q_move rfl) (TO.quiet (q_assign rfl) (TO.quiet (q_assign rfl) (TO.quiet (q_assign rfl) ?_)))
    refine TO.nil (T.ret (Res.drop ?_))
    refine Res.three (.slice wb u.length wc) (.bool true) (.int .i64 0) Tryd.results14 rfl rfl rfl ?_
    have hrs := (hm0 ▸ hN).end
    exact ⟨[rowI wb wc 5 1 (byts u)], (by exact Sub.k .z), some u, wb, wc, hre.symm.trans hrs, rfl, .inl ⟨by simp, rfl⟩⟩
  refine DO.quiet rfl (QT.toB (QT.cast (q_lss rfl rfl) (v' := .bool (decide (n < 65))) (congrArg Value.bool (decide_eq_decide.2 (by omega)))) (decide_eq_false hn65)) (DO.quiet rfl (q_move rfl) ?_)
  refine DO.passed rfl rfl rfl ?_
  refine DO.passed rfl rfl rfl ?_
  refine DO.passed rfl rfl rfl ?_
  refine DO.passed rfl rfl rfl ?_
  refine DO.passed rfl rfl rfl ?_
  refine DO.passed rfl rfl rfl ?_
  refine DO.passed rfl rfl rfl ?_
  refine DO.passed rfl rfl rfl ?_
  refine DO.passed rfl rfl rfl ?_
  refine DO.passed rfl rfl rfl ?_
  refine DO.quiet rfl (q_pick0 rfl rfl) ?_
  refine DO.done ?_
  refine T.cond0 rfl ?_
  refine T.exit ?_
  refine T.seq (T.seq (T.region ?_))
  refine TO.quiet (q_move rfl) (TO.quiet (q_move rfl) (TO.quiet (q_len Tryd.underlying64 rfl) (TO.quiet (q_eql rfl rfl) ?_)))
  refine TO.nil ?_
  refine T.cond1 (congrArg Value.bool (decide_eq_true (by omega))) ?_
  refine T.seq (T.region ?_)
  refine TO.quiet (q_assign rfl) (TO.quiet (q_assign rfl) (TO.quiet (q_assign rfl) ?_))
  refine TO.nil (T.ret (Res.drop ?_))
  refine Res.three (.slice none 0 0) (.bool false) (.int .i64 0) Tryd.results14 rfl rfl rfl ?_
  exact ⟨[], Sub.z, none, none, 0, by rw [hr, fromW_end (by omega)]; rfl, rfl, .inr ⟨rfl, rfl, rfl, rfl⟩⟩
theorem nthC (w : World) [Tab Tryd.prog w] (a : DFA) (k : DK) (ha : At w a k) (haa : a.next.length < 9223372036854775807) (haar : ∀ r ∈ a.next, r.length < 9223372036854775807) (haaf : a.final.length < 9223372036854775807) (k0 : Nat) :
    PureT Tryd.prog 14 [dV a k, .int .u64 ((k0 : Nat) : Int)] w fun v N => ∃ wb wc, v = .tuple #[.slice wb ((nthV a k0).getD []).length wc, .bool (nthV a k0).isSome, .int .i64 ((nthE a k0 : Nat) : Int)] ∧ N = [rowI wb wc 5 1 (byts ((nthV a k0).getD []))] := by
  have nil : ∀ {e : Nat}, PureT Tryd.prog 14 [dV a k, .int .u64 ((k0 : Nat) : Int)] w (fun v N => v = .tuple #[.slice none 0 0, .bool false, .int .i64 (e : Int)] ∧ N = []) → PureT Tryd.prog 14 [dV a k, .int .u64 ((k0 : Nat) : Int)] w (fun v N => ∃ wb wc, v = .tuple #[.slice wb 0 wc, .bool false, .int .i64 (e : Int)] ∧ N = [rowI wb wc 5 1 (byts [])]) := fun h => by
    refine (CallT.nilOr 5 1 h).mono ?_
    rintro v N ⟨O2, hN, h1, h2⟩
    exact ⟨none, 0, h1, hN.2 h2⟩
  unfold nthV nthE
  by_cases he : checkD a ≠ 0
  · rw [if_pos he, if_neg he]
    exact nil (nthBad w a k ha haa haar haaf he k0)
  · have hv : Valid a := checkD_zero.1 (by omega)
    rw [if_neg he]
    by_cases hn : 4611686018427387904 ≤ k0
    · rw [if_pos hn, if_neg (by decide)]
      exact nil (e := 1) (nthBig w a k ha hv k0 hn)
    · rw [if_neg hn, if_pos rfl]
      refine (CallT.nilOr 5 1 (nthN w a k ha hv k0 (by omega))).mono ?_
      rintro v N ⟨O2, hN, res, wb, wc, hL, hV, h⟩
      rw [hL]
      rcases h with ⟨hr, rfl⟩ | ⟨rfl, rfl, rfl, rfl⟩
      · exact ⟨wb, wc, hV, hN.1 (by simp)⟩
      · exact ⟨none, 0, hV, hN.2 rfl⟩
end Go.Proofs.YtnmfefmhfkhihaaDoor


namespace Go.Lx
open Go.RowKit
set_option linter.unusedVariables false
set_option linter.unusedSimpArgs false
theorem rowP.len {b : Option Addr} {c k : Nat} {T : TypeId} {cs : List Value} {w : World} (h : rowP b c T k cs w) : cs.length ≤ c * k := by
  cases b with
  | none => obtain ⟨rfl, rfl⟩ := h; simp
  | some a => obtain ⟨_, full, _, h3, _⟩ := h; exact h3
section
variable {P : Program} {r : Option Nat} {base : World} {n : Nat} {ρ : Env} {O : List Item} {K : Env → List Item → Prop} {d : Nat} {dst : Option Nat} {t : TypeId} {p : String} {af : Array Edge} {g : Option (Nat × Bool)}
theorem q_clip {x y z : Operand} {T E : TypeId} {b : Option Addr} {m c k by_ : Nat} {zv : Value} (hu : P.underlying T = some (.slice E)) (hi' : Inf P E zv k by_) (hx : ev ρ x = .slice b m c) (hy : ev ρ y = .int .i64 (m : Int)) (hz : ev ρ z = .int .i64 (m : Int)) (h : m ≤ c) :
    QT P base ⟨dst, .slice T x none (some y) (some z), t, p, af, g⟩ ρ O (.slice b m m) := fun w _ => by
  have e1 : (m : Int) ≤ (c : Int) := by omega
  have e2 : (0 : Int) ≤ (m : Int) := by omega
  by_cases hc0 : m = 0
  · simp [execOp, Instr.sliceAt, Instr.slice, hx, hy, hz, run_underlying' hu, run_sizeOf' hi', Instr.sliceBounds, Instr.sliceBound, asIntOf, e1, e2, hc0, h]
  · simp [execOp, Instr.sliceAt, Instr.slice, hx, hy, hz, run_underlying' hu, run_sizeOf' hi', Instr.sliceBounds, Instr.sliceBound, asIntOf, e1, e2, hc0, h]
    cases b <;> simp [Addr.add]
theorem run_appendF {T U E : TypeId} {xd : TypeDesc} {b : Option Addr} {m l s by_ : Nat} {x z : Value} {cs new : List Value} {ty : TypeId}
    (hu : P.underlying T = some (.slice E)) (hxu : P.underlying U = some xd) (hxi : (∃ XE, xd = .slice XE) ∨ xd = .string) (hi : Inf P E z s by_) (hz : z.cells.size = s)
    (hcs : Src P base O s m (.slice b m m) cs) (hl0 : 0 < l)
    (hx : Src P base O s l x new) (hone : (new.all oneB) = true) (hsz : (m + l) * by_ ≤ 70368744177664) (hby : by_ ≤ 1000000) (hsz' : 0 < by_) {w : World} (hI : Inv base O w) :
    ∃ b' c' w', (Builtin.append_ #[T, U] ty #[.slice b m m, x]).run P w = .ok (.slice b' (m + l) c') w' ∧ Inv base (rowI b' c' E s (cs ++ new) :: O) w' := by
  obtain ⟨hnl, hlen, hfirst⟩ := hx
  obtain ⟨hl, _, hfs⟩ := hcs
  obtain ⟨i, hi1, hi2, hi3, hi4⟩ := hi.get
  have hfit : ¬ m + l ≤ m := by omega
  obtain ⟨cap, hcap⟩ : ∃ cap, (Question.appendCap (m + l) m E).cut (w.tape w.drawn (Question.appendCap (m + l) m E)) = cap := ⟨_, rfl⟩
  have hle : m + l ≤ cap := hcap ▸ cut_cap (m + l) m _ E
  have hforced : (Question.appendCap (m + l) m E).forced = false := rfl
  have hI' : Inv base O w.drew := hI.drew
  have hfx := hfirst w hI
  have hfx' := hfirst _ hI'
  have hfs' := hfs _ hI'
  have hnext : ¬ (Builtin.nextslicecap (m + l) m * by_ > 2 ^ 48) := by
    have h1 := nextcap_le (need := m + l) (cap := m) (by omega)
    have h2 : Builtin.nextslicecap (m + l) m * by_ ≤ (2 * (m + l) + 192) * by_ := Nat.mul_le_mul_right _ h1
    have h3 : (2 * (m + l) + 192) * by_ = 2 * ((m + l) * by_) + 192 * by_ := by rw [Nat.add_mul, Nat.mul_assoc]
    omega
  obtain ⟨w', hw'⟩ : ∃ w' : World, w' = w.drew.alloc (.cells (cs.toArray ++ new.toArray ++ Builtin.zeroCells z.cells (cap - (m + l))) E) := ⟨_, rfl⟩
  refine ⟨some ⟨w.heap.size, 0, none⟩, cap, w', ?_, ?_⟩
  · have hmax' : ¬ (9223372036854775807 < ((m : Int) + (l : Int)) ∧ by_ = 0) := by rintro ⟨_, h⟩; omega
    have hnext' : ¬ (281474976710656 < Builtin.nextslicecap (m + l) m * by_) := by simpa using hnext
    have hl' : ¬ l = 0 := by omega
    rcases hxi with ⟨XE, rfl⟩ | rfl <;> simp [Builtin.append_, run_underlying' hu, run_underlying' hxu, run_sizeOf' hi, hlen, hfit, hl', run_typeInfo' hi1, hi4, hmax', hnext', hforced, hcap, hfs', hfx', run_zeroValue' hi, newRow, hw']
    all_goals (have e : (cs ++ new).toArray = cs.toArray ++ new.toArray := by simp)
    all_goals rw [e, Array.append_assoc]
  · subst hw'
    refine Inv.new (N := [rowI (some ⟨w.heap.size, 0, none⟩) cap E s (cs ++ new)]) hI' rfl rfl rfl (by simp) (fun q hq => ?_) ?_ ?_ (by simp [rowI])
    · show (w.heap.push _)[q]? = _
      rw [Array.getElem?_push, if_neg (by have : q < w.heap.size := hq; omega)]; rfl
    · intro it hit
      obtain rfl := List.mem_singleton.1 hit
      refine ⟨rfl, cs.toArray ++ new.toArray ++ Builtin.zeroCells z.cells (cap - (m + l)), ?_, ?_, ?_, ?_⟩
      · show (w.heap.push _)[w.heap.size]? = _
        simp
      · simp only [List.length_append, hl, hnl, ← Nat.add_mul]; exact Nat.mul_le_mul_right s hle
      · simp only [Array.size_append, List.size_toArray, zeros_any, hz, hl, hnl, ← Nat.add_mul, Nat.zero_add]
        exact Nat.mul_le_mul_right s (by omega)
      · intro q hq
        simp only [Nat.zero_add]
        rw [Array.getElem?_append_left (by simp at hq ⊢; exact hq)]
        simp
    · intro it hit q hq
      obtain rfl := List.mem_singleton.1 hit
      simp [rowI] at hq
      subst hq
      exact ⟨Nat.le_refl _, by simp⟩
theorem l_appendF {T U E XE : TypeId} {b : Option Addr} {m l s by_ : Nat} {x y : Operand} {xv z : Value} {cs new : List Value}
    (hu : P.underlying T = some (.slice E)) (hxu : P.underlying U = some (.slice XE)) (hi : Inf P E z s by_) (hz : z.cells.size = s)
    (hx : ev ρ x = .slice b m m) (hy : ev ρ y = xv) (hcs : Src P base O s m (.slice b m m) cs) (hl0 : 0 < l)
    (hsrc : Src P base O s l xv new) (hone : (new.all oneB) = true) (hsz : (m + l) * by_ ≤ 70368744177664) (hby : by_ ≤ 1000000) (hsz' : 0 < by_)
    (h : ∀ b' c', K (upd ρ d (.slice b' (m + l) c')) (rowI b' c' E s (cs ++ new) :: O)) (hn : Nat.blt d n = true := by rfl) :
    LT P r base n ⟨some d, .call ⟨.builtin .append, #[x, y], #[T, U]⟩, t, p, af, g⟩ ρ O K :=
  LT.of_run hn fun w M hI => by
    obtain ⟨b', c', w', hr, hI'⟩ := run_appendF (ty := t) hu hxu (.inl ⟨_, rfl⟩) hi hz hcs.app hl0 hsrc.app hone hsz hby hsz' hI
    refine ⟨_, w', _, ?_, hI', h b' c'⟩
    simp [execOp, resolve, hx, hy, invoke, builtin, hr]
end
theorem Res.cell1t {P : Program} {base : World} {ρ : Env} {O : List Item} {fn : Func} {R : Value → List Item → Prop} {a i c : Nat} {T E : TypeId} {d : TypeDesc} {b : Nat} {v : Value} (u : Value) {cs : List Value} {fr : Nat × Nat} (hr : fn.results = #[.cell a T, .tmp c]) (hu : P.underlying T = some d) (ha : aggB d = false)
    (hp : ρ a = .pointer (some ⟨b, 0, none⟩)) (hO : O[i]? = some (objI b (.cells (v :: cs).toArray E fr))) (hc' : ρ c = u)
    (h : R (.tuple #[v, u]) O) : Res P base fn ρ O R :=
  ⟨⟨_, O, Sub.of (List.Sublist.refl _), h, fun w tmps hI ht => by
    have h1 := run_loadBox1 (P := P) hu ha (hI.objAt hO)
    have ht' := ht a
    have hc := ht c
    simp only [Array.getD_eq_getD_getElem?] at ht' hc
    simp [results, hr, ht', hc, hp, hc', asAddr, h1]⟩⟩
theorem wvals_gt {us : List WRec} {n : Nat} (h : n < us.length) : (wvals us)[n]? = some (.slice us[n].b us[n].xs.length us[n].c) := by
  rw [List.getElem?_map, List.getElem?_eq_getElem h]; rfl
theorem witms_snoc (E : TypeId) (qs : List WRec) (r : WRec) : witms E (qs ++ [r]) = witms E qs ++ [r.itm E] := List.map_append
theorem take_pre {α : Type} {l r : List α} {m : Nat} (h : m ≤ l.length) : (l ++ r).take m = l.take m := by rw [List.take_append_of_le_length h]
structure WdsI (d : DFA) (m n i : Nat) (ws : List (List Nat)) : Prop where
  eq : ws = (allW d n ++ (wsN d n d.start.toNat).take i).take m
theorem WdsI.zero {d : DFA} {m n : Nat} {ws : List (List Nat)} (h : ws = (allW d n).take m) : WdsI d m n 0 ws := ⟨by simpa using h⟩
theorem WdsI.put {d : DFA} {m n i : Nat} {ws : List (List Nat)} {u : List Nat} (h : WdsI d m n i ws) (hu : (wsN d n d.start.toNat)[i]? = some u) (hl : ws.length ≠ m) : WdsI d m n (i + 1) (ws ++ [u]) := by
  have hi := (List.getElem?_eq_some_iff.1 hu).1
  have hui := (List.getElem?_eq_some_iff.1 hu).2
  have hlt : (allW d n ++ (wsN d n d.start.toNat).take i).length < m := by
    have := congrArg List.length h.eq
    rw [List.length_take] at this
    omega
  refine ⟨?_⟩
  have e1 := List.take_of_length_le (Nat.le_of_lt hlt)
  have e2 : ((allW d n ++ (wsN d n d.start.toNat).take i) ++ [u]).take m = (allW d n ++ (wsN d n d.start.toNat).take i) ++ [u] := List.take_of_length_le (by rw [List.length_append (bs := [u])]; simp only [List.length_cons, List.length_nil]; omega)
  rw [List.take_succ_eq_append_getElem hi, hui, ← List.append_assoc, h.eq, e1, e2]
theorem WdsI.done {d : DFA} {m n : Nat} {ws : List (List Nat)} (h : WdsI d m n (wsN d n d.start.toNat).length ws) : ws = (allW d (n + 1)).take m := by
  rw [h.eq, List.take_length, allW_snoc]
theorem WdsI.full {d : DFA} {m n i : Nat} {ws : List (List Nat)} (h : WdsI d m n i ws) (hl : ws.length = m) : ws = (allW d (n + 1)).take m := by
  have h1 : m ≤ (allW d n ++ (wsN d n d.start.toNat).take i).length := by
    have := congrArg List.length h.eq
    rw [List.length_take] at this; omega
  have h2 : allW d (n + 1) = (allW d n ++ (wsN d n d.start.toNat).take i) ++ (wsN d n d.start.toNat).drop i := by rw [List.append_assoc, List.take_append_drop, allW_snoc]
  rw [h2, take_pre h1]; exact h.eq
theorem allW_pre (d : DFA) {n N : Nat} (h : n ≤ N) : ∃ r, allW d N = allW d n ++ r := by
  induction h with
  | refl => exact ⟨[], by simp⟩
  | step _ ih => obtain ⟨r, hr⟩ := ih; exact ⟨r ++ wsN d _ d.start.toNat, by rw [allW_snoc, hr, List.append_assoc]⟩
theorem wds_end {d : DFA} {m n : Nat} {ws : List (List Nat)} (hn : n ≤ 65) (h : ws = (allW d n).take m) (hc : n = 65 ∨ m ≤ ws.length) : ws = (allW d 65).take m := by
  rcases hc with rfl | hc
  · exact h
  · obtain ⟨r, hr⟩ := allW_pre d hn
    have hl : m ≤ (allW d n).length := by
      have := congrArg List.length h
      rw [List.length_take] at this; omega
    rw [hr, take_pre hl]; exact h
end Go.Lx


namespace Go.Proofs.YtnmfefmhfkhihaaDoor
open Go.Lx Go.RowKit
set_option linter.unusedVariables false
set_option linter.unusedSimpArgs false
set_option maxHeartbeats 1000000 in
set_option maxRecDepth 20000 in
theorem clipC (w : World) [Tab Tryd.prog w] (b : Option Addr) (m c : Nat) (h : m ≤ c) :
    PureT Tryd.prog 63 [.slice b m c] w fun v N => v = .slice b m m ∧ N = [] := by
  refine CallT.enter Tryd.func63 rfl Tryd.ntmps63 rfl ?_
  refine T.seq (T.region ?_)
  refine TO.quiet (q_assign rfl) ?_
  refine TO.nil (T.seq (T.region ?_))
  refine TO.quiet (q_move rfl) (TO.quiet (q_move rfl) (TO.quiet (q_len Tryd.underlying29 rfl) (TO.quiet (q_move rfl) ?_)))
  refine TO.quiet (q_len Tryd.underlying29 rfl) (TO.quiet (q_clip Tryd.underlying29 inf5 rfl rfl rfl h) (TO.quiet (q_assign rfl) ?_))
  refine TO.nil (T.ret (Res.drop ?_))
  refine Res.one (.slice b m m) Tryd.results63 rfl ?_
  exact ⟨[], Sub.z, rfl, rfl⟩
set_option maxHeartbeats 1000000 in
set_option maxRecDepth 20000 in
theorem wordsMk (w : World) [Tab Tryd.prog w] (a : DFA) (k : DK) (tb pb : Option Addr) (s n pl pc : Nat) :
    PureT Tryd.prog 43 [dV a k, .slice tb 65 65, .int .i64 ((s : Nat) : Int), .int .i64 ((n : Nat) : Int), .slice pb pl pc] w fun v N => ∃ xb nb sb ub db : Nat, v = (.func (.func 62) #[] #[(.pointer (some ⟨nb, 0, none⟩)), (.pointer (some ⟨db, 0, none⟩)), (.pointer (some ⟨sb, 0, none⟩)), (.pointer (some ⟨xb, 0, none⟩)), (.pointer (some ⟨ub, 0, none⟩))]) ∧ N = [oI xb 29 [(.slice pb pl pc)], oI nb 3 [(.int .i64 ((n : Nat) : Int))], oI sb 3 [(.int .i64 ((s : Nat) : Int))], oI ub 64 [(.slice tb 65 65)], oI db 25 (dC a k)] := by
  refine CallT.enter Tryd.func43 rfl Tryd.ntmps43 rfl ?_
  refine T.seq (T.region ?_)
  refine TO.loud rfl (l_box (v := (dV a k)) (cs := (dC a k)) rfl rfl (fun z1 => ?_))
  refine TO.loud rfl (l_box (v := (.slice tb 65 65)) (cs := [(.slice tb 65 65)]) rfl rfl (fun z2 => ?_))
  refine TO.loud rfl (l_box (v := (.int .i64 ((s : Nat) : Int))) (cs := [(.int .i64 ((s : Nat) : Int))]) rfl rfl (fun z3 => ?_))
  refine TO.loud rfl (l_box (v := (.int .i64 ((n : Nat) : Int))) (cs := [(.int .i64 ((n : Nat) : Int))]) rfl rfl (fun z4 => ?_))
  refine TO.loud rfl (l_box (v := (.slice pb pl pc)) (cs := [(.slice pb pl pc)]) rfl rfl (fun z5 => ?_))
  refine TO.quiet (q_assign rfl) ?_
  refine TO.nil (T.seq (T.region ?_))
  refine TO.quiet (q_makeFunc) (TO.quiet (q_assign rfl) ?_)
  refine TO.nil (T.ret ?_)
  refine Res.one (.func (.func 62) #[] #[(.pointer (some ⟨z4, 0, none⟩)), (.pointer (some ⟨z1, 0, none⟩)), (.pointer (some ⟨z3, 0, none⟩)), (.pointer (some ⟨z5, 0, none⟩)), (.pointer (some ⟨z2, 0, none⟩))]) Tryd.results43 rfl ?_
  exact ⟨z5, z4, z3, z2, z1, rfl, rfl⟩
set_option maxHeartbeats 8000000 in
set_option maxRecDepth 20000 in
theorem wordsF (base : World) [Tab Tryd.prog base] (a : DFA) (k : DK) (ha : At base a k) (hv : Valid a) (tb : Option Addr) (us : List URec) (hT : TabOk a us) :
    ∀ (n s : Nat) (p : List Nat) (pl : Nat) (hpl : pl = p.length) (pcs : List Value) (hpc : pcs = byts p) (xb nb sb ub db : Nat) (pb : Option Addr) (pc : Nat) (yv : Value) (hyc : yv.cells = #[yv]) (J : Nat → List Lx.Item → Prop) (Q : List Lx.Item → Prop) (hn : p.length + n ≤ 64) (hs : s < a.next.length)
    (hy : ∀ (i : Nat) (u : List Nat) (rb : Option Addr) (rc : Nat) (O : List Lx.Item), (wsN a n s)[i]? = some u → J i O → CallV Tryd.prog base yv [.slice rb (p ++ u).length rc] (O ++ [rowI rb rc 5 1 (byts (p ++ u))]) (fun v O' => (v = .bool true ∧ J (i + 1) O') ∨ (v = .bool false ∧ Q O')))
    (O : List Lx.Item) (h0 : J 0 O),
    CallT Tryd.prog base 62 [yv, (.pointer (some ⟨nb, 0, none⟩)), (.pointer (some ⟨db, 0, none⟩)), (.pointer (some ⟨sb, 0, none⟩)), (.pointer (some ⟨xb, 0, none⟩)), (.pointer (some ⟨ub, 0, none⟩))] ([oI xb 29 [(.slice pb pl pc)], oI nb 3 [(.int .i64 ((n : Nat) : Int))], oI sb 3 [(.int .i64 ((s : Nat) : Int))], oI ub 64 [(.slice tb 65 65)], oI db 25 (dC a k), rowI pb pc 5 1 pcs, tabI 62 26 a tb us] ++ O) (fun _ O' => (∃ O2, O' = O2 ++ [tabI 62 26 a tb us] ∧ J (wsN a n s).length O2) ∨ (∃ O2, O' = O2 ++ [tabI 62 26 a tb us] ∧ Q O2)) := by
  intro n
  induction n using Nat.strongRecOn with
  | _ n ih => ?_
  intro s p pl hpl pcs hpc xb nb sb ub db pb pc yv hyc J Q hn hs hy O h0
  subst hpl hpc
  refine CallT.enter Tryd.func62 rfl Tryd.ntmps62 rfl ?_
  have hww : letN a ≤ 64 := hv.width
  have hfin := hv.fin
  have hvl := ha.rows.1
  have hsf : s < a.final.length := by omega
  refine T.seq (T.region ?_)
  refine TO.loud rfl (l_box (v := yv) (cs := [yv]) rfl hyc (fun yb => ?_))
  refine TO.nil (T.seq (T.seq (T.region ?_)))
  refine TO.quiet (q_load_box 2 Tryd.underlying3 rfl rfl rfl rfl) (TO.quiet (q_eql rfl rfl) ?_)
  refine TO.nil ?_
  refine T.condP rfl (fun hc => ?_) (fun hc => ?_)
  · have hlt11 : n = 0 := by omega
    have hn0 : n = 0 := by omega
    refine T.seq (T.seq (T.region ?_))
    refine TO.quiet (q_fieldAddr Tryd.underlying25 rfl inf23 rfl rfl) (TO.quiet (q_load_box 5 Tryd.underlying23 rfl rfl rfl rfl) (TO.quiet (q_load_box 3 Tryd.underlying3 rfl rfl rfl rfl) (TO.quiet (q_ix (i := s) Tryd.underlying23 inf4 rfl rfl (Sl.o ha.final) (by omega) (by rw [List.length_map]; omega)) ?_)))
    refine TO.quiet (q_ld Tryd.underlying4 rfl rfl (Sl.o ha.final) (bools_get hsf)) ?_
    refine TO.nil ?_
    refine T.cond rfl (fun hc => ?_) (fun hc => ?_)
    · have hfn : finN a s = true := by rw [← hc]; simp [finN, hsf]
      have hws : wsN a n s = [[]] := by rw [hn0]; unfold wsN; rw [if_pos hfn]
      refine T.draws _ [(0, 0), (1, 0), (2, 1), (3, 2)] mixed (by kernel_rfl) (Sub.of (List.Sublist.refl _)) (fun _ _ _ h => h) ?_
      refine DO.quiet rfl (q_load_box 0 Tryd.underlying85 rfl rfl rfl rfl) (DO.quiet rfl (q_load_box 1 Tryd.underlying29 rfl rfl rfl rfl) ?_)
      have hk19 := fun (w1 : World) (hI : Inv base ([oI yb 85 [yv], oI xb 29 [(.slice pb p.length pc)], oI nb 3 [(.int .i64 ((n : Nat) : Int))], oI sb 3 [(.int .i64 ((s : Nat) : Int))], oI ub 64 [(.slice tb 65 65)], oI db 25 (dC a k), rowI pb pc 5 1 (byts p), tabI 62 26 a tb us] ++ O) w1) => (haveI := Inv.tab (P := Tryd.prog) hI; cloneC w1 pb pc p (hI.slOf (List.mem_append_left _ (List.mem_of_getElem? (i := 6) rfl))) (by omega))
      refine DO.loud rfl rfl (l_call ent44 (CallT.of_pure hk19) rfl ?_)
      clear hk19
      rintro vr O' ⟨N, rfl, cb, cc, rfl, rfl⟩
      refine ⟨by exact Sub.d (.k (.k (.k (.k (.k (.k (.k (.k .rf)))))))), ?_⟩
      have hk20 := CallV.under (B := [oI yb 85 [yv], oI xb 29 [(.slice pb p.length pc)], oI nb 3 [(.int .i64 ((n : Nat) : Int))], oI sb 3 [(.int .i64 ((s : Nat) : Int))], oI ub 64 [(.slice tb 65 65)], oI db 25 (dC a k), rowI pb pc 5 1 (byts p), tabI 62 26 a tb us]) (O := ([rowI cb cc 5 1 (byts p), oI yb 85 [yv], oI xb 29 [(.slice pb p.length pc)], oI nb 3 [(.int .i64 ((n : Nat) : Int))], oI sb 3 [(.int .i64 ((s : Nat) : Int))], oI ub 64 [(.slice tb 65 65)], oI db 25 (dC a k), rowI pb pc 5 1 (byts p), tabI 62 26 a tb us] ++ O)) (by
          have h9 := hy 0 [] cb cc O (by rw [hws]; rfl) h0
          rw [List.append_nil] at h9
          exact h9) (Sub.cnt [] (by intro a; simp only [itms, oI, List.set_cons_zero, List.set_cons_succ, putL, List.cons_append, List.nil_append, List.append_nil, List.append_assoc, List.map_append, List.map_cons, List.map_nil, cnt_append, cnt_cons, cnt_nil] <;> omega))
      refine DO.last rfl rfl (l_callG hk20 rfl rfl ?_)
      clear hk20
      rintro vr O' ⟨A1, rfl, hA⟩
      refine DO.done ?_
      refine T.ret (Res.drop ?_)
      refine Res.zero Tryd.results62 ?_
      rcases hA with ⟨rfl, hA⟩ | ⟨rfl, hA⟩
      · exact ⟨A1 ++ [tabI 62 26 a tb us], Sub.cnt [oI yb 85 [yv], oI xb 29 [(.slice pb p.length pc)], oI nb 3 [(.int .i64 ((n : Nat) : Int))], oI sb 3 [(.int .i64 ((s : Nat) : Int))], oI ub 64 [(.slice tb 65 65)], oI db 25 (dC a k), rowI pb pc 5 1 (byts p)] (by intro a; simp only [itms, oI, List.set_cons_zero, List.set_cons_succ, putL, List.cons_append, List.nil_append, List.append_nil, List.append_assoc, List.map_append, List.map_cons, List.map_nil, cnt_append, cnt_cons, cnt_nil] <;> omega), .inl ⟨A1, rfl, by rw [hws]; exact hA⟩⟩
      · exact ⟨A1 ++ [tabI 62 26 a tb us], Sub.cnt [oI yb 85 [yv], oI xb 29 [(.slice pb p.length pc)], oI nb 3 [(.int .i64 ((n : Nat) : Int))], oI sb 3 [(.int .i64 ((s : Nat) : Int))], oI ub 64 [(.slice tb 65 65)], oI db 25 (dC a k), rowI pb pc 5 1 (byts p)] (by intro a; simp only [itms, oI, List.set_cons_zero, List.set_cons_succ, putL, List.cons_append, List.nil_append, List.append_nil, List.append_assoc, List.map_append, List.map_cons, List.map_nil, cnt_append, cnt_cons, cnt_nil] <;> omega), .inr ⟨A1, rfl, hA⟩⟩
    have hfn : finN a s = false := by rw [← hc]; simp [finN, hsf]
    have hws : wsN a n s = [] := by rw [hn0]; unfold wsN; rw [if_neg (by rw [hfn]; decide)]
    refine T.skip (T.ret (Res.drop ?_))
    refine Res.zero Tryd.results62 ?_
    exact ⟨O ++ [tabI 62 26 a tb us], Sub.cnt [oI yb 85 [yv], oI xb 29 [(.slice pb p.length pc)], oI nb 3 [(.int .i64 ((n : Nat) : Int))], oI sb 3 [(.int .i64 ((s : Nat) : Int))], oI ub 64 [(.slice tb 65 65)], oI db 25 (dC a k), rowI pb pc 5 1 (byts p)] (by intro a; simp only [itms, oI, List.set_cons_zero, List.set_cons_succ, putL, List.cons_append, List.nil_append, List.append_nil, List.append_assoc, List.map_append, List.map_cons, List.map_nil, cnt_append, cnt_cons, cnt_nil] <;> omega), .inl ⟨O, rfl, by rw [hws]; exact h0⟩⟩
  have hge11 : ¬ n = 0 := by omega
  obtain ⟨n1, hn1⟩ : ∃ n1, n = n1 + 1 := ⟨n - 1, by omega⟩
  obtain ⟨v1, c1, g1, s1⟩ := ha.rows.get hs
  have hl1 : a.next[s].length = letN a := hv.len _ (List.getElem_mem hs)
  obtain ⟨q1, hq1, hz1⟩ := hT.get (show n1 < 65 by omega)
  refine T.skip (T.seq (T.region ?_))
  refine TO.quiet (q_fieldAddr Tryd.underlying25 rfl inf22 rfl rfl) (TO.quiet (q_load_box 5 Tryd.underlying22 rfl rfl rfl rfl) (TO.quiet (q_load_box 3 Tryd.underlying3 rfl rfl rfl rfl) (TO.quiet (q_ix (i := s) Tryd.underlying22 inf41 rfl rfl (Sl.o ha.outer) hs (hvl ▸ hs)) ?_)))
  refine TO.quiet (q_ld Tryd.underlying41 rfl rfl (Sl.o ha.outer) g1) (TO.quiet (q_len Tryd.underlying41 rfl) (TO.quiet (q_move rfl) ?_))
  refine TO.nil (T.block ?_)
  refine T.loop (fun (x : Nat) ρ O => ∃ (O1 : List Lx.Item), O = ([oI yb 85 [yv], oI xb 29 [(.slice pb p.length pc)], oI nb 3 [(.int .i64 ((n : Nat) : Int))], oI sb 3 [(.int .i64 ((s : Nat) : Int))], oI ub 64 [(.slice tb 65 65)], oI db 25 (dC a k), rowI pb pc 5 1 (byts p), tabI 62 26 a tb us] ++ O1) ∧ x ≤ letN a ∧ J (psum a n1 s x) O1 ∧ Heads [(0, yv), (1, (.pointer (some ⟨nb, 0, none⟩))), (2, (.pointer (some ⟨db, 0, none⟩))), (3, (.pointer (some ⟨sb, 0, none⟩))), (4, (.pointer (some ⟨xb, 0, none⟩))), (5, (.pointer (some ⟨ub, 0, none⟩))), (6, (.pointer (some ⟨yb, 0, none⟩))), (25, (.slice v1 a.next[s].length c1)), (26, .int .i64 (a.next[s].length : Int)), (27, (.int .i64 ((x : Nat) : Int)))] ρ) (fun x => letN a - x) 0 ?_ ?_
  · exact ⟨O, rfl, Nat.zero_le _, h0, ⟨rfl, rfl, rfl, rfl, rfl, rfl, rfl, rfl, rfl, rfl, trivial⟩⟩
  rintro x ρ O ⟨O1, rfl, hx, hJ, hH⟩
  obtain ⟨ρ0, rfl⟩ := hH.elim
  clear hH
  refine T.seq (T.region ?_)
  refine TO.quiet (q_lss rfl rfl) ?_
  refine TO.nil (T.seq ?_)
  refine T.condP rfl (fun hc => ?_) (fun hc => ?_)
  · have hlt28 : x < a.next[s].length := by omega
    have hxl : x < letN a := by omega
    obtain ⟨hto, _, hxk1, hx1⟩ := hv.toN_lt hs hxl
    have hx1 : (ints a.next[s])[x]? = some (.int .i64 ((toN a s x : Nat) : Int)) := by rw [ints_get hxk1, hx1]
    refine T.skip (T.seq (T.block (T.seq (T.region ?_))))
    refine TO.quiet (q_move rfl) (TO.quiet (q_ix (i := x) Tryd.underlying41 inf3 rfl rfl (Sl.o s1) hxk1 (by rw [List.length_map]; exact hxk1)) (TO.quiet (q_ld Tryd.underlying3 rfl rfl (Sl.o s1) hx1) (TO.quiet (q_assign rfl) ?_)))
    refine TO.quiet (q_assign rfl) ?_
    refine TO.nil (T.seq (T.seq (T.region ?_)))
    refine TO.quiet (q_load_box 4 Tryd.underlying64 rfl rfl rfl rfl) (TO.quiet (q_load_box 2 Tryd.underlying3 rfl rfl rfl rfl) (TO.quiet (QT.cast (q_sub64 rfl rfl (by omega)) (v' := .int .i64 ((n1 : Nat) : Int)) (congrArg (Value.int .i64) (by omega))) (TO.quiet (q_ix (i := n1) Tryd.underlying64 inf62 rfl rfl (tabO (List.mem_append_left _ (List.mem_of_getElem? (i := 7) rfl))) (by omega) (by rw [List.length_map, hT.len]; omega)) ?_)))
    refine TO.quiet (q_ld Tryd.underlying62 rfl rfl (tabO (List.mem_append_left _ (List.mem_of_getElem? (i := 7) rfl))) (uvals_at hq1)) (TO.quiet (q_move rfl) (TO.quiet (q_ix (i := (toN a s x)) Tryd.underlying62 inf26 rfl rfl (tabQR (List.mem_append_left _ (List.mem_of_getElem? (i := 7) rfl)) hq1 hz1) (by rw [hz1, tabR_len]; exact hto) (by rw [List.length_map, tabR_len]; exact hto)) (TO.quiet (q_ld Tryd.underlying26 rfl rfl (tabQR (List.mem_append_left _ (List.mem_of_getElem? (i := 7) rfl)) hq1 hz1) (tabR_get hto)) ?_)))
    refine TO.quiet (q_eql rfl rfl) ?_
    refine TO.nil ?_
    refine T.condP rfl (fun hc => ?_) (fun hc => ?_)
    · have hlt40 : satN 18446744073709551615 a n1 (toN a s x) = 0 := by omega
      have hzero : cntN a n1 (toN a s x) = 0 := satN_none (B := 18446744073709551615) (by decide) (by omega)
      refine T.exit ?_
      
      refine T.region ?_
      refine TO.quiet (q_addN (a := x) (b := 1) rfl rfl (by omega)) (TO.quiet (q_move rfl) ?_)
      refine TO.nil ?_
      exact ⟨x + 1, by omega, O1, rfl, by omega, by rw [psum_succ, hzero]; exact hJ, ⟨rfl, rfl, rfl, rfl, rfl, rfl, rfl, rfl, rfl, rfl, trivial⟩⟩
    have hge40 : ¬ satN 18446744073709551615 a n1 (toN a s x) = 0 := by omega
    skip
    refine T.skip ?_
    refine T.have (φ := p.length ≤ pc) (fun w9 hI => by have := rowP.len (hI.row (i := 6) rfl); simpa using this) (fun hcap => ?_)
    refine T.cut (fun ρ O => ∃ (bs : Nat) (b7 : Option Addr) (c7 xb2 nb2 sb2 ub2 db2 : Nat), O = ([oI xb2 29 [(.slice b7 (p.length + 1) c7)], oI nb2 3 [(.int .i64 ((n1 : Nat) : Int))], oI sb2 3 [(.int .i64 ((toN a s x : Nat) : Int))], oI ub2 64 [(.slice tb 65 65)], oI db2 25 (dC a k), rowI b7 c7 5 1 (byts p ++ [Value.int .u8 ((x : Nat) : Int)]), rowI (some ⟨bs, 0, none⟩) 1 5 1 [Value.int .u8 ((x : Nat) : Int)], oI yb 85 [yv], oI xb 29 [(.slice pb p.length pc)], oI nb 3 [(.int .i64 ((n : Nat) : Int))], oI sb 3 [(.int .i64 ((s : Nat) : Int))], oI ub 64 [(.slice tb 65 65)], oI db 25 (dC a k), rowI pb pc 5 1 (byts p), tabI 62 26 a tb us] ++ O1) ∧ Heads [(0, yv), (1, (.pointer (some ⟨nb, 0, none⟩))), (2, (.pointer (some ⟨db, 0, none⟩))), (3, (.pointer (some ⟨sb, 0, none⟩))), (4, (.pointer (some ⟨xb, 0, none⟩))), (5, (.pointer (some ⟨ub, 0, none⟩))), (6, (.pointer (some ⟨yb, 0, none⟩))), (7, (.int .i64 ((x : Nat) : Int))), (8, .int .i64 ((toN a s x : Nat) : Int)), (25, (.slice v1 a.next[s].length c1)), (26, .int .i64 (a.next[s].length : Int)), (27, (.int .i64 ((x : Nat) : Int))), (52, (.func (.func 62) #[] #[(.pointer (some ⟨nb2, 0, none⟩)), (.pointer (some ⟨db2, 0, none⟩)), (.pointer (some ⟨sb2, 0, none⟩)), (.pointer (some ⟨xb2, 0, none⟩)), (.pointer (some ⟨ub2, 0, none⟩))]))] ρ) ?_ ?_
    · refine T.tree [oI yb 85 [yv], oI xb 29 [(.slice pb p.length pc)], oI nb 3 [(.int .i64 ((n : Nat) : Int))], oI sb 3 [(.int .i64 ((s : Nat) : Int))], oI ub 64 [(.slice tb 65 65)], oI db 25 (dC a k)] 12 mixed rfl (by exact Sub.k (.k (.k (.k (.k (.k .z)))))) (fun _ _ _ h => h) ?_
      refine RO.quietT 0 rfl (by kernel_rfl) (q_load_boxAgg 5 Tryd.underlying25 rfl inf25 rfl rfl rfl) ?_
      refine RO.quietT 1 rfl (by kernel_rfl) (q_load_box 4 Tryd.underlying64 rfl rfl rfl rfl) ?_
      refine RO.quietT 2 rfl (by kernel_rfl) (q_move rfl) ?_
      refine RO.quietT 3 rfl (by kernel_rfl) (q_load_box 2 Tryd.underlying3 rfl rfl rfl rfl) ?_
      refine RO.quietT 4 rfl (by kernel_rfl) (QT.cast (q_sub64 rfl rfl (by omega)) (v' := .int .i64 ((n1 : Nat) : Int)) (congrArg (Value.int .i64) (by omega))) ?_
      refine RO.quietT 5 rfl (by kernel_rfl) (q_load_box 1 Tryd.underlying29 rfl rfl rfl rfl) ?_
      refine RO.quietT 7 rfl (by kernel_rfl) (q_move rfl) ?_
      refine RO.quietT 8 rfl (by kernel_rfl) (q_conv_id Tryd.underlying3 Tryd.underlying5 rfl (wrap8 (by omega))) ?_
      have hk47 := fun (w1 : World) (hI : Inv base ([oI yb 85 [yv], oI xb 29 [(.slice pb p.length pc)], oI nb 3 [(.int .i64 ((n : Nat) : Int))], oI sb 3 [(.int .i64 ((s : Nat) : Int))], oI ub 64 [(.slice tb 65 65)], oI db 25 (dC a k), rowI pb pc 5 1 (byts p), tabI 62 26 a tb us] ++ O1) w1) => (haveI := Inv.tab (P := Tryd.prog) hI; clipC w1 pb p.length pc hcap)
      refine RO.fork [6, 9] (by kernel_rfl) rfl ⟨⟨_, rfl, rfl, l_call ent63 (CallT.of_pure hk47) rfl ?_⟩, ⟨_, rfl, rfl, l_build1 (v := Value.int .u8 ((x : Nat) : Int)) Tryd.underlying29 inf5 rfl rfl rfl (fun bs => ⟨by exact Sub.d (.k (.k (.k (.k (.k (.k .z)))))), ?_⟩)⟩, trivial⟩
      · clear hk47
        rintro vr O' ⟨N, rfl, rfl, rfl⟩
        refine ⟨by exact Sub.k (.k (.k (.k (.k (.k .z))))), ?_⟩
        refine RO.fork [9] (by kernel_rfl) rfl ⟨⟨_, rfl, rfl, l_build1 (v := Value.int .u8 ((x : Nat) : Int)) Tryd.underlying29 inf5 rfl rfl rfl (fun bs => ⟨by exact Sub.d (.k (.k (.k (.k (.k (.k .z)))))), ?_⟩)⟩, trivial⟩
        refine RO.fork [10] (by kernel_rfl) rfl ⟨⟨_, rfl, rfl, l_appendF (cs := byts p) (new := [Value.int .u8 ((x : Nat) : Int)]) Tryd.underlying29 Tryd.underlying29 inf5 rfl rfl rfl (Src.row (j := 7) rfl (by rw [List.length_map, Nat.mul_one]) p.length) (by decide) (Src.row (j := 0) rfl (by simp)) (by simp [oneB]) (by omega) (by decide) (by decide) (fun b7 c7 => ⟨by exact Sub.d (.d (.k (.k (.k (.k (.k (.k .z))))))), ?_⟩)⟩, trivial⟩
        have hk52 := fun (w1 : World) (hI : Inv base ([rowI b7 c7 5 1 (byts p ++ [Value.int .u8 ((x : Nat) : Int)]), rowI (some ⟨bs, 0, none⟩) 1 5 1 [Value.int .u8 ((x : Nat) : Int)], oI yb 85 [yv], oI xb 29 [(.slice pb p.length pc)], oI nb 3 [(.int .i64 ((n : Nat) : Int))], oI sb 3 [(.int .i64 ((s : Nat) : Int))], oI ub 64 [(.slice tb 65 65)], oI db 25 (dC a k), rowI pb pc 5 1 (byts p), tabI 62 26 a tb us] ++ O1) w1) => (haveI := Inv.tab (P := Tryd.prog) hI; wordsMk w1 a k tb b7 (toN a s x) n1 (p.length + 1) c7)
        refine RO.fork [11] (by kernel_rfl) rfl ⟨⟨_, rfl, rfl, l_call ent43 (CallT.of_pure hk52) rfl ?_⟩, trivial⟩
        clear hk52
        rintro vr O' ⟨N, rfl, xb2, nb2, sb2, ub2, db2, rfl, rfl⟩
        refine ⟨by exact Sub.d (.d (.d (.d (.d (.d (.d (.k (.k (.k (.k (.k (.k .z)))))))))))), ?_⟩
        exact RO.fin (by kernel_rfl) ⟨bs, b7, c7, xb2, nb2, sb2, ub2, db2, rfl, ⟨rfl, rfl, rfl, rfl, rfl, rfl, rfl, rfl, rfl, rfl, rfl, rfl, rfl, trivial⟩⟩ (by exact Sub.rf)
      have hk47 := fun (w1 : World) (hI : Inv base ([rowI (some ⟨bs, 0, none⟩) 1 5 1 [Value.int .u8 ((x : Nat) : Int)], oI yb 85 [yv], oI xb 29 [(.slice pb p.length pc)], oI nb 3 [(.int .i64 ((n : Nat) : Int))], oI sb 3 [(.int .i64 ((s : Nat) : Int))], oI ub 64 [(.slice tb 65 65)], oI db 25 (dC a k), rowI pb pc 5 1 (byts p), tabI 62 26 a tb us] ++ O1) w1) => (haveI := Inv.tab (P := Tryd.prog) hI; clipC w1 pb p.length pc hcap)
      refine RO.fork [6] (by kernel_rfl) rfl ⟨⟨_, rfl, rfl, l_call ent63 (CallT.of_pure hk47) rfl ?_⟩, trivial⟩
      clear hk47
      rintro vr O' ⟨N, rfl, rfl, rfl⟩
      refine ⟨by exact Sub.d (.k (.k (.k (.k (.k (.k .z)))))), ?_⟩
      refine RO.fork [10] (by kernel_rfl) rfl ⟨⟨_, rfl, rfl, l_appendF (cs := byts p) (new := [Value.int .u8 ((x : Nat) : Int)]) Tryd.underlying29 Tryd.underlying29 inf5 rfl rfl rfl (Src.row (j := 7) rfl (by rw [List.length_map, Nat.mul_one]) p.length) (by decide) (Src.row (j := 0) rfl (by simp)) (by simp [oneB]) (by omega) (by decide) (by decide) (fun b7 c7 => ⟨by exact Sub.d (.d (.k (.k (.k (.k (.k (.k .z))))))), ?_⟩)⟩, trivial⟩
      have hk52 := fun (w1 : World) (hI : Inv base ([rowI b7 c7 5 1 (byts p ++ [Value.int .u8 ((x : Nat) : Int)]), rowI (some ⟨bs, 0, none⟩) 1 5 1 [Value.int .u8 ((x : Nat) : Int)], oI yb 85 [yv], oI xb 29 [(.slice pb p.length pc)], oI nb 3 [(.int .i64 ((n : Nat) : Int))], oI sb 3 [(.int .i64 ((s : Nat) : Int))], oI ub 64 [(.slice tb 65 65)], oI db 25 (dC a k), rowI pb pc 5 1 (byts p), tabI 62 26 a tb us] ++ O1) w1) => (haveI := Inv.tab (P := Tryd.prog) hI; wordsMk w1 a k tb b7 (toN a s x) n1 (p.length + 1) c7)
      refine RO.fork [11] (by kernel_rfl) rfl ⟨⟨_, rfl, rfl, l_call ent43 (CallT.of_pure hk52) rfl ?_⟩, trivial⟩
      clear hk52
      rintro vr O' ⟨N, rfl, xb2, nb2, sb2, ub2, db2, rfl, rfl⟩
      refine ⟨by exact Sub.d (.d (.d (.d (.d (.d (.d (.k (.k (.k (.k (.k (.k .z)))))))))))), ?_⟩
      exact RO.fin (by kernel_rfl) ⟨bs, b7, c7, xb2, nb2, sb2, ub2, db2, rfl, ⟨rfl, rfl, rfl, rfl, rfl, rfl, rfl, rfl, rfl, rfl, rfl, rfl, rfl, trivial⟩⟩ (by exact Sub.rf)
    rintro ρ O ⟨bs, b7, c7, xb2, nb2, sb2, ub2, db2, rfl, hH⟩
    obtain ⟨ρ0, rfl⟩ := hH.elim
    clear hH
    refine T.block ?_
    refine T.sub (O' := ([oI xb2 29 [(.slice b7 (p.length + 1) c7)], oI nb2 3 [(.int .i64 ((n1 : Nat) : Int))], oI sb2 3 [(.int .i64 ((toN a s x : Nat) : Int))], oI ub2 64 [(.slice tb 65 65)], oI db2 25 (dC a k), rowI b7 c7 5 1 (byts p ++ [Value.int .u8 ((x : Nat) : Int)]), tabI 62 26 a tb us, oI yb 85 [yv], oI xb 29 [(.slice pb p.length pc)], oI nb 3 [(.int .i64 ((n : Nat) : Int))], oI sb 3 [(.int .i64 ((s : Nat) : Int))], oI ub 64 [(.slice tb 65 65)], oI db 25 (dC a k), rowI pb pc 5 1 (byts p)] ++ O1)) (by exact Sub.k (.k (.k (.k (.k (.k (.d (.pull [oI yb 85 [yv], oI xb 29 [(.slice pb p.length pc)], oI nb 3 [(.int .i64 ((n : Nat) : Int))], oI sb 3 [(.int .i64 ((s : Nat) : Int))], oI ub 64 [(.slice tb 65 65)], oI db 25 (dC a k), rowI pb pc 5 1 (byts p)] _ (.k (.k (.k (.k (.k (.k (.k .rf))))))))))))))) ?_
    refine T.rangeFunc (first := []) (caps := [(.pointer (some ⟨nb2, 0, none⟩)), (.pointer (some ⟨db2, 0, none⟩)), (.pointer (some ⟨sb2, 0, none⟩)), (.pointer (some ⟨xb2, 0, none⟩)), (.pointer (some ⟨ub2, 0, none⟩))]) rfl ent62 (fun yl yq yhq => ?_)
    refine CallT.mono (CallT.sub (O' := oI xb2 29 [(.slice b7 (p.length + 1) c7)] :: oI nb2 3 [(.int .i64 ((n1 : Nat) : Int))] :: oI sb2 3 [(.int .i64 ((toN a s x : Nat) : Int))] :: oI ub2 64 [(.slice tb 65 65)] :: oI db2 25 (dC a k) :: rowI b7 c7 5 1 (byts p ++ [Value.int .u8 ((x : Nat) : Int)]) :: tabI 62 26 a tb us :: (objI yl (lp yq none) :: ([oI yb 85 [yv], oI xb 29 [(.slice pb p.length pc)], oI nb 3 [(.int .i64 ((n : Nat) : Int))], oI sb 3 [(.int .i64 ((s : Nat) : Int))], oI ub 64 [(.slice tb 65 65)], oI db 25 (dC a k), rowI pb pc 5 1 (byts p)] ++ O1))) (Sub.pickR [1, 1, 1, 1, 1, 1, 1, 0, 0, 0, 0, 0, 0, 0, 0] [objI yl (lp yq none), oI xb2 29 [(.slice b7 (p.length + 1) c7)], oI nb2 3 [(.int .i64 ((n1 : Nat) : Int))], oI sb2 3 [(.int .i64 ((toN a s x : Nat) : Int))], oI ub2 64 [(.slice tb 65 65)], oI db2 25 (dC a k), rowI b7 c7 5 1 (byts p ++ [Value.int .u8 ((x : Nat) : Int)]), tabI 62 26 a tb us, oI yb 85 [yv], oI xb 29 [(.slice pb p.length pc)], oI nb 3 [(.int .i64 ((n : Nat) : Int))], oI sb 3 [(.int .i64 ((s : Nat) : Int))], oI ub 64 [(.slice tb 65 65)], oI db 25 (dC a k), rowI pb pc 5 1 (byts p)] O1 rfl rfl) (ih n1 (by omega) (toN a s x) (p ++ [x]) (p.length + 1) (by simp) (byts p ++ [Value.int .u8 ((x : Nat) : Int)]) (by simp) xb2 nb2 sb2 ub2 db2 b7 c7 (.func (.yield yl) #[] #[]) rfl (fun i9 O => ∃ (O2 : List Lx.Item), O = objI yl (lp yq none) :: ([oI yb 85 [yv], oI xb 29 [(.slice pb p.length pc)], oI nb 3 [(.int .i64 ((n : Nat) : Int))], oI sb 3 [(.int .i64 ((s : Nat) : Int))], oI ub 64 [(.slice tb 65 65)], oI db 25 (dC a k), rowI pb pc 5 1 (byts p)] ++ O2) ∧ J (psum a n1 s x + i9) O2) (fun O => ∃ (O2 : List Lx.Item), O = objI yl (lp yq (some .ret)) :: ([oI yb 85 [yv], oI xb 29 [(.slice pb p.length pc)], oI nb 3 [(.int .i64 ((n : Nat) : Int))], oI sb 3 [(.int .i64 ((s : Nat) : Int))], oI ub 64 [(.slice tb 65 65)], oI db 25 (dC a k), rowI pb pc 5 1 (byts p)] ++ O2) ∧ Q O2) (by rw [List.length_append]; simp; omega) hto ?_ _ ?_)) ?_
    · intro i u rb rc O hu hJ
      obtain ⟨O2, rfl, hJ2⟩ := hJ
      refine CallV.yield yhq rfl rfl ?_
      have happ : p ++ [x] ++ u = p ++ x :: u := by simp
      have hidx : (wsN a n s)[psum a n1 s x + i]? = some (x :: u) := by rw [hn1]; exact wsN_at hxl hu
      refine T.region ?_
      refine TO.quiet (q_assign rfl) ?_
      refine TO.nil (T.block (T.seq (T.region ?_)))
      refine TO.quiet (q_load_box 0 Tryd.underlying85 rfl rfl rfl rfl) (TO.quiet (q_move rfl) ?_)
      have hk56 := CallV.under (B := [oI yb 85 [yv], oI xb 29 [(.slice pb p.length pc)], oI nb 3 [(.int .i64 ((n : Nat) : Int))], oI sb 3 [(.int .i64 ((s : Nat) : Int))], oI ub 64 [(.slice tb 65 65)], oI db 25 (dC a k), rowI pb pc 5 1 (byts p)]) (O := ([oI yb 85 [yv], oI xb 29 [(.slice pb p.length pc)], oI nb 3 [(.int .i64 ((n : Nat) : Int))], oI sb 3 [(.int .i64 ((s : Nat) : Int))], oI ub 64 [(.slice tb 65 65)], oI db 25 (dC a k), rowI pb pc 5 1 (byts p)] ++ (O2 ++ [rowI rb rc 5 1 (byts ((p ++ [x]) ++ u))]))) (by
          have h9 := hy _ (x :: u) rb rc O2 hidx hJ2
          rw [← happ] at h9
          exact h9) (Sub.cnt [] (by intro a; simp only [itms, oI, List.set_cons_zero, List.set_cons_succ, putL, List.cons_append, List.nil_append, List.append_nil, List.append_assoc, List.map_append, List.map_cons, List.map_nil, cnt_append, cnt_cons, cnt_nil] <;> omega))
      refine TO.loud rfl (l_callG hk56 rfl rfl ?_)
      clear hk56
      rintro vr O' ⟨A1, rfl, ⟨rfl, hJ3⟩ | ⟨rfl, hQ3⟩⟩
      · refine TO.sub (O' := ([oI yb 85 [yv], oI xb 29 [(.slice pb p.length pc)], oI nb 3 [(.int .i64 ((n : Nat) : Int))], oI sb 3 [(.int .i64 ((s : Nat) : Int))], oI ub 64 [(.slice tb 65 65)], oI db 25 (dC a k), rowI pb pc 5 1 (byts p)] ++ A1)) (Sub.cnt [] (by intro a; simp only [itms, oI, List.set_cons_zero, List.set_cons_succ, putL, List.cons_append, List.nil_append, List.append_nil, List.append_assoc, List.map_append, List.map_cons, List.map_nil, cnt_append, cnt_cons, cnt_nil] <;> omega)) ?_
        refine TO.quiet (q_not rfl) ?_
        refine TO.nil ?_
        refine T.cond0 rfl ?_
        refine T.skip ?_
        exact .inl ⟨rfl, A1, rfl, hJ3⟩
      refine TO.sub (O' := ([oI yb 85 [yv], oI xb 29 [(.slice pb p.length pc)], oI nb 3 [(.int .i64 ((n : Nat) : Int))], oI sb 3 [(.int .i64 ((s : Nat) : Int))], oI ub 64 [(.slice tb 65 65)], oI db 25 (dC a k), rowI pb pc 5 1 (byts p)] ++ A1)) (Sub.cnt [] (by intro a; simp only [itms, oI, List.set_cons_zero, List.set_cons_succ, putL, List.cons_append, List.nil_append, List.append_nil, List.append_assoc, List.map_append, List.map_cons, List.map_nil, cnt_append, cnt_cons, cnt_nil] <;> omega)) ?_
      refine TO.quiet (q_not rfl) ?_
      refine TO.nil ?_
      refine T.cond1 rfl ?_
      refine T.ret ?_
      exact .inr ⟨rfl, A1, rfl, hQ3⟩
    · exact ⟨O1, rfl, hJ⟩
    rintro v O' (⟨O9, rfl, O2, rfl, hJ2⟩ | ⟨O9, rfl, O2, rfl, hQ2⟩)
    rotate_left
    · refine ⟨some .ret, _, rfl, ?_⟩
      refine Res.drop ?_
      refine Res.zero Tryd.results62 ?_
      exact ⟨O2 ++ [tabI 62 26 a tb us], Sub.appL [oI yb 85 [yv], oI xb 29 [(.slice pb p.length pc)], oI nb 3 [(.int .i64 ((n : Nat) : Int))], oI sb 3 [(.int .i64 ((s : Nat) : Int))], oI ub 64 [(.slice tb 65 65)], oI db 25 (dC a k), rowI pb pc 5 1 (byts p)] Sub.rf, .inr ⟨O2, rfl, hQ2⟩⟩
    refine ⟨none, _, rfl, ?_⟩
    refine T.sub (O' := ([oI yb 85 [yv], oI xb 29 [(.slice pb p.length pc)], oI nb 3 [(.int .i64 ((n : Nat) : Int))], oI sb 3 [(.int .i64 ((s : Nat) : Int))], oI ub 64 [(.slice tb 65 65)], oI db 25 (dC a k), rowI pb pc 5 1 (byts p)] ++ (O2 ++ [tabI 62 26 a tb us]))) (by exact Sub.rf) ?_
    refine T.sub (O' := ([oI yb 85 [yv], oI xb 29 [(.slice pb p.length pc)], oI nb 3 [(.int .i64 ((n : Nat) : Int))], oI sb 3 [(.int .i64 ((s : Nat) : Int))], oI ub 64 [(.slice tb 65 65)], oI db 25 (dC a k), rowI pb pc 5 1 (byts p), tabI 62 26 a tb us] ++ O2)) (Sub.cnt [] (by intro a; simp only [itms, oI, List.set_cons_zero, List.set_cons_succ, putL, List.cons_append, List.nil_append, List.append_nil, List.append_assoc, List.map_append, List.map_cons, List.map_nil, cnt_append, cnt_cons, cnt_nil] <;> omega)) ?_
    refine T.region ?_
    refine TO.quiet (q_addN (a := x) (b := 1) rfl rfl (by omega)) (TO.quiet (q_move rfl) ?_)
    refine TO.nil ?_
    exact ⟨x + 1, by omega, O2, rfl, by omega, by rw [psum_succ]; exact hJ2, ⟨rfl, rfl, rfl, rfl, rfl, rfl, rfl, rfl, rfl, rfl, trivial⟩⟩
  have hge28 : ¬ x < a.next[s].length := by omega
  refine T.exit ?_
  refine Res.drop ?_
  refine Res.zero Tryd.results62 ?_
  have hxe : x = letN a := by omega
  subst hxe
  exact ⟨O1 ++ [tabI 62 26 a tb us], Sub.cnt [oI yb 85 [yv], oI xb 29 [(.slice pb p.length pc)], oI nb 3 [(.int .i64 ((n : Nat) : Int))], oI sb 3 [(.int .i64 ((s : Nat) : Int))], oI ub 64 [(.slice tb 65 65)], oI db 25 (dC a k), rowI pb pc 5 1 (byts p)] (by intro a; simp only [itms, oI, List.set_cons_zero, List.set_cons_succ, putL, List.cons_append, List.nil_append, List.append_nil, List.append_assoc, List.map_append, List.map_cons, List.map_nil, cnt_append, cnt_cons, cnt_nil] <;> omega), .inl ⟨O1, rfl, by rw [psum_full] at hJ; rw [hn1]; exact hJ⟩⟩
end Go.Proofs.YtnmfefmhfkhihaaDoor


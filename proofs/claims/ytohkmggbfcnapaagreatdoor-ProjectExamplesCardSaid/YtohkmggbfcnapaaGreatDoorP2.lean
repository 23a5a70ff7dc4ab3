/- Contracts of functions of the program (Ren, Rn, Quo, Dist, Diff, RefR, Ref7, RefM, Uni, P1, P2): what each call answers and that it leaves memory as it was. Conditions: those each theorem names. -/
import Derived.Test.YtohkmggbfcnapaaGreatDoorCoreK
import Derived.Test.YtohkmggbfcnapaaGreatDoorWtK
import Derived.Test.YtohkmggbfcnapaaGreatDoorMin
set_option linter.unusedSectionVars false
set_option linter.unusedSimpArgs false
set_option linter.unusedVariables false
set_option linter.unnecessarySimpa false
set_option maxHeartbeats 8000000
set_option maxRecDepth 20000
namespace Go.Proofs.YtohkmggbfcnapaaGreatDoor
open Go.Lx Go.RowKit _root_.Go.Proofs.Tryz
theorem visitHit (base : World) [Tab Tryz.prog base] (bx m : Nat) (ks : List (List UInt8)) (key : List UInt8) (hk : key ∈ ks) (hb : ks.length < 1000000) :
    CallT Tryz.prog base 123 [str key, .pointer (some ⟨bx, 0, none⟩)] [objI bx (.cells #[.map (some m)] 71 (0, 0)), mapI str (fun n : Nat => Value.int .i64 (n : Int)) m ks.zipIdx] (fun v O' => v = .int .i64 ((ix key (add ks key) : Nat) : Int) ∧ O' = [objI bx (.cells #[.map (some m)] 71 (0, 0)), mapI str (fun n : Nat => Value.int .i64 (n : Int)) m (add ks key).zipIdx]) := by
  refine CallT.enter func123 rfl ntmps123 rfl ?_
  refine T.s (T.rg ?_)
  refine TO.qa rfl ?_
  refine TO.nl (T.s (T.rg ?_))
  refine TO.q (q_lb 0 underlying71 rfl rfl rfl rfl) (TO.qm rfl (TO.q (QT.cast (q_lookupOk (a := key) underlying71 inf3 (KeyOk.string underlying9) rfl rfl (mG 1 rfl)) (v' := (.tuple #[.int .i64 ((ix key ks : Nat) : Int), .bool true])) (by rw [look_zip]; simp [hk])) (TO.qm rfl ?_)))
  refine TO.q (q_extract (vs := _) rfl rfl) (TO.q (q_extract (vs := _) rfl rfl) (TO.qa rfl (TO.qa rfl ?_)))
  refine TO.nl (T.s (T.s (T.rg ?_)))
  refine TO.qm rfl (TO.q (q_not rfl) ?_)
  refine TO.nl ?_
  refine T.cond0 rfl ?_
  refine T.skip (T.s (T.rg ?_))
  refine TO.qm rfl (TO.qa rfl ?_)
  refine TO.nl (T.ret ?_)
  refine Res.one (.int .i64 ((ix key ks : Nat) : Int)) Tryz.results123 rfl ?_
  have ha : add ks key = ks := if_pos hk
  rw [ha]; exact ⟨rfl, rfl⟩
theorem visitMiss (base : World) [Tab Tryz.prog base] (bx m : Nat) (ks : List (List UInt8)) (key : List UInt8) (hk : key ∉ ks) (hb : ks.length < 1000000) :
    CallT Tryz.prog base 123 [str key, .pointer (some ⟨bx, 0, none⟩)] [objI bx (.cells #[.map (some m)] 71 (0, 0)), mapI str (fun n : Nat => Value.int .i64 (n : Int)) m ks.zipIdx] (fun v O' => v = .int .i64 ((ix key (add ks key) : Nat) : Int) ∧ O' = [objI bx (.cells #[.map (some m)] 71 (0, 0)), mapI str (fun n : Nat => Value.int .i64 (n : Int)) m (add ks key).zipIdx]) := by
  refine CallT.enter func123 rfl ntmps123 rfl ?_
  refine T.s (T.rg ?_)
  refine TO.qa rfl ?_
  refine TO.nl (T.s (T.rg ?_))
  refine TO.q (q_lb 0 underlying71 rfl rfl rfl rfl) (TO.qm rfl (TO.q (QT.cast (q_lookupOk (a := key) underlying71 inf3 (KeyOk.string underlying9) rfl rfl (mG 1 rfl)) (v' := (.tuple #[.int .i64 0, .bool false])) (by rw [look_zip]; simp [hk])) (TO.qm rfl ?_)))
  refine TO.q (q_extract (vs := _) rfl rfl) (TO.q (q_extract (vs := _) rfl rfl) (TO.qa rfl (TO.qa rfl ?_)))
  refine TO.nl (T.s (T.s (T.rg ?_)))
  refine TO.qm rfl (TO.q (q_not rfl) ?_)
  refine TO.nl ?_
  refine T.cond1 rfl ?_
  refine T.s (T.rg ?_)
  refine TO.q (q_lb 0 underlying71 rfl rfl rfl rfl) (TO.q (QT.cast (q_lenMap underlying71 rfl (mG 1 rfl)) (v' := .int .i64 ((ks.length : Nat) : Int)) (by simp)) (TO.qa rfl ?_))
  refine TO.nl (T.rg ?_)
  refine TO.q (q_lb 0 underlying71 rfl rfl rfl rfl) (TO.qm rfl (TO.qm rfl ?_))
  refine TO.l rfl (l_mapPut (a := key) (v := ks.length) 1 underlying71 (KeyOk.string underlying9) rfl rfl rfl rfl (by rw [zipIdx_fst]; exact hk) ?_)
  refine TO.nl (T.s (T.rg ?_))
  refine TO.qm rfl (TO.qa rfl ?_)
  refine TO.nl (T.ret ?_)
  refine Res.one (.int .i64 ((ks.length : Nat) : Int)) Tryz.results123 rfl ?_
  have ha : add ks key = ks ++ [key] := if_neg hk
  rw [ha]
  refine ⟨by rw [ix_append_right hk]; simp [ix], ?_⟩
  rw [show (ks ++ [key]).zipIdx = ks.zipIdx ++ [(key, ks.length)] by rw [List.zipIdx_append]; simp]; rfl
theorem visit (base : World) [Tab Tryz.prog base] (bx m : Nat) (ks : List (List UInt8)) (key : List UInt8) (hb : ks.length < 1000000) :
    CallT Tryz.prog base 123 [str key, .pointer (some ⟨bx, 0, none⟩)] [objI bx (.cells #[.map (some m)] 71 (0, 0)), mapI str (fun n : Nat => Value.int .i64 (n : Int)) m ks.zipIdx] (fun v O' => v = .int .i64 ((ix key (add ks key) : Nat) : Int) ∧ O' = [objI bx (.cells #[.map (some m)] 71 (0, 0)), mapI str (fun n : Nat => Value.int .i64 (n : Int)) m (add ks key).zipIdx]) := by
  by_cases hk : key ∈ ks
  · exact visitHit base bx m ks key hk hb
  · exact visitMiss base bx m ks key hk hb
theorem exploreC (base : World) [Tab Tryz.prog base] (tr : List UInt8 → Nat → List UInt8) (L B : Nat) (start : List UInt8) (fv : Value) (J : List (List UInt8) → List Lx.Item → Prop) (Good : List (List UInt8) → Prop) (hL : L ≤ 64) (hB : B ≤ 4096)
    (hn : ∀ (ks : List (List UInt8)) (s x : Nat) (O : List Lx.Item), s < ks.length → x < L → Good ks → J ks O → CallV Tryz.prog base fv [.int .i64 (s : Int), .int .u8 (x : Int)] O (fun v O' => v = str (tr (ks.getD s []) x) ∧ Good (add ks (tr (ks.getD s []) x)) ∧ J (add ks (tr (ks.getD s []) x)) O'))
    (hg : ∀ ks, Good ks → ks.length ≤ B) (O : List Lx.Item) (h0 : Good [start]) (hJ0 : J [start] O) :
    CallT Tryz.prog base 102 [.int .i64 (L : Int), .int .i64 (B : Int), str start, fv] O (fun v O' => ∃ b c qs N O1, v = .tuple #[.slice b N c, .bool true] ∧ O' = rowI b c 37 1 (vals qs) :: (itms 3 qs ++ O1) ∧ J (exN tr L start N) O1 ∧ Good (exN tr L start N) ∧ (exN tr L start N).length = N ∧ ExOk tr L (exN tr L start N) N (nums qs) ∧ ∀ i, i < N → i < (exN tr L start i).length) := by
  refine CallT.enter func102 rfl ntmps102 rfl ?_
  refine T.s (T.rg ?_)
  refine TO.qa rfl (TO.qa rfl ?_)
  refine TO.nl ?_
  refine T.scope ?_ (fun _ _ _ h => h)
  refine T.s (T.rg ?_)
  refine TO.l rfl (l_makeMap str (fun n : Nat => Value.int .i64 (n : Int)) (fun m1 => ?_))
  refine TO.qm rfl ?_
  refine TO.l rfl (l_mapInsert (a := start) (v := (0 : Nat)) 0 underlying71 (KeyOk.string underlying9) rfl rfl rfl rfl (by simp) ?_)
  refine TO.qm rfl ?_
  refine TO.l rfl (l_alloc inf71 rfl (fun b2 => ?_))
  refine TO.l rfl (l_sb (v := (.map (some m1))) (vs := [(.map (some m1))]) 0 inf71 rfl rfl rfl rfl rfl rfl (by simp [putL]) ?_)
  refine TO.nl (T.s (T.rg ?_))
  refine TO.q (q_makeFunc) (TO.qa rfl ?_)
  refine TO.nl (T.s ?_)
  refine T.label ?_
  refine T.s (T.s (T.rg ?_))
  refine TO.qa rfl ?_
  refine TO.nl (T.block ?_)
  refine T.nilRow 37 1 ?_
  refine T.loop (fun (s : Nat) ρ O => ∃ (ks : List (List UInt8)) (qs : List Rec) (ob : Option Addr) (oc : Nat) (O1 : List Lx.Item), O = ([rowI ob oc 37 1 (vals qs), oI b2 71 [(.map (some m1))], mapI str (fun n : Nat => Value.int .i64 (n : Int)) m1 ks.zipIdx] ++ (itms 3 qs ++ O1)) ∧ exN tr L start s = ks ∧ Good ks ∧ J ks O1 ∧ ExOk tr L ks s (nums qs) ∧ (∀ i, i < s → i < (exN tr L start i).length) ∧ Heads [(0, .int .i64 (L : Int)), (1, .int .i64 (B : Int)), (2, str start), (3, fv), (8, (.slice ob s oc)), (9, .bool false), (10, (.pointer (some ⟨b2, 0, none⟩))), (11, (.func (.func 123) #[] #[(.pointer (some ⟨b2, 0, none⟩))])), (12, .int .i64 (s : Int))] ρ) (fun s => B - s) 0 ?_ ?_
  · exact ⟨[start], [], none, 0, O, rfl, rfl, h0, hJ0, ⟨rfl, by simp, fun i hi => absurd hi (by omega), fun i hi => absurd hi (by omega)⟩, fun i hi => absurd hi (by omega), ⟨rfl, rfl, rfl, rfl, rfl, rfl, rfl, rfl, rfl, trivial⟩⟩
  rintro s ρ O ⟨ks, qs, ob, oc, O1, rfl, hks, hG, hJ, hE, hen, hH⟩
  obtain ⟨ρ0, rfl⟩ := hH.elim
  clear hH
  have hgl := hg _ hG
  have hql : qs.length = s := by have := hE.len; simpa using this
  refine T.s (T.s (T.rg ?_))
  refine TO.qm rfl (TO.q (q_lb 1 underlying71 rfl rfl rfl rfl) (TO.q (QT.cast (q_lenMap underlying71 rfl (mG 2 rfl)) (v' := .int .i64 (ks.length : Int)) (by rw [List.length_zipIdx])) (TO.q (q_lss rfl rfl) ?_)))
  refine TO.nl ?_
  refine T.condP rfl (fun hc => ?_) (fun hc => ?_)
  · have hlt22 : s < ks.length := by omega
    refine T.skip (T.s (T.block (T.s (T.rg ?_))))
    refine TO.qm rfl ?_
    refine TO.l rfl (l_makeSlice (m := L) underlying37 inf3 rfl rfl (by omega) (by omega) (fun b3 => ?_))
    refine TO.qa rfl ?_
    refine TO.nl (T.s (T.s (T.rg ?_)))
    refine TO.qm rfl (TO.q (q_len underlying37 rfl) (TO.qm rfl ?_))
    refine TO.nl (T.block ?_)
    refine T.loop (fun (x : Nat) ρ O => ∃ (ks2 : List (List UInt8)) (ys : List Int) (O2 : List Lx.Item), O = ([rowI (some ⟨b3, 0, none⟩) L 3 1 (ints ys), rowI ob oc 37 1 (vals qs), oI b2 71 [(.map (some m1))], mapI str (fun n : Nat => Value.int .i64 (n : Int)) m1 ks2.zipIdx] ++ (itms 3 qs ++ O2)) ∧ x ≤ L ∧ ys.length = L ∧ Good ks2 ∧ J ks2 O2 ∧ ks2 = ((List.range x).map (tr (ks.getD s []))).foldl add ks ∧ (∀ i, i < x → ys[i]? = some ((ix (tr (ks.getD s []) i) ks2 : Nat) : Int)) ∧ Heads [(0, .int .i64 (L : Int)), (1, .int .i64 (B : Int)), (2, str start), (3, fv), (8, (.slice ob s oc)), (9, .bool false), (10, (.pointer (some ⟨b2, 0, none⟩))), (11, (.func (.func 123) #[] #[(.pointer (some ⟨b2, 0, none⟩))])), (12, .int .i64 (s : Int)), (13, (.slice (some ⟨b3, 0, none⟩) L L)), (28, .int .i64 (L : Int)), (29, .int .i64 (x : Int))] ρ) (fun x => L - x) 0 ?_ ?_
    · exact ⟨ks, List.replicate L 0, O1, by simp, Nat.zero_le _, by simp, hG, hJ, rfl, fun i hi => absurd hi (by omega), ⟨rfl, rfl, rfl, rfl, rfl, rfl, rfl, rfl, rfl, rfl, rfl, rfl, trivial⟩⟩
    rintro x ρ O ⟨ks2, ys, O2, rfl, hx, hyl, hG2, hJ2, hk2, hys, hH⟩
    obtain ⟨ρ0, rfl⟩ := hH.elim
    clear hH
    have hgl2 := hg _ hG2
    have hpre : ks <+: ks2 := hk2 ▸ foldl_prefix _ _
    have hks2 : ks2.getD s [] = ks.getD s [] := prefix_getD hpre hlt22
    have hple := hpre.length_le
    refine T.s (T.rg ?_)
    refine TO.q (q_lss rfl rfl) ?_
    refine TO.nl (T.s ?_)
    refine T.condP rfl (fun hc => ?_) (fun hc => ?_)
    · have hlt30 : x < L := by omega
      refine T.skip (T.s (T.block (T.s (T.rg ?_))))
      refine TO.qm rfl (TO.qa rfl ?_)
      refine TO.nl (T.s (T.rg ?_))
      refine TO.qm rfl (TO.qm rfl (TO.qm rfl (TO.qm rfl ?_)))
      refine TO.qm rfl (TO.qm rfl (TO.q (q_conv_id underlying3 underlying5 rfl (show IntKind.u8.wrap (x : Int) = (x : Int) by unfold IntKind.wrap; simp [IntKind.bits, IntKind.signed]; omega)) ?_))
      have hk39 := CallV.under (B := [rowI (some ⟨b3, 0, none⟩) L 3 1 (ints ys), rowI ob oc 37 1 (vals qs), oI b2 71 [(.map (some m1))], mapI str (fun n : Nat => Value.int .i64 (n : Int)) m1 ks2.zipIdx] ++ itms 3 qs) (O := ([rowI (some ⟨b3, 0, none⟩) L 3 1 (ints ys), rowI ob oc 37 1 (vals qs), oI b2 71 [(.map (some m1))], mapI str (fun n : Nat => Value.int .i64 (n : Int)) m1 ks2.zipIdx] ++ (itms 3 qs ++ O2))) (hn ks2 s x O2 (by omega) hlt30 hG2 hJ2) (Sub.ca [])
      refine TO.l rfl (l_callG hk39 rfl rfl ?_)
      clear hk39
      rintro v O' ⟨O3, rfl, rfl, hG3, hJ3⟩
      refine TO.sub (O' := ([rowI (some ⟨b3, 0, none⟩) L 3 1 (ints ys), rowI ob oc 37 1 (vals qs), oI b2 71 [(.map (some m1))], mapI str (fun n : Nat => Value.int .i64 (n : Int)) m1 ks2.zipIdx] ++ (itms 3 qs ++ O3))) (Sub.ca []) ?_
      rw [hks2] at hG3 hJ3 ⊢
      have hk40 := CallV.of_fn (first := []) (args := [str (tr (ks.getD s []) x)]) (caps := [(.pointer (some ⟨b2, 0, none⟩))]) ent123 (CallT.under (B := [rowI (some ⟨b3, 0, none⟩) L 3 1 (ints ys), rowI ob oc 37 1 (vals qs)] ++ (itms 3 qs ++ O3)) (O := ([rowI (some ⟨b3, 0, none⟩) L 3 1 (ints ys), rowI ob oc 37 1 (vals qs), oI b2 71 [(.map (some m1))], mapI str (fun n : Nat => Value.int .i64 (n : Int)) m1 ks2.zipIdx] ++ (itms 3 qs ++ O3))) (visit base b2 m1 ks2 (tr (ks.getD s []) x) (by have := hg _ hG2; omega)) (Sub.pickR [2, 2, 0, 0] [rowI (some ⟨b3, 0, none⟩) L 3 1 (ints ys), rowI ob oc 37 1 (vals qs), oI b2 71 [(.map (some m1))], mapI str (fun n : Nat => Value.int .i64 (n : Int)) m1 ks2.zipIdx] (itms 3 qs ++ O3) rfl rfl))
      refine TO.l rfl (l_callG hk40 rfl rfl ?_)
      clear hk40
      rintro v O' ⟨A1, rfl, rfl, rfl⟩
      refine TO.sub (O' := ([rowI (some ⟨b3, 0, none⟩) L 3 1 (ints ys), rowI ob oc 37 1 (vals qs), oI b2 71 [(.map (some m1))], mapI str (fun n : Nat => Value.int .i64 (n : Int)) m1 ((add ks2 (tr (ks.getD s []) x)).zipIdx)] ++ (itms 3 qs ++ O3))) (Sub.pickR [2, 2, 0, 0] [oI b2 71 [(.map (some m1))], mapI str (fun n : Nat => Value.int .i64 (n : Int)) m1 ((add ks2 (tr (ks.getD s []) x)).zipIdx), rowI (some ⟨b3, 0, none⟩) L 3 1 (ints ys), rowI ob oc 37 1 (vals qs)] (itms 3 qs ++ O3) rfl rfl) ?_
      refine TO.q (q_ix (i := x) underlying37 inf3 rfl rfl (rowO (mG 0 rfl))) ?_
      refine TO.l rfl (l_st (j := x) (v := .int .i64 ((ix (tr (ks.getD s []) x) (add ks2 (tr (ks.getD s []) x)) : Nat) : Int)) (vs := [(.int .i64 ((ix (tr (ks.getD s []) x) (add ks2 (tr (ks.getD s []) x)) : Nat) : Int))]) (cs := ints ys) 0 inf3 rfl rfl rfl rfl rfl (by simp) rfl (by first | (simp; omega) | (simp_all; omega)) ?_)
      refine TO.sub (O' := ([rowI (some ⟨b3, 0, none⟩) L 3 1 (ints (ys.set x ((ix (tr (ks.getD s []) x) (add ks2 (tr (ks.getD s []) x)) : Nat) : Int))), rowI ob oc 37 1 (vals qs), oI b2 71 [(.map (some m1))], mapI str (fun n : Nat => Value.int .i64 (n : Int)) m1 ((add ks2 (tr (ks.getD s []) x)).zipIdx)] ++ (itms 3 qs ++ O3))) (by rw [show putL (ints ys) x [(.int .i64 ((ix (tr (ks.getD s []) x) (add ks2 (tr (ks.getD s []) x)) : Nat) : Int))] = ints (ys.set x ((ix (tr (ks.getD s []) x) (add ks2 (tr (ks.getD s []) x)) : Nat) : Int)) from by simp [putL]]; exact Sub.of (List.Sublist.refl _)) ?_
      refine TO.nl (T.s (T.rg ?_))
      refine TO.q (q_lb 2 underlying71 rfl rfl rfl rfl) (TO.q (QT.cast (q_lenMap underlying71 rfl (mG 3 rfl)) (v' := .int .i64 ((add ks2 (tr (ks.getD s []) x)).length : Int)) (by rw [List.length_zipIdx])) (TO.qm rfl (TO.q (q_gtr rfl rfl) ?_)))
      refine TO.nl ?_
      refine T.condP rfl (fun hc => ?_) (fun hc => ?_)
      · exact absurd hc (by have := hg _ hG3; omega)
      have hge45 : ¬ (add ks2 (tr (ks.getD s []) x)).length > B := by omega
      refine T.skip (T.rg ?_)
      refine TO.q (q_inc rfl rfl (by omega)) (TO.qm rfl ?_)
      refine TO.nl ?_
      have hmm : ∀ y, y < x → tr (ks.getD s []) y ∈ ks2 := fun y hy => by rw [hk2, mem_foldl_add]; exact .inr (List.mem_map_of_mem (List.mem_range.2 hy))
      refine ⟨x + 1, by omega, add ks2 (tr (ks.getD s []) x), ys.set x ((ix (tr (ks.getD s []) x) (add ks2 (tr (ks.getD s []) x)) : Nat) : Int), O3, rfl, by omega, by simp [hyl], hG3, hJ3, by rw [foldl_add_snoc, ← hk2], fun i hi => ?_, ⟨rfl, rfl, rfl, rfl, rfl, rfl, rfl, rfl, rfl, rfl, rfl, rfl, trivial⟩⟩
      by_cases e : i = x
      · subst e; rw [List.getElem?_set_self (by omega)]
      · rw [List.getElem?_set_ne (fun h => e h.symm), hys i (by omega), ix_prefix (add_prefix _ _) (hmm i (by omega))]
    have hge30 : ¬ x < L := by omega
    refine T.exit ?_
    refine T.rg ?_
    refine TO.qm rfl (TO.qm rfl ?_)
    refine TO.l rfl (l_build1 (v := (.slice (some ⟨b3, 0, none⟩) L L)) underlying22 inf37 rfl rfl rfl (fun b4 => ?_))
    refine TO.l rfl (l_append 2 underlying22 underlying22 inf37 rfl rfl rfl rfl (by simp [hql]) (by decide) (Src.row (j := 0) rfl (by simp)) (by simp [oneB]) (by omega) (by decide) (by decide) (fun b5 c6 => ?_))
    refine TO.qa rfl ?_
    refine TO.nl ?_
    refine T.sub (O' := [rowI b5 c6 37 1 (vals (qs ++ [⟨(some ⟨b3, 0, none⟩), L, ys⟩])), oI b2 71 [(.map (some m1))], mapI str (fun n : Nat => Value.int .i64 (n : Int)) m1 ks2.zipIdx] ++ (itms 3 (qs ++ [⟨(some ⟨b3, 0, none⟩), L, ys⟩]) ++ O2)) (by
      rw [show vals (qs ++ [⟨(some ⟨b3, 0, none⟩), L, ys⟩]) = (vals qs) ++ [(.slice (some ⟨b3, 0, none⟩) L L)] by simp [Rec.val, hyl]]
      exact Sub.cnt [rowI (some ⟨b4, 0, none⟩) 1 37 1 [(.slice (some ⟨b3, 0, none⟩) L L)]] (by intro a; simp only [List.set_cons_zero, List.set_cons_succ, itms, List.map_append, List.map_cons, List.map_nil, Rec.itm, cnt_append, cnt_cons, cnt_nil, List.cons_append, List.nil_append, List.append_assoc, List.append_nil] <;> omega)) ?_
    refine T.rg ?_
    refine TO.qm rfl (TO.q (q_inc rfl rfl (by omega)) (TO.qa rfl ?_))
    refine TO.nl ?_
    have hxL : x = L := by omega
    have hmm : ∀ y, y < L → tr (ks.getD s []) y ∈ ks2 := fun y hy => by rw [hk2, mem_foldl_add]; exact .inr (List.mem_map_of_mem (List.mem_range.2 (by omega)))
    have hyr : ys = exRow tr L ks2 s := by
      apply List.ext_getElem?
      intro i
      by_cases hi : i < L
      · rw [hys i (by omega)]; simp only [exRow, hks2]; simp [hi]
      · rw [List.getElem?_eq_none (by omega), List.getElem?_eq_none (by simp [exRow]; omega)]
    have hE2 : ExOk tr L ks2 (s + 1) (nums (qs ++ [⟨(some ⟨b3, 0, none⟩), L, ys⟩])) := by
      have := hE.snoc hpre hlt22 hyr (by rw [hks2]; exact hmm)
      simpa [nums] using this
    have hen2 : ∀ i, i < s + 1 → i < (exN tr L start i).length := fun i hi => by
      by_cases e : i = s
      · subst e; rw [hks]; exact hlt22
      · exact hen i (by omega)
    exact ⟨s + 1, by omega, ks2, qs ++ [⟨(some ⟨b3, 0, none⟩), L, ys⟩], b5, c6, O2, rfl, by rw [exN, hks, hk2, hxL], hG2, hJ2, hE2, hen2, ⟨rfl, rfl, rfl, rfl, rfl, rfl, rfl, rfl, rfl, trivial⟩⟩
  have hge22 : ¬ s < ks.length := by omega
  refine T.exit ?_
  refine T.s (T.rg ?_)
  refine TO.qm rfl (TO.q (q_lb 1 underlying71 rfl rfl rfl rfl) (TO.q (QT.cast (q_lenMap underlying71 rfl (mG 2 rfl)) (v' := .int .i64 (ks.length : Int)) (by rw [List.length_zipIdx])) (TO.qm rfl ?_)))
  refine TO.q (QT.toB (q_leq rfl rfl) (decide_eq_true (by have := hg _ hG; omega))) (TO.qa rfl (TO.qa rfl ?_))
  refine TO.nl (T.ret (Res.drop ?_))
  refine Res.two (.slice ob s oc) (.bool true) Tryz.results102 rfl rfl ?_
  have hN : ks.length = s := by have := hE.le; omega
  exact ⟨_, (Sub.pickR [0] [rowI ob oc 37 1 (vals qs), oI b2 71 [(.map (some m1))], mapI str (fun n : Nat => Value.int .i64 (n : Int)) m1 ks.zipIdx] (itms 3 qs ++ O1) rfl rfl), ob, oc, qs, s, O1, rfl, rfl, by rw [hks]; exact hJ, by rw [hks]; exact hG, by rw [hks]; exact hN, by rw [hks]; exact hE, hen⟩
theorem nextC (base : World) [Tab Tryz.prog base] (d : DFA) (nb fb : Option Addr) (nc fc : Nat) (vs : List Value) (h : DfaAt base d nb vs fb) (hv : Valid d) (hn : d.next.length < 10000) (b1 b2 b3 : Nat) (os : List Nat) (sn : List Bool) (ob sb : Option Addr) (oc sc sc2 s x : Nat) (hs : s < os.length) (hx : x < 2 ^ d.vars.toNat) (hos : ∀ o ∈ os, o < d.next.length) (hnd : os.Nodup) (hsl : sn.length = d.next.length) (hsn : ∀ t, t < d.next.length → sn[t]? = some (decide (t ∈ os))) :
    CallT Tryz.prog base 100 ([.int .i64 (s : Int), .int .u8 (x : Int)] ++ [.pointer (some ⟨b1, 0, none⟩), .pointer (some ⟨b2, 0, none⟩), .pointer (some ⟨b3, 0, none⟩)])
      [oI b1 25 [(.int .i64 d.vars), (.int .i64 d.start), (.slice nb d.next.length nc), (.slice fb d.final.length fc)], oI b2 37 [(.slice ob os.length oc)], rowI ob oc 3 1 (nats os), oI b3 23 [(.slice sb d.next.length sc)], rowI sb sc2 4 1 (bools sn)]
      (fun v O' => v = str (Lib.decDigits (toN d os[s] x)) ∧ ∃ ob' oc' sn', sn'.length = d.next.length ∧ (∀ t, t < d.next.length → sn'[t]? = some (decide (t ∈ add os (toN d os[s] x)))) ∧ O' = [oI b1 25 [(.int .i64 d.vars), (.int .i64 d.start), (.slice nb d.next.length nc), (.slice fb d.final.length fc)], oI b2 37 [(.slice ob' ((add os (toN d os[s] x)).length) oc')], rowI ob' oc' 3 1 (nats (add os (toN d os[s] x))), oI b3 23 [(.slice sb d.next.length sc)], rowI sb sc2 4 1 (bools sn')]) := by
  refine CallT.enter func100 rfl ntmps100 rfl ?_
  obtain ⟨o, hso⟩ : ∃ o, os[s] = o := ⟨_, rfl⟩
  have hso2 : os[s]? = some o := by rw [List.getElem?_eq_getElem hs, hso]
  have ho : o < d.next.length := hso ▸ hos _ (List.getElem_mem hs)
  obtain ⟨t, ht⟩ : ∃ t, toN d o x = t := ⟨_, rfl⟩
  obtain ⟨htn, _, hxr, hdx⟩ := hv.toN_lt ho hx
  rw [ht] at htn hdx
  rw [hso, ht]
  have hvl := h.rows.1
  have hw := hv.width
  obtain ⟨vb, vc, g1, s1⟩ := h.rows.get ho
  have hxt : (ints d.next[o])[x]? = some (.int .i64 ((t : Nat) : Int)) := by rw [ints_get hxr, hdx]
  have hol := nodup_bound hnd hos
  have hst := hsn t htn
  have htl : t < sn.length := by omega
  refine T.s (T.rg ?_)
  refine TO.qa rfl ?_
  refine TO.nl (T.s ?_)
  refine T.draws _ [(0, 0), (1, 0), (2, 0), (3, 0), (4, 0), (5, 0), (6, 0), (7, 0), (8, 0), (9, 0), (10, 0), (11, 0)] mixed (drawF_ok (by kernel_rfl)) (Sub.of (List.Sublist.refl _)) (fun _ _ _ h => h) ?_
  refine DO.q rfl (q_fa underlying25 rfl inf22 rfl rfl) (DO.q rfl (q_lb 0 underlying22 rfl rfl rfl rfl) (DO.q rfl (q_lb 1 underlying37 rfl rfl rfl rfl) (DO.q rfl (q_move rfl) ?_)))
  refine DO.q rfl (q_ix (i := s) underlying37 inf3 rfl rfl (rowO (mG 2 rfl)) hs (by rw [List.length_map]; exact hs)) (DO.q rfl (q_ld underlying3 rfl rfl (rowO (mG 2 rfl)) (show (nats os)[s]? = some (.int .i64 ((o : Nat) : Int)) by rw [List.getElem?_map, hso2]; rfl)) (DO.q rfl (q_ix (i := o) underlying22 inf37 rfl rfl (Sl.o h.outer) ho) (DO.q rfl (q_ld underlying37 rfl rfl (Sl.o h.outer) g1) ?_)))
  refine DO.q rfl (q_move rfl) (DO.q rfl (q_ix (i := x) underlying37 inf3 rfl rfl (Sl.o s1) hxr (by rw [List.length_map]; exact hxr)) (DO.q rfl (q_ld underlying3 rfl rfl (Sl.o s1) hxt) (DO.q rfl (q_assign rfl) ?_)))
  refine DO.done ?_
  refine T.s (T.s (T.rg ?_))
  refine TO.q (q_lb 3 underlying23 rfl rfl rfl rfl) (TO.qm rfl (TO.q (q_ix (i := t) underlying23 inf4 rfl rfl (rowO (mG 4 rfl)) htn (by rw [List.length_map]; exact htl)) (TO.q (q_ld underlying4 rfl rfl (rowO (mG 4 rfl)) (show (bools sn)[t]? = some (.bool (decide (t ∈ os))) by rw [List.getElem?_map, hst]; rfl)) ?_)))
  refine TO.q (q_not rfl) ?_
  refine TO.nl ?_
  refine T.condP (p := t ∉ os) (congrArg Value.bool (by simp)) (fun hc => ?_) (fun hc => ?_)
  · refine T.draws2 [oI b1 25 [(.int .i64 d.vars), (.int .i64 d.start), (.slice nb d.next.length nc), (.slice fb d.final.length fc)], oI b3 23 [(.slice sb d.next.length sc)], rowI sb sc2 4 1 (bools sn)] [oI b2 37 [(.slice ob os.length oc)]] [(0, 0), (1, 0), (2, 3), (3, 0), (4, 1), (5, 1), (6, 4), (7, 0), (8, 2)] mixed (by kernel_rfl) (Sub.pick [0, 2, 2] rfl) (Sub.pick [1] rfl) (fun _ _ _ h => h) ?_
    refine DO.q rfl (q_lb 1 underlying23 rfl rfl rfl rfl) (DO.q rfl (q_move rfl) ?_)
    refine DO.quiet2 rfl (q_lb 0 underlying37 rfl rfl rfl rfl) ?_
    refine DO.q rfl (q_move rfl) ?_
    refine DO.loud2 rfl rfl (l_build1 (v := .int .i64 ((t : Nat) : Int)) underlying37 inf3 rfl rfl rfl (fun z1 => ⟨Sub.pick [1, 3, 3] rfl, Sub.pick [2] rfl, ?_⟩))
    refine DO.loud2 rfl rfl (l_append 3 underlying37 underlying37 inf3 rfl rfl rfl rfl (by simp) (by decide) (Src.row (j := 0) rfl (by simp)) (by simp [oneB]) (by omega) (by decide) (by decide) (fun z2 zc3 => ⟨Sub.pick [1, 3, 3] rfl, Sub.pick [2] rfl, ?_⟩))
    refine DO.last2 rfl rfl (l_sb (v := (.slice z2 (os.length + 1) zc3)) (vs := [(.slice z2 (os.length + 1) zc3)]) 2 inf37 rfl rfl rfl rfl rfl rfl (by simp [putL]) ⟨Sub.pick [1, 3, 3] rfl, ?_⟩)
    refine DO.q rfl (q_ix (i := t) underlying23 inf4 rfl rfl (rowO (mG 2 rfl)) htn (by rw [List.length_map]; exact htl)) ?_
    refine DO.last rfl rfl (l_st (j := t) (v := .bool true) (vs := [(.bool true)]) (cs := bools sn) 5 inf4 rfl rfl rfl rfl rfl (by simp) rfl (by first | (simp; omega) | (simp_all; omega)) ?_)
    refine DO.sub (O' := [rowI (some ⟨z1, 0, none⟩) 1 3 1 [.int .i64 ((t : Nat) : Int)], oI b1 25 [(.int .i64 d.vars), (.int .i64 d.start), (.slice nb d.next.length nc), (.slice fb d.final.length fc)], oI b2 37 [(.slice z2 (os.length + 1) zc3)], rowI z2 zc3 3 1 ((nats os) ++ [.int .i64 ((t : Nat) : Int)]), oI b3 23 [(.slice sb d.next.length sc)], rowI sb sc2 4 1 (bools (sn.set t true))]) (by rw [show putL (bools sn) t [(.bool true)] = bools (sn.set t true) from by simp [putL]]; exact Sub.of (List.Sublist.refl _)) ?_
    refine DO.done ?_
    refine T.s (T.rg ?_)
    refine TO.qm rfl ?_
    have hk33 := fun (w1 : World) (hI : Inv base [rowI (some ⟨z1, 0, none⟩) 1 3 1 [.int .i64 ((t : Nat) : Int)], oI b1 25 [(.int .i64 d.vars), (.int .i64 d.start), (.slice nb d.next.length nc), (.slice fb d.final.length fc)], oI b2 37 [(.slice z2 (os.length + 1) zc3)], rowI z2 zc3 3 1 ((nats os) ++ [.int .i64 ((t : Nat) : Int)]), oI b3 23 [(.slice sb d.next.length sc)], rowI sb sc2 4 1 (bools (sn.set t true))] w1) => (haveI := tbz hI; itoaF w1 t (by omega))
    refine TO.l rfl (l_call ent101 (CallT.op hk33) rfl ?_)
    clear hk33
    rintro v O' ⟨N, rfl, rfl, rfl⟩
    refine TO.qa rfl ?_
    refine TO.nl (T.ret (Res.drop ?_))
    refine Res.one (str (Lib.decDigits t)) Tryz.results100 rfl ?_
    have ha : add os t = os ++ [t] := if_neg hc
    refine ⟨[oI b1 25 [(.int .i64 d.vars), (.int .i64 d.start), (.slice nb d.next.length nc), (.slice fb d.final.length fc)], oI b2 37 [(.slice z2 (os.length + 1) zc3)], rowI z2 zc3 3 1 ((nats os) ++ [.int .i64 ((t : Nat) : Int)]), oI b3 23 [(.slice sb d.next.length sc)], rowI sb sc2 4 1 (bools (sn.set t true))], (Sub.pick [1, 1, 1, 1, 1] rfl), rfl, z2, zc3, sn.set t true, by simp [hsl], fun t2 ht2 => ?_, ?_⟩
    · rw [ha]
      by_cases e : t2 = t
      · subst e; rw [List.getElem?_set_self htl]; simp
      · rw [List.getElem?_set_ne (fun h => e h.symm), hsn t2 ht2]; simp [e]
    · rw [ha, List.length_append, show nats (os ++ [t]) = nats os ++ [.int .i64 ((t : Nat) : Int)] from List.map_append]; rfl
  refine T.skip (T.s (T.rg ?_))
  refine TO.qm rfl ?_
  have hk33 := fun (w1 : World) (hI : Inv base [oI b1 25 [(.int .i64 d.vars), (.int .i64 d.start), (.slice nb d.next.length nc), (.slice fb d.final.length fc)], oI b2 37 [(.slice ob os.length oc)], rowI ob oc 3 1 (nats os), oI b3 23 [(.slice sb d.next.length sc)], rowI sb sc2 4 1 (bools sn)] w1) => (haveI := tbz hI; itoaF w1 t (by omega))
  refine TO.l rfl (l_call ent101 (CallT.op hk33) rfl ?_)
  clear hk33
  rintro v O' ⟨N, rfl, rfl, rfl⟩
  refine TO.qa rfl ?_
  refine TO.nl (T.ret (Res.drop ?_))
  refine Res.one (str (Lib.decDigits t)) Tryz.results100 rfl ?_
  have ha : add os t = os := if_pos (Classical.not_not.1 hc)
  refine ⟨[oI b1 25 [(.int .i64 d.vars), (.int .i64 d.start), (.slice nb d.next.length nc), (.slice fb d.final.length fc)], oI b2 37 [(.slice ob os.length oc)], rowI ob oc 3 1 (nats os), oI b3 23 [(.slice sb d.next.length sc)], rowI sb sc2 4 1 (bools sn)], (Sub.pick [0, 0, 0, 0, 0] rfl), rfl, ob, oc, sn, hsl, fun t2 ht2 => ?_, ?_⟩
  · rw [ha]; exact hsn t2 ht2
  · rw [ha]
def RenJ (d : DFA) (nb fb : Option Addr) (nc fc b1 bB bC bD : Nat) (ks : List (List UInt8)) (O : List Lx.Item) : Prop :=
  ∃ (os : List Nat) (sn : List Bool) (ob : Option Addr) (oc : Nat), ks = os.map Lib.decDigits ∧ O = [objI b1 (.cells (List.toArray [(.int .i64 d.vars), (.int .i64 d.start), (.slice nb d.next.length nc), (.slice fb d.final.length fc)]) 25 (0, 0)), objI bC (.cells (List.toArray [(.slice ob os.length oc)]) 37 (0, 0)), rowI ob oc 3 1 (nats os), objI bD (.cells (List.toArray [(.slice (some ⟨bB, 0, none⟩) d.next.length d.next.length)]) 23 (0, 0)), rowI (some ⟨bB, 0, none⟩) d.next.length 4 1 (bools sn)] ∧ os.Nodup ∧ (∀ o ∈ os, o < d.next.length) ∧ sn.length = d.next.length ∧ (∀ t, t < d.next.length → sn[t]? = some (decide (t ∈ os)))
set_option maxRecDepth 20000 in
theorem nextV (base : World) [Tab Tryz.prog base] (d : DFA) (nb fb : Option Addr) (nc fc : Nat) (vs : List Value) (h : DfaAt base d nb vs fb) (hv : Valid d) (hn : d.next.length < 10000) (b1 bB bC bD : Nat) (ks : List (List UInt8)) (s x : Nat) (O : List Lx.Item) (hs : s < ks.length) (hx : x < 2 ^ d.vars.toNat) (hJ : RenJ d nb fb nc fc b1 bB bC bD ks O) :
    CallV Tryz.prog base (.func (.func 100) #[] #[.pointer (some ⟨b1, 0, none⟩), .pointer (some ⟨bC, 0, none⟩), .pointer (some ⟨bD, 0, none⟩)]) [.int .i64 (s : Int), .int .u8 (x : Int)] O
      (fun v O' => v = str (trD d (ks.getD s []) x) ∧ (add ks (trD d (ks.getD s []) x)).length ≤ d.next.length ∧ RenJ d nb fb nc fc b1 bB bC bD (add ks (trD d (ks.getD s []) x)) O') := by
  obtain ⟨os, sn, ob, oc, rfl, rfl, hnd, hos, hsl, hsn⟩ := hJ
  have hs' : s < os.length := by simpa using hs
  have e : (os.map Lib.decDigits).getD s [] = Lib.decDigits os[s] := by simp [hs']
  have e2 : trD d ((os.map Lib.decDigits).getD s []) x = Lib.decDigits (toN d os[s] x) := by rw [e, trD, undec_dec]
  have hT := (hv.toN_lt (hos _ (List.getElem_mem hs')) hx).1
  have hos2 : ∀ o ∈ add os (toN d os[s] x), o < d.next.length := fun o ho => by
    rcases mem_add.1 ho with ho | ho
    · exact hos o ho
    · rw [ho]; exact hT
  refine CallV.mono (CallV.of_fn (first := []) (caps := [.pointer (some ⟨b1, 0, none⟩), .pointer (some ⟨bC, 0, none⟩), .pointer (some ⟨bD, 0, none⟩)]) ent100 (nextC base d nb fb nc fc vs h hv hn b1 bC bD os sn ob (some ⟨bB, 0, none⟩) oc d.next.length d.next.length s x hs' hx hos hnd hsl hsn)) ?_
  rintro v O' ⟨rfl, ob', oc', sn', h1, h2, rfl⟩
  rw [e2, ← map_add dec_inj]
  refine ⟨rfl, ?_, add os (toN d os[s] x), sn', ob', oc', rfl, rfl, add_nodup hnd, hos2, h1, h2⟩
  rw [List.length_map]; exact nodup_bound (add_nodup hnd) hos2
end Go.Proofs.YtohkmggbfcnapaaGreatDoor


namespace Go.Proofs.YtohkmggbfcnapaaGreatDoor
open Go.Lx Go.RowKit _root_.Go.Proofs.Tryz
theorem renumOk (w : World) [Tab Tryz.prog w] (d : DFA) (nb fb : Option Addr) (nc fc : Nat) (vs : List Value) (h : DfaAt w d nb vs fb) (hv : Valid d) (hn : d.next.length < 10000) :
    PureT Tryz.prog 74 [.agg (dfaCells d nb nc fb fc).toArray] w fun v N => ∃ nb' nc' fb' fc' qs, v = .tuple #[.agg (dfaCells (renum d) nb' nc' fb' fc').toArray, .int .i64 0] ∧ N = [rowI nb' nc' 37 1 (vals qs), rowI fb' fc' 4 1 (bools (renum d).final)] ++ itms 3 qs ∧ nums qs = (renum d).next := by
  refine CallT.enter func74 rfl ntmps74 rfl ?_
  have he := checkD_zero.2 hv
  have hb : d.next.length < 9223372036854775807 := by omega
  have hbr : ∀ r ∈ d.next, r.length < 9223372036854775807 := hv.bound
  have hbf : d.final.length < 9223372036854775807 := by have := hv.fin; omega
  have hn0 := hv.n0
  have hs0 := hv.s0
  have hs1 := hv.s1
  have hsn : d.start.toNat < d.next.length := by omega
  refine T.s (T.rg ?_)
  refine TO.l rfl (l_box (v := (.agg #[(.int .i64 d.vars), (.int .i64 d.start), (.slice nb d.next.length nc), (.slice fb d.final.length fc)])) (cs := [(.int .i64 d.vars), (.int .i64 d.start), (.slice nb d.next.length nc), (.slice fb d.final.length fc)]) rfl rfl (fun z1 => ?_))
  refine TO.l rfl (l_alloc inf25 rfl (fun z2 => ?_))
  refine TO.qa rfl ?_
  refine TO.nl (T.s (T.s (T.rg ?_)))
  refine TO.q (q_la 1 underlying25 rfl inf25 rfl rfl rfl) ?_
  have hk11 := fun (w1 : World) (hI : Inv w [oI z2 25 [(.int .i64 0), (.int .i64 0), (.slice none 0 0), (.slice none 0 0)], oI z1 25 [(.int .i64 d.vars), (.int .i64 d.start), (.slice nb d.next.length nc), (.slice fb d.final.length fc)]] w1) => (haveI := tbz hI; subsetCheck w1 d nb fb nc fc vs (hI.dfa h) hb hbr hbf)
  refine TO.l rfl (l_call ent35 (CallT.op hk11) rfl ?_)
  clear hk11
  rintro v O' ⟨N, rfl, rfl, rfl⟩
  rw [he]
  refine TO.qa rfl ?_
  refine TO.nl (T.s (T.rg ?_))
  refine TO.qm rfl (TO.q (q_neq rfl rfl) ?_)
  refine TO.nl ?_
  refine T.cond0 rfl ?_
  refine T.skip ?_
  refine T.cut (fun ρ O => ∃ (bA bB bC bD : Nat), O = [oI bC 37 [(.slice (some ⟨bA, 0, none⟩) 1 1)], oI bD 23 [(.slice (some ⟨bB, 0, none⟩) d.next.length d.next.length)], rowI (some ⟨bA, 0, none⟩) 1 3 1 [(.int .i64 d.start)], rowI (some ⟨bB, 0, none⟩) d.next.length 4 1 (List.replicate d.next.length (.bool false)), oI z2 25 [(.int .i64 0), (.int .i64 0), (.slice none 0 0), (.slice none 0 0)], oI z1 25 [(.int .i64 d.vars), (.int .i64 d.start), (.slice nb d.next.length nc), (.slice fb d.final.length fc)]] ∧ Heads [(0, (.agg #[(.int .i64 d.vars), (.int .i64 d.start), (.slice nb d.next.length nc), (.slice fb d.final.length fc)])), (1, (.pointer (some ⟨z1, 0, none⟩))), (2, (.pointer (some ⟨z2, 0, none⟩))), (3, .int .i64 0), (4, .int .i64 ((0 : Nat) : Int)), (5, (.pointer (some ⟨bC, 0, none⟩))), (6, (.pointer (some ⟨bD, 0, none⟩)))] ρ) ?_ ?_
  · refine T.tree [oI z1 25 [(.int .i64 d.vars), (.int .i64 d.start), (.slice nb d.next.length nc), (.slice fb d.final.length fc)]] 11 mixed rfl (Sub.pick [1] rfl) (fun _ _ _ h => h) ?_
    refine RO.quietT 0 rfl (by kernel_rfl) (q_fa underlying25 rfl inf3 rfl rfl) ?_
    refine RO.quietT 1 rfl (by kernel_rfl) (q_lb 0 underlying3 rfl rfl rfl rfl) ?_
    refine RO.quietT 3 rfl (by kernel_rfl) (q_fa underlying25 rfl inf22 rfl rfl) ?_
    refine RO.quietT 4 rfl (by kernel_rfl) (q_lb 0 underlying22 rfl rfl rfl rfl) ?_
    refine RO.quietT 5 rfl (by kernel_rfl) (q_len underlying22 rfl) ?_
    refine RO.fork [2, 6, 7, 8] (by kernel_rfl) rfl ⟨⟨_, rfl, rfl, l_build1 (v := (.int .i64 d.start)) underlying37 inf3 rfl rfl rfl (fun bA => ⟨Sub.pick [2] rfl, ?_⟩)⟩, ⟨_, rfl, rfl, l_makeSlice (m := d.next.length) underlying23 inf4 rfl rfl (by omega) (by omega) (fun bB => ⟨Sub.pick [2] rfl, ?_⟩)⟩, ⟨_, rfl, rfl, l_alloc inf37 rfl (fun bC => ⟨Sub.pick [2] rfl, ?_⟩)⟩, ⟨_, rfl, rfl, l_alloc inf23 rfl (fun bD => ⟨Sub.pick [2] rfl, ?_⟩)⟩, trivial⟩
    · refine RO.fork [6, 7, 8] (by kernel_rfl) rfl ⟨⟨_, rfl, rfl, l_makeSlice (m := d.next.length) underlying23 inf4 rfl rfl (by omega) (by omega) (fun bB => ⟨Sub.pick [3] rfl, ?_⟩)⟩, ⟨_, rfl, rfl, l_alloc inf37 rfl (fun bC => ⟨Sub.pick [3] rfl, ?_⟩)⟩, ⟨_, rfl, rfl, l_alloc inf23 rfl (fun bD => ⟨Sub.pick [3] rfl, ?_⟩)⟩, trivial⟩
      · refine RO.fork [7, 8] (by kernel_rfl) rfl ⟨⟨_, rfl, rfl, l_alloc inf37 rfl (fun bC => ⟨Sub.pick [4] rfl, ?_⟩)⟩, ⟨_, rfl, rfl, l_alloc inf23 rfl (fun bD => ⟨Sub.pick [4] rfl, ?_⟩)⟩, trivial⟩
        · refine RO.fork [8] (by kernel_rfl) rfl ⟨⟨_, rfl, rfl, l_alloc inf23 rfl (fun bD => ⟨Sub.pick [5] rfl, ?_⟩)⟩, trivial⟩
          refine RO.fork [9] (by kernel_rfl) rfl ⟨⟨_, rfl, rfl, l_sb (v := (.slice (some ⟨bA, 0, none⟩) 1 1)) (vs := [(.slice (some ⟨bA, 0, none⟩) 1 1)]) 1 inf37 rfl rfl rfl rfl rfl rfl (by simp [putL]) ⟨Sub.pick [5] rfl, ?_⟩⟩, trivial⟩
          refine RO.fork [10] (by kernel_rfl) rfl ⟨⟨_, rfl, rfl, l_sb (v := (.slice (some ⟨bB, 0, none⟩) d.next.length d.next.length)) (vs := [(.slice (some ⟨bB, 0, none⟩) d.next.length d.next.length)]) 0 inf23 rfl rfl rfl rfl rfl rfl (by simp [putL]) ⟨Sub.pick [5] rfl, ?_⟩⟩, trivial⟩
          exact RO.fin (by kernel_rfl) ⟨bA, bB, bC, bD, rfl, ⟨rfl, rfl, rfl, rfl, rfl, rfl, rfl, trivial⟩⟩ (Sub.pick [1, 0, 1, 0, 0, 0] rfl)
        refine RO.fork [7] (by kernel_rfl) rfl ⟨⟨_, rfl, rfl, l_alloc inf37 rfl (fun bC => ⟨Sub.pick [5] rfl, ?_⟩)⟩, trivial⟩
        refine RO.fork [9] (by kernel_rfl) rfl ⟨⟨_, rfl, rfl, l_sb (v := (.slice (some ⟨bA, 0, none⟩) 1 1)) (vs := [(.slice (some ⟨bA, 0, none⟩) 1 1)]) 0 inf37 rfl rfl rfl rfl rfl rfl (by simp [putL]) ⟨Sub.pick [5] rfl, ?_⟩⟩, trivial⟩
        refine RO.fork [10] (by kernel_rfl) rfl ⟨⟨_, rfl, rfl, l_sb (v := (.slice (some ⟨bB, 0, none⟩) d.next.length d.next.length)) (vs := [(.slice (some ⟨bB, 0, none⟩) d.next.length d.next.length)]) 1 inf23 rfl rfl rfl rfl rfl rfl (by simp [putL]) ⟨Sub.pick [5] rfl, ?_⟩⟩, trivial⟩
        exact RO.fin (by kernel_rfl) ⟨bA, bB, bC, bD, rfl, ⟨rfl, rfl, rfl, rfl, rfl, rfl, rfl, trivial⟩⟩ (Sub.pick [0, 0, 1, 0, 0, 0] rfl)
      · refine RO.fork [6, 8] (by kernel_rfl) rfl ⟨⟨_, rfl, rfl, l_makeSlice (m := d.next.length) underlying23 inf4 rfl rfl (by omega) (by omega) (fun bB => ⟨Sub.pick [4] rfl, ?_⟩)⟩, ⟨_, rfl, rfl, l_alloc inf23 rfl (fun bD => ⟨Sub.pick [4] rfl, ?_⟩)⟩, trivial⟩
        · refine RO.fork [8] (by kernel_rfl) rfl ⟨⟨_, rfl, rfl, l_alloc inf23 rfl (fun bD => ⟨Sub.pick [5] rfl, ?_⟩)⟩, trivial⟩
          refine RO.fork [9] (by kernel_rfl) rfl ⟨⟨_, rfl, rfl, l_sb (v := (.slice (some ⟨bA, 0, none⟩) 1 1)) (vs := [(.slice (some ⟨bA, 0, none⟩) 1 1)]) 2 inf37 rfl rfl rfl rfl rfl rfl (by simp [putL]) ⟨Sub.pick [5] rfl, ?_⟩⟩, trivial⟩
          refine RO.fork [10] (by kernel_rfl) rfl ⟨⟨_, rfl, rfl, l_sb (v := (.slice (some ⟨bB, 0, none⟩) d.next.length d.next.length)) (vs := [(.slice (some ⟨bB, 0, none⟩) d.next.length d.next.length)]) 0 inf23 rfl rfl rfl rfl rfl rfl (by simp [putL]) ⟨Sub.pick [5] rfl, ?_⟩⟩, trivial⟩
          exact RO.fin (by kernel_rfl) ⟨bA, bB, bC, bD, rfl, ⟨rfl, rfl, rfl, rfl, rfl, rfl, rfl, trivial⟩⟩ (Sub.pick [2, 0, 1, 0, 0, 0] rfl)
        refine RO.fork [6, 9] (by kernel_rfl) rfl ⟨⟨_, rfl, rfl, l_makeSlice (m := d.next.length) underlying23 inf4 rfl rfl (by omega) (by omega) (fun bB => ⟨Sub.pick [5] rfl, ?_⟩)⟩, ⟨_, rfl, rfl, l_sb (v := (.slice (some ⟨bA, 0, none⟩) 1 1)) (vs := [(.slice (some ⟨bA, 0, none⟩) 1 1)]) 1 inf37 rfl rfl rfl rfl rfl rfl (by simp [putL]) ⟨Sub.pick [4] rfl, ?_⟩⟩, trivial⟩
        · refine RO.fork [9] (by kernel_rfl) rfl ⟨⟨_, rfl, rfl, l_sb (v := (.slice (some ⟨bA, 0, none⟩) 1 1)) (vs := [(.slice (some ⟨bA, 0, none⟩) 1 1)]) 2 inf37 rfl rfl rfl rfl rfl rfl (by simp [putL]) ⟨Sub.pick [5] rfl, ?_⟩⟩, trivial⟩
          refine RO.fork [10] (by kernel_rfl) rfl ⟨⟨_, rfl, rfl, l_sb (v := (.slice (some ⟨bB, 0, none⟩) d.next.length d.next.length)) (vs := [(.slice (some ⟨bB, 0, none⟩) d.next.length d.next.length)]) 1 inf23 rfl rfl rfl rfl rfl rfl (by simp [putL]) ⟨Sub.pick [5] rfl, ?_⟩⟩, trivial⟩
          exact RO.fin (by kernel_rfl) ⟨bA, bB, bC, bD, rfl, ⟨rfl, rfl, rfl, rfl, rfl, rfl, rfl, trivial⟩⟩ (Sub.pick [2, 1, 1, 0, 0, 0] rfl)
        refine RO.fork [6] (by kernel_rfl) rfl ⟨⟨_, rfl, rfl, l_makeSlice (m := d.next.length) underlying23 inf4 rfl rfl (by omega) (by omega) (fun bB => ⟨Sub.pick [5] rfl, ?_⟩)⟩, trivial⟩
        refine RO.fork [10] (by kernel_rfl) rfl ⟨⟨_, rfl, rfl, l_sb (v := (.slice (some ⟨bB, 0, none⟩) d.next.length d.next.length)) (vs := [(.slice (some ⟨bB, 0, none⟩) d.next.length d.next.length)]) 1 inf23 rfl rfl rfl rfl rfl rfl (by simp [putL]) ⟨Sub.pick [5] rfl, ?_⟩⟩, trivial⟩
        exact RO.fin (by kernel_rfl) ⟨bA, bB, bC, bD, rfl, ⟨rfl, rfl, rfl, rfl, rfl, rfl, rfl, trivial⟩⟩ (Sub.pick [2, 1, 1, 0, 0, 0] rfl)
      refine RO.fork [6, 7] (by kernel_rfl) rfl ⟨⟨_, rfl, rfl, l_makeSlice (m := d.next.length) underlying23 inf4 rfl rfl (by omega) (by omega) (fun bB => ⟨Sub.pick [4] rfl, ?_⟩)⟩, ⟨_, rfl, rfl, l_alloc inf37 rfl (fun bC => ⟨Sub.pick [4] rfl, ?_⟩)⟩, trivial⟩
      · refine RO.fork [7] (by kernel_rfl) rfl ⟨⟨_, rfl, rfl, l_alloc inf37 rfl (fun bC => ⟨Sub.pick [5] rfl, ?_⟩)⟩, trivial⟩
        refine RO.fork [9] (by kernel_rfl) rfl ⟨⟨_, rfl, rfl, l_sb (v := (.slice (some ⟨bA, 0, none⟩) 1 1)) (vs := [(.slice (some ⟨bA, 0, none⟩) 1 1)]) 0 inf37 rfl rfl rfl rfl rfl rfl (by simp [putL]) ⟨Sub.pick [5] rfl, ?_⟩⟩, trivial⟩
        refine RO.fork [10] (by kernel_rfl) rfl ⟨⟨_, rfl, rfl, l_sb (v := (.slice (some ⟨bB, 0, none⟩) d.next.length d.next.length)) (vs := [(.slice (some ⟨bB, 0, none⟩) d.next.length d.next.length)]) 2 inf23 rfl rfl rfl rfl rfl rfl (by simp [putL]) ⟨Sub.pick [5] rfl, ?_⟩⟩, trivial⟩
        exact RO.fin (by kernel_rfl) ⟨bA, bB, bC, bD, rfl, ⟨rfl, rfl, rfl, rfl, rfl, rfl, rfl, trivial⟩⟩ (Sub.pick [0, 1, 1, 0, 0, 0] rfl)
      refine RO.fork [6, 9] (by kernel_rfl) rfl ⟨⟨_, rfl, rfl, l_makeSlice (m := d.next.length) underlying23 inf4 rfl rfl (by omega) (by omega) (fun bB => ⟨Sub.pick [5] rfl, ?_⟩)⟩, ⟨_, rfl, rfl, l_sb (v := (.slice (some ⟨bA, 0, none⟩) 1 1)) (vs := [(.slice (some ⟨bA, 0, none⟩) 1 1)]) 0 inf37 rfl rfl rfl rfl rfl rfl (by simp [putL]) ⟨Sub.pick [4] rfl, ?_⟩⟩, trivial⟩
      · refine RO.fork [9] (by kernel_rfl) rfl ⟨⟨_, rfl, rfl, l_sb (v := (.slice (some ⟨bA, 0, none⟩) 1 1)) (vs := [(.slice (some ⟨bA, 0, none⟩) 1 1)]) 1 inf37 rfl rfl rfl rfl rfl rfl (by simp [putL]) ⟨Sub.pick [5] rfl, ?_⟩⟩, trivial⟩
        refine RO.fork [10] (by kernel_rfl) rfl ⟨⟨_, rfl, rfl, l_sb (v := (.slice (some ⟨bB, 0, none⟩) d.next.length d.next.length)) (vs := [(.slice (some ⟨bB, 0, none⟩) d.next.length d.next.length)]) 2 inf23 rfl rfl rfl rfl rfl rfl (by simp [putL]) ⟨Sub.pick [5] rfl, ?_⟩⟩, trivial⟩
        exact RO.fin (by kernel_rfl) ⟨bA, bB, bC, bD, rfl, ⟨rfl, rfl, rfl, rfl, rfl, rfl, rfl, trivial⟩⟩ (Sub.pick [1, 1, 1, 0, 0, 0] rfl)
      refine RO.fork [6] (by kernel_rfl) rfl ⟨⟨_, rfl, rfl, l_makeSlice (m := d.next.length) underlying23 inf4 rfl rfl (by omega) (by omega) (fun bB => ⟨Sub.pick [5] rfl, ?_⟩)⟩, trivial⟩
      refine RO.fork [10] (by kernel_rfl) rfl ⟨⟨_, rfl, rfl, l_sb (v := (.slice (some ⟨bB, 0, none⟩) d.next.length d.next.length)) (vs := [(.slice (some ⟨bB, 0, none⟩) d.next.length d.next.length)]) 2 inf23 rfl rfl rfl rfl rfl rfl (by simp [putL]) ⟨Sub.pick [5] rfl, ?_⟩⟩, trivial⟩
      exact RO.fin (by kernel_rfl) ⟨bA, bB, bC, bD, rfl, ⟨rfl, rfl, rfl, rfl, rfl, rfl, rfl, trivial⟩⟩ (Sub.pick [1, 1, 1, 0, 0, 0] rfl)
    · refine RO.fork [2, 7, 8] (by kernel_rfl) rfl ⟨⟨_, rfl, rfl, l_build1 (v := (.int .i64 d.start)) underlying37 inf3 rfl rfl rfl (fun bA => ⟨Sub.pick [3] rfl, ?_⟩)⟩, ⟨_, rfl, rfl, l_alloc inf37 rfl (fun bC => ⟨Sub.pick [3] rfl, ?_⟩)⟩, ⟨_, rfl, rfl, l_alloc inf23 rfl (fun bD => ⟨Sub.pick [3] rfl, ?_⟩)⟩, trivial⟩
      · refine RO.fork [7, 8] (by kernel_rfl) rfl ⟨⟨_, rfl, rfl, l_alloc inf37 rfl (fun bC => ⟨Sub.pick [4] rfl, ?_⟩)⟩, ⟨_, rfl, rfl, l_alloc inf23 rfl (fun bD => ⟨Sub.pick [4] rfl, ?_⟩)⟩, trivial⟩
        · refine RO.fork [8] (by kernel_rfl) rfl ⟨⟨_, rfl, rfl, l_alloc inf23 rfl (fun bD => ⟨Sub.pick [5] rfl, ?_⟩)⟩, trivial⟩
          refine RO.fork [9] (by kernel_rfl) rfl ⟨⟨_, rfl, rfl, l_sb (v := (.slice (some ⟨bA, 0, none⟩) 1 1)) (vs := [(.slice (some ⟨bA, 0, none⟩) 1 1)]) 1 inf37 rfl rfl rfl rfl rfl rfl (by simp [putL]) ⟨Sub.pick [5] rfl, ?_⟩⟩, trivial⟩
          refine RO.fork [10] (by kernel_rfl) rfl ⟨⟨_, rfl, rfl, l_sb (v := (.slice (some ⟨bB, 0, none⟩) d.next.length d.next.length)) (vs := [(.slice (some ⟨bB, 0, none⟩) d.next.length d.next.length)]) 0 inf23 rfl rfl rfl rfl rfl rfl (by simp [putL]) ⟨Sub.pick [5] rfl, ?_⟩⟩, trivial⟩
          exact RO.fin (by kernel_rfl) ⟨bA, bB, bC, bD, rfl, ⟨rfl, rfl, rfl, rfl, rfl, rfl, rfl, trivial⟩⟩ (Sub.pick [1, 0, 0, 0, 0, 0] rfl)
        refine RO.fork [7] (by kernel_rfl) rfl ⟨⟨_, rfl, rfl, l_alloc inf37 rfl (fun bC => ⟨Sub.pick [5] rfl, ?_⟩)⟩, trivial⟩
        refine RO.fork [9] (by kernel_rfl) rfl ⟨⟨_, rfl, rfl, l_sb (v := (.slice (some ⟨bA, 0, none⟩) 1 1)) (vs := [(.slice (some ⟨bA, 0, none⟩) 1 1)]) 0 inf37 rfl rfl rfl rfl rfl rfl (by simp [putL]) ⟨Sub.pick [5] rfl, ?_⟩⟩, trivial⟩
        refine RO.fork [10] (by kernel_rfl) rfl ⟨⟨_, rfl, rfl, l_sb (v := (.slice (some ⟨bB, 0, none⟩) d.next.length d.next.length)) (vs := [(.slice (some ⟨bB, 0, none⟩) d.next.length d.next.length)]) 1 inf23 rfl rfl rfl rfl rfl rfl (by simp [putL]) ⟨Sub.pick [5] rfl, ?_⟩⟩, trivial⟩
        exact RO.fin (by kernel_rfl) ⟨bA, bB, bC, bD, rfl, ⟨rfl, rfl, rfl, rfl, rfl, rfl, rfl, trivial⟩⟩ (Sub.pick [0, 0, 0, 0, 0, 0] rfl)
      · refine RO.fork [2, 8] (by kernel_rfl) rfl ⟨⟨_, rfl, rfl, l_build1 (v := (.int .i64 d.start)) underlying37 inf3 rfl rfl rfl (fun bA => ⟨Sub.pick [4] rfl, ?_⟩)⟩, ⟨_, rfl, rfl, l_alloc inf23 rfl (fun bD => ⟨Sub.pick [4] rfl, ?_⟩)⟩, trivial⟩
        · refine RO.fork [8] (by kernel_rfl) rfl ⟨⟨_, rfl, rfl, l_alloc inf23 rfl (fun bD => ⟨Sub.pick [5] rfl, ?_⟩)⟩, trivial⟩
          refine RO.fork [9] (by kernel_rfl) rfl ⟨⟨_, rfl, rfl, l_sb (v := (.slice (some ⟨bA, 0, none⟩) 1 1)) (vs := [(.slice (some ⟨bA, 0, none⟩) 1 1)]) 2 inf37 rfl rfl rfl rfl rfl rfl (by simp [putL]) ⟨Sub.pick [5] rfl, ?_⟩⟩, trivial⟩
          refine RO.fork [10] (by kernel_rfl) rfl ⟨⟨_, rfl, rfl, l_sb (v := (.slice (some ⟨bB, 0, none⟩) d.next.length d.next.length)) (vs := [(.slice (some ⟨bB, 0, none⟩) d.next.length d.next.length)]) 0 inf23 rfl rfl rfl rfl rfl rfl (by simp [putL]) ⟨Sub.pick [5] rfl, ?_⟩⟩, trivial⟩
          exact RO.fin (by kernel_rfl) ⟨bA, bB, bC, bD, rfl, ⟨rfl, rfl, rfl, rfl, rfl, rfl, rfl, trivial⟩⟩ (Sub.pick [2, 0, 0, 0, 0, 0] rfl)
        refine RO.fork [2] (by kernel_rfl) rfl ⟨⟨_, rfl, rfl, l_build1 (v := (.int .i64 d.start)) underlying37 inf3 rfl rfl rfl (fun bA => ⟨Sub.pick [5] rfl, ?_⟩)⟩, trivial⟩
        refine RO.fork [9] (by kernel_rfl) rfl ⟨⟨_, rfl, rfl, l_sb (v := (.slice (some ⟨bA, 0, none⟩) 1 1)) (vs := [(.slice (some ⟨bA, 0, none⟩) 1 1)]) 2 inf37 rfl rfl rfl rfl rfl rfl (by simp [putL]) ⟨Sub.pick [5] rfl, ?_⟩⟩, trivial⟩
        refine RO.fork [10] (by kernel_rfl) rfl ⟨⟨_, rfl, rfl, l_sb (v := (.slice (some ⟨bB, 0, none⟩) d.next.length d.next.length)) (vs := [(.slice (some ⟨bB, 0, none⟩) d.next.length d.next.length)]) 1 inf23 rfl rfl rfl rfl rfl rfl (by simp [putL]) ⟨Sub.pick [5] rfl, ?_⟩⟩, trivial⟩
        exact RO.fin (by kernel_rfl) ⟨bA, bB, bC, bD, rfl, ⟨rfl, rfl, rfl, rfl, rfl, rfl, rfl, trivial⟩⟩ (Sub.pick [2, 1, 0, 0, 0, 0] rfl)
      refine RO.fork [2, 7] (by kernel_rfl) rfl ⟨⟨_, rfl, rfl, l_build1 (v := (.int .i64 d.start)) underlying37 inf3 rfl rfl rfl (fun bA => ⟨Sub.pick [4] rfl, ?_⟩)⟩, ⟨_, rfl, rfl, l_alloc inf37 rfl (fun bC => ⟨Sub.pick [4] rfl, ?_⟩)⟩, trivial⟩
      · refine RO.fork [7] (by kernel_rfl) rfl ⟨⟨_, rfl, rfl, l_alloc inf37 rfl (fun bC => ⟨Sub.pick [5] rfl, ?_⟩)⟩, trivial⟩
        refine RO.fork [9] (by kernel_rfl) rfl ⟨⟨_, rfl, rfl, l_sb (v := (.slice (some ⟨bA, 0, none⟩) 1 1)) (vs := [(.slice (some ⟨bA, 0, none⟩) 1 1)]) 0 inf37 rfl rfl rfl rfl rfl rfl (by simp [putL]) ⟨Sub.pick [5] rfl, ?_⟩⟩, trivial⟩
        refine RO.fork [10] (by kernel_rfl) rfl ⟨⟨_, rfl, rfl, l_sb (v := (.slice (some ⟨bB, 0, none⟩) d.next.length d.next.length)) (vs := [(.slice (some ⟨bB, 0, none⟩) d.next.length d.next.length)]) 2 inf23 rfl rfl rfl rfl rfl rfl (by simp [putL]) ⟨Sub.pick [5] rfl, ?_⟩⟩, trivial⟩
        exact RO.fin (by kernel_rfl) ⟨bA, bB, bC, bD, rfl, ⟨rfl, rfl, rfl, rfl, rfl, rfl, rfl, trivial⟩⟩ (Sub.pick [0, 1, 0, 0, 0, 0] rfl)
      refine RO.fork [2] (by kernel_rfl) rfl ⟨⟨_, rfl, rfl, l_build1 (v := (.int .i64 d.start)) underlying37 inf3 rfl rfl rfl (fun bA => ⟨Sub.pick [5] rfl, ?_⟩)⟩, trivial⟩
      refine RO.fork [9] (by kernel_rfl) rfl ⟨⟨_, rfl, rfl, l_sb (v := (.slice (some ⟨bA, 0, none⟩) 1 1)) (vs := [(.slice (some ⟨bA, 0, none⟩) 1 1)]) 1 inf37 rfl rfl rfl rfl rfl rfl (by simp [putL]) ⟨Sub.pick [5] rfl, ?_⟩⟩, trivial⟩
      refine RO.fork [10] (by kernel_rfl) rfl ⟨⟨_, rfl, rfl, l_sb (v := (.slice (some ⟨bB, 0, none⟩) d.next.length d.next.length)) (vs := [(.slice (some ⟨bB, 0, none⟩) d.next.length d.next.length)]) 2 inf23 rfl rfl rfl rfl rfl rfl (by simp [putL]) ⟨Sub.pick [5] rfl, ?_⟩⟩, trivial⟩
      exact RO.fin (by kernel_rfl) ⟨bA, bB, bC, bD, rfl, ⟨rfl, rfl, rfl, rfl, rfl, rfl, rfl, trivial⟩⟩ (Sub.pick [1, 1, 0, 0, 0, 0] rfl)
    · refine RO.fork [2, 6, 8] (by kernel_rfl) rfl ⟨⟨_, rfl, rfl, l_build1 (v := (.int .i64 d.start)) underlying37 inf3 rfl rfl rfl (fun bA => ⟨Sub.pick [3] rfl, ?_⟩)⟩, ⟨_, rfl, rfl, l_makeSlice (m := d.next.length) underlying23 inf4 rfl rfl (by omega) (by omega) (fun bB => ⟨Sub.pick [3] rfl, ?_⟩)⟩, ⟨_, rfl, rfl, l_alloc inf23 rfl (fun bD => ⟨Sub.pick [3] rfl, ?_⟩)⟩, trivial⟩
      · refine RO.fork [6, 8] (by kernel_rfl) rfl ⟨⟨_, rfl, rfl, l_makeSlice (m := d.next.length) underlying23 inf4 rfl rfl (by omega) (by omega) (fun bB => ⟨Sub.pick [4] rfl, ?_⟩)⟩, ⟨_, rfl, rfl, l_alloc inf23 rfl (fun bD => ⟨Sub.pick [4] rfl, ?_⟩)⟩, trivial⟩
        · refine RO.fork [8] (by kernel_rfl) rfl ⟨⟨_, rfl, rfl, l_alloc inf23 rfl (fun bD => ⟨Sub.pick [5] rfl, ?_⟩)⟩, trivial⟩
          refine RO.fork [9] (by kernel_rfl) rfl ⟨⟨_, rfl, rfl, l_sb (v := (.slice (some ⟨bA, 0, none⟩) 1 1)) (vs := [(.slice (some ⟨bA, 0, none⟩) 1 1)]) 3 inf37 rfl rfl rfl rfl rfl rfl (by simp [putL]) ⟨Sub.pick [5] rfl, ?_⟩⟩, trivial⟩
          refine RO.fork [10] (by kernel_rfl) rfl ⟨⟨_, rfl, rfl, l_sb (v := (.slice (some ⟨bB, 0, none⟩) d.next.length d.next.length)) (vs := [(.slice (some ⟨bB, 0, none⟩) d.next.length d.next.length)]) 0 inf23 rfl rfl rfl rfl rfl rfl (by simp [putL]) ⟨Sub.pick [5] rfl, ?_⟩⟩, trivial⟩
          exact RO.fin (by kernel_rfl) ⟨bA, bB, bC, bD, rfl, ⟨rfl, rfl, rfl, rfl, rfl, rfl, rfl, trivial⟩⟩ (Sub.pick [3, 0, 1, 0, 0, 0] rfl)
        refine RO.fork [6, 9] (by kernel_rfl) rfl ⟨⟨_, rfl, rfl, l_makeSlice (m := d.next.length) underlying23 inf4 rfl rfl (by omega) (by omega) (fun bB => ⟨Sub.pick [5] rfl, ?_⟩)⟩, ⟨_, rfl, rfl, l_sb (v := (.slice (some ⟨bA, 0, none⟩) 1 1)) (vs := [(.slice (some ⟨bA, 0, none⟩) 1 1)]) 2 inf37 rfl rfl rfl rfl rfl rfl (by simp [putL]) ⟨Sub.pick [4] rfl, ?_⟩⟩, trivial⟩
        · refine RO.fork [9] (by kernel_rfl) rfl ⟨⟨_, rfl, rfl, l_sb (v := (.slice (some ⟨bA, 0, none⟩) 1 1)) (vs := [(.slice (some ⟨bA, 0, none⟩) 1 1)]) 3 inf37 rfl rfl rfl rfl rfl rfl (by simp [putL]) ⟨Sub.pick [5] rfl, ?_⟩⟩, trivial⟩
          refine RO.fork [10] (by kernel_rfl) rfl ⟨⟨_, rfl, rfl, l_sb (v := (.slice (some ⟨bB, 0, none⟩) d.next.length d.next.length)) (vs := [(.slice (some ⟨bB, 0, none⟩) d.next.length d.next.length)]) 1 inf23 rfl rfl rfl rfl rfl rfl (by simp [putL]) ⟨Sub.pick [5] rfl, ?_⟩⟩, trivial⟩
          exact RO.fin (by kernel_rfl) ⟨bA, bB, bC, bD, rfl, ⟨rfl, rfl, rfl, rfl, rfl, rfl, rfl, trivial⟩⟩ (Sub.pick [3, 1, 1, 0, 0, 0] rfl)
        refine RO.fork [6] (by kernel_rfl) rfl ⟨⟨_, rfl, rfl, l_makeSlice (m := d.next.length) underlying23 inf4 rfl rfl (by omega) (by omega) (fun bB => ⟨Sub.pick [5] rfl, ?_⟩)⟩, trivial⟩
        refine RO.fork [10] (by kernel_rfl) rfl ⟨⟨_, rfl, rfl, l_sb (v := (.slice (some ⟨bB, 0, none⟩) d.next.length d.next.length)) (vs := [(.slice (some ⟨bB, 0, none⟩) d.next.length d.next.length)]) 1 inf23 rfl rfl rfl rfl rfl rfl (by simp [putL]) ⟨Sub.pick [5] rfl, ?_⟩⟩, trivial⟩
        exact RO.fin (by kernel_rfl) ⟨bA, bB, bC, bD, rfl, ⟨rfl, rfl, rfl, rfl, rfl, rfl, rfl, trivial⟩⟩ (Sub.pick [3, 1, 1, 0, 0, 0] rfl)
      · refine RO.fork [2, 8] (by kernel_rfl) rfl ⟨⟨_, rfl, rfl, l_build1 (v := (.int .i64 d.start)) underlying37 inf3 rfl rfl rfl (fun bA => ⟨Sub.pick [4] rfl, ?_⟩)⟩, ⟨_, rfl, rfl, l_alloc inf23 rfl (fun bD => ⟨Sub.pick [4] rfl, ?_⟩)⟩, trivial⟩
        · refine RO.fork [8] (by kernel_rfl) rfl ⟨⟨_, rfl, rfl, l_alloc inf23 rfl (fun bD => ⟨Sub.pick [5] rfl, ?_⟩)⟩, trivial⟩
          refine RO.fork [9] (by kernel_rfl) rfl ⟨⟨_, rfl, rfl, l_sb (v := (.slice (some ⟨bA, 0, none⟩) 1 1)) (vs := [(.slice (some ⟨bA, 0, none⟩) 1 1)]) 3 inf37 rfl rfl rfl rfl rfl rfl (by simp [putL]) ⟨Sub.pick [5] rfl, ?_⟩⟩, trivial⟩
          refine RO.fork [10] (by kernel_rfl) rfl ⟨⟨_, rfl, rfl, l_sb (v := (.slice (some ⟨bB, 0, none⟩) d.next.length d.next.length)) (vs := [(.slice (some ⟨bB, 0, none⟩) d.next.length d.next.length)]) 0 inf23 rfl rfl rfl rfl rfl rfl (by simp [putL]) ⟨Sub.pick [5] rfl, ?_⟩⟩, trivial⟩
          exact RO.fin (by kernel_rfl) ⟨bA, bB, bC, bD, rfl, ⟨rfl, rfl, rfl, rfl, rfl, rfl, rfl, trivial⟩⟩ (Sub.pick [3, 0, 0, 0, 0, 0] rfl)
        refine RO.fork [2] (by kernel_rfl) rfl ⟨⟨_, rfl, rfl, l_build1 (v := (.int .i64 d.start)) underlying37 inf3 rfl rfl rfl (fun bA => ⟨Sub.pick [5] rfl, ?_⟩)⟩, trivial⟩
        refine RO.fork [9] (by kernel_rfl) rfl ⟨⟨_, rfl, rfl, l_sb (v := (.slice (some ⟨bA, 0, none⟩) 1 1)) (vs := [(.slice (some ⟨bA, 0, none⟩) 1 1)]) 3 inf37 rfl rfl rfl rfl rfl rfl (by simp [putL]) ⟨Sub.pick [5] rfl, ?_⟩⟩, trivial⟩
        refine RO.fork [10] (by kernel_rfl) rfl ⟨⟨_, rfl, rfl, l_sb (v := (.slice (some ⟨bB, 0, none⟩) d.next.length d.next.length)) (vs := [(.slice (some ⟨bB, 0, none⟩) d.next.length d.next.length)]) 1 inf23 rfl rfl rfl rfl rfl rfl (by simp [putL]) ⟨Sub.pick [5] rfl, ?_⟩⟩, trivial⟩
        exact RO.fin (by kernel_rfl) ⟨bA, bB, bC, bD, rfl, ⟨rfl, rfl, rfl, rfl, rfl, rfl, rfl, trivial⟩⟩ (Sub.pick [3, 1, 0, 0, 0, 0] rfl)
      refine RO.fork [2, 6] (by kernel_rfl) rfl ⟨⟨_, rfl, rfl, l_build1 (v := (.int .i64 d.start)) underlying37 inf3 rfl rfl rfl (fun bA => ⟨Sub.pick [4] rfl, ?_⟩)⟩, ⟨_, rfl, rfl, l_makeSlice (m := d.next.length) underlying23 inf4 rfl rfl (by omega) (by omega) (fun bB => ⟨Sub.pick [4] rfl, ?_⟩)⟩, trivial⟩
      · refine RO.fork [6, 9] (by kernel_rfl) rfl ⟨⟨_, rfl, rfl, l_makeSlice (m := d.next.length) underlying23 inf4 rfl rfl (by omega) (by omega) (fun bB => ⟨Sub.pick [5] rfl, ?_⟩)⟩, ⟨_, rfl, rfl, l_sb (v := (.slice (some ⟨bA, 0, none⟩) 1 1)) (vs := [(.slice (some ⟨bA, 0, none⟩) 1 1)]) 2 inf37 rfl rfl rfl rfl rfl rfl (by simp [putL]) ⟨Sub.pick [4] rfl, ?_⟩⟩, trivial⟩
        · refine RO.fork [9] (by kernel_rfl) rfl ⟨⟨_, rfl, rfl, l_sb (v := (.slice (some ⟨bA, 0, none⟩) 1 1)) (vs := [(.slice (some ⟨bA, 0, none⟩) 1 1)]) 3 inf37 rfl rfl rfl rfl rfl rfl (by simp [putL]) ⟨Sub.pick [5] rfl, ?_⟩⟩, trivial⟩
          refine RO.fork [10] (by kernel_rfl) rfl ⟨⟨_, rfl, rfl, l_sb (v := (.slice (some ⟨bB, 0, none⟩) d.next.length d.next.length)) (vs := [(.slice (some ⟨bB, 0, none⟩) d.next.length d.next.length)]) 2 inf23 rfl rfl rfl rfl rfl rfl (by simp [putL]) ⟨Sub.pick [5] rfl, ?_⟩⟩, trivial⟩
          exact RO.fin (by kernel_rfl) ⟨bA, bB, bC, bD, rfl, ⟨rfl, rfl, rfl, rfl, rfl, rfl, rfl, trivial⟩⟩ (Sub.pick [3, 2, 1, 0, 0, 0] rfl)
        refine RO.fork [6] (by kernel_rfl) rfl ⟨⟨_, rfl, rfl, l_makeSlice (m := d.next.length) underlying23 inf4 rfl rfl (by omega) (by omega) (fun bB => ⟨Sub.pick [5] rfl, ?_⟩)⟩, trivial⟩
        refine RO.fork [10] (by kernel_rfl) rfl ⟨⟨_, rfl, rfl, l_sb (v := (.slice (some ⟨bB, 0, none⟩) d.next.length d.next.length)) (vs := [(.slice (some ⟨bB, 0, none⟩) d.next.length d.next.length)]) 2 inf23 rfl rfl rfl rfl rfl rfl (by simp [putL]) ⟨Sub.pick [5] rfl, ?_⟩⟩, trivial⟩
        exact RO.fin (by kernel_rfl) ⟨bA, bB, bC, bD, rfl, ⟨rfl, rfl, rfl, rfl, rfl, rfl, rfl, trivial⟩⟩ (Sub.pick [3, 2, 1, 0, 0, 0] rfl)
      refine RO.fork [2] (by kernel_rfl) rfl ⟨⟨_, rfl, rfl, l_build1 (v := (.int .i64 d.start)) underlying37 inf3 rfl rfl rfl (fun bA => ⟨Sub.pick [5] rfl, ?_⟩)⟩, trivial⟩
      refine RO.fork [9] (by kernel_rfl) rfl ⟨⟨_, rfl, rfl, l_sb (v := (.slice (some ⟨bA, 0, none⟩) 1 1)) (vs := [(.slice (some ⟨bA, 0, none⟩) 1 1)]) 3 inf37 rfl rfl rfl rfl rfl rfl (by simp [putL]) ⟨Sub.pick [5] rfl, ?_⟩⟩, trivial⟩
      refine RO.fork [10] (by kernel_rfl) rfl ⟨⟨_, rfl, rfl, l_sb (v := (.slice (some ⟨bB, 0, none⟩) d.next.length d.next.length)) (vs := [(.slice (some ⟨bB, 0, none⟩) d.next.length d.next.length)]) 2 inf23 rfl rfl rfl rfl rfl rfl (by simp [putL]) ⟨Sub.pick [5] rfl, ?_⟩⟩, trivial⟩
      exact RO.fin (by kernel_rfl) ⟨bA, bB, bC, bD, rfl, ⟨rfl, rfl, rfl, rfl, rfl, rfl, rfl, trivial⟩⟩ (Sub.pick [3, 2, 0, 0, 0, 0] rfl)
    refine RO.fork [2, 6, 7] (by kernel_rfl) rfl ⟨⟨_, rfl, rfl, l_build1 (v := (.int .i64 d.start)) underlying37 inf3 rfl rfl rfl (fun bA => ⟨Sub.pick [3] rfl, ?_⟩)⟩, ⟨_, rfl, rfl, l_makeSlice (m := d.next.length) underlying23 inf4 rfl rfl (by omega) (by omega) (fun bB => ⟨Sub.pick [3] rfl, ?_⟩)⟩, ⟨_, rfl, rfl, l_alloc inf37 rfl (fun bC => ⟨Sub.pick [3] rfl, ?_⟩)⟩, trivial⟩
    · refine RO.fork [6, 7] (by kernel_rfl) rfl ⟨⟨_, rfl, rfl, l_makeSlice (m := d.next.length) underlying23 inf4 rfl rfl (by omega) (by omega) (fun bB => ⟨Sub.pick [4] rfl, ?_⟩)⟩, ⟨_, rfl, rfl, l_alloc inf37 rfl (fun bC => ⟨Sub.pick [4] rfl, ?_⟩)⟩, trivial⟩
      · refine RO.fork [7] (by kernel_rfl) rfl ⟨⟨_, rfl, rfl, l_alloc inf37 rfl (fun bC => ⟨Sub.pick [5] rfl, ?_⟩)⟩, trivial⟩
        refine RO.fork [9] (by kernel_rfl) rfl ⟨⟨_, rfl, rfl, l_sb (v := (.slice (some ⟨bA, 0, none⟩) 1 1)) (vs := [(.slice (some ⟨bA, 0, none⟩) 1 1)]) 0 inf37 rfl rfl rfl rfl rfl rfl (by simp [putL]) ⟨Sub.pick [5] rfl, ?_⟩⟩, trivial⟩
        refine RO.fork [10] (by kernel_rfl) rfl ⟨⟨_, rfl, rfl, l_sb (v := (.slice (some ⟨bB, 0, none⟩) d.next.length d.next.length)) (vs := [(.slice (some ⟨bB, 0, none⟩) d.next.length d.next.length)]) 3 inf23 rfl rfl rfl rfl rfl rfl (by simp [putL]) ⟨Sub.pick [5] rfl, ?_⟩⟩, trivial⟩
        exact RO.fin (by kernel_rfl) ⟨bA, bB, bC, bD, rfl, ⟨rfl, rfl, rfl, rfl, rfl, rfl, rfl, trivial⟩⟩ (Sub.pick [0, 2, 1, 0, 0, 0] rfl)
      refine RO.fork [6, 9] (by kernel_rfl) rfl ⟨⟨_, rfl, rfl, l_makeSlice (m := d.next.length) underlying23 inf4 rfl rfl (by omega) (by omega) (fun bB => ⟨Sub.pick [5] rfl, ?_⟩)⟩, ⟨_, rfl, rfl, l_sb (v := (.slice (some ⟨bA, 0, none⟩) 1 1)) (vs := [(.slice (some ⟨bA, 0, none⟩) 1 1)]) 0 inf37 rfl rfl rfl rfl rfl rfl (by simp [putL]) ⟨Sub.pick [4] rfl, ?_⟩⟩, trivial⟩
      · refine RO.fork [9] (by kernel_rfl) rfl ⟨⟨_, rfl, rfl, l_sb (v := (.slice (some ⟨bA, 0, none⟩) 1 1)) (vs := [(.slice (some ⟨bA, 0, none⟩) 1 1)]) 1 inf37 rfl rfl rfl rfl rfl rfl (by simp [putL]) ⟨Sub.pick [5] rfl, ?_⟩⟩, trivial⟩
        refine RO.fork [10] (by kernel_rfl) rfl ⟨⟨_, rfl, rfl, l_sb (v := (.slice (some ⟨bB, 0, none⟩) d.next.length d.next.length)) (vs := [(.slice (some ⟨bB, 0, none⟩) d.next.length d.next.length)]) 3 inf23 rfl rfl rfl rfl rfl rfl (by simp [putL]) ⟨Sub.pick [5] rfl, ?_⟩⟩, trivial⟩
        exact RO.fin (by kernel_rfl) ⟨bA, bB, bC, bD, rfl, ⟨rfl, rfl, rfl, rfl, rfl, rfl, rfl, trivial⟩⟩ (Sub.pick [1, 2, 1, 0, 0, 0] rfl)
      refine RO.fork [6] (by kernel_rfl) rfl ⟨⟨_, rfl, rfl, l_makeSlice (m := d.next.length) underlying23 inf4 rfl rfl (by omega) (by omega) (fun bB => ⟨Sub.pick [5] rfl, ?_⟩)⟩, trivial⟩
      refine RO.fork [10] (by kernel_rfl) rfl ⟨⟨_, rfl, rfl, l_sb (v := (.slice (some ⟨bB, 0, none⟩) d.next.length d.next.length)) (vs := [(.slice (some ⟨bB, 0, none⟩) d.next.length d.next.length)]) 3 inf23 rfl rfl rfl rfl rfl rfl (by simp [putL]) ⟨Sub.pick [5] rfl, ?_⟩⟩, trivial⟩
      exact RO.fin (by kernel_rfl) ⟨bA, bB, bC, bD, rfl, ⟨rfl, rfl, rfl, rfl, rfl, rfl, rfl, trivial⟩⟩ (Sub.pick [1, 2, 1, 0, 0, 0] rfl)
    · refine RO.fork [2, 7] (by kernel_rfl) rfl ⟨⟨_, rfl, rfl, l_build1 (v := (.int .i64 d.start)) underlying37 inf3 rfl rfl rfl (fun bA => ⟨Sub.pick [4] rfl, ?_⟩)⟩, ⟨_, rfl, rfl, l_alloc inf37 rfl (fun bC => ⟨Sub.pick [4] rfl, ?_⟩)⟩, trivial⟩
      · refine RO.fork [7] (by kernel_rfl) rfl ⟨⟨_, rfl, rfl, l_alloc inf37 rfl (fun bC => ⟨Sub.pick [5] rfl, ?_⟩)⟩, trivial⟩
        refine RO.fork [9] (by kernel_rfl) rfl ⟨⟨_, rfl, rfl, l_sb (v := (.slice (some ⟨bA, 0, none⟩) 1 1)) (vs := [(.slice (some ⟨bA, 0, none⟩) 1 1)]) 0 inf37 rfl rfl rfl rfl rfl rfl (by simp [putL]) ⟨Sub.pick [5] rfl, ?_⟩⟩, trivial⟩
        refine RO.fork [10] (by kernel_rfl) rfl ⟨⟨_, rfl, rfl, l_sb (v := (.slice (some ⟨bB, 0, none⟩) d.next.length d.next.length)) (vs := [(.slice (some ⟨bB, 0, none⟩) d.next.length d.next.length)]) 3 inf23 rfl rfl rfl rfl rfl rfl (by simp [putL]) ⟨Sub.pick [5] rfl, ?_⟩⟩, trivial⟩
        exact RO.fin (by kernel_rfl) ⟨bA, bB, bC, bD, rfl, ⟨rfl, rfl, rfl, rfl, rfl, rfl, rfl, trivial⟩⟩ (Sub.pick [0, 2, 0, 0, 0, 0] rfl)
      refine RO.fork [2] (by kernel_rfl) rfl ⟨⟨_, rfl, rfl, l_build1 (v := (.int .i64 d.start)) underlying37 inf3 rfl rfl rfl (fun bA => ⟨Sub.pick [5] rfl, ?_⟩)⟩, trivial⟩
      refine RO.fork [9] (by kernel_rfl) rfl ⟨⟨_, rfl, rfl, l_sb (v := (.slice (some ⟨bA, 0, none⟩) 1 1)) (vs := [(.slice (some ⟨bA, 0, none⟩) 1 1)]) 1 inf37 rfl rfl rfl rfl rfl rfl (by simp [putL]) ⟨Sub.pick [5] rfl, ?_⟩⟩, trivial⟩
      refine RO.fork [10] (by kernel_rfl) rfl ⟨⟨_, rfl, rfl, l_sb (v := (.slice (some ⟨bB, 0, none⟩) d.next.length d.next.length)) (vs := [(.slice (some ⟨bB, 0, none⟩) d.next.length d.next.length)]) 3 inf23 rfl rfl rfl rfl rfl rfl (by simp [putL]) ⟨Sub.pick [5] rfl, ?_⟩⟩, trivial⟩
      exact RO.fin (by kernel_rfl) ⟨bA, bB, bC, bD, rfl, ⟨rfl, rfl, rfl, rfl, rfl, rfl, rfl, trivial⟩⟩ (Sub.pick [1, 2, 0, 0, 0, 0] rfl)
    refine RO.fork [2, 6] (by kernel_rfl) rfl ⟨⟨_, rfl, rfl, l_build1 (v := (.int .i64 d.start)) underlying37 inf3 rfl rfl rfl (fun bA => ⟨Sub.pick [4] rfl, ?_⟩)⟩, ⟨_, rfl, rfl, l_makeSlice (m := d.next.length) underlying23 inf4 rfl rfl (by omega) (by omega) (fun bB => ⟨Sub.pick [4] rfl, ?_⟩)⟩, trivial⟩
    · refine RO.fork [6, 9] (by kernel_rfl) rfl ⟨⟨_, rfl, rfl, l_makeSlice (m := d.next.length) underlying23 inf4 rfl rfl (by omega) (by omega) (fun bB => ⟨Sub.pick [5] rfl, ?_⟩)⟩, ⟨_, rfl, rfl, l_sb (v := (.slice (some ⟨bA, 0, none⟩) 1 1)) (vs := [(.slice (some ⟨bA, 0, none⟩) 1 1)]) 1 inf37 rfl rfl rfl rfl rfl rfl (by simp [putL]) ⟨Sub.pick [4] rfl, ?_⟩⟩, trivial⟩
      · refine RO.fork [9] (by kernel_rfl) rfl ⟨⟨_, rfl, rfl, l_sb (v := (.slice (some ⟨bA, 0, none⟩) 1 1)) (vs := [(.slice (some ⟨bA, 0, none⟩) 1 1)]) 2 inf37 rfl rfl rfl rfl rfl rfl (by simp [putL]) ⟨Sub.pick [5] rfl, ?_⟩⟩, trivial⟩
        refine RO.fork [10] (by kernel_rfl) rfl ⟨⟨_, rfl, rfl, l_sb (v := (.slice (some ⟨bB, 0, none⟩) d.next.length d.next.length)) (vs := [(.slice (some ⟨bB, 0, none⟩) d.next.length d.next.length)]) 3 inf23 rfl rfl rfl rfl rfl rfl (by simp [putL]) ⟨Sub.pick [5] rfl, ?_⟩⟩, trivial⟩
        exact RO.fin (by kernel_rfl) ⟨bA, bB, bC, bD, rfl, ⟨rfl, rfl, rfl, rfl, rfl, rfl, rfl, trivial⟩⟩ (Sub.pick [2, 2, 1, 0, 0, 0] rfl)
      refine RO.fork [6] (by kernel_rfl) rfl ⟨⟨_, rfl, rfl, l_makeSlice (m := d.next.length) underlying23 inf4 rfl rfl (by omega) (by omega) (fun bB => ⟨Sub.pick [5] rfl, ?_⟩)⟩, trivial⟩
      refine RO.fork [10] (by kernel_rfl) rfl ⟨⟨_, rfl, rfl, l_sb (v := (.slice (some ⟨bB, 0, none⟩) d.next.length d.next.length)) (vs := [(.slice (some ⟨bB, 0, none⟩) d.next.length d.next.length)]) 3 inf23 rfl rfl rfl rfl rfl rfl (by simp [putL]) ⟨Sub.pick [5] rfl, ?_⟩⟩, trivial⟩
      exact RO.fin (by kernel_rfl) ⟨bA, bB, bC, bD, rfl, ⟨rfl, rfl, rfl, rfl, rfl, rfl, rfl, trivial⟩⟩ (Sub.pick [2, 2, 1, 0, 0, 0] rfl)
    refine RO.fork [2] (by kernel_rfl) rfl ⟨⟨_, rfl, rfl, l_build1 (v := (.int .i64 d.start)) underlying37 inf3 rfl rfl rfl (fun bA => ⟨Sub.pick [5] rfl, ?_⟩)⟩, trivial⟩
    refine RO.fork [9] (by kernel_rfl) rfl ⟨⟨_, rfl, rfl, l_sb (v := (.slice (some ⟨bA, 0, none⟩) 1 1)) (vs := [(.slice (some ⟨bA, 0, none⟩) 1 1)]) 2 inf37 rfl rfl rfl rfl rfl rfl (by simp [putL]) ⟨Sub.pick [5] rfl, ?_⟩⟩, trivial⟩
    refine RO.fork [10] (by kernel_rfl) rfl ⟨⟨_, rfl, rfl, l_sb (v := (.slice (some ⟨bB, 0, none⟩) d.next.length d.next.length)) (vs := [(.slice (some ⟨bB, 0, none⟩) d.next.length d.next.length)]) 3 inf23 rfl rfl rfl rfl rfl rfl (by simp [putL]) ⟨Sub.pick [5] rfl, ?_⟩⟩, trivial⟩
    exact RO.fin (by kernel_rfl) ⟨bA, bB, bC, bD, rfl, ⟨rfl, rfl, rfl, rfl, rfl, rfl, rfl, trivial⟩⟩ (Sub.pick [2, 2, 0, 0, 0, 0] rfl)
  rintro ρ O ⟨bA, bB, bC, bD, rfl, hH⟩
  obtain ⟨ρ0, rfl⟩ := hH.elim
  clear hH
  refine T.s (T.rg ?_)
  refine TO.q (q_lb 1 underlying23 rfl rfl rfl rfl) (TO.q (q_fa underlying25 rfl inf3 rfl rfl) (TO.q (q_lb 5 underlying3 rfl rfl rfl rfl) (TO.q (q_ixz (i := d.start) underlying23 inf4 rfl rfl (rowO (mG 3 rfl)) hs0 hsn (by rw [List.length_replicate]; exact hsn)) ?_)))
  refine TO.l rfl (l_st (j := d.start.toNat) (v := .bool true) (vs := [(.bool true)]) (cs := List.replicate d.next.length (.bool false)) 3 inf4 rfl rfl rfl rfl rfl (by simp) rfl (by first | (simp; omega) | (simp_all; omega)) ?_)
  refine TO.sub (O' := [oI bC 37 [(.slice (some ⟨bA, 0, none⟩) 1 1)], oI bD 23 [(.slice (some ⟨bB, 0, none⟩) d.next.length d.next.length)], rowI (some ⟨bA, 0, none⟩) 1 3 1 [(.int .i64 d.start)], rowI (some ⟨bB, 0, none⟩) d.next.length 4 1 (bools ((List.replicate d.next.length false).set d.start.toNat true)), oI z2 25 [(.int .i64 0), (.int .i64 0), (.slice none 0 0), (.slice none 0 0)], oI z1 25 [(.int .i64 d.vars), (.int .i64 d.start), (.slice nb d.next.length nc), (.slice fb d.final.length fc)]]) (by rw [show putL (List.replicate d.next.length (.bool false)) d.start.toNat [(.bool true)] = bools ((List.replicate d.next.length false).set d.start.toNat true) from by simp [putL]]; exact Sub.of (List.Sublist.refl _)) ?_
  refine TO.nl (T.s (T.rg ?_))
  refine TO.q (q_makeFunc) (TO.qa rfl ?_)
  refine TO.nl (T.s (T.rg ?_))
  refine TO.q (q_fa underlying25 rfl inf3 rfl rfl) (TO.q (q_lb 5 underlying3 rfl rfl rfl rfl) (TO.q (q_fa underlying25 rfl inf3 rfl rfl) ?_))
  refine TO.l rfl (l_sb (v := (.int .i64 d.vars)) (vs := [(.int .i64 d.vars)]) 4 inf3 rfl rfl rfl rfl rfl rfl (by simp [putL]) ?_)
  refine TO.nl (T.s ?_)
  have hJ0 : [oI z1 25 [(.int .i64 d.vars), (.int .i64 d.start), (.slice nb d.next.length nc), (.slice fb d.final.length fc)], oI bC 37 [(.slice (some ⟨bA, 0, none⟩) 1 1)], rowI (some ⟨bA, 0, none⟩) 1 3 1 [(.int .i64 d.start)], oI bD 23 [(.slice (some ⟨bB, 0, none⟩) d.next.length d.next.length)], rowI (some ⟨bB, 0, none⟩) d.next.length 4 1 (bools ((List.replicate d.next.length false).set d.start.toNat true))] = [oI z1 25 [(.int .i64 d.vars), (.int .i64 d.start), (.slice nb d.next.length nc), (.slice fb d.final.length fc)], oI bC 37 [(.slice (some ⟨bA, 0, none⟩) 1 1)], rowI (some ⟨bA, 0, none⟩) 1 3 1 (nats [d.start.toNat]), oI bD 23 [(.slice (some ⟨bB, 0, none⟩) d.next.length d.next.length)], rowI (some ⟨bB, 0, none⟩) d.next.length 4 1 (bools ((List.replicate d.next.length false).set d.start.toNat true))] := by
    rw [show nats [d.start.toNat] = [.int .i64 d.start] by simp [Int.toNat_of_nonneg hs0]]
  have hseen : ∀ t, t < d.next.length → ((List.replicate d.next.length false).set d.start.toNat true)[t]? = some (decide (t ∈ [d.start.toNat])) := fun t ht => by
    by_cases e : t = d.start.toNat
    · subst e; rw [List.getElem?_set_self (by simpa using ht)]; simp
    · rw [List.getElem?_set_ne (fun h => e h.symm)]; simp [ht, e]
  refine T.draws [oI z1 25 [(.int .i64 d.vars), (.int .i64 d.start), (.slice nb d.next.length nc), (.slice fb d.final.length fc)]] [(0, 0), (1, 0), (2, 0), (3, 0), (4, 0), (5, 0), (6, 0), (7, 0), (9, 0), (8, 1), (10, 1), (11, 0), (12, 0), (13, 0), (14, 0), (15, 1)] mixed (drawF_ok (by kernel_rfl)) (Sub.pick [5] rfl) (fun _ _ _ h => h) ?_
  refine DO.q rfl (q_fa underlying25 rfl inf3 rfl rfl) (DO.q rfl (q_lb 0 underlying3 rfl rfl rfl rfl) (DO.q rfl (q_shl1 (v := d.vars.toNat) rfl (by show Value.int _ d.vars = _; rw [Int.toNat_of_nonneg hv.v0]) (by have := hv.v6; omega)) (DO.q rfl (q_fa underlying25 rfl inf22 rfl rfl) ?_)))
  refine DO.q rfl (q_lb 0 underlying22 rfl rfl rfl rfl) (DO.q rfl (q_len underlying22 rfl) (DO.q rfl (q_fa underlying25 rfl inf3 rfl rfl) (DO.q rfl (QT.cast (q_lb 0 underlying3 rfl rfl rfl rfl) (v' := .int .i64 ((d.start.toNat : Nat) : Int)) (by rw [Int.toNat_of_nonneg hs0])) ?_)))
  refine DO.q rfl (q_move rfl) ?_
  have hk40 := fun (w1 : World) (hI : Inv w [oI bC 37 [(.slice (some ⟨bA, 0, none⟩) 1 1)], oI bD 23 [(.slice (some ⟨bB, 0, none⟩) d.next.length d.next.length)], rowI (some ⟨bA, 0, none⟩) 1 3 1 [(.int .i64 d.start)], rowI (some ⟨bB, 0, none⟩) d.next.length 4 1 (bools ((List.replicate d.next.length false).set d.start.toNat true)), oI z2 25 [(.int .i64 d.vars), (.int .i64 0), (.slice none 0 0), (.slice none 0 0)], oI z1 25 [(.int .i64 d.vars), (.int .i64 d.start), (.slice nb d.next.length nc), (.slice fb d.final.length fc)]] w1) => (haveI := tbz hI; itoaF w1 d.start.toNat (by omega))
  refine DO.loud rfl rfl (l_call ent101 (CallT.op hk40) rfl ?_)
  clear hk40
  rintro v O' ⟨N, rfl, rfl, rfl⟩
  refine ⟨Sub.pick [5] rfl, ?_⟩
  have hk42 := CallT.under (B := [oI z2 25 [(.int .i64 d.vars), (.int .i64 0), (.slice none 0 0), (.slice none 0 0)]]) (O := [oI bC 37 [(.slice (some ⟨bA, 0, none⟩) 1 1)], oI bD 23 [(.slice (some ⟨bB, 0, none⟩) d.next.length d.next.length)], rowI (some ⟨bA, 0, none⟩) 1 3 1 [(.int .i64 d.start)], rowI (some ⟨bB, 0, none⟩) d.next.length 4 1 (bools ((List.replicate d.next.length false).set d.start.toNat true)), oI z2 25 [(.int .i64 d.vars), (.int .i64 0), (.slice none 0 0), (.slice none 0 0)], oI z1 25 [(.int .i64 d.vars), (.int .i64 d.start), (.slice nb d.next.length nc), (.slice fb d.final.length fc)]]) (exploreC w (trD d) (2 ^ d.vars.toNat) d.next.length (Lib.decDigits d.start.toNat) (.func (.func 100) #[] #[.pointer (some ⟨z1, 0, none⟩), .pointer (some ⟨bC, 0, none⟩), .pointer (some ⟨bD, 0, none⟩)]) (RenJ d nb fb nc fc z1 bB bC bD) (fun ks => ks.length ≤ d.next.length) hv.width hv.n4 (fun ks s x O hs hx _ hJ => nextV w d nb fb nc fc vs h hv hn z1 bB bC bD ks s x O hs hx hJ) (fun _ h => h) [oI z1 25 [(.int .i64 d.vars), (.int .i64 d.start), (.slice nb d.next.length nc), (.slice fb d.final.length fc)], oI bC 37 [(.slice (some ⟨bA, 0, none⟩) 1 1)], rowI (some ⟨bA, 0, none⟩) 1 3 1 [(.int .i64 d.start)], oI bD 23 [(.slice (some ⟨bB, 0, none⟩) d.next.length d.next.length)], rowI (some ⟨bB, 0, none⟩) d.next.length 4 1 (bools ((List.replicate d.next.length false).set d.start.toNat true))] (by simp; omega) ⟨[d.start.toNat], (List.replicate d.next.length false).set d.start.toNat true, some ⟨bA, 0, none⟩, 1, rfl, hJ0, by simp, by simp; omega, by simp, hseen⟩) (Sub.pick [5, 0, 1, 0, 0, 0] rfl)
  refine DO.loud rfl rfl (l_call ent102 hk42 rfl ?_)
  clear hk42
  rintro v O' ⟨A1, rfl, rb, rc, qs, N, O1, rfl, rfl, ⟨os, sn, ob, oc, hks, rfl, hnd, hos, hsl, hsn9⟩, hgl, hlenN, hE, hen⟩
  refine ⟨Sub.cnt ([rowI rb rc 37 1 (vals qs)] ++ itms 3 qs ++ [oI bC 37 [(.slice ob os.length oc)], rowI ob oc 3 1 (nats os), oI bD 23 [(.slice (some ⟨bB, 0, none⟩) d.next.length d.next.length)], rowI (some ⟨bB, 0, none⟩) d.next.length 4 1 (bools sn), oI z2 25 [(.int .i64 d.vars), (.int .i64 0), (.slice none 0 0), (.slice none 0 0)]]) (by intro a; simp only [itms, oI, List.set_cons_zero, List.set_cons_succ, putL, List.cons_append, List.nil_append, List.append_nil, List.append_assoc, List.map_append, List.map_cons, List.map_nil, cnt_append, cnt_cons, cnt_nil] <;> omega), ?_⟩
  refine DO.sub (O' := [rowI rb rc 37 1 (vals qs), oI z1 25 [(.int .i64 d.vars), (.int .i64 d.start), (.slice nb d.next.length nc), (.slice fb d.final.length fc)], oI bC 37 [(.slice ob os.length oc)], rowI ob oc 3 1 (nats os), oI bD 23 [(.slice (some ⟨bB, 0, none⟩) d.next.length d.next.length)], rowI (some ⟨bB, 0, none⟩) d.next.length 4 1 (bools sn), oI z2 25 [(.int .i64 d.vars), (.int .i64 0), (.slice none 0 0), (.slice none 0 0)]] ++ itms 3 qs) (Sub.ca []) ?_
  refine DO.q rfl (q_move rfl) (DO.q rfl (q_extract (vs := _) rfl rfl) (DO.q rfl (q_extract (vs := _) rfl rfl) (DO.q rfl (q_fa underlying25 rfl inf22 rfl rfl) ?_)))
  refine DO.loud rfl rfl (l_sb (v := (.slice rb N rc)) (vs := [(.slice rb N rc)]) 6 inf22 rfl rfl rfl rfl rfl rfl (by simp [putL]) ⟨Sub.pick0 [1] [rowI rb rc 37 1 (vals qs), oI z1 25 [(.int .i64 d.vars), (.int .i64 d.start), (.slice nb d.next.length nc), (.slice fb d.final.length fc)], oI bC 37 [(.slice ob os.length oc)], rowI ob oc 3 1 (nats os), oI bD 23 [(.slice (some ⟨bB, 0, none⟩) d.next.length d.next.length)], rowI (some ⟨bB, 0, none⟩) d.next.length 4 1 (bools sn), oI z2 25 [(.int .i64 d.vars), (.int .i64 0), (.slice rb N rc), (.slice none 0 0)]] (itms 3 qs) rfl rfl, ?_⟩)
  refine DO.done ?_
  refine T.s (T.s (T.rg ?_))
  refine TO.q (q_lb 2 underlying37 rfl rfl rfl rfl) (TO.q (q_len underlying37 rfl) (TO.qm rfl ?_))
  refine TO.nl (T.block ?_)
  have hol := nodup_bound hnd hos
  refine T.nilRow 4 1 ?_
  refine T.loop (fun (k : Nat) ρ O => ∃ (fb9 : Option Addr) (fc9 : Nat), O = ([rowI fb9 fc9 4 1 (bools ((os.take k).map fun o => d.final.getD o false)), rowI rb rc 37 1 (vals qs), oI z1 25 [(.int .i64 d.vars), (.int .i64 d.start), (.slice nb d.next.length nc), (.slice fb d.final.length fc)], oI bC 37 [(.slice ob os.length oc)], rowI ob oc 3 1 (nats os), oI bD 23 [(.slice (some ⟨bB, 0, none⟩) d.next.length d.next.length)], rowI (some ⟨bB, 0, none⟩) d.next.length 4 1 (bools sn), oI z2 25 [(.int .i64 d.vars), (.int .i64 0), (.slice rb N rc), (.slice fb9 k fc9)]] ++ (itms 3 qs)) ∧ k ≤ os.length ∧ Heads [(0, (.agg #[(.int .i64 d.vars), (.int .i64 d.start), (.slice nb d.next.length nc), (.slice fb d.final.length fc)])), (1, (.pointer (some ⟨z1, 0, none⟩))), (2, (.pointer (some ⟨z2, 0, none⟩))), (3, .int .i64 0), (4, .int .i64 ((0 : Nat) : Int)), (5, (.pointer (some ⟨bC, 0, none⟩))), (6, (.pointer (some ⟨bD, 0, none⟩))), (7, (.func (.func 100) #[] #[(.pointer (some ⟨z1, 0, none⟩)), (.pointer (some ⟨bC, 0, none⟩)), (.pointer (some ⟨bD, 0, none⟩))])), (46, (.slice ob os.length oc)), (47, .int .i64 (os.length : Int)), (48, .int .i64 (k : Int))] ρ) (fun k => os.length - k) 0 ?_ ?_
  · exact ⟨none, 0, rfl, Nat.zero_le _, ⟨rfl, rfl, rfl, rfl, rfl, rfl, rfl, rfl, rfl, rfl, rfl, trivial⟩⟩
  rintro k ρ O ⟨fb9, fc9, rfl, hk, hH⟩
  obtain ⟨ρ0, rfl⟩ := hH.elim
  clear hH
  refine T.s (T.rg ?_)
  refine TO.q (q_lss rfl rfl) ?_
  refine TO.nl (T.s ?_)
  refine T.condP rfl (fun hc => ?_) (fun hc => ?_)
  · have hlt49 : k < os.length := by omega
    have hok : os[k] < d.next.length := hos _ (List.getElem_mem hlt49)
    have hokf : os[k] < d.final.length := by have := hv.fin; omega
    refine T.skip (T.s (T.block (T.s (T.rg ?_))))
    refine TO.q (q_ix (i := k) underlying37 inf3 rfl rfl (rowO (mG 4 rfl))) (TO.q (q_ld underlying3 rfl rfl (rowO (mG 4 rfl)) nats_get) (TO.qa rfl ?_))
    refine TO.nl ?_
    refine T.draws [oI z1 25 [(.int .i64 d.vars), (.int .i64 d.start), (.slice nb d.next.length nc), (.slice fb d.final.length fc)], oI z2 25 [(.int .i64 d.vars), (.int .i64 0), (.slice rb N rc), (.slice fb9 k fc9)]] [(0, 0), (1, 0), (2, 0), (3, 0), (4, 0), (5, 0), (6, 0), (7, 1), (8, 2), (9, 2), (10, 2)] mixed (by kernel_rfl) (Sub.pick0 [2, 6] [rowI fb9 fc9 4 1 (bools ((os.take k).map fun o => d.final.getD o false)), rowI rb rc 37 1 (vals qs), oI z1 25 [(.int .i64 d.vars), (.int .i64 d.start), (.slice nb d.next.length nc), (.slice fb d.final.length fc)], oI bC 37 [(.slice ob os.length oc)], rowI ob oc 3 1 (nats os), oI bD 23 [(.slice (some ⟨bB, 0, none⟩) d.next.length d.next.length)], rowI (some ⟨bB, 0, none⟩) d.next.length 4 1 (bools sn), oI z2 25 [(.int .i64 d.vars), (.int .i64 0), (.slice rb N rc), (.slice fb9 k fc9)]] (itms 3 qs) rfl rfl) (fun _ _ _ h => h) ?_
    refine DO.q rfl (q_fa underlying25 rfl inf23 rfl rfl) (DO.q rfl (q_lb 1 underlying23 rfl rfl rfl rfl) (DO.q rfl (q_fa underlying25 rfl inf23 rfl rfl) (DO.q rfl (q_lb 0 underlying23 rfl rfl rfl rfl) ?_)))
    refine DO.q rfl (q_move rfl) (DO.q rfl (q_ix (i := os[k]) underlying23 inf4 rfl rfl (Sl.o h.final)) (DO.q rfl (q_ld underlying4 rfl rfl (Sl.o h.final) bools_get) ?_))
    refine DO.loud rfl rfl (l_build1 (v := .bool d.final[os[k]]) underlying23 inf4 rfl rfl rfl (fun z3 => ⟨Sub.pick0 [3, 7] [rowI (some ⟨z3, 0, none⟩) 1 4 1 [.bool d.final[os[k]]], rowI fb9 fc9 4 1 (bools ((os.take k).map fun o => d.final.getD o false)), rowI rb rc 37 1 (vals qs), oI z1 25 [(.int .i64 d.vars), (.int .i64 d.start), (.slice nb d.next.length nc), (.slice fb d.final.length fc)], oI bC 37 [(.slice ob os.length oc)], rowI ob oc 3 1 (nats os), oI bD 23 [(.slice (some ⟨bB, 0, none⟩) d.next.length d.next.length)], rowI (some ⟨bB, 0, none⟩) d.next.length 4 1 (bools sn), oI z2 25 [(.int .i64 d.vars), (.int .i64 0), (.slice rb N rc), (.slice fb9 k fc9)]] (itms 3 qs) rfl rfl, ?_⟩))
    refine DO.last rfl rfl (l_append 1 underlying23 underlying23 inf4 rfl rfl rfl rfl (by simp; omega) (by decide) (Src.row (j := 0) rfl (by simp)) (by simp [oneB]) (by omega) (by decide) (by decide) (fun z4 zc5 => ?_))
    refine DO.last rfl rfl (LT.oq rfl rfl (q_fa underlying25 rfl inf23 rfl rfl) ?_)
    refine DO.last rfl rfl (l_sb (v := (.slice z4 (k + 1) zc5)) (vs := [(.slice z4 (k + 1) zc5)]) 8 inf23 rfl rfl rfl rfl rfl rfl (by simp [putL]) ?_)
    refine DO.sub (O' := ([rowI z4 zc5 4 1 ((bools ((os.take k).map fun o => d.final.getD o false)) ++ [.bool d.final[os[k]]]), rowI rb rc 37 1 (vals qs), oI z1 25 [(.int .i64 d.vars), (.int .i64 d.start), (.slice nb d.next.length nc), (.slice fb d.final.length fc)], oI bC 37 [(.slice ob os.length oc)], rowI ob oc 3 1 (nats os), oI bD 23 [(.slice (some ⟨bB, 0, none⟩) d.next.length d.next.length)], rowI (some ⟨bB, 0, none⟩) d.next.length 4 1 (bools sn), oI z2 25 [(.int .i64 d.vars), (.int .i64 0), (.slice rb N rc), (.slice z4 (k + 1) zc5)]] ++ (itms 3 qs))) (Sub.pickR [1, 1, 1, 1, 1, 1, 1, 1] [rowI (some ⟨z3, 0, none⟩) 1 4 1 [.bool d.final[os[k]]], rowI z4 zc5 4 1 ((bools ((os.take k).map fun o => d.final.getD o false)) ++ [.bool d.final[os[k]]]), rowI rb rc 37 1 (vals qs), oI z1 25 [(.int .i64 d.vars), (.int .i64 d.start), (.slice nb d.next.length nc), (.slice fb d.final.length fc)], oI bC 37 [(.slice ob os.length oc)], rowI ob oc 3 1 (nats os), oI bD 23 [(.slice (some ⟨bB, 0, none⟩) d.next.length d.next.length)], rowI (some ⟨bB, 0, none⟩) d.next.length 4 1 (bools sn), oI z2 25 [(.int .i64 d.vars), (.int .i64 0), (.slice rb N rc), (.slice z4 (k + 1) zc5)]] (itms 3 qs) rfl rfl) ?_
    refine DO.done ?_
    refine T.rg ?_
    refine TO.q (q_inc rfl rfl (by omega)) (TO.qm rfl ?_)
    refine TO.nl ?_
    have hst : (List.take (k + 1) os).map (fun o => d.final.getD o false) = (List.take k os).map (fun o => d.final.getD o false) ++ [d.final[os[k]]] := by
      rw [List.take_succ_eq_append_getElem hlt49, List.map_append]; simp [hokf]
    exact ⟨k + 1, by omega, z4, zc5, by rw [hst, show bools ((List.take k os).map (fun o => d.final.getD o false) ++ [d.final[os[k]]]) = bools ((List.take k os).map fun o => d.final.getD o false) ++ [.bool d.final[os[k]]] from List.map_append], by omega, ⟨rfl, rfl, rfl, rfl, rfl, rfl, rfl, rfl, rfl, rfl, rfl, trivial⟩⟩
  have hge49 : ¬ k < os.length := by omega
  refine T.exit ?_
  refine T.s (T.rg ?_)
  refine TO.q (q_la 7 underlying25 rfl inf25 rfl rfl rfl) ?_
  refine TO.l rfl (l_sb (v := (.agg #[(.int .i64 d.vars), (.int .i64 0), (.slice rb N rc), (.slice fb9 k fc9)])) (vs := [(.int .i64 d.vars), (.int .i64 0), (.slice rb N rc), (.slice fb9 k fc9)]) 7 inf25 rfl rfl rfl rfl rfl rfl (by simp [putL]) ?_)
  refine TO.qa rfl ?_
  refine TO.nl (T.ret (Res.drop ?_))
  refine Res.cell1b (.int .i64 0) (i := 7) Tryz.results74 underlying25 rfl inf25 rfl rfl rfl rfl ?_
  have hke : k = os.length := by omega
  obtain ⟨ho, hN9⟩ := ren_order hen hks hlenN (nodup_bound hnd hos)
  have hnx := ren_next hks hE ho hN9
  have hfx : (List.take k os).map (fun o => d.final.getD o false) = (renum d).final := by rw [List.take_of_length_le (by omega), ho]; rfl
  have hl1 : (renum d).next.length = N := by rw [← hnx, hE.len]
  have hl2 : (renum d).final.length = k := by rw [← hfx, List.length_map, List.length_take]; omega
  refine ⟨[rowI rb rc 37 1 (vals qs), rowI fb9 fc9 4 1 (bools ((os.take k).map fun o => d.final.getD o false))] ++ itms 3 qs, (Sub.pickR [1, 0] [rowI fb9 fc9 4 1 (bools ((os.take k).map fun o => d.final.getD o false)), rowI rb rc 37 1 (vals qs), oI z1 25 [(.int .i64 d.vars), (.int .i64 d.start), (.slice nb d.next.length nc), (.slice fb d.final.length fc)], oI bC 37 [(.slice ob os.length oc)], rowI ob oc 3 1 (nats os), oI bD 23 [(.slice (some ⟨bB, 0, none⟩) d.next.length d.next.length)], rowI (some ⟨bB, 0, none⟩) d.next.length 4 1 (bools sn), oI z2 25 [(.int .i64 d.vars), (.int .i64 0), (.slice rb N rc), (.slice fb9 k fc9)]] (itms 3 qs) rfl rfl), rb, rc, fb9, fc9, qs, ?_, by rw [hfx], hnx⟩
  show Value.tuple #[Value.agg (List.toArray [.int .i64 d.vars, .int .i64 0, .slice rb N rc, .slice fb9 k fc9]), _] = Value.tuple #[Value.agg (List.toArray [.int .i64 d.vars, .int .i64 0, .slice rb (renum d).next.length rc, .slice fb9 (renum d).final.length fc9]), _]
  rw [hl1, hl2]
end Go.Proofs.YtohkmggbfcnapaaGreatDoor


namespace Go.Proofs.YtohkmggbfcnapaaGreatDoor
open Go.Lx Go.RowKit _root_.Go.Proofs.Tryz
theorem minBad (w : World) [Tab Tryz.prog w] (d : DFA) (nb fb : Option Addr) (nc fc : Nat) (vs : List Value) (h : DfaAt w d nb vs fb) (hb : d.next.length < 9223372036854775807) (hbr : ∀ r ∈ d.next, r.length < 9223372036854775807) (hbf : d.final.length < 9223372036854775807) (he : checkD d ≠ 0) :
    PureT Tryz.prog 34 [.agg (dfaCells d nb nc fb fc).toArray] w fun v N => v = .tuple #[.agg #[.int .i64 0, .int .i64 0, .slice none 0 0, .slice none 0 0], .int .i64 (checkD d : Int)] ∧ N = [] := by
  refine CallT.enter func34 rfl ntmps34 rfl ?_
  refine T.s (T.rg ?_)
  refine TO.l rfl (l_box (v := (.agg #[(.int .i64 d.vars), (.int .i64 d.start), (.slice nb d.next.length nc), (.slice fb d.final.length fc)])) (cs := [(.int .i64 d.vars), (.int .i64 d.start), (.slice nb d.next.length nc), (.slice fb d.final.length fc)]) rfl rfl (fun b1 => ?_))
  refine TO.l rfl (l_alloc inf25 rfl (fun b2 => ?_))
  refine TO.qa rfl ?_
  refine TO.nl (T.s (T.rg ?_))
  refine TO.q (q_la 1 underlying25 rfl inf25 rfl rfl rfl) ?_
  have hk14 := fun (w1 : World) (hI : Inv w [oI b2 25 [(.int .i64 0), (.int .i64 0), (.slice none 0 0), (.slice none 0 0)], oI b1 25 [(.int .i64 d.vars), (.int .i64 d.start), (.slice nb d.next.length nc), (.slice fb d.final.length fc)]] w1) => (haveI := tbz hI; classesBad w1 d nb fb nc fc vs (hI.dfa h) hb hbr hbf he)
  refine TO.l rfl (l_call ent72 (CallT.op hk14) rfl ?_)
  clear hk14
  rintro v O' ⟨N, rfl, rfl, rfl⟩
  refine TO.qm rfl (TO.q (q_extract (vs := _) rfl rfl) (TO.q (q_extract (vs := _) rfl rfl) ?_))
  refine TO.l rfl (l_alloc inf37 rfl (fun b3 => ?_))
  refine TO.l rfl (l_sb (v := (.slice none 0 0)) (vs := [(.slice none 0 0)]) 0 inf37 rfl rfl rfl rfl rfl rfl (by simp [putL]) ?_)
  refine TO.qa rfl ?_
  refine TO.nl (T.s (T.s (T.rg ?_)))
  refine TO.qm rfl (TO.q (QT.toB (q_neq rfl rfl) (decide_eq_true (by omega))) ?_)
  refine TO.nl ?_
  refine T.cond1 rfl ?_
  refine T.s (T.rg ?_)
  refine TO.q (q_build plan25 inf25 rfl) (TO.qm rfl ?_)
  refine TO.l rfl (l_sb (v := (.agg #[(.int .i64 0), (.int .i64 0), (.slice none 0 0), (.slice none 0 0)])) (vs := [(.int .i64 0), (.int .i64 0), (.slice none 0 0), (.slice none 0 0)]) 1 inf25 rfl rfl rfl rfl rfl rfl (by simp [putL]) ?_)
  refine TO.qa rfl ?_
  refine TO.nl (T.ret (Res.drop ?_))
  refine Res.cell1b (.int .i64 (checkD d : Int)) (i := 1) Tryz.results34 underlying25 rfl inf25 rfl rfl rfl rfl ?_
  exact ⟨[], Sub.of (List.nil_sublist _), rfl, rfl⟩
theorem minOk (w : World) [Tab Tryz.prog w] (d : DFA) (nb fb : Option Addr) (nc fc : Nat) (vs : List Value) (h : DfaAt w d nb vs fb) (hv : Valid d) (hn : d.next.length < 10000) (hqv : Valid (quo d (itF d d.next.length))) (hqn : (quo d (itF d d.next.length)).next.length < 10000) :
    PureT Tryz.prog 34 [.agg (dfaCells d nb nc fb fc).toArray] w fun v N => ∃ nb' nc' fb' fc' qs, v = .tuple #[.agg (dfaCells (renum (quo d (itF d d.next.length))) nb' nc' fb' fc').toArray, .int .i64 0] ∧ N = [rowI nb' nc' 37 1 (vals qs), rowI fb' fc' 4 1 (bools (renum (quo d (itF d d.next.length))).final)] ++ itms 3 qs ∧ nums qs = (renum (quo d (itF d d.next.length))).next := by
  refine CallT.enter func34 rfl ntmps34 rfl ?_
  obtain ⟨cs, hcs⟩ : ∃ cs, itF d d.next.length = cs := ⟨_, rfl⟩
  rw [hcs] at hqv hqn ⊢
  have hcl : cs.length = d.next.length := hcs ▸ itF_length d _
  have hc9 : ∀ x ∈ cs, x < 10000 := hcs ▸ itF_lt hn _
  have hs0 := hv.s0
  have hs1 := hv.s1
  have hn0 := hv.n0
  have hn4 := hv.n4
  have hsn : d.start.toNat < cs.length := by omega
  have hb : d.next.length < 9223372036854775807 := by omega
  refine T.s (T.rg ?_)
  refine TO.l rfl (l_box (v := (.agg #[(.int .i64 d.vars), (.int .i64 d.start), (.slice nb d.next.length nc), (.slice fb d.final.length fc)])) (cs := [(.int .i64 d.vars), (.int .i64 d.start), (.slice nb d.next.length nc), (.slice fb d.final.length fc)]) rfl rfl (fun z1 => ?_))
  refine TO.l rfl (l_alloc inf25 rfl (fun z2 => ?_))
  refine TO.qa rfl ?_
  refine TO.nl (T.s (T.rg ?_))
  refine TO.q (q_la 1 underlying25 rfl inf25 rfl rfl rfl) ?_
  have hk14 := fun (w1 : World) (hI : Inv w [oI z2 25 [(.int .i64 0), (.int .i64 0), (.slice none 0 0), (.slice none 0 0)], oI z1 25 [(.int .i64 d.vars), (.int .i64 d.start), (.slice nb d.next.length nc), (.slice fb d.final.length fc)]] w1) => (haveI := tbz hI; classesOk w1 d nb fb nc fc vs (hI.dfa h) hv hn)
  refine TO.l rfl (l_call ent72 (CallT.op hk14) rfl ?_)
  clear hk14
  rintro v O' ⟨N, rfl, cb, cc, rfl, rfl⟩
  rw [hcs]
  refine TO.qm rfl (TO.q (q_extract (vs := _) rfl rfl) (TO.q (q_extract (vs := _) rfl rfl) ?_))
  refine TO.l rfl (l_alloc inf37 rfl (fun z3 => ?_))
  refine TO.l rfl (l_sb (v := (.slice cb d.next.length cc)) (vs := [(.slice cb d.next.length cc)]) 0 inf37 rfl rfl rfl rfl rfl rfl (by simp [putL]) ?_)
  refine TO.qa rfl ?_
  refine TO.nl (T.s (T.s (T.rg ?_)))
  refine TO.qm rfl (TO.q (q_neq rfl rfl) ?_)
  refine TO.nl ?_
  refine T.cond0 rfl ?_
  refine T.skip (T.s ?_)
  refine T.draws [oI z3 37 [(.slice cb d.next.length cc)], rowI cb cc 3 1 (nats cs), oI z1 25 [(.int .i64 d.vars), (.int .i64 d.start), (.slice nb d.next.length nc), (.slice fb d.final.length fc)]] [(0, 0), (1, 0), (2, 0), (3, 0), (4, 0), (5, 0), (6, 0), (7, 0), (8, 1), (9, 2)] mixed (by kernel_rfl) (Sub.pick [0, 0, 1] rfl) (fun _ _ _ h => h) ?_
  refine DO.q rfl (q_fa underlying25 rfl inf3 rfl rfl) (DO.q rfl (q_lb 2 underlying3 rfl rfl rfl rfl) (DO.q rfl (q_lb 0 underlying37 rfl rfl rfl rfl) (DO.q rfl (q_fa underlying25 rfl inf3 rfl rfl) ?_)))
  refine DO.q rfl (q_lb 2 underlying3 rfl rfl rfl rfl) (DO.q rfl (q_ixz (i := d.start) underlying37 inf3 rfl rfl (rowO (mG 1 rfl)) hs0 (hcl ▸ hsn) (by rw [List.length_map]; exact hsn)) (DO.q rfl (q_ld underlying3 rfl rfl (rowO (mG 1 rfl)) (show (nats cs)[d.start.toNat]? = some (.int .i64 ((cs.getD d.start.toNat 0 : Nat) : Int)) by rw [nats_get hsn]; simp [hsn])) (DO.q rfl (q_build (cs := [(.int .i64 d.vars), .int .i64 ((cs.getD d.start.toNat 0 : Nat) : Int), (.slice none 0 0), (.slice none 0 0)]) plan25 inf25 (by kernel_rfl)) ?_)))
  refine DO.loud rfl rfl (l_alloc inf25 rfl (fun z4 => ⟨Sub.pick [1, 1, 2] rfl, ?_⟩))
  refine DO.last rfl rfl (l_sb (v := (.agg #[(.int .i64 d.vars), .int .i64 ((cs.getD d.start.toNat 0 : Nat) : Int), (.slice none 0 0), (.slice none 0 0)])) (vs := [(.int .i64 d.vars), .int .i64 ((cs.getD d.start.toNat 0 : Nat) : Int), (.slice none 0 0), (.slice none 0 0)]) 0 inf25 rfl rfl rfl rfl rfl rfl (by simp [putL]) ?_)
  refine DO.done ?_
  refine T.s (T.s (T.rg ?_))
  refine TO.q (q_la 4 underlying25 rfl inf25 rfl rfl rfl) ?_
  have hk30 := fun (w1 : World) (hI : Inv w [oI z4 25 [(.int .i64 d.vars), .int .i64 ((cs.getD d.start.toNat 0 : Nat) : Int), (.slice none 0 0), (.slice none 0 0)], oI z3 37 [(.slice cb d.next.length cc)], rowI cb cc 3 1 (nats cs), oI z2 25 [(.int .i64 0), (.int .i64 0), (.slice none 0 0), (.slice none 0 0)], oI z1 25 [(.int .i64 d.vars), (.int .i64 d.start), (.slice nb d.next.length nc), (.slice fb d.final.length fc)]] w1) => (haveI := tbz hI; rowsF w1 d nb fb nc fc)
  refine TO.l rfl (l_call ent73 (CallT.op hk30) rfl ?_)
  clear hk30
  rintro v O' ⟨N, rfl, bR, rfl, rfl⟩
  refine TO.nl ?_
  refine T.nilRow 4 1 ?_
  refine T.nilRow 37 1 ?_
  refine T.sub (O' := [oI bR 25 [(.int .i64 d.vars), (.int .i64 d.start), (.slice nb d.next.length nc), (.slice fb d.final.length fc)], oI z4 25 [(.int .i64 d.vars), .int .i64 ((cs.getD d.start.toNat 0 : Nat) : Int), (.slice none 0 0), (.slice none 0 0)], rowI none 0 37 1 (vals []), rowI none 0 4 1 (bools []), oI z3 37 [(.slice cb d.next.length cc)], rowI cb cc 3 1 (nats cs), oI z2 25 [(.int .i64 0), (.int .i64 0), (.slice none 0 0), (.slice none 0 0)], oI z1 25 [(.int .i64 d.vars), (.int .i64 d.start), (.slice nb d.next.length nc), (.slice fb d.final.length fc)]]) (Sub.pick [2, 2, 0, 0, 0, 0, 0, 0] rfl) ?_
  refine T.block ?_
  refine T.rangeFunc (first := []) (caps := [(.pointer (some ⟨bR, 0, none⟩))]) rfl ent99 (fun yl yq yhq => ?_)
  refine CallT.mono (CallT.sub (O' := oI bR 25 [(.int .i64 d.vars), (.int .i64 d.start), (.slice nb d.next.length nc), (.slice fb d.final.length fc)] :: (objI yl (lp yq none) :: [oI z4 25 [(.int .i64 d.vars), .int .i64 ((cs.getD d.start.toNat 0 : Nat) : Int), (.slice none 0 0), (.slice none 0 0)], rowI none 0 37 1 (vals []), rowI none 0 4 1 (bools []), oI z3 37 [(.slice cb d.next.length cc)], rowI cb cc 3 1 (nats cs), oI z2 25 [(.int .i64 0), (.int .i64 0), (.slice none 0 0), (.slice none 0 0)], oI z1 25 [(.int .i64 d.vars), (.int .i64 d.start), (.slice nb d.next.length nc), (.slice fb d.final.length fc)]])) (Sub.pick [1, 0, 0, 0, 0, 0, 0, 0, 0] rfl) (rows1 w d nb fb nc fc vs h hb bR (.func (.yield yl) #[] #[]) (fun k O => ∃ (ob fb9 : Option Addr) (oc fc9 : Nat) (qs : List Rec) (fs : List Bool), O = objI yl (lp yq none) :: ([oI z4 25 [(.int .i64 d.vars), (.int .i64 ((cs.getD d.start.toNat 0 : Nat) : Int)), (.slice ob qs.length oc), (.slice fb9 fs.length fc9)], rowI ob oc 37 1 (vals qs), rowI fb9 fc9 4 1 (bools fs), oI z3 37 [(.slice cb d.next.length cc)], rowI cb cc 3 1 (nats cs), oI z2 25 [(.int .i64 0), (.int .i64 0), (.slice none 0 0), (.slice none 0 0)], oI z1 25 [(.int .i64 d.vars), (.int .i64 d.start), (.slice nb d.next.length nc), (.slice fb d.final.length fc)]] ++ (itms 3 qs)) ∧ k ≤ d.next.length ∧ nums qs = (quoN d cs k).1 ∧ fs = (quoN d cs k).2) (fun _ => False) ?_ _ ?_)) ?_
  · intro k hlt vb vc O g1 s1 hJ
    obtain ⟨ob, fb9, oc, fc9, qs, fs, rfl, hk, hqs, hfs⟩ := hJ
    refine CallV.yield yhq rfl rfl ?_
    have hkc : k < cs.length := by omega
    have hql : qs.length = (quoN d cs k).1.length := by rw [← hqs]; simp
    have hfl : fs.length = (quoN d cs k).1.length := by rw [hfs]; exact (quoN_len d cs k).1.symm
    have hqk := (quoN_len d cs k).2
    have hkf : k < d.final.length := by have := hv.fin; omega
    have hrl : d.next[k].length ≤ 64 := by
      have := hv.len _ (List.getElem_mem hlt); have := hv.width; omega
    have hto : ∀ j (hj : j < d.next[k].length), 0 ≤ d.next[k][j] ∧ d.next[k][j].toNat < cs.length := fun j hj => by have := hv.ok _ (List.getElem_mem hlt) _ (List.getElem_mem hj); omega
    refine T.s (T.rg ?_)
    refine TO.qa rfl ?_
    refine TO.nl (T.rg ?_)
    refine TO.qa rfl ?_
    refine TO.nl (T.block (T.s (T.s ?_)))
    refine T.draws [oI z4 25 [(.int .i64 d.vars), (.int .i64 ((cs.getD d.start.toNat 0 : Nat) : Int)), (.slice ob qs.length oc), (.slice fb9 fs.length fc9)], oI z3 37 [(.slice cb d.next.length cc)], rowI cb cc 3 1 (nats cs)] [(0, 0), (1, 0), (2, 0), (3, 0), (4, 0), (5, 0), (6, 0), (7, 0)] mixed (by kernel_rfl) (Sub.pick0 [0, 2, 2] [oI z4 25 [(.int .i64 d.vars), (.int .i64 ((cs.getD d.start.toNat 0 : Nat) : Int)), (.slice ob qs.length oc), (.slice fb9 fs.length fc9)], rowI ob oc 37 1 (vals qs), rowI fb9 fc9 4 1 (bools fs), oI z3 37 [(.slice cb d.next.length cc)], rowI cb cc 3 1 (nats cs), oI z2 25 [(.int .i64 0), (.int .i64 0), (.slice none 0 0), (.slice none 0 0)], oI z1 25 [(.int .i64 d.vars), (.int .i64 d.start), (.slice nb d.next.length nc), (.slice fb d.final.length fc)]] (itms 3 qs) rfl rfl) (fun _ _ _ h => h) ?_
    refine DO.q rfl (q_lb 1 underlying37 rfl rfl rfl rfl) (DO.q rfl (q_move rfl) (DO.q rfl (q_ix (i := k) underlying37 inf3 rfl rfl (rowO (mG 2 rfl))) (DO.q rfl (q_ld underlying3 rfl rfl (rowO (mG 2 rfl)) nats_get) ?_)))
    refine DO.q rfl (q_fa underlying25 rfl inf22 rfl rfl) (DO.q rfl (q_lb 0 underlying22 rfl rfl rfl rfl) (DO.q rfl (q_len underlying22 rfl) (DO.q rfl (q_lss rfl rfl) ?_)))
    refine DO.done ?_
    refine T.condP rfl (fun hc => ?_) (fun hc => ?_)
    · have hlt40 : cs[k] < qs.length := by omega
      have hqn1 : quoN d cs (k + 1) = quoN d cs k := by rw [quoN, if_pos (by simp [hkc]; omega)]
      refine T.exit ?_
      refine .inl ⟨rfl, ob, fb9, oc, fc9, qs, fs, rfl, by omega, ?_, ?_⟩
      · rw [hqn1]; exact hqs
      · rw [hqn1]; exact hfs
    have hge40 : ¬ cs[k] < qs.length := by omega
    have hqn2 : quoN d cs (k + 1) = ((quoN d cs k).1 ++ [(rowK cs d.next[k]).map fun c : Nat => (c : Int)], (quoN d cs k).2 ++ [d.final[k]]) := by rw [quoN, if_neg (by simp [hkc]; omega)]; simp [hlt, hkf]
    refine T.skip (T.s (T.rg ?_))
    refine TO.qa rfl ?_
    refine TO.nl (T.s (T.s (T.rg ?_)))
    refine TO.qm rfl (TO.q (q_len underlying37 rfl) (TO.qm rfl ?_))
    refine TO.nl (T.block ?_)
    refine T.nilRow 3 1 ?_
    refine T.loop (fun (j : Nat) ρ O => ∃ (kb : Option Addr) (kc : Nat), O = ([rowI kb kc 3 1 (nats ((rowK cs d.next[k]).take j)), oI z4 25 [(.int .i64 d.vars), (.int .i64 ((cs.getD d.start.toNat 0 : Nat) : Int)), (.slice ob qs.length oc), (.slice fb9 fs.length fc9)], rowI ob oc 37 1 (vals qs), rowI fb9 fc9 4 1 (bools fs), oI z3 37 [(.slice cb d.next.length cc)], rowI cb cc 3 1 (nats cs), oI z2 25 [(.int .i64 0), (.int .i64 0), (.slice none 0 0), (.slice none 0 0)], oI z1 25 [(.int .i64 d.vars), (.int .i64 d.start), (.slice nb d.next.length nc), (.slice fb d.final.length fc)]] ++ (itms 3 qs)) ∧ j ≤ d.next[k].length ∧ Heads [(0, (.agg #[(.int .i64 d.vars), (.int .i64 d.start), (.slice nb d.next.length nc), (.slice fb d.final.length fc)])), (1, (.pointer (some ⟨z1, 0, none⟩))), (2, (.pointer (some ⟨z2, 0, none⟩))), (3, .int .i64 0), (4, (.pointer (some ⟨z3, 0, none⟩))), (5, .int .i64 0), (6, (.pointer (some ⟨z4, 0, none⟩))), (7, .int .i64 (k : Int)), (8, (.slice vb d.next[k].length vc)), (9, (.slice kb j kc)), (41, (.slice vb d.next[k].length vc)), (42, .int .i64 (d.next[k].length : Int)), (43, .int .i64 (j : Int))] ρ) (fun j => d.next[k].length - j) 0 ?_ ?_
    · exact ⟨none, 0, rfl, Nat.zero_le _, ⟨rfl, rfl, rfl, rfl, rfl, rfl, rfl, rfl, rfl, rfl, rfl, rfl, rfl, trivial⟩⟩
    rintro j ρ O ⟨kb, kc, rfl, hj, hH⟩
    obtain ⟨ρ0, rfl⟩ := hH.elim
    clear hH
    refine T.s (T.rg ?_)
    refine TO.q (q_lss rfl rfl) ?_
    refine TO.nl (T.s ?_)
    refine T.condP rfl (fun hc => ?_) (fun hc => ?_)
    · have hlt44 : j < d.next[k].length := by omega
      have htj := (hto j hlt44).2
      refine T.skip (T.s (T.block (T.s (T.rg ?_))))
      refine TO.q (q_ix (i := j) underlying37 inf3 rfl rfl (Sl.o s1)) (TO.q (q_ld underlying3 rfl rfl (Sl.o s1) ints_get) (TO.qa rfl ?_))
      refine TO.nl (T.rg ?_)
      refine TO.qm rfl (TO.q (q_lb 4 underlying37 rfl rfl rfl rfl) (TO.qm rfl (TO.q (q_ixz (i := d.next[k][j]) underlying37 inf3 rfl rfl (rowO (mG 5 rfl)) (hto j hlt44).1 (hcl ▸ (hto j hlt44).2) (by rw [List.length_map]; exact (hto j hlt44).2)) ?_)))
      refine TO.q (q_ld underlying3 rfl rfl (rowO (mG 5 rfl)) (nats_get (hto j hlt44).2)) ?_
      refine TO.l rfl (l_build1 (v := .int .i64 ((cs[d.next[k][j].toNat] : Nat) : Int)) underlying37 inf3 rfl rfl rfl (fun z5 => ?_))
      refine TO.l rfl (l_append 1 underlying37 underlying37 inf3 rfl rfl rfl rfl (by rw [List.length_map, List.length_take, rowK_length]; omega) (by decide) (Src.row (j := 0) rfl (by simp)) (by simp [oneB]) (by omega) (by decide) (by decide) (fun z6 zc7 => ?_))
      refine TO.qa rfl ?_
      refine TO.sub (O' := ([rowI z6 zc7 3 1 ((nats ((rowK cs d.next[k]).take j)) ++ [.int .i64 ((cs[d.next[k][j].toNat] : Nat) : Int)]), oI z4 25 [(.int .i64 d.vars), (.int .i64 ((cs.getD d.start.toNat 0 : Nat) : Int)), (.slice ob qs.length oc), (.slice fb9 fs.length fc9)], rowI ob oc 37 1 (vals qs), rowI fb9 fc9 4 1 (bools fs), oI z3 37 [(.slice cb d.next.length cc)], rowI cb cc 3 1 (nats cs), oI z2 25 [(.int .i64 0), (.int .i64 0), (.slice none 0 0), (.slice none 0 0)], oI z1 25 [(.int .i64 d.vars), (.int .i64 d.start), (.slice nb d.next.length nc), (.slice fb d.final.length fc)]] ++ (itms 3 qs))) (Sub.pickR [1, 1, 1, 1, 1, 1, 1, 1] [rowI (some ⟨z5, 0, none⟩) 1 3 1 [.int .i64 ((cs[d.next[k][j].toNat] : Nat) : Int)], rowI z6 zc7 3 1 ((nats ((rowK cs d.next[k]).take j)) ++ [.int .i64 ((cs[d.next[k][j].toNat] : Nat) : Int)]), oI z4 25 [(.int .i64 d.vars), (.int .i64 ((cs.getD d.start.toNat 0 : Nat) : Int)), (.slice ob qs.length oc), (.slice fb9 fs.length fc9)], rowI ob oc 37 1 (vals qs), rowI fb9 fc9 4 1 (bools fs), oI z3 37 [(.slice cb d.next.length cc)], rowI cb cc 3 1 (nats cs), oI z2 25 [(.int .i64 0), (.int .i64 0), (.slice none 0 0), (.slice none 0 0)], oI z1 25 [(.int .i64 d.vars), (.int .i64 d.start), (.slice nb d.next.length nc), (.slice fb d.final.length fc)]] (itms 3 qs) rfl rfl) ?_
      refine TO.nl (T.rg ?_)
      refine TO.q (q_inc rfl rfl (by omega)) (TO.qm rfl ?_)
      refine TO.nl ?_
      have hst : (rowK cs d.next[k]).take (j + 1) = (rowK cs d.next[k]).take j ++ [cs[d.next[k][j].toNat]] := by rw [List.take_succ_eq_append_getElem (by rw [rowK_length]; exact hlt44), rowK_get hlt44 (hto j hlt44).2]
      exact ⟨j + 1, by omega, z6, zc7, by rw [hst, show nats ((rowK cs d.next[k]).take j ++ [cs[d.next[k][j].toNat]]) = nats ((rowK cs d.next[k]).take j) ++ [.int .i64 ((cs[d.next[k][j].toNat] : Nat) : Int)] from List.map_append], by omega, ⟨rfl, rfl, rfl, rfl, rfl, rfl, rfl, rfl, rfl, rfl, rfl, rfl, rfl, trivial⟩⟩
    have hge44 : ¬ j < d.next[k].length := by omega
    refine T.exit ?_
    have hjf : j = d.next[k].length := by omega
    have hR : rowI kb kc 3 1 (nats ((rowK cs d.next[k]).take j)) = Rec.itm 3 ⟨kb, kc, (rowK cs d.next[k]).map fun c : Nat => (c : Int)⟩ := by
      rw [List.take_of_length_le (by rw [rowK_length]; omega)]; simp [Rec.itm, Function.comp_def]
    refine T.cut1 (fun ρ O => ∃ (ob2 : Option Addr) (oc2 : Nat) (fb2 : Option Addr) (fc2 : Nat), O = ([oI z4 25 [(.int .i64 d.vars), (.int .i64 ((cs.getD d.start.toNat 0 : Nat) : Int)), (.slice ob2 (qs.length + 1) oc2), (.slice fb2 (fs.length + 1) fc2)], rowI ob2 oc2 37 1 ((vals qs) ++ [(.slice kb j kc)]), rowI fb2 fc2 4 1 ((bools fs) ++ [(.bool d.final[k])]), oI z3 37 [(.slice cb d.next.length cc)], rowI cb cc 3 1 (nats cs), oI z2 25 [(.int .i64 0), (.int .i64 0), (.slice none 0 0), (.slice none 0 0)], oI z1 25 [(.int .i64 d.vars), (.int .i64 d.start), (.slice nb d.next.length nc), (.slice fb d.final.length fc)]] ++ (itms 3 (qs ++ [⟨kb, kc, (rowK cs d.next[k]).map fun c : Nat => (c : Int)⟩]))) ∧ Heads [(0, (.agg #[(.int .i64 d.vars), (.int .i64 d.start), (.slice nb d.next.length nc), (.slice fb d.final.length fc)])), (1, (.pointer (some ⟨z1, 0, none⟩))), (2, (.pointer (some ⟨z2, 0, none⟩))), (3, .int .i64 0), (4, (.pointer (some ⟨z3, 0, none⟩))), (5, .int .i64 0), (6, (.pointer (some ⟨z4, 0, none⟩))), (7, .int .i64 (k : Int)), (8, (.slice vb d.next[k].length vc)), (9, (.slice kb j kc)), (41, (.slice vb d.next[k].length vc)), (42, .int .i64 (d.next[k].length : Int)), (43, .int .i64 (j : Int))] ρ) ?_ ?_
    · refine T.treeT [oI z4 25 [(.int .i64 d.vars), (.int .i64 ((cs.getD d.start.toNat 0 : Nat) : Int)), (.slice ob qs.length oc), (.slice fb9 fs.length fc9)], oI z1 25 [(.int .i64 d.vars), (.int .i64 d.start), (.slice nb d.next.length nc), (.slice fb d.final.length fc)]] [15, 17] 18 mixed rfl (Sub.pick0 [1, 6] [rowI kb kc 3 1 (nats ((rowK cs d.next[k]).take j)), oI z4 25 [(.int .i64 d.vars), (.int .i64 ((cs.getD d.start.toNat 0 : Nat) : Int)), (.slice ob qs.length oc), (.slice fb9 fs.length fc9)], rowI ob oc 37 1 (vals qs), rowI fb9 fc9 4 1 (bools fs), oI z3 37 [(.slice cb d.next.length cc)], rowI cb cc 3 1 (nats cs), oI z2 25 [(.int .i64 0), (.int .i64 0), (.slice none 0 0), (.slice none 0 0)], oI z1 25 [(.int .i64 d.vars), (.int .i64 d.start), (.slice nb d.next.length nc), (.slice fb d.final.length fc)]] (itms 3 qs) rfl rfl) (fun _ _ _ h => h) ?_
      refine RO.quietTT 0 rfl (by kernel_rfl) (q_fa underlying25 rfl inf22 rfl rfl) ?_
      refine RO.quietTT 1 rfl (by kernel_rfl) (q_lb 0 underlying22 rfl rfl rfl rfl) ?_
      refine RO.quietTT 2 rfl (by kernel_rfl) (q_move rfl) ?_
      refine RO.quietTT 5 rfl (by kernel_rfl) (q_fa underlying25 rfl inf23 rfl rfl) ?_
      refine RO.quietTT 6 rfl (by kernel_rfl) (q_lb 0 underlying23 rfl rfl rfl rfl) ?_
      refine RO.quietTT 7 rfl (by kernel_rfl) (q_fa underlying25 rfl inf23 rfl rfl) ?_
      refine RO.quietTT 8 rfl (by kernel_rfl) (q_lb 1 underlying23 rfl rfl rfl rfl) ?_
      refine RO.quietTT 9 rfl (by kernel_rfl) (q_move rfl) ?_
      refine RO.quietTT 10 rfl (by kernel_rfl) (q_ix (i := k) underlying23 inf4 rfl rfl (Sl.o h.final) hkf (by rw [List.length_map]; exact hkf)) ?_
      refine RO.quietTT 11 rfl (by kernel_rfl) (q_ld underlying4 rfl rfl (Sl.o h.final) (bools_get hkf)) ?_
      refine RO.forkT [3, 12] (by kernel_rfl) rfl ⟨⟨_, rfl, rfl, l_build1 (v := (.slice kb j kc)) underlying22 inf37 rfl rfl rfl (fun zA => ⟨.inr (Sub.pick0 [2, 7] [rowI (some ⟨zA, 0, none⟩) 1 37 1 [(.slice kb j kc)], rowI kb kc 3 1 (nats ((rowK cs d.next[k]).take j)), oI z4 25 [(.int .i64 d.vars), (.int .i64 ((cs.getD d.start.toNat 0 : Nat) : Int)), (.slice ob qs.length oc), (.slice fb9 fs.length fc9)], rowI ob oc 37 1 (vals qs), rowI fb9 fc9 4 1 (bools fs), oI z3 37 [(.slice cb d.next.length cc)], rowI cb cc 3 1 (nats cs), oI z2 25 [(.int .i64 0), (.int .i64 0), (.slice none 0 0), (.slice none 0 0)], oI z1 25 [(.int .i64 d.vars), (.int .i64 d.start), (.slice nb d.next.length nc), (.slice fb d.final.length fc)]] (itms 3 qs) rfl rfl), ?_⟩)⟩, ⟨_, rfl, rfl, l_build1 (v := (.bool d.final[k])) underlying23 inf4 rfl rfl rfl (fun zB => ⟨.inr (Sub.pick0 [2, 7] [rowI (some ⟨zB, 0, none⟩) 1 4 1 [(.bool d.final[k])], rowI kb kc 3 1 (nats ((rowK cs d.next[k]).take j)), oI z4 25 [(.int .i64 d.vars), (.int .i64 ((cs.getD d.start.toNat 0 : Nat) : Int)), (.slice ob qs.length oc), (.slice fb9 fs.length fc9)], rowI ob oc 37 1 (vals qs), rowI fb9 fc9 4 1 (bools fs), oI z3 37 [(.slice cb d.next.length cc)], rowI cb cc 3 1 (nats cs), oI z2 25 [(.int .i64 0), (.int .i64 0), (.slice none 0 0), (.slice none 0 0)], oI z1 25 [(.int .i64 d.vars), (.int .i64 d.start), (.slice nb d.next.length nc), (.slice fb d.final.length fc)]] (itms 3 qs) rfl rfl), ?_⟩)⟩, trivial⟩ (by kernel_rfl)
      · refine RO.forkT [4, 12] (by kernel_rfl) rfl ⟨⟨_, rfl, rfl, l_append 3 underlying22 underlying22 inf37 rfl rfl rfl rfl (by rw [List.length_map]; omega) (by decide) (Src.row (j := 0) rfl (by simp)) (by simp [oneB]) (by omega) (by decide) (by decide) (fun ob2 oc2 => ⟨.inr (Sub.pick0 [2, 7] [rowI (some ⟨zA, 0, none⟩) 1 37 1 [(.slice kb j kc)], rowI kb kc 3 1 (nats ((rowK cs d.next[k]).take j)), oI z4 25 [(.int .i64 d.vars), (.int .i64 ((cs.getD d.start.toNat 0 : Nat) : Int)), (.slice ob qs.length oc), (.slice fb9 fs.length fc9)], rowI ob2 oc2 37 1 ((vals qs) ++ [(.slice kb j kc)]), rowI fb9 fc9 4 1 (bools fs), oI z3 37 [(.slice cb d.next.length cc)], rowI cb cc 3 1 (nats cs), oI z2 25 [(.int .i64 0), (.int .i64 0), (.slice none 0 0), (.slice none 0 0)], oI z1 25 [(.int .i64 d.vars), (.int .i64 d.start), (.slice nb d.next.length nc), (.slice fb d.final.length fc)]] (itms 3 qs) rfl rfl), ?_⟩)⟩, ⟨_, rfl, rfl, l_build1 (v := (.bool d.final[k])) underlying23 inf4 rfl rfl rfl (fun zB => ⟨.inr (Sub.pick0 [3, 8] [rowI (some ⟨zB, 0, none⟩) 1 4 1 [(.bool d.final[k])], rowI (some ⟨zA, 0, none⟩) 1 37 1 [(.slice kb j kc)], rowI kb kc 3 1 (nats ((rowK cs d.next[k]).take j)), oI z4 25 [(.int .i64 d.vars), (.int .i64 ((cs.getD d.start.toNat 0 : Nat) : Int)), (.slice ob qs.length oc), (.slice fb9 fs.length fc9)], rowI ob oc 37 1 (vals qs), rowI fb9 fc9 4 1 (bools fs), oI z3 37 [(.slice cb d.next.length cc)], rowI cb cc 3 1 (nats cs), oI z2 25 [(.int .i64 0), (.int .i64 0), (.slice none 0 0), (.slice none 0 0)], oI z1 25 [(.int .i64 d.vars), (.int .i64 d.start), (.slice nb d.next.length nc), (.slice fb d.final.length fc)]] (itms 3 qs) rfl rfl), ?_⟩)⟩, trivial⟩ (by kernel_rfl)
        · refine RO.quietE 14 rfl (by kernel_rfl) (q_fa underlying25 rfl inf22 rfl rfl) ?_
          refine RO.forkT [12] (by kernel_rfl) rfl ⟨⟨_, rfl, rfl, l_build1 (v := (.bool d.final[k])) underlying23 inf4 rfl rfl rfl (fun zB => ⟨.inr (Sub.pick0 [3, 8] [rowI (some ⟨zB, 0, none⟩) 1 4 1 [(.bool d.final[k])], rowI (some ⟨zA, 0, none⟩) 1 37 1 [(.slice kb j kc)], rowI kb kc 3 1 (nats ((rowK cs d.next[k]).take j)), oI z4 25 [(.int .i64 d.vars), (.int .i64 ((cs.getD d.start.toNat 0 : Nat) : Int)), (.slice ob qs.length oc), (.slice fb9 fs.length fc9)], rowI ob2 oc2 37 1 ((vals qs) ++ [(.slice kb j kc)]), rowI fb9 fc9 4 1 (bools fs), oI z3 37 [(.slice cb d.next.length cc)], rowI cb cc 3 1 (nats cs), oI z2 25 [(.int .i64 0), (.int .i64 0), (.slice none 0 0), (.slice none 0 0)], oI z1 25 [(.int .i64 d.vars), (.int .i64 d.start), (.slice nb d.next.length nc), (.slice fb d.final.length fc)]] (itms 3 qs) rfl rfl), ?_⟩)⟩, trivial⟩ (by kernel_rfl)
          refine RO.forkT [13] (by kernel_rfl) rfl ⟨⟨_, rfl, rfl, l_append 5 underlying23 underlying23 inf4 rfl rfl rfl rfl (by rw [List.length_map]; omega) (by decide) (Src.row (j := 0) rfl (by simp)) (by simp [oneB]) (by omega) (by decide) (by decide) (fun fb2 fc2 => ⟨.inr (Sub.pick0 [3, 8] [rowI (some ⟨zB, 0, none⟩) 1 4 1 [(.bool d.final[k])], rowI (some ⟨zA, 0, none⟩) 1 37 1 [(.slice kb j kc)], rowI kb kc 3 1 (nats ((rowK cs d.next[k]).take j)), oI z4 25 [(.int .i64 d.vars), (.int .i64 ((cs.getD d.start.toNat 0 : Nat) : Int)), (.slice ob qs.length oc), (.slice fb9 fs.length fc9)], rowI ob2 oc2 37 1 ((vals qs) ++ [(.slice kb j kc)]), rowI fb2 fc2 4 1 ((bools fs) ++ [(.bool d.final[k])]), oI z3 37 [(.slice cb d.next.length cc)], rowI cb cc 3 1 (nats cs), oI z2 25 [(.int .i64 0), (.int .i64 0), (.slice none 0 0), (.slice none 0 0)], oI z1 25 [(.int .i64 d.vars), (.int .i64 d.start), (.slice nb d.next.length nc), (.slice fb d.final.length fc)]] (itms 3 qs) rfl rfl), ?_⟩)⟩, trivial⟩ (by kernel_rfl)
          refine RO.forkT [15] (by kernel_rfl) rfl ⟨⟨_, rfl, rfl, l_sb (v := (.slice ob2 (qs.length + 1) oc2)) (vs := [(.slice ob2 (qs.length + 1) oc2)]) 3 inf22 rfl rfl rfl rfl rfl rfl (by simp [putL]) ⟨.inl (by decide), ?_⟩⟩, trivial⟩ (by kernel_rfl)
          refine RO.quietE 16 rfl (by kernel_rfl) (q_fa underlying25 rfl inf23 rfl rfl) ?_
          refine RO.forkT [17] (by kernel_rfl) rfl ⟨⟨_, rfl, rfl, l_sb (v := (.slice fb2 (fs.length + 1) fc2)) (vs := [(.slice fb2 (fs.length + 1) fc2)]) 3 inf23 rfl rfl rfl rfl rfl rfl (by simp [putL]) ⟨.inl (by decide), ?_⟩⟩, trivial⟩ (by kernel_rfl)
          exact RO.fin (by kernel_rfl) ⟨ob2, oc2, fb2, fc2, rfl, ⟨rfl, rfl, rfl, rfl, rfl, rfl, rfl, rfl, rfl, rfl, rfl, rfl, rfl, trivial⟩⟩ (by show Sub _ ([rowI (some ⟨zB, 0, none⟩) 1 4 1 [(.bool d.final[k])], rowI (some ⟨zA, 0, none⟩) 1 37 1 [(.slice kb j kc)], rowI kb kc 3 1 (nats ((rowK cs d.next[k]).take j)), oI z4 25 [(.int .i64 d.vars), (.int .i64 ((cs.getD d.start.toNat 0 : Nat) : Int)), (.slice ob2 (qs.length + 1) oc2), (.slice fb2 (fs.length + 1) fc2)], rowI ob2 oc2 37 1 ((vals qs) ++ [(.slice kb j kc)]), rowI fb2 fc2 4 1 ((bools fs) ++ [(.bool d.final[k])]), oI z3 37 [(.slice cb d.next.length cc)], rowI cb cc 3 1 (nats cs), oI z2 25 [(.int .i64 0), (.int .i64 0), (.slice none 0 0), (.slice none 0 0)], oI z1 25 [(.int .i64 d.vars), (.int .i64 d.start), (.slice nb d.next.length nc), (.slice fb d.final.length fc)]] ++ itms 3 qs); rw [hR]; exact Sub.cnt [rowI (some ⟨zB, 0, none⟩) 1 4 1 [(.bool d.final[k])], rowI (some ⟨zA, 0, none⟩) 1 37 1 [(.slice kb j kc)]] (by intro a; simp only [itms, oI, List.set_cons_zero, List.set_cons_succ, putL, List.cons_append, List.nil_append, List.append_nil, List.append_assoc, List.map_append, List.map_cons, List.map_nil, cnt_append, cnt_cons, cnt_nil] <;> omega))
        refine RO.forkT [4] (by kernel_rfl) rfl ⟨⟨_, rfl, rfl, l_append 4 underlying22 underlying22 inf37 rfl rfl rfl rfl (by rw [List.length_map]; omega) (by decide) (Src.row (j := 1) rfl (by simp)) (by simp [oneB]) (by omega) (by decide) (by decide) (fun ob2 oc2 => ⟨.inr (Sub.pick0 [3, 8] [rowI (some ⟨zB, 0, none⟩) 1 4 1 [(.bool d.final[k])], rowI (some ⟨zA, 0, none⟩) 1 37 1 [(.slice kb j kc)], rowI kb kc 3 1 (nats ((rowK cs d.next[k]).take j)), oI z4 25 [(.int .i64 d.vars), (.int .i64 ((cs.getD d.start.toNat 0 : Nat) : Int)), (.slice ob qs.length oc), (.slice fb9 fs.length fc9)], rowI ob2 oc2 37 1 ((vals qs) ++ [(.slice kb j kc)]), rowI fb9 fc9 4 1 (bools fs), oI z3 37 [(.slice cb d.next.length cc)], rowI cb cc 3 1 (nats cs), oI z2 25 [(.int .i64 0), (.int .i64 0), (.slice none 0 0), (.slice none 0 0)], oI z1 25 [(.int .i64 d.vars), (.int .i64 d.start), (.slice nb d.next.length nc), (.slice fb d.final.length fc)]] (itms 3 qs) rfl rfl), ?_⟩)⟩, trivial⟩ (by kernel_rfl)
        refine RO.quietE 14 rfl (by kernel_rfl) (q_fa underlying25 rfl inf22 rfl rfl) ?_
        refine RO.forkT [13] (by kernel_rfl) rfl ⟨⟨_, rfl, rfl, l_append 5 underlying23 underlying23 inf4 rfl rfl rfl rfl (by rw [List.length_map]; omega) (by decide) (Src.row (j := 0) rfl (by simp)) (by simp [oneB]) (by omega) (by decide) (by decide) (fun fb2 fc2 => ⟨.inr (Sub.pick0 [3, 8] [rowI (some ⟨zB, 0, none⟩) 1 4 1 [(.bool d.final[k])], rowI (some ⟨zA, 0, none⟩) 1 37 1 [(.slice kb j kc)], rowI kb kc 3 1 (nats ((rowK cs d.next[k]).take j)), oI z4 25 [(.int .i64 d.vars), (.int .i64 ((cs.getD d.start.toNat 0 : Nat) : Int)), (.slice ob qs.length oc), (.slice fb9 fs.length fc9)], rowI ob2 oc2 37 1 ((vals qs) ++ [(.slice kb j kc)]), rowI fb2 fc2 4 1 ((bools fs) ++ [(.bool d.final[k])]), oI z3 37 [(.slice cb d.next.length cc)], rowI cb cc 3 1 (nats cs), oI z2 25 [(.int .i64 0), (.int .i64 0), (.slice none 0 0), (.slice none 0 0)], oI z1 25 [(.int .i64 d.vars), (.int .i64 d.start), (.slice nb d.next.length nc), (.slice fb d.final.length fc)]] (itms 3 qs) rfl rfl), ?_⟩)⟩, trivial⟩ (by kernel_rfl)
        refine RO.forkT [15] (by kernel_rfl) rfl ⟨⟨_, rfl, rfl, l_sb (v := (.slice ob2 (qs.length + 1) oc2)) (vs := [(.slice ob2 (qs.length + 1) oc2)]) 3 inf22 rfl rfl rfl rfl rfl rfl (by simp [putL]) ⟨.inl (by decide), ?_⟩⟩, trivial⟩ (by kernel_rfl)
        refine RO.quietE 16 rfl (by kernel_rfl) (q_fa underlying25 rfl inf23 rfl rfl) ?_
        refine RO.forkT [17] (by kernel_rfl) rfl ⟨⟨_, rfl, rfl, l_sb (v := (.slice fb2 (fs.length + 1) fc2)) (vs := [(.slice fb2 (fs.length + 1) fc2)]) 3 inf23 rfl rfl rfl rfl rfl rfl (by simp [putL]) ⟨.inl (by decide), ?_⟩⟩, trivial⟩ (by kernel_rfl)
        exact RO.fin (by kernel_rfl) ⟨ob2, oc2, fb2, fc2, rfl, ⟨rfl, rfl, rfl, rfl, rfl, rfl, rfl, rfl, rfl, rfl, rfl, rfl, rfl, trivial⟩⟩ (by show Sub _ ([rowI (some ⟨zB, 0, none⟩) 1 4 1 [(.bool d.final[k])], rowI (some ⟨zA, 0, none⟩) 1 37 1 [(.slice kb j kc)], rowI kb kc 3 1 (nats ((rowK cs d.next[k]).take j)), oI z4 25 [(.int .i64 d.vars), (.int .i64 ((cs.getD d.start.toNat 0 : Nat) : Int)), (.slice ob2 (qs.length + 1) oc2), (.slice fb2 (fs.length + 1) fc2)], rowI ob2 oc2 37 1 ((vals qs) ++ [(.slice kb j kc)]), rowI fb2 fc2 4 1 ((bools fs) ++ [(.bool d.final[k])]), oI z3 37 [(.slice cb d.next.length cc)], rowI cb cc 3 1 (nats cs), oI z2 25 [(.int .i64 0), (.int .i64 0), (.slice none 0 0), (.slice none 0 0)], oI z1 25 [(.int .i64 d.vars), (.int .i64 d.start), (.slice nb d.next.length nc), (.slice fb d.final.length fc)]] ++ itms 3 qs); rw [hR]; exact Sub.cnt [rowI (some ⟨zB, 0, none⟩) 1 4 1 [(.bool d.final[k])], rowI (some ⟨zA, 0, none⟩) 1 37 1 [(.slice kb j kc)]] (by intro a; simp only [itms, oI, List.set_cons_zero, List.set_cons_succ, putL, List.cons_append, List.nil_append, List.append_nil, List.append_assoc, List.map_append, List.map_cons, List.map_nil, cnt_append, cnt_cons, cnt_nil] <;> omega))
      refine RO.forkT [3] (by kernel_rfl) rfl ⟨⟨_, rfl, rfl, l_build1 (v := (.slice kb j kc)) underlying22 inf37 rfl rfl rfl (fun zA => ⟨.inr (Sub.pick0 [3, 8] [rowI (some ⟨zA, 0, none⟩) 1 37 1 [(.slice kb j kc)], rowI (some ⟨zB, 0, none⟩) 1 4 1 [(.bool d.final[k])], rowI kb kc 3 1 (nats ((rowK cs d.next[k]).take j)), oI z4 25 [(.int .i64 d.vars), (.int .i64 ((cs.getD d.start.toNat 0 : Nat) : Int)), (.slice ob qs.length oc), (.slice fb9 fs.length fc9)], rowI ob oc 37 1 (vals qs), rowI fb9 fc9 4 1 (bools fs), oI z3 37 [(.slice cb d.next.length cc)], rowI cb cc 3 1 (nats cs), oI z2 25 [(.int .i64 0), (.int .i64 0), (.slice none 0 0), (.slice none 0 0)], oI z1 25 [(.int .i64 d.vars), (.int .i64 d.start), (.slice nb d.next.length nc), (.slice fb d.final.length fc)]] (itms 3 qs) rfl rfl), ?_⟩)⟩, trivial⟩ (by kernel_rfl)
      refine RO.forkT [4] (by kernel_rfl) rfl ⟨⟨_, rfl, rfl, l_append 4 underlying22 underlying22 inf37 rfl rfl rfl rfl (by rw [List.length_map]; omega) (by decide) (Src.row (j := 0) rfl (by simp)) (by simp [oneB]) (by omega) (by decide) (by decide) (fun ob2 oc2 => ⟨.inr (Sub.pick0 [3, 8] [rowI (some ⟨zA, 0, none⟩) 1 37 1 [(.slice kb j kc)], rowI (some ⟨zB, 0, none⟩) 1 4 1 [(.bool d.final[k])], rowI kb kc 3 1 (nats ((rowK cs d.next[k]).take j)), oI z4 25 [(.int .i64 d.vars), (.int .i64 ((cs.getD d.start.toNat 0 : Nat) : Int)), (.slice ob qs.length oc), (.slice fb9 fs.length fc9)], rowI ob2 oc2 37 1 ((vals qs) ++ [(.slice kb j kc)]), rowI fb9 fc9 4 1 (bools fs), oI z3 37 [(.slice cb d.next.length cc)], rowI cb cc 3 1 (nats cs), oI z2 25 [(.int .i64 0), (.int .i64 0), (.slice none 0 0), (.slice none 0 0)], oI z1 25 [(.int .i64 d.vars), (.int .i64 d.start), (.slice nb d.next.length nc), (.slice fb d.final.length fc)]] (itms 3 qs) rfl rfl), ?_⟩)⟩, trivial⟩ (by kernel_rfl)
      refine RO.quietE 14 rfl (by kernel_rfl) (q_fa underlying25 rfl inf22 rfl rfl) ?_
      refine RO.forkT [13] (by kernel_rfl) rfl ⟨⟨_, rfl, rfl, l_append 5 underlying23 underlying23 inf4 rfl rfl rfl rfl (by rw [List.length_map]; omega) (by decide) (Src.row (j := 1) rfl (by simp)) (by simp [oneB]) (by omega) (by decide) (by decide) (fun fb2 fc2 => ⟨.inr (Sub.pick0 [3, 8] [rowI (some ⟨zA, 0, none⟩) 1 37 1 [(.slice kb j kc)], rowI (some ⟨zB, 0, none⟩) 1 4 1 [(.bool d.final[k])], rowI kb kc 3 1 (nats ((rowK cs d.next[k]).take j)), oI z4 25 [(.int .i64 d.vars), (.int .i64 ((cs.getD d.start.toNat 0 : Nat) : Int)), (.slice ob qs.length oc), (.slice fb9 fs.length fc9)], rowI ob2 oc2 37 1 ((vals qs) ++ [(.slice kb j kc)]), rowI fb2 fc2 4 1 ((bools fs) ++ [(.bool d.final[k])]), oI z3 37 [(.slice cb d.next.length cc)], rowI cb cc 3 1 (nats cs), oI z2 25 [(.int .i64 0), (.int .i64 0), (.slice none 0 0), (.slice none 0 0)], oI z1 25 [(.int .i64 d.vars), (.int .i64 d.start), (.slice nb d.next.length nc), (.slice fb d.final.length fc)]] (itms 3 qs) rfl rfl), ?_⟩)⟩, trivial⟩ (by kernel_rfl)
      refine RO.forkT [15] (by kernel_rfl) rfl ⟨⟨_, rfl, rfl, l_sb (v := (.slice ob2 (qs.length + 1) oc2)) (vs := [(.slice ob2 (qs.length + 1) oc2)]) 3 inf22 rfl rfl rfl rfl rfl rfl (by simp [putL]) ⟨.inl (by decide), ?_⟩⟩, trivial⟩ (by kernel_rfl)
      refine RO.quietE 16 rfl (by kernel_rfl) (q_fa underlying25 rfl inf23 rfl rfl) ?_
      refine RO.forkT [17] (by kernel_rfl) rfl ⟨⟨_, rfl, rfl, l_sb (v := (.slice fb2 (fs.length + 1) fc2)) (vs := [(.slice fb2 (fs.length + 1) fc2)]) 3 inf23 rfl rfl rfl rfl rfl rfl (by simp [putL]) ⟨.inl (by decide), ?_⟩⟩, trivial⟩ (by kernel_rfl)
      exact RO.fin (by kernel_rfl) ⟨ob2, oc2, fb2, fc2, rfl, ⟨rfl, rfl, rfl, rfl, rfl, rfl, rfl, rfl, rfl, rfl, rfl, rfl, rfl, trivial⟩⟩ (by show Sub _ ([rowI (some ⟨zA, 0, none⟩) 1 37 1 [(.slice kb j kc)], rowI (some ⟨zB, 0, none⟩) 1 4 1 [(.bool d.final[k])], rowI kb kc 3 1 (nats ((rowK cs d.next[k]).take j)), oI z4 25 [(.int .i64 d.vars), (.int .i64 ((cs.getD d.start.toNat 0 : Nat) : Int)), (.slice ob2 (qs.length + 1) oc2), (.slice fb2 (fs.length + 1) fc2)], rowI ob2 oc2 37 1 ((vals qs) ++ [(.slice kb j kc)]), rowI fb2 fc2 4 1 ((bools fs) ++ [(.bool d.final[k])]), oI z3 37 [(.slice cb d.next.length cc)], rowI cb cc 3 1 (nats cs), oI z2 25 [(.int .i64 0), (.int .i64 0), (.slice none 0 0), (.slice none 0 0)], oI z1 25 [(.int .i64 d.vars), (.int .i64 d.start), (.slice nb d.next.length nc), (.slice fb d.final.length fc)]] ++ itms 3 qs); rw [hR]; exact Sub.cnt [rowI (some ⟨zA, 0, none⟩) 1 37 1 [(.slice kb j kc)], rowI (some ⟨zB, 0, none⟩) 1 4 1 [(.bool d.final[k])]] (by intro a; simp only [itms, oI, List.set_cons_zero, List.set_cons_succ, putL, List.cons_append, List.nil_append, List.append_nil, List.append_assoc, List.map_append, List.map_cons, List.map_nil, cnt_append, cnt_cons, cnt_nil] <;> omega))
    rintro ρ O ⟨ob2, oc2, fb2, fc2, rfl, hH⟩
    obtain ⟨ρ0, rfl⟩ := hH.elim
    clear hH
    refine .inl ⟨rfl, ob2, fb2, oc2, fc2, qs ++ [⟨kb, kc, (rowK cs d.next[k]).map fun c : Nat => (c : Int)⟩], fs ++ [d.final[k]], ?_, by omega, ?_, ?_⟩
    · simp [Rec.val, rowK_length, hjf]
    · rw [hqn2, ← hqs]; simp
    · rw [hqn2, hfs]
  · refine ⟨none, none, 0, 0, [], [], ?_, Nat.zero_le _, rfl, rfl⟩
    rfl
  rintro v O' (⟨ob, fb9, oc, fc9, qs, fs, rfl, hk, hqs, hfs⟩ | hF)
  rotate_left
  · exact hF.elim
  refine ⟨none, _, rfl, ?_⟩
  refine T.s ?_
  have hql : qs.length = (quo d cs).next.length := by rw [show qs.length = (nums qs).length by simp, hqs]; rfl
  obtain rfl : fs = (quo d cs).final := hfs
  rw [hql]
  refine T.rg ?_
  refine TO.q (q_la 0 underlying25 rfl inf25 rfl rfl rfl) ?_
  have hk72 := fun (w1 : World) (hI : Inv w ([oI z4 25 [(.int .i64 d.vars), (.int .i64 ((cs.getD d.start.toNat 0 : Nat) : Int)), (.slice ob ((quo d cs).next.length) oc), (.slice fb9 ((quo d cs).final.length) fc9)], rowI ob oc 37 1 (vals qs), rowI fb9 fc9 4 1 (bools (quo d cs).final), oI z3 37 [(.slice cb d.next.length cc)], rowI cb cc 3 1 (nats cs), oI z2 25 [(.int .i64 0), (.int .i64 0), (.slice none 0 0), (.slice none 0 0)], oI z1 25 [(.int .i64 d.vars), (.int .i64 d.start), (.slice nb d.next.length nc), (.slice fb d.final.length fc)]] ++ (itms 3 qs)) w1) => (haveI := tbz hI; renumOk w1 (quo d cs) ob fb9 oc fc9 (vals qs) ⟨hI.slOf (mG 1 rfl), (show nums qs = (quo d cs).next from hqs) ▸ hI.recs (fun q hq => List.mem_append_right _ (List.mem_map_of_mem (f := Rec.itm 3) hq)), hI.slOf (mG 2 rfl)⟩ hqv hqn)
  refine TO.l rfl (l_call ent74 (CallT.op hk72) rfl ?_)
  clear hk72
  rintro v O' ⟨N, rfl, nb', nc', fb', fc', qs', rfl, rfl, hnx⟩
  refine TO.sub (O' := ([rowI nb' nc' 37 1 (vals qs'), rowI fb' fc' 4 1 (bools (renum (quo d cs)).final), oI z4 25 [(.int .i64 d.vars), (.int .i64 ((cs.getD d.start.toNat 0 : Nat) : Int)), (.slice ob ((quo d cs).next.length) oc), (.slice fb9 ((quo d cs).final.length) fc9)], rowI ob oc 37 1 (vals qs), rowI fb9 fc9 4 1 (bools (quo d cs).final), oI z3 37 [(.slice cb d.next.length cc)], rowI cb cc 3 1 (nats cs), oI z2 25 [(.int .i64 0), (.int .i64 0), (.slice none 0 0), (.slice none 0 0)], oI z1 25 [(.int .i64 d.vars), (.int .i64 d.start), (.slice nb d.next.length nc), (.slice fb d.final.length fc)]] ++ ((itms 3 qs') ++ (itms 3 qs)))) (Sub.ca []) ?_
  refine TO.q (q_extract (vs := _) rfl rfl) (TO.q (q_extract (vs := _) rfl rfl) ?_)
  refine TO.l rfl (l_sb (v := (.agg #[(.int .i64 (renum (quo d cs)).vars), (.int .i64 (renum (quo d cs)).start), (.slice nb' ((renum (quo d cs)).next.length) nc'), (.slice fb' ((renum (quo d cs)).final.length) fc')])) (vs := [(.int .i64 (renum (quo d cs)).vars), (.int .i64 (renum (quo d cs)).start), (.slice nb' ((renum (quo d cs)).next.length) nc'), (.slice fb' ((renum (quo d cs)).final.length) fc')]) 7 inf25 rfl rfl rfl rfl rfl rfl (by simp [putL]) ?_)
  refine TO.qa rfl ?_
  refine TO.nl (T.ret (Res.drop ?_))
  refine Res.cell1b (.int .i64 0) (i := 7) Tryz.results34 underlying25 rfl inf25 rfl rfl rfl rfl ?_
  exact ⟨[rowI nb' nc' 37 1 (vals qs'), rowI fb' fc' 4 1 (bools (renum (quo d cs)).final)] ++ itms 3 qs', Sub.cnt ([oI z4 25 [(.int .i64 d.vars), (.int .i64 ((cs.getD d.start.toNat 0 : Nat) : Int)), (.slice ob ((quo d cs).next.length) oc), (.slice fb9 ((quo d cs).final.length) fc9)], rowI ob oc 37 1 (vals qs), rowI fb9 fc9 4 1 (bools (quo d cs).final), oI z3 37 [(.slice cb d.next.length cc)], rowI cb cc 3 1 (nats cs), oI z2 25 [(.int .i64 (renum (quo d cs)).vars), (.int .i64 (renum (quo d cs)).start), (.slice nb' ((renum (quo d cs)).next.length) nc'), (.slice fb' ((renum (quo d cs)).final.length) fc')], oI z1 25 [(.int .i64 d.vars), (.int .i64 d.start), (.slice nb d.next.length nc), (.slice fb d.final.length fc)]] ++ itms 3 qs) (by intro a; simp only [itms, oI, List.set_cons_zero, List.set_cons_succ, putL, List.cons_append, List.nil_append, List.append_nil, List.append_assoc, List.map_append, List.map_cons, List.map_nil, cnt_append, cnt_cons, cnt_nil] <;> omega), nb', nc', fb', fc', qs', rfl, rfl, hnx⟩
end Go.Proofs.YtohkmggbfcnapaaGreatDoor


namespace Go.Proofs.YtohkmggbfcnapaaGreatDoor
open Go.Lx Go.RowKit _root_.Go.Proofs.Tryz
end Go.Proofs.YtohkmggbfcnapaaGreatDoor


namespace Go.Proofs.YtohkmggbfcnapaaGreatDoor
open Go.Lx Go.RowKit _root_.Go.Proofs.Tryz
end Go.Proofs.YtohkmggbfcnapaaGreatDoor


namespace Go.Proofs.YtohkmggbfcnapaaGreatDoor
open Go.Lx Go.RowKit _root_.Go.Proofs.Tryz
end Go.Proofs.YtohkmggbfcnapaaGreatDoor


namespace Go.Proofs.YtohkmggbfcnapaaGreatDoor
open Go.Lx Go.RowKit _root_.Go.Proofs.Tryz
end Go.Proofs.YtohkmggbfcnapaaGreatDoor


namespace Go.Proofs.YtohkmggbfcnapaaGreatDoor
open Go.Lx Go.RowKit _root_.Go.Proofs.Tryz
end Go.Proofs.YtohkmggbfcnapaaGreatDoor


namespace Go.Proofs.YtohkmggbfcnapaaGreatDoor
open Go.Lx Go.RowKit _root_.Go.Proofs.Tryz
theorem minA (w : World) [Tab Tryz.prog w] (d : DFA) (nb fb : Option Addr) (nc fc : Nat) (vs : List Value) (h : DfaAt w d nb vs fb) (hb : d.next.length < 9223372036854775807) (hbr : ∀ r ∈ d.next, r.length < 9223372036854775807) (hbf : d.final.length < 9223372036854775807) (hn : Valid d → d.next.length < 10000) :
    PureT Tryz.prog 34 [.agg (dfaCells d nb nc fb fc).toArray] w fun v N => ∃ nb' nc' fb' fc' qs, v = .tuple #[.agg (dfaCells (minV d) nb' nc' fb' fc').toArray, .int .i64 (checkD d : Int)] ∧ N = [rowI nb' nc' 37 1 (vals qs), rowI fb' fc' 4 1 (bools (minV d).final)] ++ itms 3 qs ∧ nums qs = (minV d).next := by
  unfold minV
  by_cases he : checkD d = 0
  · have hv := checkD_zero.1 he
    obtain ⟨q1, q2⟩ := quo_itF hv d.next.length
    rw [he, if_pos rfl]
    exact minOk w d nb fb nc fc vs h hv (hn hv) q1 (by have := hn hv; omega)
  · rw [if_neg he]
    refine (CallT.addNil 37 1 (CallT.addNil 4 1 (minBad w d nb fb nc fc vs h hb hbr hbf he))).mono ?_
    rintro v N ⟨O2, rfl, O3, rfl, rfl, rfl⟩
    exact ⟨none, 0, none, 0, [], rfl, rfl, rfl⟩
end Go.Proofs.YtohkmggbfcnapaaGreatDoor


namespace Go.Proofs.YtohkmggbfcnapaaGreatDoor
open Go.Lx Go.RowKit _root_.Go.Proofs.Tryz
theorem pairT : Pair2 Tryz.prog 119 { name := "s", type := 3, offset := 0, embedded := false, tag := "", pkgPath := "sentinel/boolean", byteOffset := 0 } { name := "t", type := 3, offset := 1, embedded := false, tag := "", pkgPath := "sentinel/boolean", byteOffset := 8 } := ⟨underlying119, underlying3, underlying3, rfl, rfl, by decide, by decide, by kernel_rfl⟩
theorem beginBad (w : World) [Tab Tryz.prog w] (a b : DFA) (j k : DK) (ha : At w a j) (hb : At w b k) (haa : a.next.length < 9223372036854775807) (haar : ∀ r ∈ a.next, r.length < 9223372036854775807) (haaf : a.final.length < 9223372036854775807) (hbb : b.next.length < 9223372036854775807) (hbbr : ∀ r ∈ b.next, r.length < 9223372036854775807) (hbbf : b.final.length < 9223372036854775807) (he : wrongD a b ≠ 0) :
    PureT Tryz.prog 93 [dV a j, dV b k] w fun v N => v = .tuple #[.pointer none, .int .i64 (wrongD a b : Int)] ∧ N = [] := by
  refine CallT.enter func93 rfl ntmps93 rfl ?_
  refine T.s (T.rg ?_)
  refine TO.l rfl (l_box (v := (dV a j)) (cs := (dC a j)) rfl rfl (fun bx1 => ?_))
  refine TO.l rfl (l_box (v := (dV b k)) (cs := (dC b k)) rfl rfl (fun bx2 => ?_))
  refine TO.qa rfl (TO.qa rfl ?_)
  refine TO.nl (T.s (T.s (T.rg ?_)))
  refine TO.q (q_la 1 underlying25 rfl inf25 rfl rfl rfl) ?_
  have hk10 := fun (w1 : World) (hI : Inv w [oI bx2 25 (dC b k), oI bx1 25 (dC a j)] w1) => (haveI := tbz hI; subsetCheck w1 a j.nb j.fb j.nc j.fc (vals j.qs) (hI.dfa ha) haa haar haaf)
  refine TO.l rfl (l_call ent35 (CallT.op hk10) rfl ?_)
  clear hk10
  rintro vr O' ⟨N, rfl, rfl, rfl⟩
  refine TO.qa rfl ?_
  refine TO.nl (T.s (T.rg ?_))
  refine TO.qm rfl (TO.q (q_neq rfl rfl) ?_)
  refine TO.nl ?_
  refine T.condP rfl (fun hc => ?_) (fun hc => ?_)
  · have hlt12 : checkD a ≠ 0 := by omega
    refine T.s (T.rg ?_)
    refine TO.qm rfl (TO.qa rfl (TO.qa rfl ?_))
    refine TO.nl (T.ret (Res.drop ?_))
    refine Res.two (.pointer none) (.int .i64 (checkD a : Int)) Tryz.results93 rfl rfl ?_
    exact ⟨[], Sub.z, by rw [wrong_first (by omega)], rfl⟩
  have hge12 : ¬ checkD a ≠ 0 := by omega
  refine T.skip (T.s (T.s (T.rg ?_)))
  refine TO.q (q_la 0 underlying25 rfl inf25 rfl rfl rfl) ?_
  have hk15 := fun (w1 : World) (hI : Inv w [oI bx2 25 (dC b k), oI bx1 25 (dC a j)] w1) => (haveI := tbz hI; subsetCheck w1 b k.nb k.fb k.nc k.fc (vals k.qs) (hI.dfa hb) hbb hbbr hbbf)
  refine TO.l rfl (l_call ent35 (CallT.op hk15) rfl ?_)
  clear hk15
  rintro vr O' ⟨N, rfl, rfl, rfl⟩
  refine TO.qa rfl ?_
  refine TO.nl (T.s (T.rg ?_))
  refine TO.qm rfl (TO.q (q_neq rfl rfl) ?_)
  refine TO.nl ?_
  refine T.condP rfl (fun hc => ?_) (fun hc => ?_)
  · have hlt17 : checkD b ≠ 0 := by omega
    refine T.s (T.rg ?_)
    refine TO.qm rfl (TO.qa rfl (TO.qa rfl ?_))
    refine TO.nl (T.ret (Res.drop ?_))
    refine Res.two (.pointer none) (.int .i64 (checkD b : Int)) Tryz.results93 rfl rfl ?_
    exact ⟨[], Sub.z, by rw [wrong_second (by omega) (by omega)], rfl⟩
  have hge17 : ¬ checkD b ≠ 0 := by omega
  refine T.skip (T.s (T.s (T.rg ?_)))
  refine TO.q (q_fa underlying25 rfl inf3 rfl rfl) (TO.q (q_lb 1 underlying3 rfl rfl rfl rfl) (TO.q (q_fa underlying25 rfl inf3 rfl rfl) (TO.q (q_lb 0 underlying3 rfl rfl rfl rfl) ?_)))
  refine TO.q (q_neq rfl rfl) ?_
  refine TO.nl ?_
  refine T.condP (p := ¬ a.vars = b.vars) (congrArg Value.bool (decide_eq_decide.2 (by omega))) (fun hc => ?_) (fun hc => ?_)
  · refine T.s ?_
    refine T.rg ?_
    refine TO.qa rfl (TO.qa rfl ?_)
    refine TO.nl (T.ret (Res.drop ?_))
    refine Res.two (.pointer none) (.int .i64 7) Tryz.results93 rfl rfl ?_
    exact ⟨[], Sub.z, by rw [wrong_vars (by omega) (by omega) hc]; rfl, rfl⟩
  refine absurd (wrongD_zero.2 ⟨checkD_zero.1 (by omega), checkD_zero.1 (by omega), Classical.not_not.1 hc⟩) he
theorem beginOk (w : World) [Tab Tryz.prog w] (a b : DFA) (j k : DK) (ha : At w a j) (hb : At w b k) (va : Valid a) (vb : Valid b) (hv : a.vars = b.vars) :
    PureT Tryz.prog 93 [dV a j, dV b k] w fun v N => ∃ (bp qb m : Nat), v = .tuple #[.pointer (some ⟨bp, 0, none⟩), .int .i64 0] ∧ N = [oI bp 123 [(.int .i64 a.vars), (.int .i64 a.start), (.slice j.nb a.next.length j.nc), (.slice j.fb a.final.length j.fc), (.int .i64 b.vars), (.int .i64 b.start), (.slice k.nb b.next.length k.nc), (.slice k.fb b.final.length k.fc), (.slice (some ⟨qb, 0, none⟩) ([a.start.toNat * b.next.length + b.start.toNat].length) 1), (.map (some m))], rowI (some ⟨qb, 0, none⟩) 1 119 2 (prs b.next.length [a.start.toNat * b.next.length + b.start.toNat]), mapI pairV (fun n : Nat => Value.int .i64 (n : Int)) m (pmap b.next.length [a.start.toNat * b.next.length + b.start.toNat])] := by
  refine CallT.enter func93 rfl ntmps93 rfl ?_
  have wa : checkD a = 0 := checkD_zero.2 va
  have wb : checkD b = 0 := checkD_zero.2 vb
  have hs1 : a.start = ((a.start.toNat : Nat) : Int) := by have := va.s0; omega
  have hs2 : b.start = ((b.start.toNat : Nat) : Int) := by have := vb.s0; omega
  have hpd := pr_div (s := a.start.toNat) (start_lt vb.toVal)
  refine T.s (T.rg ?_)
  refine TO.l rfl (l_box (v := (dV a j)) (cs := (dC a j)) rfl rfl (fun bx1 => ?_))
  refine TO.l rfl (l_box (v := (dV b k)) (cs := (dC b k)) rfl rfl (fun bx2 => ?_))
  refine TO.qa rfl (TO.qa rfl ?_)
  refine TO.nl (T.s (T.s (T.rg ?_)))
  refine TO.q (q_la 1 underlying25 rfl inf25 rfl rfl rfl) ?_
  have hk10 := fun (w1 : World) (hI : Inv w [oI bx2 25 (dC b k), oI bx1 25 (dC a j)] w1) => (haveI := tbz hI; subsetCheck w1 a j.nb j.fb j.nc j.fc (vals j.qs) (hI.dfa ha) (by have := va.n4; omega) va.bound (by have := va.fin; have := va.n4; omega))
  refine TO.l rfl (l_call ent35 (CallT.op hk10) rfl ?_)
  clear hk10
  rintro vr O' ⟨N, rfl, rfl, rfl⟩
  rw [wa]
  refine TO.qa rfl ?_
  refine TO.nl (T.s (T.rg ?_))
  refine TO.qm rfl (TO.q (q_neq rfl rfl) ?_)
  refine TO.nl ?_
  refine T.cond0 rfl ?_
  refine T.skip (T.s (T.s (T.rg ?_)))
  refine TO.q (q_la 0 underlying25 rfl inf25 rfl rfl rfl) ?_
  have hk15 := fun (w1 : World) (hI : Inv w [oI bx2 25 (dC b k), oI bx1 25 (dC a j)] w1) => (haveI := tbz hI; subsetCheck w1 b k.nb k.fb k.nc k.fc (vals k.qs) (hI.dfa hb) (by have := vb.n4; omega) vb.bound (by have := vb.fin; have := vb.n4; omega))
  refine TO.l rfl (l_call ent35 (CallT.op hk15) rfl ?_)
  clear hk15
  rintro vr O' ⟨N, rfl, rfl, rfl⟩
  rw [wb]
  refine TO.qa rfl ?_
  refine TO.nl (T.s (T.rg ?_))
  refine TO.qm rfl (TO.q (q_neq rfl rfl) ?_)
  refine TO.nl ?_
  refine T.cond0 rfl ?_
  refine T.skip (T.s (T.s (T.rg ?_)))
  refine TO.q (q_fa underlying25 rfl inf3 rfl rfl) (TO.q (q_lb 1 underlying3 rfl rfl rfl rfl) (TO.q (q_fa underlying25 rfl inf3 rfl rfl) (TO.q (q_lb 0 underlying3 rfl rfl rfl rfl) ?_)))
  refine TO.q (q_neq rfl rfl) ?_
  refine TO.nl ?_
  refine T.cond0 (congrArg Value.bool (decide_eq_false (fun h => h hv))) ?_
  refine T.skip (T.s (T.rg ?_))
  refine TO.q (q_fa underlying25 rfl inf3 rfl rfl) (TO.q (q_lb 1 underlying3 rfl rfl rfl rfl) (TO.q (q_fa underlying25 rfl inf3 rfl rfl) (TO.q (q_lb 0 underlying3 rfl rfl rfl rfl) ?_)))
  refine TO.q (q_build (cs := [(.int .i64 a.start), (.int .i64 b.start)]) plan119 inf119 (by kernel_rfl)) ?_
  refine TO.l rfl (l_alloc inf119 rfl (fun bx3 => ?_))
  refine TO.l rfl (l_sb (v := (.agg #[(.int .i64 a.start), (.int .i64 b.start)])) (vs := [(.int .i64 a.start), (.int .i64 b.start)]) 0 inf119 rfl rfl rfl rfl rfl rfl (by simp [putL]) ?_)
  refine TO.nl ?_
  refine T.cut (fun ρ O => ∃ (bp qb m : Nat), O = [oI bp 123 [(.int .i64 a.vars), (.int .i64 a.start), (.slice j.nb a.next.length j.nc), (.slice j.fb a.final.length j.fc), (.int .i64 b.vars), (.int .i64 b.start), (.slice k.nb b.next.length k.nc), (.slice k.fb b.final.length k.fc), (.slice (some ⟨qb, 0, none⟩) 1 1), (.map (some m))], rowI (some ⟨qb, 0, none⟩) 1 119 2 [(.int .i64 a.start), (.int .i64 b.start)], mapI pairV (fun n : Nat => Value.int .i64 (n : Int)) m [((a.start, b.start), (0 : Nat))]] ∧ Heads [(0, (dV a j)), (1, (dV b k)), (2, (.pointer (some ⟨bx1, 0, none⟩))), (3, (.pointer (some ⟨bx2, 0, none⟩))), (4, (.pointer (some ⟨bp, 0, none⟩))), (5, .int .i64 0), (6, .int .i64 ((0 : Nat) : Int)), (7, .int .i64 ((0 : Nat) : Int)), (8, (.pointer (some ⟨bx3, 0, none⟩)))] ρ) ?_ ?_
  · refine T.tree [oI bx3 119 [(.int .i64 a.start), (.int .i64 b.start)], oI bx2 25 (dC b k), oI bx1 25 (dC a j)] 12 mixed rfl (by exact Sub.rf) (fun _ _ _ h => h) ?_
    refine RO.quietT 0 rfl (by kernel_rfl) (q_la 2 underlying25 rfl inf25 rfl rfl rfl) ?_
    refine RO.quietT 1 rfl (by kernel_rfl) (q_la 1 underlying25 rfl inf25 rfl rfl rfl) ?_
    refine RO.quietT 2 rfl (by kernel_rfl) (q_la 0 underlying119 rfl inf119 rfl rfl rfl) ?_
    refine RO.quietT 5 rfl (by kernel_rfl) (q_la 0 underlying119 rfl inf119 rfl rfl rfl) ?_
    refine RO.fork [3, 4] (by kernel_rfl) rfl ⟨⟨_, rfl, rfl, l_buildSlice (m := 1) (parts := [(0, _)]) (cs := [(.int .i64 a.start), (.int .i64 b.start)]) underlying120 inf119 (by decide) (by kernel_rfl) rfl (fun qb => ⟨by exact Sub.d (.k (.k (.k .z))), ?_⟩)⟩, ⟨_, rfl, rfl, l_makeMap pairV (fun n : Nat => Value.int .i64 (n : Int)) (fun m => ⟨by exact Sub.d (.k (.k (.k .z))), ?_⟩)⟩, trivial⟩
    · refine RO.fork [4] (by kernel_rfl) rfl ⟨⟨_, rfl, rfl, l_makeMap pairV (fun n : Nat => Value.int .i64 (n : Int)) (fun m => ⟨by exact Sub.d (.d (.k (.k (.k .z)))), ?_⟩)⟩, trivial⟩
      refine RO.fork [6] (by kernel_rfl) rfl ⟨⟨_, rfl, rfl, l_mapInsert (a := (a.start, b.start)) (v := (0 : Nat)) 0 underlying121 (KeyOk.pair pairT) rfl rfl rfl rfl (by simp) ⟨by exact Sub.d (.d (.k (.k (.k .z)))), ?_⟩⟩, trivial⟩
      refine RO.quietT 7 rfl (by kernel_rfl) (q_move rfl) ?_
      refine RO.quietT 8 rfl (by kernel_rfl) (q_build (cs := [(.int .i64 a.vars), (.int .i64 a.start), (.slice j.nb a.next.length j.nc), (.slice j.fb a.final.length j.fc), (.int .i64 b.vars), (.int .i64 b.start), (.slice k.nb b.next.length k.nc), (.slice k.fb b.final.length k.fc), (.slice (some ⟨qb, 0, none⟩) 1 1), (.map (some m))]) plan123 inf123 (by kernel_rfl)) ?_
      refine RO.fork [9] (by kernel_rfl) rfl ⟨⟨_, rfl, rfl, l_box (v := (.agg #[(.int .i64 a.vars), (.int .i64 a.start), (.slice j.nb a.next.length j.nc), (.slice j.fb a.final.length j.fc), (.int .i64 b.vars), (.int .i64 b.start), (.slice k.nb b.next.length k.nc), (.slice k.fb b.final.length k.fc), (.slice (some ⟨qb, 0, none⟩) 1 1), (.map (some m))])) (cs := [(.int .i64 a.vars), (.int .i64 a.start), (.slice j.nb a.next.length j.nc), (.slice j.fb a.final.length j.fc), (.int .i64 b.vars), (.int .i64 b.start), (.slice k.nb b.next.length k.nc), (.slice k.fb b.final.length k.fc), (.slice (some ⟨qb, 0, none⟩) 1 1), (.map (some m))]) rfl rfl (fun bp => ⟨by exact Sub.d (.d (.d (.k (.k (.k .z))))), ?_⟩)⟩, trivial⟩
      refine RO.quietT 10 rfl (by kernel_rfl) (q_assign rfl) ?_
      refine RO.quietT 11 rfl (by kernel_rfl) (q_assign rfl) ?_
      exact RO.fin (by kernel_rfl) ⟨bp, qb, m, rfl, ⟨rfl, rfl, rfl, rfl, rfl, rfl, rfl, rfl, rfl, trivial⟩⟩ (by exact Sub.k (.pull [mapI pairV (fun n : Nat => Value.int .i64 (n : Int)) m [((a.start, b.start), (0 : Nat))]] _ (.k .z)))
    refine RO.fork [3, 6] (by kernel_rfl) rfl ⟨⟨_, rfl, rfl, l_buildSlice (m := 1) (parts := [(0, _)]) (cs := [(.int .i64 a.start), (.int .i64 b.start)]) underlying120 inf119 (by decide) (by kernel_rfl) rfl (fun qb => ⟨by exact Sub.d (.d (.k (.k (.k .z)))), ?_⟩)⟩, ⟨_, rfl, rfl, l_mapInsert (a := (a.start, b.start)) (v := (0 : Nat)) 0 underlying121 (KeyOk.pair pairT) rfl rfl rfl rfl (by simp) ⟨by exact Sub.d (.k (.k (.k .z))), ?_⟩⟩, trivial⟩
    · refine RO.fork [6] (by kernel_rfl) rfl ⟨⟨_, rfl, rfl, l_mapInsert (a := (a.start, b.start)) (v := (0 : Nat)) 1 underlying121 (KeyOk.pair pairT) rfl rfl rfl rfl (by simp) ⟨by exact Sub.d (.d (.k (.k (.k .z)))), ?_⟩⟩, trivial⟩
      refine RO.quietT 7 rfl (by kernel_rfl) (q_move rfl) ?_
      refine RO.quietT 8 rfl (by kernel_rfl) (q_build (cs := [(.int .i64 a.vars), (.int .i64 a.start), (.slice j.nb a.next.length j.nc), (.slice j.fb a.final.length j.fc), (.int .i64 b.vars), (.int .i64 b.start), (.slice k.nb b.next.length k.nc), (.slice k.fb b.final.length k.fc), (.slice (some ⟨qb, 0, none⟩) 1 1), (.map (some m))]) plan123 inf123 (by kernel_rfl)) ?_
      refine RO.fork [9] (by kernel_rfl) rfl ⟨⟨_, rfl, rfl, l_box (v := (.agg #[(.int .i64 a.vars), (.int .i64 a.start), (.slice j.nb a.next.length j.nc), (.slice j.fb a.final.length j.fc), (.int .i64 b.vars), (.int .i64 b.start), (.slice k.nb b.next.length k.nc), (.slice k.fb b.final.length k.fc), (.slice (some ⟨qb, 0, none⟩) 1 1), (.map (some m))])) (cs := [(.int .i64 a.vars), (.int .i64 a.start), (.slice j.nb a.next.length j.nc), (.slice j.fb a.final.length j.fc), (.int .i64 b.vars), (.int .i64 b.start), (.slice k.nb b.next.length k.nc), (.slice k.fb b.final.length k.fc), (.slice (some ⟨qb, 0, none⟩) 1 1), (.map (some m))]) rfl rfl (fun bp => ⟨by exact Sub.d (.d (.d (.k (.k (.k .z))))), ?_⟩)⟩, trivial⟩
      refine RO.quietT 10 rfl (by kernel_rfl) (q_assign rfl) ?_
      refine RO.quietT 11 rfl (by kernel_rfl) (q_assign rfl) ?_
      exact RO.fin (by kernel_rfl) ⟨bp, qb, m, rfl, ⟨rfl, rfl, rfl, rfl, rfl, rfl, rfl, rfl, rfl, trivial⟩⟩ (by exact Sub.k (.k (.k .z)))
    refine RO.quietT 7 rfl (by kernel_rfl) (q_move rfl) ?_
    refine RO.fork [3] (by kernel_rfl) rfl ⟨⟨_, rfl, rfl, l_buildSlice (m := 1) (parts := [(0, _)]) (cs := [(.int .i64 a.start), (.int .i64 b.start)]) underlying120 inf119 (by decide) (by kernel_rfl) rfl (fun qb => ⟨by exact Sub.d (.d (.k (.k (.k .z)))), ?_⟩)⟩, trivial⟩
    refine RO.quietT 8 rfl (by kernel_rfl) (q_build (cs := [(.int .i64 a.vars), (.int .i64 a.start), (.slice j.nb a.next.length j.nc), (.slice j.fb a.final.length j.fc), (.int .i64 b.vars), (.int .i64 b.start), (.slice k.nb b.next.length k.nc), (.slice k.fb b.final.length k.fc), (.slice (some ⟨qb, 0, none⟩) 1 1), (.map (some m))]) plan123 inf123 (by kernel_rfl)) ?_
    refine RO.fork [9] (by kernel_rfl) rfl ⟨⟨_, rfl, rfl, l_box (v := (.agg #[(.int .i64 a.vars), (.int .i64 a.start), (.slice j.nb a.next.length j.nc), (.slice j.fb a.final.length j.fc), (.int .i64 b.vars), (.int .i64 b.start), (.slice k.nb b.next.length k.nc), (.slice k.fb b.final.length k.fc), (.slice (some ⟨qb, 0, none⟩) 1 1), (.map (some m))])) (cs := [(.int .i64 a.vars), (.int .i64 a.start), (.slice j.nb a.next.length j.nc), (.slice j.fb a.final.length j.fc), (.int .i64 b.vars), (.int .i64 b.start), (.slice k.nb b.next.length k.nc), (.slice k.fb b.final.length k.fc), (.slice (some ⟨qb, 0, none⟩) 1 1), (.map (some m))]) rfl rfl (fun bp => ⟨by exact Sub.d (.d (.d (.k (.k (.k .z))))), ?_⟩)⟩, trivial⟩
    refine RO.quietT 10 rfl (by kernel_rfl) (q_assign rfl) ?_
    refine RO.quietT 11 rfl (by kernel_rfl) (q_assign rfl) ?_
    exact RO.fin (by kernel_rfl) ⟨bp, qb, m, rfl, ⟨rfl, rfl, rfl, rfl, rfl, rfl, rfl, rfl, rfl, trivial⟩⟩ (by exact Sub.k (.k (.k .z)))
  rintro ρ O ⟨bp, qb, m, rfl, hH⟩
  obtain ⟨ρ0, rfl⟩ := hH.elim
  clear hH
  refine T.ret (Res.drop ?_)
  refine Res.two (.pointer (some ⟨bp, 0, none⟩)) (.int .i64 0) Tryz.results93 rfl rfl ?_
  have e1 : prs b.next.length [a.start.toNat * b.next.length + b.start.toNat] = [.int .i64 a.start, .int .i64 b.start] := by
    simp only [prs, List.flatMap_cons, List.flatMap_nil, List.append_nil, unC, hpd.1, hpd.2, ← hs1, ← hs2]
  have e2 : pmap b.next.length [a.start.toNat * b.next.length + b.start.toNat] = [((a.start, b.start), 0)] := by
    show [(un _ _, 0)] = _
    simp only [un, hpd.1, hpd.2, ← hs1, ← hs2]
  exact ⟨[oI bp 123 [(.int .i64 a.vars), (.int .i64 a.start), (.slice j.nb a.next.length j.nc), (.slice j.fb a.final.length j.fc), (.int .i64 b.vars), (.int .i64 b.start), (.slice k.nb b.next.length k.nc), (.slice k.fb b.final.length k.fc), (.slice (some ⟨qb, 0, none⟩) 1 1), (.map (some m))], rowI (some ⟨qb, 0, none⟩) 1 119 2 [(.int .i64 a.start), (.int .i64 b.start)], mapI pairV (fun n : Nat => Value.int .i64 (n : Int)) m [((a.start, b.start), (0 : Nat))]], (by exact Sub.rf), bp, qb, m, rfl, by rw [e1, e2]; rfl⟩
theorem pairsF (w : World) [Tab Tryz.prog w] (bp : Nat) : PureT Tryz.prog 94 [.pointer (some ⟨bp, 0, none⟩)] w fun v N => ∃ b, v = .func (.func 116) #[] #[.pointer (some ⟨b, 0, none⟩)] ∧ N = [oI b 112 [(.pointer (some ⟨bp, 0, none⟩))]] := by
  refine CallT.enter func94 rfl ntmps94 rfl ?_
  refine T.s (T.rg ?_)
  refine TO.l rfl (l_box (v := (.pointer (some ⟨bp, 0, none⟩))) (cs := [(.pointer (some ⟨bp, 0, none⟩))]) rfl rfl (fun bx1 => ?_))
  refine TO.qa rfl ?_
  refine TO.nl (T.s (T.rg ?_))
  refine TO.q (q_makeFunc) (TO.qa rfl ?_)
  refine TO.nl (T.ret ?_)
  refine Res.one (.func (.func 116) #[] #[(.pointer (some ⟨bx1, 0, none⟩))]) Tryz.results94 rfl ?_
  exact ⟨bx1, rfl, rfl⟩
theorem pvHit (base : World) [Tab Tryz.prog base] (a b : DFA) (j k : DK) (bp m : Nat) (ks : List Nat) (c : Nat) (qb : Option Addr) (qc : Nat) (hk : c ∈ ks) (hl : ks.length ≤ 17000000) :
    CallT Tryz.prog base 117 [.pointer (some ⟨bp, 0, none⟩), (.agg #[.int .i64 ((c / b.next.length : Nat) : Int), .int .i64 ((c % b.next.length : Nat) : Int)])] [oI bp 123 [(.int .i64 a.vars), (.int .i64 a.start), (.slice j.nb a.next.length j.nc), (.slice j.fb a.final.length j.fc), (.int .i64 b.vars), (.int .i64 b.start), (.slice k.nb b.next.length k.nc), (.slice k.fb b.final.length k.fc), (.slice qb ks.length qc), (.map (some m))], rowI qb qc 119 2 (prs b.next.length ks), mapI pairV (fun n : Nat => Value.int .i64 (n : Int)) m (pmap b.next.length ks)] (fun v O' => v = .int .i64 ((ix c (add ks c) : Nat) : Int) ∧ ∃ qb' qc', O' = [oI bp 123 [(.int .i64 a.vars), (.int .i64 a.start), (.slice j.nb a.next.length j.nc), (.slice j.fb a.final.length j.fc), (.int .i64 b.vars), (.int .i64 b.start), (.slice k.nb b.next.length k.nc), (.slice k.fb b.final.length k.fc), (.slice qb' ((add ks c).length) qc'), (.map (some m))], rowI qb' qc' 119 2 (prs b.next.length (add ks c)), mapI pairV (fun n : Nat => Value.int .i64 (n : Int)) m (pmap b.next.length (add ks c))]) := by
  refine CallT.enter func117 rfl ntmps117 rfl ?_
  refine T.s (T.rg ?_)
  refine TO.l rfl (l_box (v := (.agg #[.int .i64 ((c / b.next.length : Nat) : Int), .int .i64 ((c % b.next.length : Nat) : Int)])) (cs := [.int .i64 ((c / b.next.length : Nat) : Int), .int .i64 ((c % b.next.length : Nat) : Int)]) rfl rfl (fun bx1 => ?_))
  refine TO.qa rfl ?_
  refine TO.nl (T.s ?_)
  refine T.draws [oI bx1 119 [.int .i64 ((c / b.next.length : Nat) : Int), .int .i64 ((c % b.next.length : Nat) : Int)], oI bp 123 [(.int .i64 a.vars), (.int .i64 a.start), (.slice j.nb a.next.length j.nc), (.slice j.fb a.final.length j.fc), (.int .i64 b.vars), (.int .i64 b.start), (.slice k.nb b.next.length k.nc), (.slice k.fb b.final.length k.fc), (.slice qb ks.length qc), (.map (some m))], rowI qb qc 119 2 (prs b.next.length ks), mapI pairV (fun n : Nat => Value.int .i64 (n : Int)) m (pmap b.next.length ks)] [(0, 0), (1, 0), (2, 0), (3, 0), (4, 0), (5, 0), (6, 0), (7, 0), (8, 0), (9, 0), (10, 0)] mixed (by kernel_rfl) (by exact Sub.rf) (fun _ _ _ h => h) ?_
  refine DO.q rfl (q_move rfl) (DO.q rfl (q_nilCheck rfl) (DO.q rfl (q_fa underlying123 rfl inf121 rfl rfl) (DO.q rfl (q_lb 1 underlying121 rfl rfl rfl rfl) ?_)))
  refine DO.q rfl (q_la 0 underlying119 rfl inf119 rfl rfl rfl) (DO.q rfl (QT.cast (q_lookupOk (a := un b.next.length c) underlying121 inf3 (KeyOk.pair pairT) rfl rfl (mG 3 rfl)) (v' := (.tuple #[.int .i64 ((ix c ks : Nat) : Int), .bool true])) (by rw [look_zip]; simp only [un_mem, hk, if_true, if_false, un_ix, Nat.zero_add]; rfl)) (DO.q rfl (q_move rfl) (DO.q rfl (q_extract (vs := _) rfl rfl) ?_)))
  refine DO.q rfl (q_extract (vs := _) rfl rfl) (DO.q rfl (q_assign rfl) (DO.q rfl (q_assign rfl) ?_))
  refine DO.done ?_
  refine T.s (T.s (T.rg ?_))
  refine TO.qm rfl (TO.q (q_not rfl) ?_)
  refine TO.nl ?_
  refine T.cond0 rfl ?_
  refine T.skip (T.s (T.rg ?_))
  refine TO.qm rfl (TO.qa rfl ?_)
  refine TO.nl (T.ret (Res.drop ?_))
  refine Res.one (.int .i64 ((ix c ks : Nat) : Int)) Tryz.results117 rfl ?_
  have ha : add ks c = ks := if_pos hk
  rw [ha]
  exact ⟨[oI bp 123 [(.int .i64 a.vars), (.int .i64 a.start), (.slice j.nb a.next.length j.nc), (.slice j.fb a.final.length j.fc), (.int .i64 b.vars), (.int .i64 b.start), (.slice k.nb b.next.length k.nc), (.slice k.fb b.final.length k.fc), (.slice qb ks.length qc), (.map (some m))], rowI qb qc 119 2 (prs b.next.length ks), mapI pairV (fun n : Nat => Value.int .i64 (n : Int)) m (pmap b.next.length ks)], (by exact Sub.d (.k (.k (.k .z)))), rfl, qb, qc, rfl⟩
theorem pvNew (base : World) [Tab Tryz.prog base] (a b : DFA) (j k : DK) (bp m : Nat) (ks : List Nat) (c : Nat) (qb : Option Addr) (qc : Nat) (hk : c ∉ ks) (hl : ks.length ≤ 17000000) :
    CallT Tryz.prog base 117 [.pointer (some ⟨bp, 0, none⟩), (.agg #[.int .i64 ((c / b.next.length : Nat) : Int), .int .i64 ((c % b.next.length : Nat) : Int)])] [oI bp 123 [(.int .i64 a.vars), (.int .i64 a.start), (.slice j.nb a.next.length j.nc), (.slice j.fb a.final.length j.fc), (.int .i64 b.vars), (.int .i64 b.start), (.slice k.nb b.next.length k.nc), (.slice k.fb b.final.length k.fc), (.slice qb ks.length qc), (.map (some m))], rowI qb qc 119 2 (prs b.next.length ks), mapI pairV (fun n : Nat => Value.int .i64 (n : Int)) m (pmap b.next.length ks)] (fun v O' => v = .int .i64 ((ix c (add ks c) : Nat) : Int) ∧ ∃ qb' qc', O' = [oI bp 123 [(.int .i64 a.vars), (.int .i64 a.start), (.slice j.nb a.next.length j.nc), (.slice j.fb a.final.length j.fc), (.int .i64 b.vars), (.int .i64 b.start), (.slice k.nb b.next.length k.nc), (.slice k.fb b.final.length k.fc), (.slice qb' ((add ks c).length) qc'), (.map (some m))], rowI qb' qc' 119 2 (prs b.next.length (add ks c)), mapI pairV (fun n : Nat => Value.int .i64 (n : Int)) m (pmap b.next.length (add ks c))]) := by
  refine CallT.enter func117 rfl ntmps117 rfl ?_
  refine T.s (T.rg ?_)
  refine TO.l rfl (l_box (v := (.agg #[.int .i64 ((c / b.next.length : Nat) : Int), .int .i64 ((c % b.next.length : Nat) : Int)])) (cs := [.int .i64 ((c / b.next.length : Nat) : Int), .int .i64 ((c % b.next.length : Nat) : Int)]) rfl rfl (fun bx1 => ?_))
  refine TO.qa rfl ?_
  refine TO.nl (T.s ?_)
  refine T.draws [oI bx1 119 [.int .i64 ((c / b.next.length : Nat) : Int), .int .i64 ((c % b.next.length : Nat) : Int)], oI bp 123 [(.int .i64 a.vars), (.int .i64 a.start), (.slice j.nb a.next.length j.nc), (.slice j.fb a.final.length j.fc), (.int .i64 b.vars), (.int .i64 b.start), (.slice k.nb b.next.length k.nc), (.slice k.fb b.final.length k.fc), (.slice qb ks.length qc), (.map (some m))], rowI qb qc 119 2 (prs b.next.length ks), mapI pairV (fun n : Nat => Value.int .i64 (n : Int)) m (pmap b.next.length ks)] [(0, 0), (1, 0), (2, 0), (3, 0), (4, 0), (5, 0), (6, 0), (7, 0), (8, 0), (9, 0), (10, 0)] mixed (by kernel_rfl) (by exact Sub.rf) (fun _ _ _ h => h) ?_
  refine DO.q rfl (q_move rfl) (DO.q rfl (q_nilCheck rfl) (DO.q rfl (q_fa underlying123 rfl inf121 rfl rfl) (DO.q rfl (q_lb 1 underlying121 rfl rfl rfl rfl) ?_)))
  refine DO.q rfl (q_la 0 underlying119 rfl inf119 rfl rfl rfl) (DO.q rfl (QT.cast (q_lookupOk (a := un b.next.length c) underlying121 inf3 (KeyOk.pair pairT) rfl rfl (mG 3 rfl)) (v' := (.tuple #[.int .i64 0, .bool false])) (by rw [look_zip]; simp only [un_mem, hk, if_true, if_false, un_ix, Nat.zero_add]; rfl)) (DO.q rfl (q_move rfl) (DO.q rfl (q_extract (vs := _) rfl rfl) ?_)))
  refine DO.q rfl (q_extract (vs := _) rfl rfl) (DO.q rfl (q_assign rfl) (DO.q rfl (q_assign rfl) ?_))
  refine DO.done ?_
  refine T.s (T.s (T.rg ?_))
  refine TO.qm rfl (TO.q (q_not rfl) ?_)
  refine TO.nl ?_
  refine T.cond1 rfl ?_
  refine T.s (T.rg ?_)
  refine TO.qm rfl (TO.q (q_nilCheck rfl) (TO.q (q_fa underlying123 rfl inf120 rfl rfl) (TO.q (q_lb 1 underlying120 rfl rfl rfl rfl) ?_)))
  refine TO.q (q_len underlying120 rfl) (TO.qa rfl ?_)
  refine TO.nl (T.s ?_)
  refine T.draws [oI bx1 119 [.int .i64 ((c / b.next.length : Nat) : Int), .int .i64 ((c % b.next.length : Nat) : Int)], oI bp 123 [(.int .i64 a.vars), (.int .i64 a.start), (.slice j.nb a.next.length j.nc), (.slice j.fb a.final.length j.fc), (.int .i64 b.vars), (.int .i64 b.start), (.slice k.nb b.next.length k.nc), (.slice k.fb b.final.length k.fc), (.slice qb ks.length qc), (.map (some m))], rowI qb qc 119 2 (prs b.next.length ks), mapI pairV (fun n : Nat => Value.int .i64 (n : Int)) m (pmap b.next.length ks)] [(0, 0), (1, 0), (2, 0), (3, 0), (4, 0), (5, 0), (6, 2)] mixed (by kernel_rfl) (by exact Sub.rf) (fun _ _ _ h => h) ?_
  refine DO.q rfl (q_move rfl) (DO.q rfl (q_nilCheck rfl) (DO.q rfl (q_fa underlying123 rfl inf121 rfl rfl) (DO.q rfl (q_lb 1 underlying121 rfl rfl rfl rfl) ?_)))
  refine DO.q rfl (q_la 0 underlying119 rfl inf119 rfl rfl rfl) (DO.q rfl (q_move rfl) ?_)
  refine DO.last rfl rfl (l_mapPut (a := un b.next.length c) (v := ks.length) 3 underlying121 (KeyOk.pair pairT) rfl rfl rfl rfl (by rw [pmap_fst, un_mem]; exact hk) ?_)
  refine DO.done ?_
  refine T.draws [oI bx1 119 [.int .i64 ((c / b.next.length : Nat) : Int), .int .i64 ((c % b.next.length : Nat) : Int)], oI bp 123 [(.int .i64 a.vars), (.int .i64 a.start), (.slice j.nb a.next.length j.nc), (.slice j.fb a.final.length j.fc), (.int .i64 b.vars), (.int .i64 b.start), (.slice k.nb b.next.length k.nc), (.slice k.fb b.final.length k.fc), (.slice qb ks.length qc), (.map (some m))], mapI pairV (fun n : Nat => Value.int .i64 (n : Int)) m ((pmap b.next.length ks) ++ [(un b.next.length c, ks.length)])] [(0, 0), (1, 0), (2, 0), (3, 0), (4, 0), (5, 0), (6, 1), (7, 1), (8, 0), (9, 0), (10, 2)] mixed (by kernel_rfl) (by exact Sub.k (.k (.d (.k .z)))) (fun _ _ _ h => h) ?_
  refine DO.q rfl (q_move rfl) (DO.q rfl (q_move rfl) (DO.q rfl (q_nilCheck rfl) (DO.q rfl (q_fa underlying123 rfl inf120 rfl rfl) ?_)))
  refine DO.q rfl (q_lb 1 underlying120 rfl rfl rfl rfl) (DO.q rfl (q_la 0 underlying119 rfl inf119 rfl rfl rfl) ?_)
  refine DO.loud rfl rfl (l_buildSlice (m := 1) (parts := [(0, _)]) (cs := [.int .i64 ((c / b.next.length : Nat) : Int), .int .i64 ((c % b.next.length : Nat) : Int)]) underlying120 inf119 (by decide) (by kernel_rfl) rfl (fun bx2 => ⟨by exact Sub.d (.k (.k (.d (.k .z)))), ?_⟩))
  refine DO.loud rfl rfl (l_append 3 underlying120 underlying120 inf119 rfl rfl rfl rfl (by rw [prs_len]) (by decide) (Src.row (j := 0) rfl (by simp)) (by simp [oneB]) (by omega) (by decide) (by decide) (fun bx3 c4 => ⟨by exact Sub.d (.k (.k (.d (.k .z)))), ?_⟩))
  refine DO.q rfl (q_nilCheck rfl) (DO.q rfl (q_fa underlying123 rfl inf120 rfl rfl) ?_)
  refine DO.last rfl rfl (l_sb (v := (.slice bx3 (ks.length + 1) c4)) (vs := [(.slice bx3 (ks.length + 1) c4)]) 2 inf120 rfl rfl rfl rfl rfl rfl (by simp [putL]) ?_)
  refine DO.done ?_
  refine T.s (T.rg ?_)
  refine TO.qm rfl (TO.qa rfl ?_)
  refine TO.nl (T.ret (Res.drop ?_))
  refine Res.one (.int .i64 (ks.length : Int)) Tryz.results117 rfl ?_
  have ha : add ks c = ks ++ [c] := if_neg hk
  rw [ha]
  exact ⟨[oI bp 123 [(.int .i64 a.vars), (.int .i64 a.start), (.slice j.nb a.next.length j.nc), (.slice j.fb a.final.length j.fc), (.int .i64 b.vars), (.int .i64 b.start), (.slice k.nb b.next.length k.nc), (.slice k.fb b.final.length k.fc), (.slice bx3 (ks.length + 1) c4), (.map (some m))], rowI bx3 c4 119 2 ((prs b.next.length ks) ++ [.int .i64 ((c / b.next.length : Nat) : Int), .int .i64 ((c % b.next.length : Nat) : Int)]), mapI pairV (fun n : Nat => Value.int .i64 (n : Int)) m ((pmap b.next.length ks) ++ [(un b.next.length c, ks.length)])], (by exact Sub.d (.d (.k (.k (.k .z))))), by rw [ix_append_right hk]; simp [ix], _, _, by rw [prs_snoc, pmap_snoc, List.length_append]; rfl⟩
theorem pvC (base : World) [Tab Tryz.prog base] (a b : DFA) (j k : DK) (bp m : Nat) (ks : List Nat) (c : Nat) (qb : Option Addr) (qc : Nat) (hl : ks.length ≤ 17000000) :
    CallT Tryz.prog base 117 [.pointer (some ⟨bp, 0, none⟩), (.agg #[.int .i64 ((c / b.next.length : Nat) : Int), .int .i64 ((c % b.next.length : Nat) : Int)])] [objI bp (.cells (List.toArray [(.int .i64 a.vars), (.int .i64 a.start), (.slice j.nb a.next.length j.nc), (.slice j.fb a.final.length j.fc), (.int .i64 b.vars), (.int .i64 b.start), (.slice k.nb b.next.length k.nc), (.slice k.fb b.final.length k.fc), (.slice qb ks.length qc), (.map (some m))]) 123 (0, 0)), rowI qb qc 119 2 (prs b.next.length ks), mapI pairV (fun n : Nat => Value.int .i64 (n : Int)) m (pmap b.next.length ks)] (fun v O' => v = .int .i64 ((ix c (add ks c) : Nat) : Int) ∧ ∃ qb' qc', O' = [objI bp (.cells (List.toArray [(.int .i64 a.vars), (.int .i64 a.start), (.slice j.nb a.next.length j.nc), (.slice j.fb a.final.length j.fc), (.int .i64 b.vars), (.int .i64 b.start), (.slice k.nb b.next.length k.nc), (.slice k.fb b.final.length k.fc), (.slice qb' ((add ks c).length) qc'), (.map (some m))]) 123 (0, 0)), rowI qb' qc' 119 2 (prs b.next.length (add ks c)), mapI pairV (fun n : Nat => Value.int .i64 (n : Int)) m (pmap b.next.length (add ks c))]) := by
  by_cases hk : c ∈ ks
  · exact pvHit base a b j k bp m ks c qb qc hk hl
  · exact pvNew base a b j k bp m ks c qb qc hk hl
end Go.Proofs.YtohkmggbfcnapaaGreatDoor


namespace Go.Proofs.YtohkmggbfcnapaaGreatDoor
open Go.Lx Go.RowKit _root_.Go.Proofs.Tryz
theorem pvS (base : World) [Tab Tryz.prog base] (f : Bool → Bool → Bool) (a b : DFA) (j k : DK) (bp m i o x : Nat) (qb : Option Addr) (qc : Nat) (va : Valid a) (vb : Valid b) (hv : a.vars = b.vars) (hq : (bfsN (prodD f a b) i)[i]? = some o) (hx : x < 2 ^ a.vars.toNat) :
    CallT Tryz.prog base 117 [.pointer (some ⟨bp, 0, none⟩), (.agg #[.int .i64 (((toN (prodD f a b) o x) / b.next.length : Nat) : Int), .int .i64 (((toN (prodD f a b) o x) % b.next.length : Nat) : Int)])] [objI bp (.cells (List.toArray [(.int .i64 a.vars), (.int .i64 a.start), (.slice j.nb a.next.length j.nc), (.slice j.fb a.final.length j.fc), (.int .i64 b.vars), (.int .i64 b.start), (.slice k.nb b.next.length k.nc), (.slice k.fb b.final.length k.fc), (.slice qb ((bfsM (prodD f a b) i o x).length) qc), (.map (some m))]) 123 (0, 0)), rowI qb qc 119 2 (prs b.next.length (bfsM (prodD f a b) i o x)), mapI pairV (fun n : Nat => Value.int .i64 (n : Int)) m (pmap b.next.length (bfsM (prodD f a b) i o x))] (fun v O' => v = .int .i64 ((ix (toN (prodD f a b) o x) (order (prodD f a b)) : Nat) : Int) ∧ ∃ qb' qc', O' = [objI bp (.cells (List.toArray [(.int .i64 a.vars), (.int .i64 a.start), (.slice j.nb a.next.length j.nc), (.slice j.fb a.final.length j.fc), (.int .i64 b.vars), (.int .i64 b.start), (.slice k.nb b.next.length k.nc), (.slice k.fb b.final.length k.fc), (.slice qb' ((bfsM (prodD f a b) i o (x + 1)).length) qc'), (.map (some m))]) 123 (0, 0)), rowI qb' qc' 119 2 (prs b.next.length (bfsM (prodD f a b) i o (x + 1))), mapI pairV (fun n : Nat => Value.int .i64 (n : Int)) m (pmap b.next.length (bfsM (prodD f a b) i o (x + 1)))]) := by
  have ho := (pr_bfs_ok (f := f) va vb hv i).2 o (List.mem_of_getElem? hq)
  have hil := (List.getElem?_eq_some_iff.1 hq).1
  have hbl := pr_bfs_len (f := f) va vb hv i
  have hml := pr_bfsM_len (f := f) va vb hv (i := i) ho (Nat.le_of_lt hx)
  have h4 : a.next.length * b.next.length ≤ 4096 * 4096 := Nat.mul_le_mul va.n4 vb.n4
  rw [bfsM_step]
  refine (pvC base a b j k bp m (bfsM (prodD f a b) i o x) (toN (prodD f a b) o x) qb qc (by omega)).mono ?_
  rintro v O' ⟨rfl, h⟩
  refine ⟨?_, h⟩
  rw [← bfsM_step, visit_old hq (x := x + 1) hx (by rw [prod_len]; omega) (by rw [bfsM_step]; exact mem_add.2 (.inr rfl))]
theorem pairs1 (base : World) [Tab Tryz.prog base] (f : Bool → Bool → Bool) (a b : DFA) (j k : DK) (ha : At base a j) (hb : At base b k) (va : Valid a) (vb : Valid b) (hv : a.vars = b.vars) (L : Nat) (hL : 2 ^ a.vars.toNat = L) (bx bp m : Nat) (qb0 : Option Addr) (qc0 : Nat) (yv : Value) (J : Nat → List Lx.Item → Prop) (Q : List Lx.Item → Prop)
    (hy : ∀ (i o : Nat) (qb : Option Addr) (qc rb : Nat) (O : List Lx.Item), (bfsN (prodD f a b) i)[i]? = some o → J i O → CallV Tryz.prog base yv [(.agg #[.int .i64 ((o / b.next.length : Nat) : Int), .int .i64 ((o % b.next.length : Nat) : Int)]), .slice (some ⟨rb, 0, none⟩) L L] (O ++ [oI bp 123 [(.int .i64 a.vars), (.int .i64 a.start), (.slice j.nb a.next.length j.nc), (.slice j.fb a.final.length j.fc), (.int .i64 b.vars), (.int .i64 b.start), (.slice k.nb b.next.length k.nc), (.slice k.fb b.final.length k.fc), (.slice qb ((bfsN (prodD f a b) (i + 1)).length) qc), (.map (some m))], rowI qb qc 119 2 (prs b.next.length (bfsN (prodD f a b) (i + 1))), mapI pairV (fun n : Nat => Value.int .i64 (n : Int)) m (pmap b.next.length (bfsN (prodD f a b) (i + 1))), rowI (some ⟨rb, 0, none⟩) L 3 1 (ints (rnR (prodD f a b) o))])
      (fun v O' => (v = .bool true ∧ ∃ O2, O' = O2 ++ [oI bp 123 [(.int .i64 a.vars), (.int .i64 a.start), (.slice j.nb a.next.length j.nc), (.slice j.fb a.final.length j.fc), (.int .i64 b.vars), (.int .i64 b.start), (.slice k.nb b.next.length k.nc), (.slice k.fb b.final.length k.fc), (.slice qb ((bfsN (prodD f a b) (i + 1)).length) qc), (.map (some m))], rowI qb qc 119 2 (prs b.next.length (bfsN (prodD f a b) (i + 1))), mapI pairV (fun n : Nat => Value.int .i64 (n : Int)) m (pmap b.next.length (bfsN (prodD f a b) (i + 1)))] ∧ J (i + 1) O2) ∨ (v = .bool false ∧ Q O')))
    (O : List Lx.Item) (h0 : J 0 O) :
    CallT Tryz.prog base 116 [yv, .pointer (some ⟨bx, 0, none⟩)] ([oI bx 112 [(.pointer (some ⟨bp, 0, none⟩))], oI bp 123 [(.int .i64 a.vars), (.int .i64 a.start), (.slice j.nb a.next.length j.nc), (.slice j.fb a.final.length j.fc), (.int .i64 b.vars), (.int .i64 b.start), (.slice k.nb b.next.length k.nc), (.slice k.fb b.final.length k.fc), (.slice qb0 ((bfsN (prodD f a b) 0).length) qc0), (.map (some m))], rowI qb0 qc0 119 2 (prs b.next.length (bfsN (prodD f a b) 0)), mapI pairV (fun n : Nat => Value.int .i64 (n : Int)) m (pmap b.next.length (bfsN (prodD f a b) 0))] ++ O) (fun _ O' => (∃ N qb qc O2, O' = O2 ++ [oI bp 123 [(.int .i64 a.vars), (.int .i64 a.start), (.slice j.nb a.next.length j.nc), (.slice j.fb a.final.length j.fc), (.int .i64 b.vars), (.int .i64 b.start), (.slice k.nb b.next.length k.nc), (.slice k.fb b.final.length k.fc), (.slice qb ((bfsN (prodD f a b) N).length) qc), (.map (some m))], rowI qb qc 119 2 (prs b.next.length (bfsN (prodD f a b) N)), mapI pairV (fun n : Nat => Value.int .i64 (n : Int)) m (pmap b.next.length (bfsN (prodD f a b) N))] ∧ (bfsN (prodD f a b) N).length = N ∧ J N O2) ∨ Q O') := by
  refine CallT.enter func116 rfl ntmps116 rfl ?_
  have h4 : a.next.length * b.next.length ≤ 4096 * 4096 := Nat.mul_le_mul va.n4 vb.n4
  have hw : L ≤ 64 := by rw [← hL]; exact va.width
  have ha1 := ha.rows.1
  have hb1 := hb.rows.1
  refine T.s (T.rg ?_)
  refine TO.qa rfl ?_
  refine TO.nl (T.block ?_)
  refine T.loop (fun (i : Nat) ρ O => ∃ (qb : Option Addr) (qc : Nat) (O1 : List Lx.Item), O = ([oI bx 112 [(.pointer (some ⟨bp, 0, none⟩))], oI bp 123 [(.int .i64 a.vars), (.int .i64 a.start), (.slice j.nb a.next.length j.nc), (.slice j.fb a.final.length j.fc), (.int .i64 b.vars), (.int .i64 b.start), (.slice k.nb b.next.length k.nc), (.slice k.fb b.final.length k.fc), (.slice qb ((bfsN (prodD f a b) i).length) qc), (.map (some m))], rowI qb qc 119 2 (prs b.next.length (bfsN (prodD f a b) i)), mapI pairV (fun n : Nat => Value.int .i64 (n : Int)) m (pmap b.next.length (bfsN (prodD f a b) i))] ++ O1) ∧ i ≤ (bfsN (prodD f a b) i).length ∧ J i O1 ∧ Heads [(0, yv), (1, (.pointer (some ⟨bx, 0, none⟩))), (3, .int .i64 ((i : Nat) : Int))] ρ) (fun i => a.next.length * b.next.length - i) 0 ?_ ?_
  · exact ⟨qb0, qc0, O, rfl, Nat.zero_le _, h0, ⟨rfl, rfl, rfl, trivial⟩⟩
  rintro i ρ O ⟨qb, qc, O1, rfl, hle, hJ, hH⟩
  obtain ⟨ρ0, rfl⟩ := hH.elim
  clear hH
  have hbl := pr_bfs_len (f := f) va vb hv i
  refine T.s (T.s (T.rg ?_))
  refine TO.qm rfl (TO.q (q_lb 0 underlying112 rfl rfl rfl rfl) (TO.q (q_nilCheck rfl) (TO.q (q_fa underlying123 rfl inf120 rfl rfl) ?_)))
  refine TO.q (q_lb 1 underlying120 rfl rfl rfl rfl) (TO.q (q_len underlying120 rfl) (TO.q (q_lss rfl rfl) ?_))
  refine TO.nl ?_
  refine T.condP rfl (fun hc => ?_) (fun hc => ?_)
  · have hlt13 : i < (bfsN (prodD f a b) i).length := by omega
    obtain ⟨o, hq⟩ : ∃ o, (bfsN (prodD f a b) i)[i]? = some o := ⟨_, List.getElem?_eq_getElem hlt13⟩
    have ho := (pr_bfs_ok (f := f) va vb hv i).2 o (List.mem_of_getElem? hq)
    obtain ⟨hs, ht⟩ := pr_split ho
    obtain ⟨v1, c1, g1, s1⟩ := ha.rows.get hs
    obtain ⟨v2, c2, g2, s2⟩ := hb.rows.get ht
    refine T.skip (T.s (T.block (T.s (T.rg ?_))))
    refine TO.q (q_lb 0 underlying112 rfl rfl rfl rfl) (TO.q (q_nilCheck rfl) (TO.q (q_fa underlying123 rfl inf120 rfl rfl) (TO.q (q_lb 1 underlying120 rfl rfl rfl rfl) ?_)))
    refine TO.qm rfl (TO.q (q_ixK (i := i) underlying120 inf119 rfl rfl (rowO (mG 2 rfl)) hlt13 (by rw [prs_len]; omega)) (TO.q (q_ldK (vs := [.int .i64 ((o / b.next.length : Nat) : Int), .int .i64 ((o % b.next.length : Nat) : Int)]) underlying119 rfl inf119 rfl rfl (Nat.succ_pos _) (rowO (mG 2 rfl)) (prs_get hq)) ?_))
    refine TO.l rfl (l_alloc inf119 rfl (fun z1 => ?_))
    refine TO.l rfl (l_sb (v := (.agg #[.int .i64 ((o / b.next.length : Nat) : Int), .int .i64 ((o % b.next.length : Nat) : Int)])) (vs := [.int .i64 ((o / b.next.length : Nat) : Int), .int .i64 ((o % b.next.length : Nat) : Int)]) 0 inf119 rfl rfl rfl rfl rfl rfl (by simp [putL]) ?_)
    refine TO.nl (T.s (T.rg ?_))
    refine TO.q (q_lb 1 underlying112 rfl rfl rfl rfl) (TO.q (q_nilCheck rfl) (TO.q (q_fa underlying123 rfl inf25 rfl rfl) (TO.q (q_fa underlying25 rfl inf3 rfl rfl) ?_)))
    refine TO.q (q_lb 2 underlying3 rfl rfl rfl rfl) (TO.q (QT.cast (q_shl1 (v := a.vars.toNat) rfl (by show Value.int _ a.vars = _; rw [Int.toNat_of_nonneg va.v0]) (by have := va.v6; omega)) (v' := .int .i64 ((L : Nat) : Int)) (by rw [hL])) ?_)
    refine TO.l rfl (l_makeSlice (m := L) underlying37 inf3 rfl rfl (by omega) (by omega) (fun z2 => ?_))
    refine TO.qa rfl ?_
    refine TO.nl (T.s (T.s (T.rg ?_)))
    refine TO.qm rfl (TO.q (q_len underlying37 rfl) (TO.qm rfl ?_))
    refine TO.nl (T.block ?_)
    refine T.sub (O' := ([oI bp 123 [(.int .i64 a.vars), (.int .i64 a.start), (.slice j.nb a.next.length j.nc), (.slice j.fb a.final.length j.fc), (.int .i64 b.vars), (.int .i64 b.start), (.slice k.nb b.next.length k.nc), (.slice k.fb b.final.length k.fc), (.slice qb ((bfsN (prodD f a b) i).length) qc), (.map (some m))], rowI qb qc 119 2 (prs b.next.length (bfsN (prodD f a b) i)), mapI pairV (fun n : Nat => Value.int .i64 (n : Int)) m (pmap b.next.length (bfsN (prodD f a b) i)), rowI (some ⟨z2, 0, none⟩) L 3 1 (List.replicate L (.int .i64 0)), oI z1 119 [.int .i64 ((o / b.next.length : Nat) : Int), .int .i64 ((o % b.next.length : Nat) : Int)], oI bx 112 [(.pointer (some ⟨bp, 0, none⟩))]] ++ O1)) (by exact Sub.pull [rowI (some ⟨z2, 0, none⟩) L 3 1 (List.replicate L (.int .i64 0)), oI z1 119 [.int .i64 ((o / b.next.length : Nat) : Int), .int .i64 ((o % b.next.length : Nat) : Int)], oI bx 112 [(.pointer (some ⟨bp, 0, none⟩))]] _ (.pull [rowI (some ⟨z2, 0, none⟩) L 3 1 (List.replicate L (.int .i64 0)), oI z1 119 [.int .i64 ((o / b.next.length : Nat) : Int), .int .i64 ((o % b.next.length : Nat) : Int)], oI bx 112 [(.pointer (some ⟨bp, 0, none⟩))]] _ (.pull [rowI (some ⟨z2, 0, none⟩) L 3 1 (List.replicate L (.int .i64 0)), oI z1 119 [.int .i64 ((o / b.next.length : Nat) : Int), .int .i64 ((o % b.next.length : Nat) : Int)], oI bx 112 [(.pointer (some ⟨bp, 0, none⟩))]] _ (.k (.k (.k .rf)))))) ?_
    refine T.loop (fun (x : Nat) ρ O => ∃ (qbm : Option Addr) (qcm : Nat) (ys : List Nat), O = ([oI bp 123 [(.int .i64 a.vars), (.int .i64 a.start), (.slice j.nb a.next.length j.nc), (.slice j.fb a.final.length j.fc), (.int .i64 b.vars), (.int .i64 b.start), (.slice k.nb b.next.length k.nc), (.slice k.fb b.final.length k.fc), (.slice qbm ((bfsM (prodD f a b) i o x).length) qcm), (.map (some m))], rowI qbm qcm 119 2 (prs b.next.length (bfsM (prodD f a b) i o x)), mapI pairV (fun n : Nat => Value.int .i64 (n : Int)) m (pmap b.next.length (bfsM (prodD f a b) i o x)), rowI (some ⟨z2, 0, none⟩) L 3 1 (nats ys), oI z1 119 [.int .i64 ((o / b.next.length : Nat) : Int), .int .i64 ((o % b.next.length : Nat) : Int)], oI bx 112 [(.pointer (some ⟨bp, 0, none⟩))]] ++ O1) ∧ x ≤ L ∧ ys.length = L ∧ (∀ y, y < x → ys[y]? = some (ix (toN (prodD f a b) o y) (order (prodD f a b)))) ∧ Heads [(0, yv), (1, (.pointer (some ⟨bx, 0, none⟩))), (3, .int .i64 ((i : Nat) : Int)), (4, (.pointer (some ⟨z1, 0, none⟩))), (5, (.slice (some ⟨z2, 0, none⟩) L L)), (31, .int .i64 (L : Int)), (32, .int .i64 ((x : Nat) : Int))] ρ) (fun x => L - x) 0 ?_ ?_
    · refine ⟨qb, qc, List.replicate L 0, ?_, Nat.zero_le _, by simp, fun y hy9 => absurd hy9 (by omega), ⟨rfl, rfl, rfl, rfl, rfl, rfl, rfl, trivial⟩⟩
      rw [show List.replicate L (Value.int .i64 0) = nats (List.replicate L 0) by simp]; rfl
    rintro x ρ O ⟨qbm, qcm, ys, rfl, hx, hyl, hys, hH⟩
    obtain ⟨ρ0, rfl⟩ := hH.elim
    clear hH
    refine T.s (T.rg ?_)
    refine TO.q (q_lss rfl rfl) ?_
    refine TO.nl (T.s ?_)
    refine T.condP rfl (fun hc => ?_) (fun hc => ?_)
    · have hlt33 : x < L := by omega
      have hxa : x < 2 ^ a.vars.toNat := by omega
      have hxb : x < 2 ^ b.vars.toNat := by rw [← hv]; exact hxa
      obtain ⟨t1, _, x1, d1⟩ := va.toN_lt hs hxa
      obtain ⟨t2, _, x2, d2⟩ := vb.toN_lt ht hxb
      have hst := (pr_toN_lt (f := f) va vb hv ho hxa).1
      have hdm := pr_div (n := b.next.length) (s := toN a (o / b.next.length) x) t2
      rw [← hst] at hdm
      have hx1 : (ints a.next[o / b.next.length])[x]? = some (.int .i64 ((toN (prodD f a b) o x / b.next.length : Nat) : Int)) := by rw [ints_get x1, d1, hdm.1]
      have hx2 : (ints b.next[o % b.next.length])[x]? = some (.int .i64 ((toN (prodD f a b) o x % b.next.length : Nat) : Int)) := by rw [ints_get x2, d2, hdm.2]
      refine T.skip (T.s (T.block (T.s (T.rg ?_))))
      refine TO.qm rfl (TO.qa rfl ?_)
      refine TO.nl ?_
      refine T.draws2 [] [oI bp 123 [(.int .i64 a.vars), (.int .i64 a.start), (.slice j.nb a.next.length j.nc), (.slice j.fb a.final.length j.fc), (.int .i64 b.vars), (.int .i64 b.start), (.slice k.nb b.next.length k.nc), (.slice k.fb b.final.length k.fc), (.slice qbm ((bfsM (prodD f a b) i o x).length) qcm), (.map (some m))], oI z1 119 [.int .i64 ((o / b.next.length : Nat) : Int), .int .i64 ((o % b.next.length : Nat) : Int)], oI bx 112 [(.pointer (some ⟨bp, 0, none⟩))]] [(0, 0), (1, 0), (2, 3), (3, 3), (4, 3), (5, 3), (6, 3), (7, 3), (8, 3), (9, 3), (10, 3), (11, 3), (12, 3), (13, 3), (14, 3), (15, 3), (16, 3), (17, 3), (18, 3), (19, 3), (20, 3), (21, 3), (22, 3), (23, 3), (24, 3), (25, 3), (26, 3), (27, 3), (28, 4), (29, 2), (30, 2)] mixed (drawF_ok (by kernel_rfl)) (Sub.of (List.nil_sublist _)) (by exact Sub.k (.d (.d (.d (.k (.k .z)))))) (fun _ _ _ h => h) ?_
      refine DO.q rfl (q_move rfl) (DO.q rfl (q_move rfl) ?_)
      refine DO.quiet2 rfl (q_lb 2 underlying112 rfl rfl rfl rfl) ?_
      refine DO.quiet2 rfl (q_lb 2 underlying112 rfl rfl rfl rfl) ?_
      refine DO.quiet2 rfl (q_nilCheck rfl) ?_
      refine DO.quiet2 rfl (q_fa underlying123 rfl inf25 rfl rfl) ?_
      refine DO.quiet2 rfl (q_fa underlying25 rfl inf22 rfl rfl) ?_
      refine DO.quiet2 rfl (q_lb 0 underlying22 rfl rfl rfl rfl) ?_
      refine DO.quiet2 rfl (q_fa underlying119 rfl inf3 rfl rfl) ?_
      refine DO.quiet2 rfl (q_lb 1 underlying3 rfl rfl rfl rfl) ?_
      refine DO.quiet2 rfl (q_ix (i := (o / b.next.length)) underlying22 inf37 rfl rfl (Sl.o ha.outer) hs (by rw [ha1]; exact hs)) ?_
      refine DO.quiet2 rfl (q_ld underlying37 rfl rfl (Sl.o ha.outer) g1) ?_
      refine DO.quiet2 rfl (q_move rfl) ?_
      refine DO.quiet2 rfl (q_ix (i := x) underlying37 inf3 rfl rfl (Sl.o s1) x1 (by rw [List.length_map]; exact x1)) ?_
      refine DO.quiet2 rfl (q_ld underlying3 rfl rfl (Sl.o s1) hx1) ?_
      refine DO.quiet2 rfl (q_lb 2 underlying112 rfl rfl rfl rfl) ?_
      refine DO.quiet2 rfl (q_nilCheck rfl) ?_
      refine DO.quiet2 rfl (q_fa underlying123 rfl inf25 rfl rfl) ?_
      refine DO.quiet2 rfl (q_fa underlying25 rfl inf22 rfl rfl) ?_
      refine DO.quiet2 rfl (q_lb 0 underlying22 rfl rfl rfl rfl) ?_
      refine DO.quiet2 rfl (q_fa underlying119 rfl inf3 rfl rfl) ?_
      refine DO.quiet2 rfl (q_lb 1 underlying3 rfl rfl rfl rfl) ?_
      refine DO.quiet2 rfl (q_ix (i := (o % b.next.length)) underlying22 inf37 rfl rfl (Sl.o hb.outer) ht (by rw [hb1]; exact ht)) ?_
      refine DO.quiet2 rfl (q_ld underlying37 rfl rfl (Sl.o hb.outer) g2) ?_
      refine DO.quiet2 rfl (q_move rfl) ?_
      refine DO.quiet2 rfl (q_ix (i := x) underlying37 inf3 rfl rfl (Sl.o s2) x2 (by rw [List.length_map]; exact x2)) ?_
      refine DO.quiet2 rfl (q_ld underlying3 rfl rfl (Sl.o s2) hx2) ?_
      refine DO.quiet2 rfl (q_build (cs := [.int .i64 (((toN (prodD f a b) o x) / b.next.length : Nat) : Int), .int .i64 (((toN (prodD f a b) o x) % b.next.length : Nat) : Int)]) plan119 inf119 (by kernel_rfl)) ?_
      have hk63 := CallT.under (B := ([rowI (some ⟨z2, 0, none⟩) L 3 1 (nats ys), oI z1 119 [.int .i64 ((o / b.next.length : Nat) : Int), .int .i64 ((o % b.next.length : Nat) : Int)], oI bx 112 [(.pointer (some ⟨bp, 0, none⟩))]] ++ O1)) (O := ([oI bp 123 [(.int .i64 a.vars), (.int .i64 a.start), (.slice j.nb a.next.length j.nc), (.slice j.fb a.final.length j.fc), (.int .i64 b.vars), (.int .i64 b.start), (.slice k.nb b.next.length k.nc), (.slice k.fb b.final.length k.fc), (.slice qbm ((bfsM (prodD f a b) i o x).length) qcm), (.map (some m))], rowI qbm qcm 119 2 (prs b.next.length (bfsM (prodD f a b) i o x)), mapI pairV (fun n : Nat => Value.int .i64 (n : Int)) m (pmap b.next.length (bfsM (prodD f a b) i o x)), rowI (some ⟨z2, 0, none⟩) L 3 1 (nats ys), oI z1 119 [.int .i64 ((o / b.next.length : Nat) : Int), .int .i64 ((o % b.next.length : Nat) : Int)], oI bx 112 [(.pointer (some ⟨bp, 0, none⟩))]] ++ O1)) (pvS base f a b j k bp m i o x qbm qcm va vb hv hq (by omega)) (by exact Sub.rf)
      refine DO.last2 rfl rfl (l_call ent117 hk63 rfl ?_)
      clear hk63
      rintro vr O' ⟨A1, rfl, rfl, qb2, qc2, rfl⟩
      refine ⟨by exact Sub.z, ?_⟩
      refine DO.last rfl rfl (LT.oq rfl rfl (q_ix (i := x) underlying37 inf3 rfl rfl (rowO (mG 3 rfl))) ?_)
      refine DO.last rfl rfl (l_st (j := x) (v := .int .i64 ((ix (toN (prodD f a b) o x) (order (prodD f a b)) : Nat) : Int)) (vs := [(.int .i64 ((ix (toN (prodD f a b) o x) (order (prodD f a b)) : Nat) : Int))]) (cs := nats ys) 3 inf3 rfl rfl rfl rfl rfl (by simp) rfl (by first | (simp; omega) | (simp_all; omega)) ?_)
      refine DO.sub (O' := ([oI bp 123 [(.int .i64 a.vars), (.int .i64 a.start), (.slice j.nb a.next.length j.nc), (.slice j.fb a.final.length j.fc), (.int .i64 b.vars), (.int .i64 b.start), (.slice k.nb b.next.length k.nc), (.slice k.fb b.final.length k.fc), (.slice qb2 ((bfsM (prodD f a b) i o (x + 1)).length) qc2), (.map (some m))], rowI qb2 qc2 119 2 (prs b.next.length (bfsM (prodD f a b) i o (x + 1))), mapI pairV (fun n : Nat => Value.int .i64 (n : Int)) m (pmap b.next.length (bfsM (prodD f a b) i o (x + 1))), rowI (some ⟨z2, 0, none⟩) L 3 1 (nats (ys.set x (ix (toN (prodD f a b) o x) (order (prodD f a b))))), oI z1 119 [.int .i64 ((o / b.next.length : Nat) : Int), .int .i64 ((o % b.next.length : Nat) : Int)], oI bx 112 [(.pointer (some ⟨bp, 0, none⟩))]] ++ O1)) (by rw [show putL (nats ys) x [(.int .i64 ((ix (toN (prodD f a b) o x) (order (prodD f a b)) : Nat) : Int))] = nats (ys.set x (ix (toN (prodD f a b) o x) (order (prodD f a b)))) from by simp [putL]]; exact Sub.of (List.Sublist.refl _)) ?_
      refine DO.done ?_
      refine T.rg ?_
      refine TO.q (q_addN (a := x) (b := 1) rfl rfl (by omega)) (TO.qm rfl ?_)
      refine TO.nl ?_
      refine ⟨x + 1, by omega, qb2, qc2, ys.set x (ix (toN (prodD f a b) o x) (order (prodD f a b))), rfl, by omega, by simp [hyl], fun y hy9 => ?_, ⟨rfl, rfl, rfl, rfl, rfl, rfl, rfl, trivial⟩⟩
      by_cases e : y = x
      · subst e; rw [List.getElem?_set_self (by omega)]
      · rw [List.getElem?_set_ne (fun h => e h.symm)]; exact hys y (by omega)
    have hge33 : ¬ x < L := by omega
    refine T.exit ?_
    refine T.s ?_
    have hxe : x = L := by omega
    have e1 : bfsN (prodD f a b) (i + 1) = bfsM (prodD f a b) i o x := by rw [hxe, ← hL]; exact (bfsM_full hq).symm
    have e3 : renRow (prodD f a b) o = ys := by
      apply List.ext_getElem?
      intro y
      by_cases hy9 : y < L
      · rw [hys y (by omega)]
        have hy8 : y < 2 ^ (prodD f a b).vars.toNat := by show y < 2 ^ a.vars.toNat; omega
        unfold renRow
        rw [List.getElem?_map, sucs_get hy8]; rfl
      · rw [List.getElem?_eq_none (by rw [renRow_length]; show 2 ^ a.vars.toNat ≤ y; omega), List.getElem?_eq_none (by omega)]
    have e2 : ints (rnR (prodD f a b) o) = nats ys := by unfold rnR; rw [e3]; simp [Function.comp_def]
    refine T.sub (O' := ([oI bp 123 [(.int .i64 a.vars), (.int .i64 a.start), (.slice j.nb a.next.length j.nc), (.slice j.fb a.final.length j.fc), (.int .i64 b.vars), (.int .i64 b.start), (.slice k.nb b.next.length k.nc), (.slice k.fb b.final.length k.fc), (.slice qbm ((bfsN (prodD f a b) (i + 1)).length) qcm), (.map (some m))], rowI qbm qcm 119 2 (prs b.next.length (bfsN (prodD f a b) (i + 1))), mapI pairV (fun n : Nat => Value.int .i64 (n : Int)) m (pmap b.next.length (bfsN (prodD f a b) (i + 1))), rowI (some ⟨z2, 0, none⟩) L 3 1 (ints (rnR (prodD f a b) o)), oI z1 119 [.int .i64 ((o / b.next.length : Nat) : Int), .int .i64 ((o % b.next.length : Nat) : Int)], oI bx 112 [(.pointer (some ⟨bp, 0, none⟩))]] ++ O1)) (by rw [e1, e2]; exact Sub.rf) ?_
    refine T.rg ?_
    refine TO.qm rfl (TO.q (q_la 4 underlying119 rfl inf119 rfl rfl rfl) (TO.qm rfl ?_))
    have hk69 := CallV.under (B := [oI z1 119 [.int .i64 ((o / b.next.length : Nat) : Int), .int .i64 ((o % b.next.length : Nat) : Int)], oI bx 112 [(.pointer (some ⟨bp, 0, none⟩))]]) (O := ([oI bp 123 [(.int .i64 a.vars), (.int .i64 a.start), (.slice j.nb a.next.length j.nc), (.slice j.fb a.final.length j.fc), (.int .i64 b.vars), (.int .i64 b.start), (.slice k.nb b.next.length k.nc), (.slice k.fb b.final.length k.fc), (.slice qbm ((bfsN (prodD f a b) (i + 1)).length) qcm), (.map (some m))], rowI qbm qcm 119 2 (prs b.next.length (bfsN (prodD f a b) (i + 1))), mapI pairV (fun n : Nat => Value.int .i64 (n : Int)) m (pmap b.next.length (bfsN (prodD f a b) (i + 1))), rowI (some ⟨z2, 0, none⟩) L 3 1 (ints (rnR (prodD f a b) o)), oI z1 119 [.int .i64 ((o / b.next.length : Nat) : Int), .int .i64 ((o % b.next.length : Nat) : Int)], oI bx 112 [(.pointer (some ⟨bp, 0, none⟩))]] ++ O1)) (hy i o qbm qcm z2 O1 hq hJ) (Sub.ca [])
    refine TO.l rfl (l_callG hk69 rfl rfl ?_)
    clear hk69
    rintro vr O' ⟨A1, rfl, ⟨rfl, O2, rfl, hJ2⟩ | ⟨rfl, hQ2⟩⟩
    · refine TO.q (q_not rfl) ?_
      refine TO.nl ?_
      refine T.cond0 rfl ?_
      refine T.skip ?_
      refine T.sub (O' := ([oI bx 112 [(.pointer (some ⟨bp, 0, none⟩))], oI bp 123 [(.int .i64 a.vars), (.int .i64 a.start), (.slice j.nb a.next.length j.nc), (.slice j.fb a.final.length j.fc), (.int .i64 b.vars), (.int .i64 b.start), (.slice k.nb b.next.length k.nc), (.slice k.fb b.final.length k.fc), (.slice qbm ((bfsN (prodD f a b) (i + 1)).length) qcm), (.map (some m))], rowI qbm qcm 119 2 (prs b.next.length (bfsN (prodD f a b) (i + 1))), mapI pairV (fun n : Nat => Value.int .i64 (n : Int)) m (pmap b.next.length (bfsN (prodD f a b) (i + 1)))] ++ O2)) (Sub.cnt [oI z1 119 [.int .i64 ((o / b.next.length : Nat) : Int), .int .i64 ((o % b.next.length : Nat) : Int)]] (by intro a; simp only [itms, oI, List.set_cons_zero, List.set_cons_succ, putL, List.cons_append, List.nil_append, List.append_nil, List.append_assoc, List.map_append, List.map_cons, List.map_nil, cnt_append, cnt_cons, cnt_nil] <;> omega)) ?_
      refine T.rg ?_
      refine TO.qm rfl (TO.q (q_addN (a := i) (b := 1) rfl rfl (by omega)) (TO.qa rfl ?_))
      refine TO.nl ?_
      have hpl := (bfsN_prefix (prodD f a b) i (i + 1) (by omega)).length_le
      exact ⟨i + 1, by omega, qbm, qcm, O2, rfl, by omega, hJ2, ⟨rfl, rfl, rfl, trivial⟩⟩
    refine TO.q (q_not rfl) ?_
    refine TO.nl ?_
    refine T.cond1 rfl ?_
    refine T.ret (Res.drop ?_)
    refine Res.zero Tryz.results116 ?_
    exact ⟨A1, Sub.of (List.sublist_append_left _ _), .inr hQ2⟩
  have hge13 : ¬ i < (bfsN (prodD f a b) i).length := by omega
  refine T.exit ?_
  refine Res.drop ?_
  refine Res.zero Tryz.results116 ?_
  have hN : (bfsN (prodD f a b) i).length = i := by omega
  exact ⟨O1 ++ [oI bp 123 [(.int .i64 a.vars), (.int .i64 a.start), (.slice j.nb a.next.length j.nc), (.slice j.fb a.final.length j.fc), (.int .i64 b.vars), (.int .i64 b.start), (.slice k.nb b.next.length k.nc), (.slice k.fb b.final.length k.fc), (.slice qb ((bfsN (prodD f a b) i).length) qc), (.map (some m))], rowI qb qc 119 2 (prs b.next.length (bfsN (prodD f a b) i)), mapI pairV (fun n : Nat => Value.int .i64 (n : Int)) m (pmap b.next.length (bfsN (prodD f a b) i))], Sub.cnt [oI bx 112 [(.pointer (some ⟨bp, 0, none⟩))]] (by intro a; simp only [itms, oI, List.set_cons_zero, List.set_cons_succ, putL, List.cons_append, List.nil_append, List.append_nil, List.append_assoc, List.map_append, List.map_cons, List.map_nil, cnt_append, cnt_cons, cnt_nil] <;> omega), .inl ⟨i, qb, qc, O1, rfl, hN, hJ⟩⟩
end Go.Proofs.YtohkmggbfcnapaaGreatDoor


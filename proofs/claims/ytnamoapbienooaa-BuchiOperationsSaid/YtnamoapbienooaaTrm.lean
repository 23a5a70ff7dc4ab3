/- Contracts of functions of the program (BPth, Kmp, BCan, Wit, CoreN, BWit, BWitn, Sea, Trm): what each call answers and that it leaves memory as it was. Conditions: those each theorem names. -/
import Derived.Test.YtnamoapbienooaaBDel
import Derived.Test.YtnamoapbienooaaPth
import Derived.Test.YtnamoapbienooaaBComp
set_option linter.unusedSectionVars false
set_option linter.unusedSimpArgs false
set_option linter.unusedVariables false
set_option linter.unnecessarySimpa false
namespace Go.Proofs.Ytnamoapbienooaa
open Go.Lx Go.RowKit
set_option linter.unusedVariables false
set_option linter.unusedSimpArgs false
set_option maxHeartbeats 4000000 in
set_option maxRecDepth 20000 in
theorem lettersF (base : World) (b : Bu) (sb eb tb : Option Addr) (sc ec tc : Nat) (vs : List Value) (h : BuAt base b sb eb tb vs) (hB : BuB b) (hv : ValidB b) (OO : List Lx.Item) (fb : Option Addr) (fc : Nat) (frm : List Nat) (hF : ∀ w, Inv base OO w → Sl w fb (nats frm)) (hfl : frm.length ≤ 1000000) (hfn : ∀ s ∈ frm, s < b.states.toNat) (hnd : frm.Nodup)
    (ab : Option Addr) (ac : Nat) (av : List Bool) (hA : ∀ w, Inv base OO w → Sl w ab (bools av)) (has : av.length = b.states.toNat) (far : Bool) (fv : Value) (p : Int → Bool) (hy : ∀ x : Nat, x < b.states.toNat → CallV Try.prog base fv [.int .i64 (x : Int)] OO (fun v O' => v = .bool (p (x : Int)) ∧ O' = OO))
    (hex : ∃ s ∈ frm, ∃ w t, PathC b (fun v => av.getD v false) s w t ∧ p (t : Int) = true ∧ (far = true → w ≠ [])) :
    CallT Try.prog base 72 [.agg (buCells b sb sc eb ec tb tc).toArray, .slice fb frm.length fc, .slice ab av.length ac, .bool far, fv] OO (fun v O' => ∃ (w : List Nat) (t : Nat) (wb : Option Addr) (wc : Nat), v = .tuple #[.slice wb w.length wc, .int .i64 (t : Int)] ∧ O' = [rowI wb wc 5 1 (byts w)] ++ OO ∧ (∃ s ∈ frm, PathC b (fun v => av.getD v false) s w t) ∧ t < b.states.toNat ∧ p (t : Int) = true ∧ (far = true → w ≠ []) ∧ w.length + (if far = true then 0 else 1) ≤ b.states.toNat) := by
  refine CallT.enter Try.func72 rfl Try.ntmps72 rfl ?_
  have hv0 := hv.n0; have hv4 := hv.n4; have hed := hB.ed
  obtain ⟨n, hn⟩ : ∃ n : Nat, b.states = (n : Int) := ⟨b.states.toNat, by omega⟩
  have hnn : b.states.toNat = n := by omega
  rw [hnn] at hfn has hy ⊢
  refine T.seq (T.region ?_)
  refine TO.loud rfl (l_box (v := (.agg (buCells b sb sc eb ec tb tc).toArray)) (cs := (buCells b sb sc eb ec tb tc)) rfl rfl (fun bx1 => ?_))
  refine TO.quiet (q_assign rfl) (TO.quiet (q_assign rfl) ?_)
  refine TO.nil (T.seq (T.region ?_))
  refine TO.quiet (q_fieldAddr Try.underlying26 rfl inf3 rfl rfl) (TO.quiet (QT.cast (q_load_box 0 Try.underlying3 rfl rfl rfl rfl) (v' := .int .i64 ((n : Nat) : Int)) (by show Value.int _ b.states = _; rw [hn])) ?_)
  refine TO.loud rfl (l_makeSlice (m := n) Try.underlying39 inf4 rfl rfl (by omega) (by omega) (fun bx2 => ?_))
  refine TO.quiet (q_assign rfl) ?_
  refine TO.nil (T.seq (T.region ?_))
  refine TO.quiet (q_assign rfl) ?_
  refine TO.nil (T.seq (T.region ?_))
  refine TO.quiet (q_assign rfl) ?_
  refine TO.nil (T.seq (T.seq (T.region ?_)))
  refine TO.quiet (q_move rfl) (TO.quiet (q_len Try.underlying22 rfl) (TO.quiet (q_move rfl) ?_))
  refine TO.nil (T.block ?_)
  refine T.nilRow 129 2 ?_
  refine T.nilRow 5 1 ?_
  refine T.sub (O' := [rowI (some ⟨bx2, 0, none⟩) n 4 1 (List.replicate n (.bool false)), rowI none 0 129 2 [], rowI none 0 5 1 [], oI bx1 26 (buCells b sb sc eb ec tb tc)] ++ OO) (Sub.pickR [2, 1, 0, 0] [rowI none 0 5 1 [], rowI none 0 129 2 [], rowI (some ⟨bx2, 0, none⟩) n 4 1 (List.replicate n (.bool false)), oI bx1 26 (buCells b sb sc eb ec tb tc)] OO rfl rfl) ?_
  refine T.loop (fun (k : Nat) ρ O => ∃ (sn : List Bool) (sb2 lb2 : Option Addr) (sc2 lc2 : Nat), O = ([rowI (some ⟨bx2, 0, none⟩) n 4 1 (bools sn), rowI sb2 sc2 129 2 (stpC ((frm.take k).map fun s => ((s, -1) : Nat × Int))), rowI lb2 lc2 5 1 (byts (List.replicate k 0)), oI bx1 26 (buCells b sb sc eb ec tb tc)] ++ OO) ∧ k ≤ frm.length ∧ sn.length = n ∧ (∀ v, v < n → (sn.getD v false = true ↔ far = false ∧ v ∈ frm.take k)) ∧ (far = false → ∀ s ∈ frm.take k, p (s : Int) = false) ∧ Heads [(0, (.agg (buCells b sb sc eb ec tb tc).toArray)), (1, (.slice fb frm.length fc)), (2, (.slice ab av.length ac)), (3, .bool far), (4, fv), (5, (.pointer (some ⟨bx1, 0, none⟩))), (10, (.slice none 0 0)), (12, (.slice (some ⟨bx2, 0, none⟩) n n)), (13, (.slice sb2 k sc2)), (14, (.slice lb2 k lc2)), (24, (.slice fb frm.length fc)), (25, .int .i64 (frm.length : Int)), (26, .int .i64 (k : Int))] ρ) (fun k => frm.length - k) 0 ?_ ?_
  · refine ⟨List.replicate n false, none, none, 0, 0, by simp only [List.map_replicate]; rfl, Nat.zero_le _, by simp, fun v hv9 => ?_, fun _ s hs => by simp at hs, ⟨rfl, rfl, rfl, rfl, rfl, rfl, rfl, rfl, rfl, rfl, rfl, rfl, rfl, trivial⟩⟩
    rw [gb (by simpa using hv9)]; simp
  rintro k ρ O ⟨sn, sb2, lb2, sc2, lc2, rfl, hk, hsl, hsn, hnp, hH⟩
  obtain ⟨ρ0, rfl⟩ := hH.elim
  clear hH
  refine T.seq (T.region ?_)
  refine TO.quiet (q_lss rfl rfl) ?_
  refine TO.nil (T.seq ?_)
  refine T.condP rfl (fun hc => ?_) (fun hc => ?_)
  · have hlt27 : k < frm.length := by omega
    have hfk : frm[k] < n := hfn _ (List.getElem_mem hlt27)
    refine T.skip (T.seq (T.block (T.seq (T.region ?_))))
    refine TO.quiet (q_ix (i := k) Try.underlying22 inf3 rfl rfl (fun w hI => hF w (Inv.right (A := [_, _, _, _]) hI))) (TO.quiet (q_ld Try.underlying3 rfl rfl (fun w hI => hF w (Inv.right (A := [_, _, _, _]) hI)) nats_get) (TO.quiet (q_assign rfl) ?_))
    refine TO.nil (T.seq (T.seq (T.region ?_)))
    refine TO.quiet (q_move rfl) (TO.quiet (q_not rfl) ?_)
    by_cases hs32 : (!far) = true
    · refine TO.quiet (QT.toB (q_move rfl) (hs32)) ?_
      refine TO.guarded rfl rfl rfl (LT.of_quiet rfl rfl (q_move rfl) ?_)
      refine TO.guarded rfl rfl rfl (LT.of_quiet rfl rfl (q_move rfl) ?_)
      have hk35 := (show CallV Try.prog base fv [.int .i64 (frm[k] : Int)] ([rowI (some ⟨bx2, 0, none⟩) n 4 1 (bools sn), rowI sb2 sc2 129 2 (stpC ((frm.take k).map fun s => ((s, -1) : Nat × Int))), rowI lb2 lc2 5 1 (byts (List.replicate k 0)), oI bx1 26 (buCells b sb sc eb ec tb tc)] ++ OO) (fun v O' => v = .bool (p (frm[k] : Int)) ∧ O' = [rowI (some ⟨bx2, 0, none⟩) n 4 1 (bools sn), rowI sb2 sc2 129 2 (stpC ((frm.take k).map fun s => ((s, -1) : Nat × Int))), rowI lb2 lc2 5 1 (byts (List.replicate k 0)), oI bx1 26 (buCells b sb sc eb ec tb tc)] ++ OO) from (CallV.atR [rowI (some ⟨bx2, 0, none⟩) n 4 1 (bools sn), rowI sb2 sc2 129 2 (stpC ((frm.take k).map fun s => ((s, -1) : Nat × Int))), rowI lb2 lc2 5 1 (byts (List.replicate k 0)), oI bx1 26 (buCells b sb sc eb ec tb tc)] (hy frm[k] (hfn _ (List.getElem_mem hlt27)))).mono (fun v O' ⟨A', e1, e2, e3⟩ => ⟨e2, by rw [e1, e3]⟩))
      refine TO.guarded rfl rfl rfl (l_callG hk35 rfl rfl ?_)
      clear hk35
      rintro vr O' ⟨rfl, rfl⟩
      refine TO.quiet (q_pick1 rfl rfl) ?_
      refine TO.nil ?_
      refine T.cond rfl (fun hc => ?_) (fun hc => ?_)
      · have hpt : p (frm[k] : Int) = true := hc
        refine T.seq ?_
        refine T.nilRow 5 1 ?_
        refine T.region ?_
        refine TO.quiet (q_move rfl) (TO.quiet (q_assign rfl) (TO.quiet (q_assign rfl) ?_))
        refine TO.nil (T.ret (Res.drop ?_))
        refine Res.two (.slice none 0 0) (.int .i64 ((frm[k] : Nat) : Int)) Try.results72 rfl rfl ?_
        have hff : far = false := by simpa using hs32
        exact ⟨[rowI none 0 5 1 []] ++ OO, (Sub.pickR [0] [rowI none 0 5 1 [], rowI (some ⟨bx2, 0, none⟩) n 4 1 (bools sn), rowI sb2 sc2 129 2 (stpC ((frm.take k).map fun s => ((s, -1) : Nat × Int))), rowI lb2 lc2 5 1 (byts (List.replicate k 0)), oI bx1 26 (buCells b sb sc eb ec tb tc)] OO rfl rfl), [], frm[k], none, 0, rfl, rfl, ⟨frm[k], List.getElem_mem hlt27, .nil _⟩, hfk, hpt, fun h => by rw [hff] at h; (cases h), by rw [hff]; simp; omega⟩
      have hpk : far = false → p (frm[k] : Int) = false := fun hf => by simp_all
      refine T.skip (T.seq (T.region ?_))
      refine TO.quiet (q_move rfl) (TO.quiet (q_move rfl) (TO.quiet (q_build (cs := [.int .i64 ((frm[k] : Nat) : Int), .int .i64 (-1)]) plan129 inf129 (by kernel_rfl)) ?_))
      refine TO.loud rfl (l_buildSlice (m := 1) (parts := [(0, _)]) (cs := [.int .i64 ((frm[k] : Nat) : Int), .int .i64 (-1)]) Try.underlying127 inf129 (by decide) (by kernel_rfl) rfl (fun bx3 => ?_))
      refine TO.loud rfl (l_append 2 Try.underlying127 Try.underlying127 inf129 rfl rfl rfl rfl (by rw [stp_len]; simp; omega) (by decide) (Src.row (j := 0) rfl (by simp)) (by simp [oneB]) (by omega) (by decide) (by decide) (fun bx4 c5 => ?_))
      refine TO.quiet (q_move rfl) ?_
      refine TO.loud rfl (l_build1 (v := .int .u8 0) Try.underlying27 inf5 rfl rfl rfl (fun bx6 => ?_))
      refine TO.loud rfl (l_append 4 Try.underlying27 Try.underlying27 inf5 rfl rfl rfl rfl (by simp) (by decide) (Src.row (j := 0) rfl (by simp)) (by simp [oneB]) (by omega) (by decide) (by decide) (fun bx7 c8 => ?_))
      refine TO.quiet (q_assign rfl) (TO.quiet (q_assign rfl) ?_)
      refine TO.sub (O' := ([rowI (some ⟨bx2, 0, none⟩) n 4 1 (bools sn), rowI bx4 c5 129 2 ((stpC ((frm.take k).map fun s => ((s, -1) : Nat × Int))) ++ [.int .i64 ((frm[k] : Nat) : Int), .int .i64 (-1)]), rowI bx7 c8 5 1 ((byts (List.replicate k 0)) ++ [.int .u8 0]), oI bx1 26 (buCells b sb sc eb ec tb tc)] ++ OO)) (Sub.pickR [2, 2, 2, 2] [rowI (some ⟨bx6, 0, none⟩) 1 5 1 [.int .u8 0], rowI (some ⟨bx3, 0, none⟩) 1 129 2 [.int .i64 ((frm[k] : Nat) : Int), .int .i64 (-1)], rowI (some ⟨bx2, 0, none⟩) n 4 1 (bools sn), rowI bx4 c5 129 2 ((stpC ((frm.take k).map fun s => ((s, -1) : Nat × Int))) ++ [.int .i64 ((frm[k] : Nat) : Int), .int .i64 (-1)]), rowI bx7 c8 5 1 ((byts (List.replicate k 0)) ++ [.int .u8 0]), oI bx1 26 (buCells b sb sc eb ec tb tc)] OO rfl rfl) ?_
      refine TO.nil (T.region ?_)
      refine TO.quiet (q_move rfl) (TO.quiet (q_move rfl) (TO.quiet (q_move rfl) (TO.quiet (q_not rfl) ?_)))
      refine TO.quiet (q_ix (i := frm[k]) Try.underlying39 inf4 rfl rfl (rowO (List.mem_of_getElem? (i := 0) rfl))) ?_
      refine TO.loud rfl (l_st (j := frm[k]) (v := .bool (!far)) (vs := [(.bool (!far))]) (cs := bools sn) 0 inf4 rfl rfl rfl rfl rfl (by simp) rfl (by first | (simp; omega) | (simp_all; omega)) ?_)
      refine TO.sub (O' := ([rowI (some ⟨bx2, 0, none⟩) n 4 1 (bools (sn.set frm[k] (!far))), rowI bx4 c5 129 2 ((stpC ((frm.take k).map fun s => ((s, -1) : Nat × Int))) ++ [.int .i64 ((frm[k] : Nat) : Int), .int .i64 (-1)]), rowI bx7 c8 5 1 ((byts (List.replicate k 0)) ++ [.int .u8 0]), oI bx1 26 (buCells b sb sc eb ec tb tc)] ++ OO)) (by rw [show putL (bools sn) frm[k] [(.bool (!far))] = bools (sn.set frm[k] (!far)) from (by simp [putL])]; exact Sub.of (List.Sublist.refl _)) ?_
      refine TO.nil (T.region ?_)
      refine TO.quiet (q_addN (a := k) (b := 1) rfl rfl (by omega)) (TO.quiet (q_move rfl) ?_)
      refine TO.nil ?_
      have htk := List.take_succ_eq_append_getElem hlt27
      refine ⟨k + 1, by omega, sn.set frm[k] (!far), bx4, bx7, c5, c8, ?_, by omega, by simp [hsl], fun v hv9 => ?_, fun hf s hs => ?_, ⟨rfl, rfl, rfl, rfl, rfl, rfl, rfl, rfl, rfl, rfl, rfl, rfl, rfl, trivial⟩⟩
      · rw [htk, List.map_append, List.map_singleton, stp_snoc, List.replicate_succ', show byts (List.replicate k 0 ++ [0]) = byts (List.replicate k 0) ++ [.int .u8 0] from List.map_append]
      · rw [getB_set (by omega), htk, List.mem_append, List.mem_singleton]
        by_cases e : v = frm[k]
        · rw [if_pos e]; subst e; cases far <;> simp
        · rw [if_neg e, hsn v hv9]; simp [e]
      · rw [htk, List.mem_append, List.mem_singleton] at hs
        rcases hs with hs | rfl
        · exact hnp hf s hs
        · first | exact hpk hf | (rw [hf] at hs32; exact absurd rfl hs32)
    refine TO.quiet (QT.toB (q_move rfl) (Bool.eq_false_iff.2 hs32)) ?_
    refine TO.passed rfl rfl ?_
    refine TO.passed rfl rfl ?_
    refine TO.passed rfl rfl ?_
    refine TO.quiet (q_pick0 rfl rfl) ?_
    refine TO.nil ?_
    refine T.cond0 rfl ?_
    refine T.skip (T.seq (T.region ?_))
    refine TO.quiet (q_move rfl) (TO.quiet (q_move rfl) (TO.quiet (q_build (cs := [.int .i64 ((frm[k] : Nat) : Int), .int .i64 (-1)]) plan129 inf129 (by kernel_rfl)) ?_))
    refine TO.loud rfl (l_buildSlice (m := 1) (parts := [(0, _)]) (cs := [.int .i64 ((frm[k] : Nat) : Int), .int .i64 (-1)]) Try.underlying127 inf129 (by decide) (by kernel_rfl) rfl (fun bx9 => ?_))
    refine TO.loud rfl (l_append 2 Try.underlying127 Try.underlying127 inf129 rfl rfl rfl rfl (by rw [stp_len]; simp; omega) (by decide) (Src.row (j := 0) rfl (by simp)) (by simp [oneB]) (by omega) (by decide) (by decide) (fun bx10 c11 => ?_))
    refine TO.quiet (q_move rfl) ?_
    refine TO.loud rfl (l_build1 (v := .int .u8 0) Try.underlying27 inf5 rfl rfl rfl (fun bx12 => ?_))
    refine TO.loud rfl (l_append 4 Try.underlying27 Try.underlying27 inf5 rfl rfl rfl rfl (by simp) (by decide) (Src.row (j := 0) rfl (by simp)) (by simp [oneB]) (by omega) (by decide) (by decide) (fun bx13 c14 => ?_))
    refine TO.quiet (q_assign rfl) (TO.quiet (q_assign rfl) ?_)
    refine TO.sub (O' := ([rowI (some ⟨bx2, 0, none⟩) n 4 1 (bools sn), rowI bx10 c11 129 2 ((stpC ((frm.take k).map fun s => ((s, -1) : Nat × Int))) ++ [.int .i64 ((frm[k] : Nat) : Int), .int .i64 (-1)]), rowI bx13 c14 5 1 ((byts (List.replicate k 0)) ++ [.int .u8 0]), oI bx1 26 (buCells b sb sc eb ec tb tc)] ++ OO)) (Sub.pickR [2, 2, 2, 2] [rowI (some ⟨bx12, 0, none⟩) 1 5 1 [.int .u8 0], rowI (some ⟨bx9, 0, none⟩) 1 129 2 [.int .i64 ((frm[k] : Nat) : Int), .int .i64 (-1)], rowI (some ⟨bx2, 0, none⟩) n 4 1 (bools sn), rowI bx10 c11 129 2 ((stpC ((frm.take k).map fun s => ((s, -1) : Nat × Int))) ++ [.int .i64 ((frm[k] : Nat) : Int), .int .i64 (-1)]), rowI bx13 c14 5 1 ((byts (List.replicate k 0)) ++ [.int .u8 0]), oI bx1 26 (buCells b sb sc eb ec tb tc)] OO rfl rfl) ?_
    refine TO.nil (T.region ?_)
    refine TO.quiet (q_move rfl) (TO.quiet (q_move rfl) (TO.quiet (q_move rfl) (TO.quiet (q_not rfl) ?_)))
    refine TO.quiet (q_ix (i := frm[k]) Try.underlying39 inf4 rfl rfl (rowO (List.mem_of_getElem? (i := 0) rfl))) ?_
    refine TO.loud rfl (l_st (j := frm[k]) (v := .bool (!far)) (vs := [(.bool (!far))]) (cs := bools sn) 0 inf4 rfl rfl rfl rfl rfl (by simp) rfl (by first | (simp; omega) | (simp_all; omega)) ?_)
    refine TO.sub (O' := ([rowI (some ⟨bx2, 0, none⟩) n 4 1 (bools (sn.set frm[k] (!far))), rowI bx10 c11 129 2 ((stpC ((frm.take k).map fun s => ((s, -1) : Nat × Int))) ++ [.int .i64 ((frm[k] : Nat) : Int), .int .i64 (-1)]), rowI bx13 c14 5 1 ((byts (List.replicate k 0)) ++ [.int .u8 0]), oI bx1 26 (buCells b sb sc eb ec tb tc)] ++ OO)) (by rw [show putL (bools sn) frm[k] [(.bool (!far))] = bools (sn.set frm[k] (!far)) from (by simp [putL])]; exact Sub.of (List.Sublist.refl _)) ?_
    refine TO.nil (T.region ?_)
    refine TO.quiet (q_addN (a := k) (b := 1) rfl rfl (by omega)) (TO.quiet (q_move rfl) ?_)
    refine TO.nil ?_
    have htk := List.take_succ_eq_append_getElem hlt27
    refine ⟨k + 1, by omega, sn.set frm[k] (!far), bx10, bx13, c11, c14, ?_, by omega, by simp [hsl], fun v hv9 => ?_, fun hf s hs => ?_, ⟨rfl, rfl, rfl, rfl, rfl, rfl, rfl, rfl, rfl, rfl, rfl, rfl, rfl, trivial⟩⟩
    · rw [htk, List.map_append, List.map_singleton, stp_snoc, List.replicate_succ', show byts (List.replicate k 0 ++ [0]) = byts (List.replicate k 0) ++ [.int .u8 0] from List.map_append]
    · rw [getB_set (by omega), htk, List.mem_append, List.mem_singleton]
      by_cases e : v = frm[k]
      · rw [if_pos e]; subst e; cases far <;> simp
      · rw [if_neg e, hsn v hv9]; simp [e]
    · rw [htk, List.mem_append, List.mem_singleton] at hs
      rcases hs with hs | rfl
      · exact hnp hf s hs
      · first | exact hpk hf | (rw [hf] at hs32; exact absurd rfl hs32)
  have hge27 : ¬ k < frm.length := by omega
  refine T.exit ?_
  refine T.seq (T.seq (T.region ?_))
  refine TO.quiet (q_assign rfl) ?_
  refine TO.nil (T.block ?_)
  have hkf : k = frm.length := by omega
  subst hkf
  rw [List.take_length] at hsn hnp
  refine T.loop (fun (i : Nat) ρ O => ∃ (sts : List (Nat × Int)) (la : List Nat) (sn2 : List Bool) (sb3 lb3 : Option Addr) (sc3 lc3 : Nat), O = ([rowI (some ⟨bx2, 0, none⟩) n 4 1 (bools sn2), rowI sb3 sc3 129 2 (stpC sts), rowI lb3 lc3 5 1 (byts la), oI bx1 26 (buCells b sb sc eb ec tb tc)] ++ OO) ∧ i ≤ sts.length ∧ LetP b n (fun v => av.getD v false) p frm far sts la sn2 i 0 ∧ (sts.filter (fun q => q.2 != -1)).length + frm.length = sts.length ∧ Heads [(0, (.agg (buCells b sb sc eb ec tb tc).toArray)), (1, (.slice fb frm.length fc)), (2, (.slice ab av.length ac)), (3, .bool far), (4, fv), (5, (.pointer (some ⟨bx1, 0, none⟩))), (10, (.slice none 0 0)), (12, (.slice (some ⟨bx2, 0, none⟩) n n)), (13, (.slice sb3 sts.length sc3)), (14, (.slice lb3 la.length lc3)), (17, .int .i64 (i : Int))] ρ) (fun i => frm.length + n + 1 - i) 0 ?_ ?_
  · refine ⟨frm.map (fun s => (s, -1)), List.replicate frm.length 0, sn, sb2, lb2, sc2, lc2, by rw [List.take_length], Nat.zero_le _, LetP.start hfn hnd hsl hsn hnp, by rw [start_nr]; simp, ⟨rfl, rfl, rfl, rfl, rfl, rfl, rfl, rfl, (by rw [List.length_map]; rfl), (by rw [List.length_replicate]; rfl), rfl, trivial⟩⟩
  rintro i ρ O ⟨sts, la, sn2, sb3, lb3, sc3, lc3, rfl, hi, hlp, hcn, hH⟩
  obtain ⟨ρ0, rfl⟩ := hH.elim
  clear hH
  have hll := hlp.ch.ll; have hsl2 := hlp.ls
  refine T.seq (T.seq (T.region ?_))
  refine TO.quiet (q_move rfl) (TO.quiet (q_move rfl) (TO.quiet (q_len Try.underlying127 rfl) (TO.quiet (q_lss rfl rfl) ?_)))
  refine TO.nil ?_
  refine T.condP rfl (fun hc => ?_) (fun hc => ?_)
  · have hlt55 : i < sts.length := by omega
    refine T.skip (T.seq (T.block (T.seq (T.region ?_))))
    refine TO.quiet (q_fieldAddr Try.underlying26 rfl inf23 rfl rfl) (TO.quiet (q_load_box 3 Try.underlying23 rfl rfl rfl rfl) (TO.quiet (q_len Try.underlying23 rfl) (TO.quiet (q_move rfl) ?_)))
    refine TO.nil (T.block ?_)
    refine T.loopS (fun (j : Nat) ρ O => ∃ (sts3 : List (Nat × Int)) (la3 : List Nat) (sn3 : List Bool) (sb4 lb4 : Option Addr) (sc4 lc4 : Nat), O = ([rowI (some ⟨bx2, 0, none⟩) n 4 1 (bools sn3), rowI sb4 sc4 129 2 (stpC sts3), rowI lb4 lc4 5 1 (byts la3), oI bx1 26 (buCells b sb sc eb ec tb tc)] ++ OO) ∧ j ≤ b.edges.length ∧ i < sts3.length ∧ LetP b n (fun v => av.getD v false) p frm far sts3 la3 sn3 i j ∧ (sts3.filter (fun q => q.2 != -1)).length + frm.length = sts3.length ∧ Heads [(0, (.agg (buCells b sb sc eb ec tb tc).toArray)), (1, (.slice fb frm.length fc)), (2, (.slice ab av.length ac)), (3, .bool far), (4, fv), (5, (.pointer (some ⟨bx1, 0, none⟩))), (10, (.slice none 0 0)), (12, (.slice (some ⟨bx2, 0, none⟩) n n)), (13, (.slice sb4 sts3.length sc4)), (14, (.slice lb4 la3.length lc4)), (17, .int .i64 (i : Int)), (59, (.slice eb b.edges.length ec)), (60, .int .i64 (b.edges.length : Int)), (61, .int .i64 (j : Int))] ρ) (fun j => b.edges.length - j) 0 ?_ ?_
    · exact ⟨sts, la, sn2, sb3, lb3, sc3, lc3, rfl, Nat.zero_le _, by omega, hlp, hcn, ⟨rfl, rfl, rfl, rfl, rfl, rfl, rfl, rfl, rfl, rfl, rfl, rfl, rfl, rfl, trivial⟩⟩
    rintro j ρ O ⟨sts3, la3, sn3, sb4, lb4, sc4, lc4, rfl, hj, hi3, hlp3, hcn3, hH⟩
    obtain ⟨ρ0, rfl⟩ := hH.elim
    clear hH
    have hll3 := hlp3.ch.ll; have hsl3 := hlp3.ls; have hle3 := hlp3.ch.len_le
    refine T.seq (T.region ?_)
    refine TO.quiet (q_lss rfl rfl) ?_
    refine TO.nil (T.seq ?_)
    refine T.condP rfl (fun hc => ?_) (fun hc => ?_)
    · have hlt62 : j < b.edges.length := by omega
      obtain ⟨u, hu, hun⟩ : ∃ u : Nat, b.edges[j].to = (u : Int) ∧ u < n := by
        have := (hv.ed _ (List.getElem_mem hlt62)).2
        exact ⟨b.edges[j].to.toNat, by omega, by omega⟩
      refine T.skip (T.seq (T.block (T.seq (T.region ?_))))
      refine TO.quiet (q_ixK (i := j) Try.underlying23 inf54 rfl rfl (Sl.o h.ed) (by first | assumption | omega | (simp; omega) | simp_all) (by first | (rw [eds_len]; omega) | (simp [eds_len]; omega) | (simp_all [eds_len]; omega))) (TO.quiet (q_ldK (vs := [.int .i64 b.edges[j].fr, .int .i64 b.edges[j].to, .int .u8 ((b.edges[j].pos : Nat) : Int), .int .u8 ((b.edges[j].neg : Nat) : Int)]) Try.underlying54 rfl inf54 rfl rfl (Nat.succ_pos _) (Sl.o h.ed) (eds_get (by first | assumption | omega | (simp; omega) | simp_all))) ?_)
      refine TO.loud rfl (l_alloc inf54 rfl (fun bx15 => ?_))
      refine TO.loud rfl (l_store_box (v := (.agg #[.int .i64 b.edges[j].fr, .int .i64 b.edges[j].to, .int .u8 ((b.edges[j].pos : Nat) : Int), .int .u8 ((b.edges[j].neg : Nat) : Int)])) (vs := [.int .i64 b.edges[j].fr, .int .i64 b.edges[j].to, .int .u8 ((b.edges[j].pos : Nat) : Int), .int .u8 ((b.edges[j].neg : Nat) : Int)]) 0 inf54 rfl rfl rfl rfl rfl rfl (by simp [putL]) ?_)
      refine TO.nil (T.seq (T.seq ?_))
      refine T.draws _ [(0, 0), (1, 0), (2, 0), (3, 0), (4, 0), (5, 0), (6, 0), (7, 0), (8, 0), (9, 0), (10, 0), (11, 0), (12, 0), (13, 0), (14, 0), (15, 0), (16, 0), (17, 0), (18, 0), (19, 0), (20, 0), (21, 0), (22, 0)] mixed (by kernel_rfl) (Sub.of (List.Sublist.refl _)) (fun _ _ _ h => h) ?_
      refine DO.quiet rfl (q_fieldAddr Try.underlying54 rfl inf3 rfl rfl) (DO.quiet rfl (q_load_box 0 Try.underlying3 rfl rfl rfl rfl) (DO.quiet rfl (q_move rfl) (DO.quiet rfl (q_move rfl) ?_)))
      refine DO.quiet rfl (q_ixK (i := i) Try.underlying127 inf129 rfl rfl (rowO (List.mem_of_getElem? (i := 2) rfl)) (by first | assumption | omega | (simp; omega) | simp_all) (by first | (rw [stp_len]; omega) | (simp [stp_len]; omega) | (simp_all [stp_len]; omega))) (DO.quiet rfl (q_fieldEl Try.underlying129 rfl inf3 rfl rfl (rowO (List.mem_of_getElem? (i := 2) rfl)) (by first | (rw [stp_len]; omega) | (simp [stp_len]; omega) | (simp_all [stp_len]; omega))) (DO.quiet rfl (q_ld Try.underlying3 rfl rfl (rowO (List.mem_of_getElem? (i := 2) rfl)) (stp_get (by first | assumption | omega | (simp; omega) | simp_all) 0 (by decide))) (DO.quiet rfl (q_neq rfl rfl) ?_)))
      by_cases hs73 : b.edges[j].fr ≠ ((sts3[i].1 : Nat) : Int)
      · refine DO.quiet rfl (QT.toB (q_move rfl) (decide_eq_true hs73)) ?_
        refine DO.passed rfl rfl rfl ?_
        refine DO.passed rfl rfl rfl ?_
        refine DO.passed rfl rfl rfl ?_
        refine DO.passed rfl rfl rfl ?_
        refine DO.passed rfl rfl rfl ?_
        refine DO.quiet rfl (q_pick1 rfl rfl) (DO.quiet rfl (q_move rfl) ?_)
        refine DO.passed rfl rfl rfl ?_
        refine DO.passed rfl rfl rfl ?_
        refine DO.passed rfl rfl rfl ?_
        refine DO.passed rfl rfl rfl ?_
        refine DO.passed rfl rfl rfl ?_
        refine DO.passed rfl rfl rfl ?_
        refine DO.quiet rfl (q_pick1 rfl rfl) ?_
        refine DO.done ?_
        refine T.cond1 rfl ?_
        refine T.exit ?_
        refine T.region ?_
        refine TO.quiet (q_addN (a := j) (b := 1) rfl rfl (by omega)) (TO.quiet (q_move rfl) ?_)
        refine TO.nil ?_
        exact ⟨j + 1, by omega, ([rowI (some ⟨bx2, 0, none⟩) n 4 1 (bools sn3), rowI sb4 sc4 129 2 (stpC sts3), rowI lb4 lc4 5 1 (byts la3), oI bx1 26 (buCells b sb sc eb ec tb tc)] ++ OO), (Sub.pickR [1, 1, 1, 1] [oI bx15 54 [.int .i64 b.edges[j].fr, .int .i64 b.edges[j].to, .int .u8 ((b.edges[j].pos : Nat) : Int), .int .u8 ((b.edges[j].neg : Nat) : Int)], rowI (some ⟨bx2, 0, none⟩) n 4 1 (bools sn3), rowI sb4 sc4 129 2 (stpC sts3), rowI lb4 lc4 5 1 (byts la3), oI bx1 26 (buCells b sb sc eb ec tb tc)] OO rfl rfl), sts3, la3, sn3, sb4, lb4, sc4, lc4, rfl, by omega, hi3, hlp3.skip hlt62 hi3 (by
          rintro ⟨h1, h2, h3⟩
          rw [hu, Int.toNat_natCast] at h2 h3
          exact hs73 h1), hcn3, ⟨rfl, rfl, rfl, rfl, rfl, rfl, rfl, rfl, rfl, rfl, rfl, rfl, rfl, rfl, trivial⟩⟩
      refine DO.quiet rfl (QT.toB (q_move rfl) (decide_eq_false hs73)) ?_
      refine DO.guarded rfl rfl rfl (q_move rfl) ?_
      refine DO.guarded rfl rfl rfl (q_fieldAddr Try.underlying54 rfl inf3 rfl rfl) ?_
      refine DO.guarded rfl rfl rfl (QT.cast (q_load_box 0 Try.underlying3 rfl rfl rfl rfl) (v' := .int .i64 ((u : Nat) : Int)) (by show Value.int _ _ = _; rw [hu])) ?_
      refine DO.guarded rfl rfl rfl (q_ix (i := u) Try.underlying39 inf4 rfl rfl (rowO (List.mem_of_getElem? (i := 1) rfl))) ?_
      refine DO.guarded rfl rfl rfl (q_ld Try.underlying4 rfl rfl (rowO (List.mem_of_getElem? (i := 1) rfl)) bools_get) ?_
      refine DO.quiet rfl (q_pick0 rfl rfl) ?_
      by_cases hs80 : sn3[u] = true
      · refine DO.quiet rfl (QT.toB (q_move rfl) (hs80)) ?_
        refine DO.passed rfl rfl rfl ?_
        refine DO.passed rfl rfl rfl ?_
        refine DO.passed rfl rfl rfl ?_
        refine DO.passed rfl rfl rfl ?_
        refine DO.passed rfl rfl rfl ?_
        refine DO.passed rfl rfl rfl ?_
        refine DO.quiet rfl (q_pick1 rfl rfl) ?_
        refine DO.done ?_
        refine T.cond1 rfl ?_
        refine T.exit ?_
        refine T.region ?_
        refine TO.quiet (q_addN (a := j) (b := 1) rfl rfl (by omega)) (TO.quiet (q_move rfl) ?_)
        refine TO.nil ?_
        exact ⟨j + 1, by omega, ([rowI (some ⟨bx2, 0, none⟩) n 4 1 (bools sn3), rowI sb4 sc4 129 2 (stpC sts3), rowI lb4 lc4 5 1 (byts la3), oI bx1 26 (buCells b sb sc eb ec tb tc)] ++ OO), (Sub.pickR [1, 1, 1, 1] [oI bx15 54 [.int .i64 b.edges[j].fr, .int .i64 b.edges[j].to, .int .u8 ((b.edges[j].pos : Nat) : Int), .int .u8 ((b.edges[j].neg : Nat) : Int)], rowI (some ⟨bx2, 0, none⟩) n 4 1 (bools sn3), rowI sb4 sc4 129 2 (stpC sts3), rowI lb4 lc4 5 1 (byts la3), oI bx1 26 (buCells b sb sc eb ec tb tc)] OO rfl rfl), sts3, la3, sn3, sb4, lb4, sc4, lc4, rfl, by omega, hi3, hlp3.skip hlt62 hi3 (by
          rintro ⟨h1, h2, h3⟩
          rw [hu, Int.toNat_natCast] at h2 h3
          rw [gb (by omega)] at h2; exact h2 hs80), hcn3, ⟨rfl, rfl, rfl, rfl, rfl, rfl, rfl, rfl, rfl, rfl, rfl, rfl, rfl, rfl, trivial⟩⟩
      refine DO.quiet rfl (QT.toB (q_move rfl) (Bool.eq_false_iff.2 hs80)) ?_
      refine DO.guarded rfl rfl rfl (q_move rfl) ?_
      refine DO.guarded rfl rfl rfl (q_fieldAddr Try.underlying54 rfl inf3 rfl rfl) ?_
      refine DO.guarded rfl rfl rfl (QT.cast (q_load_box 0 Try.underlying3 rfl rfl rfl rfl) (v' := .int .i64 ((u : Nat) : Int)) (by show Value.int _ _ = _; rw [hu])) ?_
      refine DO.guarded rfl rfl rfl (q_ix (i := u) Try.underlying39 inf4 rfl rfl (fun w hI => hA w (Inv.right (A := [_, _, _, _, _]) hI))) ?_
      refine DO.guarded rfl rfl rfl (q_ld Try.underlying4 rfl rfl (fun w hI => hA w (Inv.right (A := [_, _, _, _, _]) hI)) bools_get) ?_
      refine DO.guarded rfl rfl rfl (q_not rfl) ?_
      refine DO.quiet rfl (q_pick0 rfl rfl) ?_
      refine DO.done ?_
      refine T.cond rfl (fun hc => ?_) (fun hc => ?_)
      · refine T.exit ?_
        refine T.region ?_
        refine TO.quiet (q_addN (a := j) (b := 1) rfl rfl (by omega)) (TO.quiet (q_move rfl) ?_)
        refine TO.nil ?_
        exact ⟨j + 1, by omega, ([rowI (some ⟨bx2, 0, none⟩) n 4 1 (bools sn3), rowI sb4 sc4 129 2 (stpC sts3), rowI lb4 lc4 5 1 (byts la3), oI bx1 26 (buCells b sb sc eb ec tb tc)] ++ OO), (Sub.pickR [1, 1, 1, 1] [oI bx15 54 [.int .i64 b.edges[j].fr, .int .i64 b.edges[j].to, .int .u8 ((b.edges[j].pos : Nat) : Int), .int .u8 ((b.edges[j].neg : Nat) : Int)], rowI (some ⟨bx2, 0, none⟩) n 4 1 (bools sn3), rowI sb4 sc4 129 2 (stpC sts3), rowI lb4 lc4 5 1 (byts la3), oI bx1 26 (buCells b sb sc eb ec tb tc)] OO rfl rfl), sts3, la3, sn3, sb4, lb4, sc4, lc4, rfl, by omega, hi3, hlp3.skip hlt62 hi3 (by
          rintro ⟨h1, h2, h3⟩
          rw [hu, Int.toNat_natCast] at h2 h3
          rw [gb (by omega)] at h3; rw [h3] at hc; simp at hc), hcn3, ⟨rfl, rfl, rfl, rfl, rfl, rfl, rfl, rfl, rfl, rfl, rfl, rfl, rfl, rfl, trivial⟩⟩
      have hfr : b.edges[j].fr = (sts3[i].1 : Int) := by omega
      have hns : ¬ sn3.getD u false = true := by rw [gb (by omega)]; exact hs80
      have hau : av.getD u false = true := by rw [gb (by omega)]; simpa using hc
      refine T.skip (T.seq (T.region ?_))
      refine TO.quiet (q_move rfl) (TO.quiet (q_fieldAddr Try.underlying54 rfl inf3 rfl rfl) (TO.quiet (QT.cast (q_load_box 0 Try.underlying3 rfl rfl rfl rfl) (v' := .int .i64 ((u : Nat) : Int)) (by show Value.int _ _ = _; rw [hu])) (TO.quiet (q_ix (i := u) Try.underlying39 inf4 rfl rfl (rowO (List.mem_of_getElem? (i := 1) rfl))) ?_)))
      refine TO.loud rfl (l_st (j := u) (v := .bool true) (vs := [(.bool true)]) (cs := bools sn3) 1 inf4 rfl rfl rfl rfl rfl (by simp) rfl (by first | (simp; omega) | (simp_all; omega)) ?_)
      refine TO.sub (O' := ([oI bx15 54 [.int .i64 b.edges[j].fr, .int .i64 b.edges[j].to, .int .u8 ((b.edges[j].pos : Nat) : Int), .int .u8 ((b.edges[j].neg : Nat) : Int)], rowI (some ⟨bx2, 0, none⟩) n 4 1 (bools (sn3.set u true)), rowI sb4 sc4 129 2 (stpC sts3), rowI lb4 lc4 5 1 (byts la3), oI bx1 26 (buCells b sb sc eb ec tb tc)] ++ OO)) (by rw [show putL (bools sn3) u [(.bool true)] = bools (sn3.set u true) from (by simp [putL])]; exact Sub.of (List.Sublist.refl _)) ?_
      refine TO.nil ?_
      refine T.cut (fun ρ O => ∃ (sb5 lb5 : Option Addr) (sc5 lc5 : Nat), O = ([rowI (some ⟨bx2, 0, none⟩) n 4 1 (bools (sn3.set u true)), rowI sb5 sc5 129 2 ((stpC sts3) ++ [.int .i64 ((u : Nat) : Int), .int .i64 (i : Int)]), rowI lb5 lc5 5 1 ((byts la3) ++ [.int .u8 ((b.edges[j].pos : Nat) : Int)]), oI bx1 26 (buCells b sb sc eb ec tb tc), oI bx15 54 [.int .i64 b.edges[j].fr, .int .i64 b.edges[j].to, .int .u8 ((b.edges[j].pos : Nat) : Int), .int .u8 ((b.edges[j].neg : Nat) : Int)]] ++ OO) ∧ Heads [(0, (.agg (buCells b sb sc eb ec tb tc).toArray)), (1, (.slice fb frm.length fc)), (2, (.slice ab av.length ac)), (3, .bool far), (4, fv), (5, (.pointer (some ⟨bx1, 0, none⟩))), (10, (.slice none 0 0)), (12, (.slice (some ⟨bx2, 0, none⟩) n n)), (13, (.slice sb5 (sts3.length + 1) sc5)), (14, (.slice lb5 (la3.length + 1) lc5)), (17, .int .i64 (i : Int)), (19, (.pointer (some ⟨bx15, 0, none⟩))), (59, (.slice eb b.edges.length ec)), (60, .int .i64 (b.edges.length : Int)), (61, .int .i64 (j : Int))] ρ) ?_ ?_
      · refine T.tree [oI bx15 54 [.int .i64 b.edges[j].fr, .int .i64 b.edges[j].to, .int .u8 ((b.edges[j].pos : Nat) : Int), .int .u8 ((b.edges[j].neg : Nat) : Int)]] 14 mixed rfl (Sub.pick0 [0] [oI bx15 54 [.int .i64 b.edges[j].fr, .int .i64 b.edges[j].to, .int .u8 ((b.edges[j].pos : Nat) : Int), .int .u8 ((b.edges[j].neg : Nat) : Int)], rowI (some ⟨bx2, 0, none⟩) n 4 1 (bools (sn3.set u true)), rowI sb4 sc4 129 2 (stpC sts3), rowI lb4 lc4 5 1 (byts la3), oI bx1 26 (buCells b sb sc eb ec tb tc)] OO rfl rfl) (fun _ _ _ h => h) ?_
        refine RO.quietT 0 rfl (by kernel_rfl) (q_move rfl) ?_
        refine RO.quietT 1 rfl (by kernel_rfl) (q_fieldAddr Try.underlying54 rfl inf3 rfl rfl) ?_
        refine RO.quietT 2 rfl (by kernel_rfl) (QT.cast (q_load_box 0 Try.underlying3 rfl rfl rfl rfl) (v' := .int .i64 ((u : Nat) : Int)) (by show Value.int _ _ = _; rw [hu])) ?_
        refine RO.quietT 3 rfl (by kernel_rfl) (q_move rfl) ?_
        refine RO.quietT 4 rfl (by kernel_rfl) (q_build (cs := [.int .i64 ((u : Nat) : Int), .int .i64 (i : Int)]) plan129 inf129 (by kernel_rfl)) ?_
        refine RO.quietT 7 rfl (by kernel_rfl) (q_move rfl) ?_
        refine RO.quietT 8 rfl (by kernel_rfl) (q_fieldAddr Try.underlying54 rfl inf5 rfl rfl) ?_
        refine RO.quietT 9 rfl (by kernel_rfl) (q_load_box 0 Try.underlying5 rfl rfl rfl rfl) ?_
        refine RO.fork [5, 10] (by kernel_rfl) rfl ⟨⟨_, rfl, rfl, l_buildSlice (m := 1) (parts := [(0, _)]) (cs := [.int .i64 ((u : Nat) : Int), .int .i64 (i : Int)]) Try.underlying127 inf129 (by decide) (by kernel_rfl) rfl (fun zP => ⟨Sub.pick0 [1] [rowI (some ⟨zP, 0, none⟩) 1 129 2 [.int .i64 ((u : Nat) : Int), .int .i64 (i : Int)], oI bx15 54 [.int .i64 b.edges[j].fr, .int .i64 b.edges[j].to, .int .u8 ((b.edges[j].pos : Nat) : Int), .int .u8 ((b.edges[j].neg : Nat) : Int)], rowI (some ⟨bx2, 0, none⟩) n 4 1 (bools (sn3.set u true)), rowI sb4 sc4 129 2 (stpC sts3), rowI lb4 lc4 5 1 (byts la3), oI bx1 26 (buCells b sb sc eb ec tb tc)] OO rfl rfl, ?_⟩)⟩, ⟨_, rfl, rfl, l_build1 (v := .int .u8 ((b.edges[j].pos : Nat) : Int)) Try.underlying27 inf5 rfl rfl rfl (fun zQ => ⟨Sub.pick0 [1] [rowI (some ⟨zQ, 0, none⟩) 1 5 1 [.int .u8 ((b.edges[j].pos : Nat) : Int)], oI bx15 54 [.int .i64 b.edges[j].fr, .int .i64 b.edges[j].to, .int .u8 ((b.edges[j].pos : Nat) : Int), .int .u8 ((b.edges[j].neg : Nat) : Int)], rowI (some ⟨bx2, 0, none⟩) n 4 1 (bools (sn3.set u true)), rowI sb4 sc4 129 2 (stpC sts3), rowI lb4 lc4 5 1 (byts la3), oI bx1 26 (buCells b sb sc eb ec tb tc)] OO rfl rfl, ?_⟩)⟩, trivial⟩
        · refine RO.fork [6, 10] (by kernel_rfl) rfl ⟨⟨_, rfl, rfl, l_append 3 Try.underlying127 Try.underlying127 inf129 rfl rfl rfl rfl (stp_len _) (by decide) (Src.row (j := 0) rfl (by simp)) (by simp [oneB]) (by omega) (by decide) (by decide) (fun sb5 sc5 => ⟨Sub.pick0 [1] [rowI (some ⟨zP, 0, none⟩) 1 129 2 [.int .i64 ((u : Nat) : Int), .int .i64 (i : Int)], oI bx15 54 [.int .i64 b.edges[j].fr, .int .i64 b.edges[j].to, .int .u8 ((b.edges[j].pos : Nat) : Int), .int .u8 ((b.edges[j].neg : Nat) : Int)], rowI (some ⟨bx2, 0, none⟩) n 4 1 (bools (sn3.set u true)), rowI sb5 sc5 129 2 ((stpC sts3) ++ [.int .i64 ((u : Nat) : Int), .int .i64 (i : Int)]), rowI lb4 lc4 5 1 (byts la3), oI bx1 26 (buCells b sb sc eb ec tb tc)] OO rfl rfl, ?_⟩)⟩, ⟨_, rfl, rfl, l_build1 (v := .int .u8 ((b.edges[j].pos : Nat) : Int)) Try.underlying27 inf5 rfl rfl rfl (fun zQ => ⟨Sub.pick0 [2] [rowI (some ⟨zQ, 0, none⟩) 1 5 1 [.int .u8 ((b.edges[j].pos : Nat) : Int)], rowI (some ⟨zP, 0, none⟩) 1 129 2 [.int .i64 ((u : Nat) : Int), .int .i64 (i : Int)], oI bx15 54 [.int .i64 b.edges[j].fr, .int .i64 b.edges[j].to, .int .u8 ((b.edges[j].pos : Nat) : Int), .int .u8 ((b.edges[j].neg : Nat) : Int)], rowI (some ⟨bx2, 0, none⟩) n 4 1 (bools (sn3.set u true)), rowI sb4 sc4 129 2 (stpC sts3), rowI lb4 lc4 5 1 (byts la3), oI bx1 26 (buCells b sb sc eb ec tb tc)] OO rfl rfl, ?_⟩)⟩, trivial⟩
          · refine RO.fork [10] (by kernel_rfl) rfl ⟨⟨_, rfl, rfl, l_build1 (v := .int .u8 ((b.edges[j].pos : Nat) : Int)) Try.underlying27 inf5 rfl rfl rfl (fun zQ => ⟨Sub.pick0 [2] [rowI (some ⟨zQ, 0, none⟩) 1 5 1 [.int .u8 ((b.edges[j].pos : Nat) : Int)], rowI (some ⟨zP, 0, none⟩) 1 129 2 [.int .i64 ((u : Nat) : Int), .int .i64 (i : Int)], oI bx15 54 [.int .i64 b.edges[j].fr, .int .i64 b.edges[j].to, .int .u8 ((b.edges[j].pos : Nat) : Int), .int .u8 ((b.edges[j].neg : Nat) : Int)], rowI (some ⟨bx2, 0, none⟩) n 4 1 (bools (sn3.set u true)), rowI sb5 sc5 129 2 ((stpC sts3) ++ [.int .i64 ((u : Nat) : Int), .int .i64 (i : Int)]), rowI lb4 lc4 5 1 (byts la3), oI bx1 26 (buCells b sb sc eb ec tb tc)] OO rfl rfl, ?_⟩)⟩, trivial⟩
            refine RO.fork [11] (by kernel_rfl) rfl ⟨⟨_, rfl, rfl, l_append 5 Try.underlying27 Try.underlying27 inf5 rfl rfl rfl rfl (by simp) (by decide) (Src.row (j := 0) rfl (by simp)) (by simp [oneB]) (by omega) (by decide) (by decide) (fun lb5 lc5 => ⟨Sub.pick0 [2] [rowI (some ⟨zQ, 0, none⟩) 1 5 1 [.int .u8 ((b.edges[j].pos : Nat) : Int)], rowI (some ⟨zP, 0, none⟩) 1 129 2 [.int .i64 ((u : Nat) : Int), .int .i64 (i : Int)], oI bx15 54 [.int .i64 b.edges[j].fr, .int .i64 b.edges[j].to, .int .u8 ((b.edges[j].pos : Nat) : Int), .int .u8 ((b.edges[j].neg : Nat) : Int)], rowI (some ⟨bx2, 0, none⟩) n 4 1 (bools (sn3.set u true)), rowI sb5 sc5 129 2 ((stpC sts3) ++ [.int .i64 ((u : Nat) : Int), .int .i64 (i : Int)]), rowI lb5 lc5 5 1 ((byts la3) ++ [.int .u8 ((b.edges[j].pos : Nat) : Int)]), oI bx1 26 (buCells b sb sc eb ec tb tc)] OO rfl rfl, ?_⟩)⟩, trivial⟩
            refine RO.quietT 12 rfl (by kernel_rfl) (q_assign rfl) ?_
            refine RO.quietT 13 rfl (by kernel_rfl) (q_assign rfl) ?_
            exact RO.fin (by kernel_rfl) ⟨sb5, lb5, sc5, lc5, rfl, ⟨rfl, rfl, rfl, rfl, rfl, rfl, rfl, rfl, rfl, rfl, rfl, rfl, rfl, rfl, rfl, trivial⟩⟩ (Sub.pickR [3, 3, 3, 3, 2] [rowI (some ⟨zQ, 0, none⟩) 1 5 1 [.int .u8 ((b.edges[j].pos : Nat) : Int)], rowI (some ⟨zP, 0, none⟩) 1 129 2 [.int .i64 ((u : Nat) : Int), .int .i64 (i : Int)], oI bx15 54 [.int .i64 b.edges[j].fr, .int .i64 b.edges[j].to, .int .u8 ((b.edges[j].pos : Nat) : Int), .int .u8 ((b.edges[j].neg : Nat) : Int)], rowI (some ⟨bx2, 0, none⟩) n 4 1 (bools (sn3.set u true)), rowI sb5 sc5 129 2 ((stpC sts3) ++ [.int .i64 ((u : Nat) : Int), .int .i64 (i : Int)]), rowI lb5 lc5 5 1 ((byts la3) ++ [.int .u8 ((b.edges[j].pos : Nat) : Int)]), oI bx1 26 (buCells b sb sc eb ec tb tc)] OO rfl rfl)
          refine RO.fork [6] (by kernel_rfl) rfl ⟨⟨_, rfl, rfl, l_append 4 Try.underlying127 Try.underlying127 inf129 rfl rfl rfl rfl (stp_len _) (by decide) (Src.row (j := 1) rfl (by simp)) (by simp [oneB]) (by omega) (by decide) (by decide) (fun sb5 sc5 => ⟨Sub.pick0 [2] [rowI (some ⟨zQ, 0, none⟩) 1 5 1 [.int .u8 ((b.edges[j].pos : Nat) : Int)], rowI (some ⟨zP, 0, none⟩) 1 129 2 [.int .i64 ((u : Nat) : Int), .int .i64 (i : Int)], oI bx15 54 [.int .i64 b.edges[j].fr, .int .i64 b.edges[j].to, .int .u8 ((b.edges[j].pos : Nat) : Int), .int .u8 ((b.edges[j].neg : Nat) : Int)], rowI (some ⟨bx2, 0, none⟩) n 4 1 (bools (sn3.set u true)), rowI sb5 sc5 129 2 ((stpC sts3) ++ [.int .i64 ((u : Nat) : Int), .int .i64 (i : Int)]), rowI lb4 lc4 5 1 (byts la3), oI bx1 26 (buCells b sb sc eb ec tb tc)] OO rfl rfl, ?_⟩)⟩, trivial⟩
          refine RO.fork [11] (by kernel_rfl) rfl ⟨⟨_, rfl, rfl, l_append 5 Try.underlying27 Try.underlying27 inf5 rfl rfl rfl rfl (by simp) (by decide) (Src.row (j := 0) rfl (by simp)) (by simp [oneB]) (by omega) (by decide) (by decide) (fun lb5 lc5 => ⟨Sub.pick0 [2] [rowI (some ⟨zQ, 0, none⟩) 1 5 1 [.int .u8 ((b.edges[j].pos : Nat) : Int)], rowI (some ⟨zP, 0, none⟩) 1 129 2 [.int .i64 ((u : Nat) : Int), .int .i64 (i : Int)], oI bx15 54 [.int .i64 b.edges[j].fr, .int .i64 b.edges[j].to, .int .u8 ((b.edges[j].pos : Nat) : Int), .int .u8 ((b.edges[j].neg : Nat) : Int)], rowI (some ⟨bx2, 0, none⟩) n 4 1 (bools (sn3.set u true)), rowI sb5 sc5 129 2 ((stpC sts3) ++ [.int .i64 ((u : Nat) : Int), .int .i64 (i : Int)]), rowI lb5 lc5 5 1 ((byts la3) ++ [.int .u8 ((b.edges[j].pos : Nat) : Int)]), oI bx1 26 (buCells b sb sc eb ec tb tc)] OO rfl rfl, ?_⟩)⟩, trivial⟩
          refine RO.quietT 12 rfl (by kernel_rfl) (q_assign rfl) ?_
          refine RO.quietT 13 rfl (by kernel_rfl) (q_assign rfl) ?_
          exact RO.fin (by kernel_rfl) ⟨sb5, lb5, sc5, lc5, rfl, ⟨rfl, rfl, rfl, rfl, rfl, rfl, rfl, rfl, rfl, rfl, rfl, rfl, rfl, rfl, rfl, trivial⟩⟩ (Sub.pickR [3, 3, 3, 3, 2] [rowI (some ⟨zQ, 0, none⟩) 1 5 1 [.int .u8 ((b.edges[j].pos : Nat) : Int)], rowI (some ⟨zP, 0, none⟩) 1 129 2 [.int .i64 ((u : Nat) : Int), .int .i64 (i : Int)], oI bx15 54 [.int .i64 b.edges[j].fr, .int .i64 b.edges[j].to, .int .u8 ((b.edges[j].pos : Nat) : Int), .int .u8 ((b.edges[j].neg : Nat) : Int)], rowI (some ⟨bx2, 0, none⟩) n 4 1 (bools (sn3.set u true)), rowI sb5 sc5 129 2 ((stpC sts3) ++ [.int .i64 ((u : Nat) : Int), .int .i64 (i : Int)]), rowI lb5 lc5 5 1 ((byts la3) ++ [.int .u8 ((b.edges[j].pos : Nat) : Int)]), oI bx1 26 (buCells b sb sc eb ec tb tc)] OO rfl rfl)
        refine RO.fork [5] (by kernel_rfl) rfl ⟨⟨_, rfl, rfl, l_buildSlice (m := 1) (parts := [(0, _)]) (cs := [.int .i64 ((u : Nat) : Int), .int .i64 (i : Int)]) Try.underlying127 inf129 (by decide) (by kernel_rfl) rfl (fun zP => ⟨Sub.pick0 [2] [rowI (some ⟨zP, 0, none⟩) 1 129 2 [.int .i64 ((u : Nat) : Int), .int .i64 (i : Int)], rowI (some ⟨zQ, 0, none⟩) 1 5 1 [.int .u8 ((b.edges[j].pos : Nat) : Int)], oI bx15 54 [.int .i64 b.edges[j].fr, .int .i64 b.edges[j].to, .int .u8 ((b.edges[j].pos : Nat) : Int), .int .u8 ((b.edges[j].neg : Nat) : Int)], rowI (some ⟨bx2, 0, none⟩) n 4 1 (bools (sn3.set u true)), rowI sb4 sc4 129 2 (stpC sts3), rowI lb4 lc4 5 1 (byts la3), oI bx1 26 (buCells b sb sc eb ec tb tc)] OO rfl rfl, ?_⟩)⟩, trivial⟩
        refine RO.fork [6] (by kernel_rfl) rfl ⟨⟨_, rfl, rfl, l_append 4 Try.underlying127 Try.underlying127 inf129 rfl rfl rfl rfl (stp_len _) (by decide) (Src.row (j := 0) rfl (by simp)) (by simp [oneB]) (by omega) (by decide) (by decide) (fun sb5 sc5 => ⟨Sub.pick0 [2] [rowI (some ⟨zP, 0, none⟩) 1 129 2 [.int .i64 ((u : Nat) : Int), .int .i64 (i : Int)], rowI (some ⟨zQ, 0, none⟩) 1 5 1 [.int .u8 ((b.edges[j].pos : Nat) : Int)], oI bx15 54 [.int .i64 b.edges[j].fr, .int .i64 b.edges[j].to, .int .u8 ((b.edges[j].pos : Nat) : Int), .int .u8 ((b.edges[j].neg : Nat) : Int)], rowI (some ⟨bx2, 0, none⟩) n 4 1 (bools (sn3.set u true)), rowI sb5 sc5 129 2 ((stpC sts3) ++ [.int .i64 ((u : Nat) : Int), .int .i64 (i : Int)]), rowI lb4 lc4 5 1 (byts la3), oI bx1 26 (buCells b sb sc eb ec tb tc)] OO rfl rfl, ?_⟩)⟩, trivial⟩
        refine RO.fork [11] (by kernel_rfl) rfl ⟨⟨_, rfl, rfl, l_append 5 Try.underlying27 Try.underlying27 inf5 rfl rfl rfl rfl (by simp) (by decide) (Src.row (j := 1) rfl (by simp)) (by simp [oneB]) (by omega) (by decide) (by decide) (fun lb5 lc5 => ⟨Sub.pick0 [2] [rowI (some ⟨zP, 0, none⟩) 1 129 2 [.int .i64 ((u : Nat) : Int), .int .i64 (i : Int)], rowI (some ⟨zQ, 0, none⟩) 1 5 1 [.int .u8 ((b.edges[j].pos : Nat) : Int)], oI bx15 54 [.int .i64 b.edges[j].fr, .int .i64 b.edges[j].to, .int .u8 ((b.edges[j].pos : Nat) : Int), .int .u8 ((b.edges[j].neg : Nat) : Int)], rowI (some ⟨bx2, 0, none⟩) n 4 1 (bools (sn3.set u true)), rowI sb5 sc5 129 2 ((stpC sts3) ++ [.int .i64 ((u : Nat) : Int), .int .i64 (i : Int)]), rowI lb5 lc5 5 1 ((byts la3) ++ [.int .u8 ((b.edges[j].pos : Nat) : Int)]), oI bx1 26 (buCells b sb sc eb ec tb tc)] OO rfl rfl, ?_⟩)⟩, trivial⟩
        refine RO.quietT 12 rfl (by kernel_rfl) (q_assign rfl) ?_
        refine RO.quietT 13 rfl (by kernel_rfl) (q_assign rfl) ?_
        exact RO.fin (by kernel_rfl) ⟨sb5, lb5, sc5, lc5, rfl, ⟨rfl, rfl, rfl, rfl, rfl, rfl, rfl, rfl, rfl, rfl, rfl, rfl, rfl, rfl, rfl, trivial⟩⟩ (Sub.pickR [3, 3, 3, 3, 2] [rowI (some ⟨zP, 0, none⟩) 1 129 2 [.int .i64 ((u : Nat) : Int), .int .i64 (i : Int)], rowI (some ⟨zQ, 0, none⟩) 1 5 1 [.int .u8 ((b.edges[j].pos : Nat) : Int)], oI bx15 54 [.int .i64 b.edges[j].fr, .int .i64 b.edges[j].to, .int .u8 ((b.edges[j].pos : Nat) : Int), .int .u8 ((b.edges[j].neg : Nat) : Int)], rowI (some ⟨bx2, 0, none⟩) n 4 1 (bools (sn3.set u true)), rowI sb5 sc5 129 2 ((stpC sts3) ++ [.int .i64 ((u : Nat) : Int), .int .i64 (i : Int)]), rowI lb5 lc5 5 1 ((byts la3) ++ [.int .u8 ((b.edges[j].pos : Nat) : Int)]), oI bx1 26 (buCells b sb sc eb ec tb tc)] OO rfl rfl)
      rintro ρ O ⟨sb5, lb5, sc5, lc5, rfl, hH⟩
      obtain ⟨ρ0, rfl⟩ := hH.elim
      clear hH
      refine T.seq (T.seq ?_)
      refine T.sub (O' := [rowI (some ⟨bx2, 0, none⟩) n 4 1 (bools (sn3.set u true)), rowI sb5 sc5 129 2 (stpC (sts3 ++ [(u, (i : Int))])), rowI lb5 lc5 5 1 (byts (la3 ++ [b.edges[j].pos])), oI bx1 26 (buCells b sb sc eb ec tb tc), oI bx15 54 [.int .i64 b.edges[j].fr, .int .i64 b.edges[j].to, .int .u8 ((b.edges[j].pos : Nat) : Int), .int .u8 ((b.edges[j].neg : Nat) : Int)]] ++ OO) (by rw [stp_snoc, show byts (la3 ++ [b.edges[j].pos]) = byts la3 ++ [.int .u8 ((b.edges[j].pos : Nat) : Int)] from List.map_append]; exact Sub.of (List.Sublist.refl _)) ?_
      refine T.region ?_
      refine TO.quiet (q_move rfl) (TO.quiet (q_fieldAddr Try.underlying54 rfl inf3 rfl rfl) (TO.quiet (QT.cast (q_load_box 4 Try.underlying3 rfl rfl rfl rfl) (v' := .int .i64 ((u : Nat) : Int)) (by show Value.int _ _ = _; rw [hu])) ?_))
      have hk107 := (show CallV Try.prog base fv [.int .i64 (u : Int)] ([rowI (some ⟨bx2, 0, none⟩) n 4 1 (bools (sn3.set u true)), rowI sb5 sc5 129 2 (stpC (sts3 ++ [(u, (i : Int))])), rowI lb5 lc5 5 1 (byts (la3 ++ [b.edges[j].pos])), oI bx1 26 (buCells b sb sc eb ec tb tc), oI bx15 54 [.int .i64 b.edges[j].fr, .int .i64 b.edges[j].to, .int .u8 ((b.edges[j].pos : Nat) : Int), .int .u8 ((b.edges[j].neg : Nat) : Int)]] ++ OO) (fun v O' => v = .bool (p (u : Int)) ∧ O' = [rowI (some ⟨bx2, 0, none⟩) n 4 1 (bools (sn3.set u true)), rowI sb5 sc5 129 2 (stpC (sts3 ++ [(u, (i : Int))])), rowI lb5 lc5 5 1 (byts (la3 ++ [b.edges[j].pos])), oI bx1 26 (buCells b sb sc eb ec tb tc), oI bx15 54 [.int .i64 b.edges[j].fr, .int .i64 b.edges[j].to, .int .u8 ((b.edges[j].pos : Nat) : Int), .int .u8 ((b.edges[j].neg : Nat) : Int)]] ++ OO) from (CallV.atR [rowI (some ⟨bx2, 0, none⟩) n 4 1 (bools (sn3.set u true)), rowI sb5 sc5 129 2 (stpC (sts3 ++ [(u, (i : Int))])), rowI lb5 lc5 5 1 (byts (la3 ++ [b.edges[j].pos])), oI bx1 26 (buCells b sb sc eb ec tb tc), oI bx15 54 [.int .i64 b.edges[j].fr, .int .i64 b.edges[j].to, .int .u8 ((b.edges[j].pos : Nat) : Int), .int .u8 ((b.edges[j].neg : Nat) : Int)]] (hy u hun)).mono (fun v O' ⟨A', e1, e2, e3⟩ => ⟨e2, by rw [e1, e3]⟩))
      refine TO.loud rfl (l_callG hk107 rfl rfl ?_)
      clear hk107
      rintro vr O' ⟨rfl, rfl⟩
      refine TO.quiet (q_not rfl) ?_
      refine TO.nil ?_
      refine T.cond rfl (fun hc => ?_) (fun hc => ?_)
      · refine T.exit ?_
        refine T.region ?_
        refine TO.quiet (q_addN (a := j) (b := 1) rfl rfl (by omega)) (TO.quiet (q_move rfl) ?_)
        refine TO.nil ?_
        exact ⟨j + 1, by omega, ([rowI (some ⟨bx2, 0, none⟩) n 4 1 (bools (sn3.set u true)), rowI sb5 sc5 129 2 (stpC (sts3 ++ [(u, (i : Int))])), rowI lb5 lc5 5 1 (byts (la3 ++ [b.edges[j].pos])), oI bx1 26 (buCells b sb sc eb ec tb tc)] ++ OO), (Sub.pickR [0, 0, 0, 0] [rowI (some ⟨bx2, 0, none⟩) n 4 1 (bools (sn3.set u true)), rowI sb5 sc5 129 2 (stpC (sts3 ++ [(u, (i : Int))])), rowI lb5 lc5 5 1 (byts (la3 ++ [b.edges[j].pos])), oI bx1 26 (buCells b sb sc eb ec tb tc), oI bx15 54 [.int .i64 b.edges[j].fr, .int .i64 b.edges[j].to, .int .u8 ((b.edges[j].pos : Nat) : Int), .int .u8 ((b.edges[j].neg : Nat) : Int)]] OO rfl rfl), sts3 ++ [(u, (i : Int))], la3 ++ [b.edges[j].pos], sn3.set u true, sb5, lb5, sc5, lc5, rfl, by omega, by simp; omega, hlp3.add hlt62 hi3 hfr hu hun hns hau (by simpa using hc), by rw [nr_snoc]; simp; omega, ⟨rfl, rfl, rfl, rfl, rfl, rfl, rfl, rfl, (by rw [List.length_append]; rfl), (by rw [List.length_append]; rfl), rfl, rfl, rfl, rfl, trivial⟩⟩
      have hpu : p (u : Int) = true := by simpa using hc
      refine T.skip (T.seq (T.seq (T.region ?_)))
      refine TO.quiet (q_move rfl) (TO.quiet (q_len Try.underlying127 rfl) (TO.quiet (QT.cast (q_subN (a := sts3.length + 1) (b := 1) rfl rfl (by omega) (by omega)) (v' := .int .i64 ((sts3.length : Nat) : Int)) (by rw [Nat.add_sub_cancel])) (TO.quiet (q_assign rfl) ?_)))
      refine TO.nil (T.block ?_)
      refine T.nilRow 5 1 ?_
      have hch := (hlp3.ch.push hi3 (List.getElem_mem hlt62) hfr hu hun hau (hlp3.fresh hun hns))
      refine T.loopS (fun (k4 : Nat) ρ O => ∃ (w : List Nat) (wb : Option Addr) (wc : Nat), O = ([rowI wb wc 5 1 (byts w), rowI (some ⟨bx2, 0, none⟩) n 4 1 (bools (sn3.set u true)), rowI sb5 sc5 129 2 (stpC (sts3 ++ [(u, (i : Int))])), rowI lb5 lc5 5 1 (byts (la3 ++ [b.edges[j].pos])), oI bx1 26 (buCells b sb sc eb ec tb tc), oI bx15 54 [.int .i64 b.edges[j].fr, .int .i64 b.edges[j].to, .int .u8 ((b.edges[j].pos : Nat) : Int), .int .u8 ((b.edges[j].neg : Nat) : Int)]] ++ OO) ∧ (w = [] → k4 = sts3.length) ∧ BackP b (fun v => av.getD v false) (sts3 ++ [(u, (i : Int))]) k4 w u (nr (sts3 ++ [(u, (i : Int))]) sts3.length) ∧ Heads [(0, (.agg (buCells b sb sc eb ec tb tc).toArray)), (1, (.slice fb frm.length fc)), (2, (.slice ab av.length ac)), (3, .bool far), (4, fv), (5, (.pointer (some ⟨bx1, 0, none⟩))), (10, (.slice wb w.length wc)), (12, (.slice (some ⟨bx2, 0, none⟩) n n)), (13, (.slice sb5 (sts3.length + 1) sc5)), (14, (.slice lb5 (la3.length + 1) lc5)), (17, .int .i64 (i : Int)), (19, (.pointer (some ⟨bx15, 0, none⟩))), (20, .int .i64 (k4 : Int)), (59, (.slice eb b.edges.length ec)), (60, .int .i64 (b.edges.length : Int)), (61, .int .i64 (j : Int))] ρ) (fun k4 => k4) sts3.length ?_ ?_
      · refine ⟨[], none, 0, rfl, (fun _ => rfl), ?_, ⟨rfl, rfl, rfl, rfl, rfl, rfl, rfl, rfl, rfl, rfl, rfl, rfl, rfl, rfl, rfl, rfl, trivial⟩⟩
        have h9 := BackP.start (b := b) (al := (fun v => av.getD v false)) (sts := sts3 ++ [(u, (i : Int))]) (k := sts3.length) (by simp)
        simpa using h9
      rintro k4 ρ O ⟨w, wb, wc, rfl, hwn, hbk, hH⟩
      obtain ⟨ρ0, rfl⟩ := hH.elim
      clear hH
      have hkk := hbk.hk
      have hkk2 : k4 < sts3.length + 1 := by simpa using hkk
      have hwl : w.length ≤ n := by have := hbk.len; have := hch.bound (k := sts3.length) (by simp); omega
      refine T.seq (T.seq (T.region ?_))
      refine TO.quiet (q_move rfl) (TO.quiet (q_move rfl) (TO.quiet (q_ixK (i := k4) Try.underlying127 inf129 rfl rfl (rowO (List.mem_of_getElem? (i := 2) rfl)) (by first | assumption | omega | (simp; omega) | simp_all) (by first | (rw [stp_len]; omega) | (simp [stp_len]; omega) | (simp_all [stp_len]; omega))) (TO.quiet (q_fieldEl Try.underlying129 rfl inf3 rfl rfl (rowO (List.mem_of_getElem? (i := 2) rfl)) (by first | (rw [stp_len]; omega) | (simp [stp_len]; omega) | (simp_all [stp_len]; omega))) ?_)))
      refine TO.quiet (q_ld Try.underlying3 rfl rfl (rowO (List.mem_of_getElem? (i := 2) rfl)) (show (stpC (sts3 ++ [(u, (i : Int))]))[k4 * 2 + 1]? = some (.int .i64 ((sts3 ++ [(u, (i : Int))])[k4]'hkk).2) by rw [stp_get hkk 1 (by decide)]; rfl)) (TO.quiet (q_geq rfl rfl) ?_)
      refine TO.nil ?_
      refine T.condP rfl (fun hc => ?_) (fun hc => ?_)
      · obtain ⟨q, hqk, hqe, hkl, hbk2⟩ := hbk.step hch (by omega)
        refine T.skip (T.seq (T.block (T.region ?_)))
        refine TO.quiet (q_move rfl) (TO.quiet (q_move rfl) (TO.quiet (q_move rfl) (TO.quiet (q_ix (i := k4) Try.underlying27 inf5 rfl rfl (rowO (List.mem_of_getElem? (i := 3) rfl))) ?_)))
        refine TO.quiet (q_ld Try.underlying5 rfl rfl (rowO (List.mem_of_getElem? (i := 3) rfl)) (byts_get hkl)) ?_
        refine TO.loud rfl (l_build1 (v := .int .u8 (((la3 ++ [b.edges[j].pos])[k4]'hkl : Nat) : Int)) Try.underlying27 inf5 rfl rfl rfl (fun bx16 => ?_))
        refine TO.loud rfl (l_append 1 Try.underlying27 Try.underlying27 inf5 rfl rfl rfl rfl (by simp) (by decide) (Src.row (j := 0) rfl (by simp)) (by simp [oneB]) (by omega) (by decide) (by decide) (fun bx17 c18 => ?_))
        refine TO.quiet (q_assign rfl) ?_
        refine TO.nil (T.region ?_)
        refine TO.quiet (q_move rfl) (TO.quiet (q_move rfl) (TO.quiet (q_ixK (i := k4) Try.underlying127 inf129 rfl rfl (rowO (List.mem_of_getElem? (i := 3) rfl)) (by first | assumption | omega | (simp; omega) | simp_all) (by first | (rw [stp_len]; omega) | (simp [stp_len]; omega) | (simp_all [stp_len]; omega))) (TO.quiet (q_fieldEl Try.underlying129 rfl inf3 rfl rfl (rowO (List.mem_of_getElem? (i := 3) rfl)) (by first | (rw [stp_len]; omega) | (simp [stp_len]; omega) | (simp_all [stp_len]; omega))) ?_)))
        refine TO.quiet (q_ld Try.underlying3 rfl rfl (rowO (List.mem_of_getElem? (i := 3) rfl)) (show (stpC (sts3 ++ [(u, (i : Int))]))[k4 * 2 + 1]? = some (.int .i64 ((q : Nat) : Int)) by rw [stp_get hkk 1 (by decide), ← hqe]; rfl)) (TO.quiet (q_assign rfl) ?_)
        refine TO.nil ?_
        exact ⟨q, by omega, ([rowI bx17 c18 5 1 ((byts w) ++ [.int .u8 (((la3 ++ [b.edges[j].pos])[k4]'hkl : Nat) : Int)]), rowI (some ⟨bx2, 0, none⟩) n 4 1 (bools (sn3.set u true)), rowI sb5 sc5 129 2 (stpC (sts3 ++ [(u, (i : Int))])), rowI lb5 lc5 5 1 (byts (la3 ++ [b.edges[j].pos])), oI bx1 26 (buCells b sb sc eb ec tb tc), oI bx15 54 [.int .i64 b.edges[j].fr, .int .i64 b.edges[j].to, .int .u8 ((b.edges[j].pos : Nat) : Int), .int .u8 ((b.edges[j].neg : Nat) : Int)]] ++ OO), (Sub.pickR [1, 1, 1, 1, 1, 1] [rowI (some ⟨bx16, 0, none⟩) 1 5 1 [.int .u8 (((la3 ++ [b.edges[j].pos])[k4]'hkl : Nat) : Int)], rowI bx17 c18 5 1 ((byts w) ++ [.int .u8 (((la3 ++ [b.edges[j].pos])[k4]'hkl : Nat) : Int)]), rowI (some ⟨bx2, 0, none⟩) n 4 1 (bools (sn3.set u true)), rowI sb5 sc5 129 2 (stpC (sts3 ++ [(u, (i : Int))])), rowI lb5 lc5 5 1 (byts (la3 ++ [b.edges[j].pos])), oI bx1 26 (buCells b sb sc eb ec tb tc), oI bx15 54 [.int .i64 b.edges[j].fr, .int .i64 b.edges[j].to, .int .u8 ((b.edges[j].pos : Nat) : Int), .int .u8 ((b.edges[j].neg : Nat) : Int)]] OO rfl rfl), w ++ [(la3 ++ [b.edges[j].pos])[k4]'hkl], bx17, c18, (by rw [show byts (w ++ [(la3 ++ [b.edges[j].pos])[k4]'hkl]) = byts w ++ [.int .u8 (((la3 ++ [b.edges[j].pos])[k4]'hkl : Nat) : Int)] from List.map_append]), (fun h9 => by simp at h9), hbk2, ⟨rfl, rfl, rfl, rfl, rfl, rfl, (by rw [List.length_append]; rfl), rfl, rfl, rfl, rfl, rfl, rfl, rfl, rfl, rfl, trivial⟩⟩
      have hge117 := hc
      refine T.exit ?_
      refine T.seq (T.region ?_)
      refine TO.quiet (q_move rfl) ?_
      have hk131 := CallT.under (A := [rowI wb wc 5 1 (byts w)]) (B := [rowI (some ⟨bx2, 0, none⟩) n 4 1 (bools (sn3.set u true)), rowI sb5 sc5 129 2 (stpC (sts3 ++ [(u, (i : Int))])), rowI lb5 lc5 5 1 (byts (la3 ++ [b.edges[j].pos])), oI bx1 26 (buCells b sb sc eb ec tb tc), oI bx15 54 [.int .i64 b.edges[j].fr, .int .i64 b.edges[j].to, .int .u8 ((b.edges[j].pos : Nat) : Int), .int .u8 ((b.edges[j].neg : Nat) : Int)]] ++ OO) (O := ([rowI wb wc 5 1 (byts w), rowI (some ⟨bx2, 0, none⟩) n 4 1 (bools (sn3.set u true)), rowI sb5 sc5 129 2 (stpC (sts3 ++ [(u, (i : Int))])), rowI lb5 lc5 5 1 (byts (la3 ++ [b.edges[j].pos])), oI bx1 26 (buCells b sb sc eb ec tb tc), oI bx15 54 [.int .i64 b.edges[j].fr, .int .i64 b.edges[j].to, .int .u8 ((b.edges[j].pos : Nat) : Int), .int .u8 ((b.edges[j].neg : Nat) : Int)]] ++ OO)) (reverseB base wb wc wc w (by omega)) (Sub.of (List.Sublist.refl _))
      refine TO.loud rfl (l_call ent106 hk131 rfl ?_)
      clear hk131
      rintro vr O' ⟨A1, rfl, rfl⟩
      refine TO.nil (T.seq ?_)
      refine T.draws _ [(0, 0), (1, 0), (2, 0), (3, 0), (4, 0)] mixed (by kernel_rfl) (Sub.of (List.Sublist.refl _)) (fun _ _ _ h => h) ?_
      refine DO.quiet rfl (q_move rfl) (DO.quiet rfl (q_fieldAddr Try.underlying54 rfl inf3 rfl rfl) (DO.quiet rfl (QT.cast (q_load_box 5 Try.underlying3 rfl rfl rfl rfl) (v' := .int .i64 ((u : Nat) : Int)) (by show Value.int _ _ = _; rw [hu])) (DO.quiet rfl (q_assign rfl) ?_)))
      refine DO.quiet rfl (q_assign rfl) ?_
      refine DO.done ?_
      refine T.ret (Res.drop ?_)
      refine Res.two (.slice wb w.length wc) (.int .i64 ((u : Nat) : Int)) Try.results72 rfl rfl ?_
      obtain ⟨s, hs, hp⟩ := hbk.done hch (by omega)
      have hbd := hch.bound (k := sts3.length) (by simp)
      have hbl := hbk.len
      rw [← hnn] at hbd
      refine ⟨[rowI wb wc 5 1 (byts w.reverse)] ++ OO, (Sub.pickR [0] [rowI wb wc 5 1 (byts w.reverse), rowI (some ⟨bx2, 0, none⟩) n 4 1 (bools (sn3.set u true)), rowI sb5 sc5 129 2 (stpC (sts3 ++ [(u, (i : Int))])), rowI lb5 lc5 5 1 (byts (la3 ++ [b.edges[j].pos])), oI bx1 26 (buCells b sb sc eb ec tb tc), oI bx15 54 [.int .i64 b.edges[j].fr, .int .i64 b.edges[j].to, .int .u8 ((b.edges[j].pos : Nat) : Int), .int .u8 ((b.edges[j].neg : Nat) : Int)]] OO rfl rfl), w.reverse, u, wb, wc, by rw [List.length_reverse], rfl, ⟨s, hs, hp⟩, hun, hpu, fun hfar hw => ?_, ?_⟩
      · have hw2 : w = [] := by simpa using hw
        have hk9 := hwn hw2
        subst hk9
        rw [List.getElem_append_right (Nat.le_refl _)] at hge117
        simp at hge117
      · rw [List.length_reverse]; omega
    have hge62 : ¬ j < b.edges.length := by omega
    refine T.exit ?_
    refine T.region ?_
    refine TO.quiet (q_move rfl) (TO.quiet (q_addN (a := i) (b := 1) rfl rfl (by omega)) (TO.quiet (q_assign rfl) ?_))
    refine TO.nil ?_
    exact ⟨i + 1, by have := hlp3.ch.len_le; omega, sts3, la3, sn3, sb4, lb4, sc4, lc4, rfl, by omega, hlp3.next (by omega) (by omega), hcn3, ⟨rfl, rfl, rfl, rfl, rfl, rfl, rfl, rfl, rfl, rfl, rfl, trivial⟩⟩
  have hge55 : ¬ i < sts.length := by omega
  refine T.exit ?_
  refine T.seq (T.region ?_)
  refine TO.quiet (q_assign rfl) (TO.quiet (q_assign rfl) ?_)
  refine TO.nil (T.ret (Res.drop ?_))
  refine Res.two (.slice none 0 0) (.int .i64 (-1)) Try.results72 rfl rfl ?_
  exfalso
  obtain ⟨s, hs, w, t, hpw, hpt, hw⟩ := hex
  have h9 := hlp.none (by omega) (fun e he => by have := (hv.ed e he).2; omega) hs hpw hw
  rw [h9] at hpt; cases hpt
end Go.Proofs.Ytnamoapbienooaa


namespace Go.Lx
set_option linter.unusedVariables false
section
variable {w : Nat → Nat}
def Bd (w : Nat → Nat) (n c : Nat) : Prop := c < n ∧ ∀ i, i < c → w i = w (n - c + i)
structure LB (w : Nat → Nat) (n c : Nat) : Prop where
  b : Bd w n c
  m : ∀ d, Bd w n d → d ≤ c
def Per (w : Nat → Nat) (n p : Nat) : Prop := ∀ i, i + p < n → w i = w (i + p)
theorem Bd.zero {n : Nat} (h : 0 < n) : Bd w n 0 := ⟨h, fun i hi => by omega⟩
theorem Bd.sub {n k d : Nat} (h : Bd w n k) (h2 : Bd w k d) : Bd w n d := by
  refine ⟨by have := h.1; have := h2.1; omega, fun i hi => ?_⟩
  have h1 := h.1; have h3 := h2.1
  rw [h2.2 i hi, h.2 (k - d + i) (by omega)]
  congr 1; omega
theorem Bd.of {n k d : Nat} (h : Bd w n k) (h2 : Bd w n d) (hlt : d < k) : Bd w k d := by
  refine ⟨hlt, fun i hi => ?_⟩
  have h1 := h.1
  rw [h2.2 i hi, h.2 (k - d + i) (by omega)]
  congr 1; omega
theorem Bd.per {n c : Nat} : Bd w n c ↔ c < n ∧ Per w n (n - c) := by
  constructor
  · rintro ⟨h, h2⟩
    refine ⟨h, fun i hi => ?_⟩
    rw [h2 i (by omega)]; congr 1; omega
  · rintro ⟨h, h2⟩
    refine ⟨h, fun i hi => ?_⟩
    rw [h2 i (by omega)]; congr 1; omega
def Cand (w : Nat → Nat) (i k : Nat) : Prop := Bd w i k ∧ ∀ d, Bd w i d → w d = w i → d ≤ k
end
namespace KMP
variable {w : Nat → Nat}
theorem start {i k : Nat} (h : LB w i k) : Cand w i k := ⟨h.b, fun d hd _ => h.m d hd⟩
theorem next {i k k' : Nat} (h : Cand w i k) (hne : w i ≠ w k) (hk : LB w k k') : Cand w i k' :=
  ⟨h.1.sub hk.b, fun d hd hw => by
    have h1 := h.2 d hd hw
    by_cases e : d = k
    · subst e; exact absurd hw.symm hne
    · exact hk.m d (h.1.of hd (by omega))⟩
theorem hit {i k : Nat} (h : Cand w i k) (he : w i = w k) : LB w (i + 1) (k + 1) := by
  have h1 := h.1.1
  refine ⟨⟨by omega, fun j hj => ?_⟩, fun d hd => ?_⟩
  · by_cases e : j = k
    · subst e; rw [show i + 1 - (j + 1) + j = i by omega]; exact he.symm
    · rw [h.1.2 j (by omega)]; congr 1; omega
  · cases d with
    | zero => omega
    | succ d =>
      have h2 := hd.1
      have : d ≤ k := h.2 d ⟨by omega, fun j hj => by rw [hd.2 j (by omega)]; congr 1; omega⟩ (by rw [hd.2 d (by omega)]; congr 1; omega)
      omega
theorem miss {i : Nat} (h : Cand w i 0) (he : w i ≠ w 0) : LB w (i + 1) 0 := by
  refine ⟨Bd.zero (by omega), fun d hd => ?_⟩
  cases d with
  | zero => omega
  | succ d =>
    have h2 := hd.1
    have hw : w d = w i := by rw [hd.2 d (by omega)]; congr 1; omega
    have : d ≤ 0 := h.2 d ⟨by omega, fun j hj => by rw [hd.2 j (by omega)]; congr 1; omega⟩ hw
    have : d = 0 := by omega
    subst this
    exact absurd hw.symm he
theorem one : LB w 1 0 := ⟨Bd.zero (by omega), fun d hd => by have := hd.1; omega⟩
end KMP
section
variable {w : Nat → Nat}
theorem per_gcd : ∀ (N n p q : Nat), p + q ≤ N → 0 < p → 0 < q → p + q ≤ n → Per w n p → Per w n q → Per w n (Nat.gcd p q)
  | 0, n, p, q, hN, hp, hq, _, _, _ => by omega
  | N + 1, n, p, q, hN, hp, hq, hn, h1, h2 => by
    have sub : ∀ p q : Nat, q < p → 0 < q → p + q ≤ n → Per w n p → Per w n q → Per w n (p - q) := fun p q hlt hq hn h1 h2 i hi => by
      by_cases e : q ≤ i
      · have e1 := h2 (i - q) (by omega)
        rw [Nat.sub_add_cancel e] at e1
        have e2 := h1 (i - q) (by omega)
        rw [← e1, e2]; congr 1; omega
      · have e1 := h2 (i + (p - q)) (by omega)
        rw [h1 i (by omega), e1]; congr 1; omega
    rcases Nat.lt_trichotomy p q with h | h | h
    · have h3 := per_gcd N n p (q - p) (by omega) hp (by omega) (by omega) h1 (sub q p h hp (by omega) h2 h1)
      rwa [show Nat.gcd p (q - p) = Nat.gcd p q by rw [← Nat.gcd_add_self_right p (q - p), Nat.sub_add_cancel (Nat.le_of_lt h)]] at h3
    · subst h; rwa [Nat.gcd_self]
    · have h3 := per_gcd N n (p - q) q (by omega) (by omega) hq (by omega) (sub p q h hq hn h1 h2) h2
      rwa [show Nat.gcd (p - q) q = Nat.gcd p q by rw [Nat.gcd_comm, ← Nat.gcd_add_self_right q (p - q), Nat.sub_add_cancel (Nat.le_of_lt h), Nat.gcd_comm]] at h3
theorem Per.mod {n p : Nat} (hp : 0 < p) (h : Per w n p) : ∀ i, i < n → w i = w (i % p) := by
  intro i
  induction i using Nat.strongRecOn with
  | _ i ih =>
    intro hi
    by_cases e : i < p
    · rw [Nat.mod_eq_of_lt e]
    · have h1 := h (i - p) (by omega)
      rw [Nat.sub_add_cancel (by omega)] at h1
      rw [← h1, ih (i - p) (by omega) (by omega), Nat.mod_eq_sub_mod (by omega : p ≤ i)]
theorem Per.of_mod {n p : Nat} (h : ∀ i, i < n → w i = w (i % p)) : Per w n p := fun i hi => by
  rw [h i (by omega), h (i + p) hi, Nat.add_mod_right]
structure Root (w : Nat → Nat) (n q : Nat) : Prop where
  pos : 0 < q
  dvd : q ∣ n
  rep : ∀ i, i < n → w i = w (i % q)
  prim : ∀ d, 0 < d → d ∣ q → (∀ i, i < q → w i = w (i % d)) → d = q
theorem root_of {n c : Nat} (hn : 0 < n) (h : LB w n c) : Root w n (if n % (n - c) = 0 then n - c else n) := by
  have hc := h.b.1
  have hper := (Bd.per.1 h.b).2
  have hmin : ∀ d, 0 < d → d ≤ n → Per w n d → n - c ≤ d := fun d hd hdn hp => by
    have := h.m (n - d) (Bd.per.2 ⟨by omega, by rwa [show n - (n - d) = d by omega]⟩)
    omega
  by_cases hdv : n % (n - c) = 0
  · rw [if_pos hdv]
    have hdvd : n - c ∣ n := Nat.dvd_of_mod_eq_zero hdv
    refine ⟨by omega, hdvd, hper.mod (by omega), fun d hd hdq hrep => ?_⟩
    have h1 : Per w n d := Per.of_mod fun i hi => by
      rw [hper.mod (by omega) i hi, hrep _ (Nat.mod_lt _ (by omega)), Nat.mod_mod_of_dvd _ hdq]
    have h2 := Nat.le_of_dvd (by omega) hdq
    have := hmin d hd (by omega) h1
    omega
  · rw [if_neg hdv]
    refine ⟨hn, Nat.dvd_refl _, fun i hi => by rw [Nat.mod_eq_of_lt hi], fun d hd hdn hrep => ?_⟩
    apply Classical.byContradiction
    intro hne
    have h1 : Per w n d := Per.of_mod hrep
    obtain ⟨t, ht⟩ := hdn
    have ht2 : 2 ≤ t := by
      rcases t with _ | _ | t
      · simp at ht; omega
      · simp at ht; omega
      · omega
    have hdle : d * 2 ≤ n := by rw [ht]; exact Nat.mul_le_mul_left d ht2
    have hp := hmin d hd (by omega) h1
    have hg := per_gcd _ n (n - c) d (Nat.le_refl _) (by omega) hd (by omega) hper h1
    have hgp : 0 < Nat.gcd (n - c) d := Nat.gcd_pos_of_pos_right _ hd
    have hgl : Nat.gcd (n - c) d ≤ n - c := Nat.gcd_le_left d (by omega)
    have hge := hmin _ hgp (by omega) hg
    have he : Nat.gcd (n - c) d = n - c := by omega
    have h3 : n - c ∣ d := he ▸ Nat.gcd_dvd_right (n - c) d
    exact hdv (Nat.mod_eq_zero_of_dvd (Nat.dvd_trans h3 ⟨t, ht⟩))
end
def La.u (l : La) (i : Nat) : Nat := l.loop.getD (i % l.loop.length) 0
structure IsCanon (l : La) : Prop where
  pos : 0 < l.loop.length
  prim : ∀ d, 0 < d → d ∣ l.loop.length → (∀ i, l.u (i + d) = l.u i) → d = l.loop.length
  last : 0 < l.pre.length → l.pre.getD (l.pre.length - 1) 0 ≠ l.loop.getD (l.loop.length - 1) 0
theorem La.at_u {l : La} (h : 0 < l.loop.length) (i : Nat) : l.at (l.pre.length + i) = l.u i := by
  unfold La.at La.u
  rw [if_neg (by omega), Nat.add_sub_cancel_left, show max l.loop.length 1 = l.loop.length by omega]
def EP (W : Nat → Nat) (p : Nat) : Prop := ∃ N, ∀ i, N ≤ i → W (i + p) = W i
theorem EP.sub {W : Nat → Nat} {p q : Nat} (h : q ≤ p) (h1 : EP W p) (h2 : EP W q) : EP W (p - q) := by
  obtain ⟨N, h1⟩ := h1
  obtain ⟨M, h2⟩ := h2
  refine ⟨max N M, fun i hi => ?_⟩
  have e1 := h2 (i + (p - q)) (by omega)
  rw [show i + (p - q) + q = i + p by omega, h1 i (by omega)] at e1
  exact e1.symm
theorem EP.gcd {W : Nat → Nat} : ∀ (N p q : Nat), p + q ≤ N → EP W p → EP W q → EP W (Nat.gcd p q)
  | 0, p, q, hN, h1, h2 => by
    have : p = 0 := by omega
    subst this; rw [Nat.gcd_zero_left]; exact h2
  | N + 1, p, q, hN, h1, h2 => by
    by_cases hp : p = 0
    · subst hp; rw [Nat.gcd_zero_left]; exact h2
    by_cases hq : q = 0
    · subst hq; rw [Nat.gcd_zero_right]; exact h1
    by_cases h : p ≤ q
    · have h3 := EP.gcd N p (q - p) (by omega) h1 (EP.sub h h2 h1)
      rwa [show Nat.gcd p (q - p) = Nat.gcd p q by rw [← Nat.gcd_add_self_right p (q - p), Nat.sub_add_cancel h]] at h3
    · have h3 := EP.gcd N (p - q) q (by omega) (EP.sub (by omega) h1 h2) h2
      rwa [show Nat.gcd (p - q) q = Nat.gcd p q by rw [Nat.gcd_comm, ← Nat.gcd_add_self_right q (p - q), Nat.sub_add_cancel (by omega), Nat.gcd_comm]] at h3
structure CanP (l : La) (q n a : Nat) : Prop where
  nl : n ≤ l.pre.length
  a0 : 0 < a
  aq : a ≤ q
  tail : ∀ i, n ≤ i → l.at i = l.loop.getD ((a + (i - n)) % q) 0
theorem CanP.start {l : La} {q : Nat} (h0 : 0 < l.loop.length) (hr : Root (fun i => l.loop.getD i 0) l.loop.length q) : CanP l q l.pre.length q := by
  refine ⟨Nat.le_refl _, hr.pos, Nat.le_refl _, fun i hi => ?_⟩
  obtain ⟨j, rfl⟩ := Nat.exists_eq_add_of_le hi
  rw [La.at_u h0, Nat.add_sub_cancel_left, Nat.add_mod_left]
  unfold La.u
  have := hr.rep (j % l.loop.length) (Nat.mod_lt _ h0)
  rw [this, Nat.mod_mod_of_dvd _ hr.dvd]
theorem CanP.step {l : La} {q n a : Nat} (h : CanP l q n a) (hn : 0 < n) (he : l.pre.getD (n - 1) 0 = l.loop.getD ((a - 1) % q) 0) : CanP l q (n - 1) (if a - 1 = 0 then q else a - 1) := by
  have h1 := h.nl; have h2 := h.a0; have h3 := h.aq
  refine ⟨by omega, by split <;> omega, by split <;> omega, fun i hi => ?_⟩
  by_cases e : i = n - 1
  · subst e
    have : l.at (n - 1) = l.pre.getD (n - 1) 0 := by unfold La.at; rw [if_pos (by omega)]
    rw [this, he, Nat.sub_self, Nat.add_zero]
    split
    · rename_i e; rw [e, Nat.zero_mod, Nat.mod_self]
    · rfl
  · rw [h.tail i (by omega)]
    split
    · rw [show i - (n - 1) = i - n + 1 by omega, show a + (i - n) = i - n + 1 by omega, Nat.add_mod_left]
    · rw [show a - 1 + (i - (n - 1)) = a + (i - n) by omega]
theorem rot_get {s : List Nat} {a : Nat} (ha : a < s.length) (i : Nat) (hi : i < s.length) : (s.drop a ++ s.take a).getD i 0 = s.getD ((a + i) % s.length) 0 := by
  rw [List.getD_eq_getElem?_getD, List.getD_eq_getElem?_getD]
  by_cases h : i < s.length - a
  · rw [List.getElem?_append_left (by simpa using h), List.getElem?_drop, Nat.mod_eq_of_lt (by omega)]
  · rw [List.getElem?_append_right (by simp; omega), List.length_drop, List.getElem?_take, if_pos (by omega)]
    congr 2
    rw [show a + i = (i - (s.length - a)) + s.length by omega, Nat.add_mod_right, Nat.mod_eq_of_lt (by omega)]
structure CanonOf (l c : La) : Prop where
  can : IsCanon c
  at_ : ∀ i, c.at i = l.at i
  pre : c.pre.length ≤ l.pre.length
  loop : c.loop.length ≤ l.loop.length
  mp : ∀ x ∈ c.pre, x ∈ l.pre
  ml : ∀ x ∈ c.loop, x ∈ l.loop
theorem canon_of {l : La} {q n a : Nat} (h0 : 0 < l.loop.length) (hr : Root (fun i => l.loop.getD i 0) l.loop.length q) (h : CanP l q n a) (hx : 0 < n → l.pre.getD (n - 1) 0 ≠ l.loop.getD ((a - 1) % q) 0) :
    CanonOf l ⟨l.pre.take n, (l.loop.take q).drop (a % q) ++ (l.loop.take q).take (a % q)⟩ := by
  have hq := hr.pos
  have hql : q ≤ l.loop.length := Nat.le_of_dvd h0 hr.dvd
  have hn := h.nl; have ha0 := h.a0; have haq := h.aq
  have hm : a % q < q := Nat.mod_lt _ hq
  have hsl : (l.loop.take q).length = q := by rw [List.length_take]; omega
  have hlen : ((l.loop.take q).drop (a % q) ++ (l.loop.take q).take (a % q)).length = q := by
    rw [List.length_append, List.length_drop, hsl, List.length_take, hsl]; omega
  have hpl : (l.pre.take n).length = n := by rw [List.length_take]; omega
  have hget : ∀ i, i < q → ((l.loop.take q).drop (a % q) ++ (l.loop.take q).take (a % q)).getD i 0 = l.loop.getD ((a + i) % q) 0 := fun i hi => by
    rw [rot_get (by rw [hsl]; exact hm) i (by rw [hsl]; exact hi), hsl, Nat.mod_add_mod]
    rw [List.getD_eq_getElem?_getD, List.getElem?_take, if_pos (Nat.mod_lt _ hq), List.getD_eq_getElem?_getD]
  have hat : ∀ i, (⟨l.pre.take n, (l.loop.take q).drop (a % q) ++ (l.loop.take q).take (a % q)⟩ : La).at i = l.at i := fun i => by
    by_cases hi : i < n
    · rw [La.at_pre (by simp only [hpl]; exact hi), La.at_pre (show i < l.pre.length by omega)]
      simp
    · obtain ⟨j, rfl⟩ := Nat.exists_eq_add_of_le (show n ≤ i by omega)
      rw [h.tail _ (by omega), Nat.add_sub_cancel_left]
      have h1 := La.at_u (l := ⟨l.pre.take n, (l.loop.take q).drop (a % q) ++ (l.loop.take q).take (a % q)⟩) (by simp only [hlen]; exact hq) j
      simp only [hpl] at h1
      rw [h1]
      unfold La.u
      simp only [hlen]
      rw [hget _ (Nat.mod_lt _ hq), Nat.add_mod_mod]
  refine ⟨⟨by simp only [hlen]; exact hq, fun d hd hdv hu => ?_, fun hp => ?_⟩, hat, by simp only [hpl]; exact hn, by simp only [hlen]; exact hql, fun x hx => List.mem_of_mem_take hx, fun x hx => ?_⟩
  · simp only [hlen] at hdv ⊢
    refine hr.prim d hd hdv fun i hi => ?_
    have hU : ∀ j, l.loop.getD ((a + (j + d)) % q) 0 = l.loop.getD ((a + j) % q) 0 := fun j => by
      have h1 := hu j
      unfold La.u at h1
      simp only [hlen] at h1
      rwa [hget _ (Nat.mod_lt _ hq), hget _ (Nat.mod_lt _ hq), Nat.add_mod_mod, Nat.add_mod_mod] at h1
    have hV : ∀ j, l.loop.getD ((j + d) % q) 0 = l.loop.getD (j % q) 0 := fun j => by
      have h1 := hU (j + (q - a))
      rw [show a + (j + (q - a) + d) = j + d + q by omega, show a + (j + (q - a)) = j + q by omega, Nat.add_mod_right, Nat.add_mod_right] at h1
      exact h1
    have hT : ∀ t j, l.loop.getD ((j + d * t) % q) 0 = l.loop.getD (j % q) 0 := by
      intro t
      induction t with
      | zero => intro j; rfl
      | succ t ih => intro j; rw [Nat.mul_succ, ← Nat.add_assoc, hV, ih]
    have h2 := hT (i / d) (i % d)
    rw [Nat.mod_add_div, Nat.mod_eq_of_lt hi, Nat.mod_eq_of_lt (Nat.lt_of_le_of_lt (Nat.mod_le i d) hi)] at h2
    exact h2
  · simp only [hpl, hlen] at hp ⊢
    rw [hget (q - 1) (by omega)]
    have h1 : (l.pre.take n).getD (n - 1) 0 = l.pre.getD (n - 1) 0 := by
      rw [List.getD_eq_getElem?_getD, List.getElem?_take, if_pos (by omega), List.getD_eq_getElem?_getD]
    rw [h1, show a + (q - 1) = a - 1 + q by omega, Nat.add_mod_right]
    exact hx hp
  · rcases List.mem_append.1 hx with hx | hx
    · exact List.mem_of_mem_take (List.mem_of_mem_drop hx)
    · exact List.mem_of_mem_take (List.mem_of_mem_take hx)
end Go.Lx


namespace Go.Proofs.Ytnamoapbienooaa
open Go.Lx Go.RowKit
set_option linter.unusedVariables false
set_option linter.unusedSimpArgs false
theorem lb_step {xs fl : List Nat} {i k : Nat} (hfl : fl.length = xs.length + 1) (hi : i < xs.length) (h : ∀ j, 1 ≤ j → j ≤ i → LB (fun i => xs.getD i 0) j (fl.getD j 0)) (hn : LB (fun i => xs.getD i 0) (i + 1) k) (j : Nat) (h1 : 1 ≤ j) (h2 : j ≤ i + 1) : LB (fun i => xs.getD i 0) j ((fl.set (i + 1) k).getD j 0) := by
  have e := fn_set (a := k) (l := fl) (v := i + 1) (by omega) j
  rw [show (fl.set (i + 1) k).getD j 0 = fn (fl.set (i + 1) k) j from rfl, e]
  by_cases hj : j = i + 1
  · subst hj; rw [if_pos rfl]; exact hn
  · rw [if_neg hj]; exact h j h1 (by omega)
set_option maxHeartbeats 1000000 in
set_option maxRecDepth 20000 in
theorem rootF (w : World) (b : Option Addr) (c : Nat) (xs : List Nat) (hS : Sl w b (byts xs)) (h0 : 0 < xs.length) (hc : xs.length ≤ c) (hb : xs.length ≤ 1000000) :
    PureT Try.prog 80 [.slice b xs.length c] w fun v N => ∃ q, v = .slice b q c ∧ N = [] ∧ Root (fun i => xs.getD i 0) xs.length q := by
  refine CallT.enter Try.func80 rfl Try.ntmps80 rfl ?_
  refine T.seq (T.region ?_)
  refine TO.quiet (q_assign rfl) ?_
  refine TO.nil (T.seq (T.region ?_))
  refine TO.quiet (q_move rfl) (TO.quiet (q_len Try.underlying27 rfl) (TO.quiet (q_addN (a := xs.length) (b := 1) rfl rfl (by omega)) ?_))
  refine TO.loud rfl (l_makeSlice (m := xs.length + 1) Try.underlying22 inf3 rfl rfl (by omega) (by omega) (fun bx1 => ?_))
  refine TO.quiet (q_assign rfl) ?_
  refine TO.nil (T.seq (T.region ?_))
  refine TO.quiet (q_assign rfl) ?_
  refine TO.nil (T.seq (T.seq (T.region ?_)))
  refine TO.quiet (q_assign rfl) ?_
  refine TO.nil (T.block ?_)
  refine T.loop (fun (i : Nat) ρ O => ∃ (fl : List Nat) (k : Nat), O = [rowI (some ⟨bx1, 0, none⟩) (xs.length + 1) 3 1 (nats fl)] ∧ 1 ≤ i ∧ i ≤ xs.length ∧ fl.length = xs.length + 1 ∧ (∀ j, 1 ≤ j → j ≤ i → LB (fun i => xs.getD i 0) j (fl.getD j 0)) ∧ k = fl.getD i 0 ∧ Heads [(0, (.slice b xs.length c)), (2, (.slice none 0 0)), (3, (.slice (some ⟨bx1, 0, none⟩) (xs.length + 1) (xs.length + 1))), (4, .int .i64 (k : Int)), (5, .int .i64 (i : Int))] ρ) (fun i => xs.length - i) 1 ?_ ?_
  · refine ⟨List.replicate (xs.length + 1) 0, 0, ?_, Nat.le_refl _, h0, by simp, fun j h1 h2 => ?_, by rw [gd (by simp; omega)]; simp, ⟨rfl, rfl, rfl, rfl, rfl, trivial⟩⟩
    · simp only [List.map_replicate]; rfl
    · have : j = 1 := by omega
      subst this
      rw [gd (by simp; omega), List.getElem_replicate]; exact KMP.one
  rintro i ρ O ⟨fl, k, rfl, hi1, hi, hfl, hLB, hk0, hH⟩
  obtain ⟨ρ0, rfl⟩ := hH.elim
  clear hH
  have hW := hLB i hi1 (Nat.le_refl _)
  rw [← hk0] at hW
  have hk1 := hW.b.1
  refine T.seq (T.seq (T.region ?_))
  refine TO.quiet (q_move rfl) (TO.quiet (q_move rfl) (TO.quiet (q_len Try.underlying27 rfl) (TO.quiet (q_lss rfl rfl) ?_)))
  refine TO.nil ?_
  refine T.condP rfl (fun hc => ?_) (fun hc => ?_)
  · have hlt14 : i < xs.length := by omega
    refine T.skip (T.seq (T.block (T.seq (T.block ?_))))
    refine T.loop (fun (k2 : Nat) ρ O => O = [rowI (some ⟨bx1, 0, none⟩) (xs.length + 1) 3 1 (nats fl)] ∧ Cand (fun i => xs.getD i 0) i k2 ∧ Heads [(0, (.slice b xs.length c)), (2, (.slice none 0 0)), (3, (.slice (some ⟨bx1, 0, none⟩) (xs.length + 1) (xs.length + 1))), (4, .int .i64 (k2 : Int)), (5, .int .i64 (i : Int))] ρ) (fun k2 => k2) k ?_ ?_
    · exact ⟨rfl, KMP.start hW, ⟨rfl, rfl, rfl, rfl, rfl, trivial⟩⟩
    rintro k2 ρ O ⟨rfl, hcand, hH⟩
    obtain ⟨ρ0, rfl⟩ := hH.elim
    clear hH
    have hk2 := hcand.1.1
    refine T.seq (T.seq ?_)
    refine T.draws _ [(0, 0), (1, 0), (2, 0), (3, 0), (4, 0), (5, 0), (6, 0), (7, 0), (8, 0), (9, 0), (10, 0), (11, 0), (12, 0)] mixed (by kernel_rfl) (Sub.of (List.Sublist.refl _)) (fun _ _ _ h => h) ?_
    refine DO.quiet rfl (q_move rfl) (DO.quiet rfl (q_gtr rfl rfl) ?_)
    by_cases hs19 : (k2 : Int) > 0
    · refine DO.quiet rfl (QT.toB (q_move rfl) (decide_eq_true hs19)) ?_
      refine DO.guarded rfl rfl rfl (q_move rfl) ?_
      refine DO.guarded rfl rfl rfl (q_move rfl) ?_
      refine DO.guarded rfl rfl rfl (q_ix (i := i) Try.underlying27 inf5 rfl rfl (Sl.o hS)) ?_
      refine DO.guarded rfl rfl rfl (q_ld Try.underlying5 rfl rfl (Sl.o hS) byts_get) ?_
      refine DO.guarded rfl rfl rfl (q_move rfl) ?_
      refine DO.guarded rfl rfl rfl (q_move rfl) ?_
      refine DO.guarded rfl rfl rfl (q_ix (i := k2) Try.underlying27 inf5 rfl rfl (Sl.o hS)) ?_
      refine DO.guarded rfl rfl rfl (q_ld Try.underlying5 rfl rfl (Sl.o hS) byts_get) ?_
      refine DO.guarded rfl rfl rfl (q_neq rfl rfl) ?_
      refine DO.quiet rfl (q_pick1 rfl rfl) ?_
      refine DO.done ?_
      refine T.condP rfl (fun hc => ?_) (fun hc => ?_)
      · have hlt29 : xs[i] ≠ xs[k2] := by omega
        have hs28 := hc
        refine T.skip (T.block (T.region ?_))
        refine TO.quiet (q_move rfl) (TO.quiet (q_move rfl) (TO.quiet (q_ix (i := k2) Try.underlying22 inf3 rfl rfl (rowO (List.mem_of_getElem? (i := 0) rfl))) (TO.quiet (q_ld Try.underlying3 rfl rfl (rowO (List.mem_of_getElem? (i := 0) rfl)) nats_get) ?_)))
        refine TO.quiet (q_assign rfl) ?_
        refine TO.nil ?_
        have hb := hLB k2 (by omega) (by omega)
        have hlt := hb.b.1
        rw [gd (by omega)] at hb hlt
        exact ⟨fl[k2], hlt, rfl, KMP.next hcand (by show xs.getD i 0 ≠ xs.getD k2 0; rw [gd (by omega), gd (by omega)]; omega) hb, ⟨rfl, rfl, rfl, rfl, rfl, trivial⟩⟩
      have hge29 : ¬ xs[i] ≠ xs[k2] := by omega
      refine T.exit ?_
      refine T.seq (T.seq ?_)
      refine T.draws _ [(0, 0), (1, 0), (2, 0), (3, 0), (4, 0), (5, 0), (6, 0), (7, 0), (8, 0)] mixed (by kernel_rfl) (Sub.of (List.Sublist.refl _)) (fun _ _ _ h => h) ?_
      refine DO.quiet rfl (q_move rfl) (DO.quiet rfl (q_move rfl) (DO.quiet rfl (q_ix (i := i) Try.underlying27 inf5 rfl rfl (Sl.o hS)) (DO.quiet rfl (q_ld Try.underlying5 rfl rfl (Sl.o hS) byts_get) ?_)))
      refine DO.quiet rfl (q_move rfl) (DO.quiet rfl (q_move rfl) (DO.quiet rfl (q_ix (i := k2) Try.underlying27 inf5 rfl rfl (Sl.o hS)) (DO.quiet rfl (q_ld Try.underlying5 rfl rfl (Sl.o hS) byts_get) ?_)))
      refine DO.quiet rfl (q_eql rfl rfl) ?_
      refine DO.done ?_
      refine T.condP rfl (fun hc => ?_) (fun hc => ?_)
      · have hlt42 : xs[i] = xs[k2] := by omega
        refine T.region ?_
        refine TO.quiet (q_move rfl) (TO.quiet (q_addN (a := k2) (b := 1) rfl rfl (by omega)) (TO.quiet (q_assign rfl) ?_))
        refine TO.nil (T.region ?_)
        refine TO.quiet (q_move rfl) (TO.quiet (q_move rfl) (TO.quiet (q_addN (a := i) (b := 1) rfl rfl (by omega)) (TO.quiet (q_move rfl) ?_)))
        refine TO.quiet (q_ix (i := (i + 1)) Try.underlying22 inf3 rfl rfl (rowO (List.mem_of_getElem? (i := 0) rfl))) ?_
        refine TO.loud rfl (l_st (j := (i + 1)) (v := .int .i64 ((k2 + 1 : Nat) : Int)) (vs := [(.int .i64 ((k2 + 1 : Nat) : Int))]) (cs := nats fl) 0 inf3 rfl rfl rfl rfl rfl (by simp) rfl (by first | (simp; omega) | (simp_all; omega)) ?_)
        refine TO.sub (O' := [rowI (some ⟨bx1, 0, none⟩) (xs.length + 1) 3 1 (nats (fl.set (i + 1) (k2 + 1)))]) (by rw [show putL (nats fl) (i + 1) [(.int .i64 ((k2 + 1 : Nat) : Int))] = nats (fl.set (i + 1) (k2 + 1)) from (by simp [putL])]; exact Sub.of (List.Sublist.refl _)) ?_
        refine TO.nil (T.region ?_)
        refine TO.quiet (q_move rfl) (TO.quiet (q_addN (a := i) (b := 1) rfl rfl (by omega)) (TO.quiet (q_assign rfl) ?_))
        refine TO.nil ?_
        exact ⟨i + 1, by omega, fl.set (i + 1) (k2 + 1), k2 + 1, rfl, by omega, by omega, by simp [hfl], fun j h1 h2 => lb_step hfl (by omega) hLB (KMP.hit hcand (by show xs.getD i 0 = xs.getD k2 0; rw [gd (by omega), gd (by omega)]; omega)) j h1 h2, by rw [gd (by simp; omega), List.getElem_set_self], ⟨rfl, rfl, rfl, rfl, rfl, trivial⟩⟩
      have hge42 : ¬ xs[i] = xs[k2] := by omega
      refine T.skip (T.region ?_)
      refine TO.quiet (q_move rfl) (TO.quiet (q_move rfl) (TO.quiet (q_addN (a := i) (b := 1) rfl rfl (by omega)) (TO.quiet (q_move rfl) ?_)))
      refine TO.quiet (q_ix (i := (i + 1)) Try.underlying22 inf3 rfl rfl (rowO (List.mem_of_getElem? (i := 0) rfl))) ?_
      refine TO.loud rfl (l_st (j := (i + 1)) (v := .int .i64 (k2 : Int)) (vs := [(.int .i64 (k2 : Int))]) (cs := nats fl) 0 inf3 rfl rfl rfl rfl rfl (by simp) rfl (by first | (simp; omega) | (simp_all; omega)) ?_)
      refine TO.sub (O' := [rowI (some ⟨bx1, 0, none⟩) (xs.length + 1) 3 1 (nats (fl.set (i + 1) (k2)))]) (by rw [show putL (nats fl) (i + 1) [(.int .i64 (k2 : Int))] = nats (fl.set (i + 1) (k2)) from (by simp [putL])]; exact Sub.of (List.Sublist.refl _)) ?_
      refine TO.nil (T.region ?_)
      refine TO.quiet (q_move rfl) (TO.quiet (q_addN (a := i) (b := 1) rfl rfl (by omega)) (TO.quiet (q_assign rfl) ?_))
      refine TO.nil ?_
      have hk20 : k2 = 0 := by omega
      subst hk20
      exact ⟨i + 1, by omega, fl.set (i + 1) 0, 0, rfl, by omega, by omega, by simp [hfl], fun j h1 h2 => lb_step hfl (by omega) hLB (KMP.miss hcand (by show xs.getD i 0 ≠ xs.getD 0 0; rw [gd (by omega), gd (by omega)]; omega)) j h1 h2, by rw [gd (by simp; omega), List.getElem_set_self], ⟨rfl, rfl, rfl, rfl, rfl, trivial⟩⟩
    refine DO.quiet rfl (QT.toB (q_move rfl) (decide_eq_false hs19)) ?_
    refine DO.passed rfl rfl rfl ?_
    refine DO.passed rfl rfl rfl ?_
    refine DO.passed rfl rfl rfl ?_
    refine DO.passed rfl rfl rfl ?_
    refine DO.passed rfl rfl rfl ?_
    refine DO.passed rfl rfl rfl ?_
    refine DO.passed rfl rfl rfl ?_
    refine DO.passed rfl rfl rfl ?_
    refine DO.passed rfl rfl rfl ?_
    refine DO.quiet rfl (q_pick0 rfl rfl) ?_
    refine DO.done ?_
    refine T.cond0 rfl ?_
    refine T.exit ?_
    refine T.seq (T.seq ?_)
    refine T.draws _ [(0, 0), (1, 0), (2, 0), (3, 0), (4, 0), (5, 0), (6, 0), (7, 0), (8, 0)] mixed (by kernel_rfl) (Sub.of (List.Sublist.refl _)) (fun _ _ _ h => h) ?_
    refine DO.quiet rfl (q_move rfl) (DO.quiet rfl (q_move rfl) (DO.quiet rfl (q_ix (i := i) Try.underlying27 inf5 rfl rfl (Sl.o hS)) (DO.quiet rfl (q_ld Try.underlying5 rfl rfl (Sl.o hS) byts_get) ?_)))
    refine DO.quiet rfl (q_move rfl) (DO.quiet rfl (q_move rfl) (DO.quiet rfl (q_ix (i := k2) Try.underlying27 inf5 rfl rfl (Sl.o hS)) (DO.quiet rfl (q_ld Try.underlying5 rfl rfl (Sl.o hS) byts_get) ?_)))
    refine DO.quiet rfl (q_eql rfl rfl) ?_
    refine DO.done ?_
    refine T.condP rfl (fun hc => ?_) (fun hc => ?_)
    · have hlt42 : xs[i] = xs[k2] := by omega
      refine T.region ?_
      refine TO.quiet (q_move rfl) (TO.quiet (q_addN (a := k2) (b := 1) rfl rfl (by omega)) (TO.quiet (q_assign rfl) ?_))
      refine TO.nil (T.region ?_)
      refine TO.quiet (q_move rfl) (TO.quiet (q_move rfl) (TO.quiet (q_addN (a := i) (b := 1) rfl rfl (by omega)) (TO.quiet (q_move rfl) ?_)))
      refine TO.quiet (q_ix (i := (i + 1)) Try.underlying22 inf3 rfl rfl (rowO (List.mem_of_getElem? (i := 0) rfl))) ?_
      refine TO.loud rfl (l_st (j := (i + 1)) (v := .int .i64 ((k2 + 1 : Nat) : Int)) (vs := [(.int .i64 ((k2 + 1 : Nat) : Int))]) (cs := nats fl) 0 inf3 rfl rfl rfl rfl rfl (by simp) rfl (by first | (simp; omega) | (simp_all; omega)) ?_)
      refine TO.sub (O' := [rowI (some ⟨bx1, 0, none⟩) (xs.length + 1) 3 1 (nats (fl.set (i + 1) (k2 + 1)))]) (by rw [show putL (nats fl) (i + 1) [(.int .i64 ((k2 + 1 : Nat) : Int))] = nats (fl.set (i + 1) (k2 + 1)) from (by simp [putL])]; exact Sub.of (List.Sublist.refl _)) ?_
      refine TO.nil (T.region ?_)
      refine TO.quiet (q_move rfl) (TO.quiet (q_addN (a := i) (b := 1) rfl rfl (by omega)) (TO.quiet (q_assign rfl) ?_))
      refine TO.nil ?_
      exact ⟨i + 1, by omega, fl.set (i + 1) (k2 + 1), k2 + 1, rfl, by omega, by omega, by simp [hfl], fun j h1 h2 => lb_step hfl (by omega) hLB (KMP.hit hcand (by show xs.getD i 0 = xs.getD k2 0; rw [gd (by omega), gd (by omega)]; omega)) j h1 h2, by rw [gd (by simp; omega), List.getElem_set_self], ⟨rfl, rfl, rfl, rfl, rfl, trivial⟩⟩
    have hge42 : ¬ xs[i] = xs[k2] := by omega
    refine T.skip (T.region ?_)
    refine TO.quiet (q_move rfl) (TO.quiet (q_move rfl) (TO.quiet (q_addN (a := i) (b := 1) rfl rfl (by omega)) (TO.quiet (q_move rfl) ?_)))
    refine TO.quiet (q_ix (i := (i + 1)) Try.underlying22 inf3 rfl rfl (rowO (List.mem_of_getElem? (i := 0) rfl))) ?_
    refine TO.loud rfl (l_st (j := (i + 1)) (v := .int .i64 (k2 : Int)) (vs := [(.int .i64 (k2 : Int))]) (cs := nats fl) 0 inf3 rfl rfl rfl rfl rfl (by simp) rfl (by first | (simp; omega) | (simp_all; omega)) ?_)
    refine TO.sub (O' := [rowI (some ⟨bx1, 0, none⟩) (xs.length + 1) 3 1 (nats (fl.set (i + 1) (k2)))]) (by rw [show putL (nats fl) (i + 1) [(.int .i64 (k2 : Int))] = nats (fl.set (i + 1) (k2)) from (by simp [putL])]; exact Sub.of (List.Sublist.refl _)) ?_
    refine TO.nil (T.region ?_)
    refine TO.quiet (q_move rfl) (TO.quiet (q_addN (a := i) (b := 1) rfl rfl (by omega)) (TO.quiet (q_assign rfl) ?_))
    refine TO.nil ?_
    have hk20 : k2 = 0 := by omega
    subst hk20
    exact ⟨i + 1, by omega, fl.set (i + 1) 0, 0, rfl, by omega, by omega, by simp [hfl], fun j h1 h2 => lb_step hfl (by omega) hLB (KMP.miss hcand (by show xs.getD i 0 ≠ xs.getD 0 0; rw [gd (by omega), gd (by omega)]; omega)) j h1 h2, by rw [gd (by simp; omega), List.getElem_set_self], ⟨rfl, rfl, rfl, rfl, rfl, trivial⟩⟩
  have hge14 : ¬ i < xs.length := by omega
  refine T.exit ?_
  refine T.seq (T.seq ?_)
  have hie : i = xs.length := by omega
  subst hie
  have hfn : fl[xs.length] < xs.length := by rw [gd (by omega)] at hk0; omega
  have hr0 := root_of h0 hW
  rw [hk0, gd (by omega)] at hr0
  refine T.region ?_
  refine TO.quiet (q_move rfl) (TO.quiet (q_len Try.underlying27 rfl) (TO.quiet (q_move rfl) (TO.quiet (q_move rfl) ?_)))
  refine TO.quiet (q_len Try.underlying27 rfl) (TO.quiet (q_ix (i := xs.length) Try.underlying22 inf3 rfl rfl (rowO (List.mem_of_getElem? (i := 0) rfl))) (TO.quiet (q_ld Try.underlying3 rfl rfl (rowO (List.mem_of_getElem? (i := 0) rfl)) nats_get) (TO.quiet (q_subN (a := xs.length) (b := fl[xs.length]) rfl rfl (by omega) (by omega)) ?_)))
  refine TO.quiet (q_assign rfl) ?_
  refine TO.nil (T.seq (T.region ?_))
  refine TO.quiet (q_move rfl) (TO.quiet (q_len Try.underlying27 rfl) (TO.quiet (q_move rfl) (TO.quiet (q_remN (a := xs.length) (b := (xs.length - fl[xs.length])) rfl rfl (by omega)) ?_)))
  refine TO.quiet (q_eql rfl rfl) ?_
  refine TO.nil ?_
  refine T.condP rfl (fun hc => ?_) (fun hc => ?_)
  · have hlt62 : xs.length % (xs.length - fl[xs.length]) = 0 := by omega
    refine T.seq (T.region ?_)
    refine TO.quiet (q_move rfl) (TO.quiet (q_move rfl) (TO.quiet (q_sliceTo (hi := (xs.length - fl[xs.length])) Try.underlying27 inf5 rfl rfl (by omega)) (TO.quiet (q_assign rfl) ?_)))
    refine TO.nil (T.ret (Res.drop ?_))
    refine Res.one (.slice b (xs.length - fl[xs.length]) c) Try.results80 rfl ?_
    rw [if_pos (by omega)] at hr0
    exact ⟨[], Sub.of (List.nil_sublist _), _, rfl, rfl, hr0⟩
  have hge62 : ¬ xs.length % (xs.length - fl[xs.length]) = 0 := by omega
  refine T.skip (T.seq (T.region ?_))
  refine TO.quiet (q_move rfl) (TO.quiet (q_assign rfl) ?_)
  refine TO.nil (T.ret (Res.drop ?_))
  refine Res.one (.slice b xs.length c) Try.results80 rfl ?_
  rw [if_neg (by omega)] at hr0
  exact ⟨[], Sub.of (List.nil_sublist _), _, rfl, rfl, hr0⟩
set_option maxHeartbeats 1000000 in
set_option maxRecDepth 20000 in
theorem canonicalF (w : World) (l : La) (pb lb : Option Addr) (pc lc : Nat) (h : LaAt w l pb lb pc lc) (hL : LaB l) (h0 : 0 < l.loop.length) :
    PureT Try.prog 29 [.agg (laCells l pb pc lb lc).toArray] w fun v N => ∃ c pb2 lb2 pc2 lc2, v = .agg (laCells c pb2 pc2 lb2 lc2).toArray ∧ N = [rowI pb2 pc2 5 1 (byts c.pre), rowI lb2 lc2 5 1 (byts c.loop)] ∧ CanonOf l c := by
  refine CallT.enter Try.func29 rfl Try.ntmps29 rfl ?_
  have hpl := hL.pre; have hll := hL.loop; have hpc := h.pc; have hlc := h.lc
  refine T.seq (T.region ?_)
  refine TO.loud rfl (l_box (v := (.agg (laCells l pb pc lb lc).toArray)) (cs := (laCells l pb pc lb lc)) rfl rfl (fun bx1 => ?_))
  refine TO.loud rfl (l_alloc inf29 rfl (fun bx2 => ?_))
  refine TO.nil ?_
  refine T.scope ?_ (fun _ _ _ h => h)
  refine T.seq (T.region ?_)
  refine TO.quiet (q_load_boxAgg 1 Try.underlying29 rfl inf29 rfl rfl rfl) ?_
  have hk7 := fun (w1 : World) (hI : Inv w [oI bx2 29 [(.slice none 0 0), (.slice none 0 0)], oI bx1 29 (laCells l pb pc lb lc)] w1) => fullF w1 l pb lb pc lc h0
  refine TO.loud rfl (l_call ent79 (CallT.of_pure hk7) rfl ?_)
  clear hk7
  rintro vr O' ⟨N, rfl, rfl, rfl⟩
  refine TO.loud rfl (l_store_box (v := (.agg (laCells l pb pc lb lc).toArray)) (vs := (laCells l pb pc lb lc)) 1 inf29 rfl rfl rfl rfl rfl rfl (by simp [putL]) ?_)
  refine TO.nil (T.seq ?_)
  refine T.draws _ [(0, 0), (1, 0), (3, 0), (4, 0), (5, 0), (2, 1), (6, 0), (7, 0)] mixed (by kernel_rfl) (Sub.of (List.Sublist.refl _)) (fun _ _ _ h => h) ?_
  refine DO.quiet rfl (q_fieldAddr Try.underlying29 rfl inf27 rfl rfl) (DO.quiet rfl (q_load_box 1 Try.underlying27 rfl rfl rfl rfl) (DO.quiet rfl (q_fieldAddr Try.underlying29 rfl inf27 rfl rfl) (DO.quiet rfl (q_load_box 1 Try.underlying27 rfl rfl rfl rfl) ?_)))
  refine DO.quiet rfl (q_len Try.underlying27 rfl) ?_
  have hk10 := fun (w1 : World) (hI : Inv w [oI bx2 29 [(.slice none 0 0), (.slice none 0 0)], oI bx1 29 (laCells l pb pc lb lc)] w1) => rootF w1 lb lc l.loop (hI.sl h.loop) h0 h.lc hL.loop
  refine DO.loud rfl rfl (l_call ent80 (CallT.of_pure hk10) rfl ?_)
  clear hk10
  rintro vr O' ⟨N, rfl, q, rfl, rfl, hr⟩
  refine ⟨Sub.pick [0, 0] rfl, ?_⟩
  refine DO.quiet rfl (q_assign rfl) (DO.quiet rfl (q_assign rfl) ?_)
  refine DO.done ?_
  refine T.seq ?_
  have hq0 := hr.pos
  have hql : q ≤ l.loop.length := Nat.le_of_dvd h0 hr.dvd
  refine T.region ?_
  refine TO.quiet (q_move rfl) (TO.quiet (q_len Try.underlying27 rfl) (TO.quiet (q_assign rfl) ?_))
  refine TO.nil (T.seq ?_)
  refine T.label ?_
  refine T.seq (T.block ?_)
  refine T.loop (fun (n : Nat) ρ O => ∃ (a : Nat), O = [oI bx2 29 [(.slice none 0 0), (.slice none 0 0)], oI bx1 29 (laCells l pb pc lb lc)] ∧ CanP l q n a ∧ Heads [(0, (.agg (laCells l pb pc lb lc).toArray)), (1, (.pointer (some ⟨bx1, 0, none⟩))), (2, (.pointer (some ⟨bx2, 0, none⟩))), (3, (.slice lb q lc)), (4, .int .i64 (n : Int)), (5, .int .i64 (a : Int))] ρ) (fun n => n) l.pre.length ?_ ?_
  · exact ⟨q, rfl, CanP.start h0 hr, ⟨rfl, rfl, rfl, rfl, rfl, rfl, trivial⟩⟩
  rintro n ρ O ⟨a, rfl, hcp, hH⟩
  obtain ⟨ρ0, rfl⟩ := hH.elim
  clear hH
  have hn := hcp.nl; have ha0 := hcp.a0; have haq := hcp.aq
  have hmq : (a - 1) % q < q := Nat.mod_lt _ hq0
  refine T.seq (T.seq (T.region ?_))
  refine TO.quiet (q_move rfl) (TO.quiet (q_gtr rfl rfl) ?_)
  refine TO.nil ?_
  refine T.condP rfl (fun hc => ?_) (fun hc => ?_)
  · have hlt17 : n > 0 := by omega
    have hn0 : 0 < n := by omega
    refine T.skip (T.block (T.seq (T.seq ?_)))
    refine T.draws _ [(0, 0), (1, 0), (2, 0), (3, 0), (4, 0), (5, 0), (6, 0), (7, 0), (8, 0), (9, 0), (10, 0), (11, 0), (12, 0), (13, 0), (14, 0)] mixed (by kernel_rfl) (Sub.of (List.Sublist.refl _)) (fun _ _ _ h => h) ?_
    refine DO.quiet rfl (q_fieldAddr Try.underlying29 rfl inf27 rfl rfl) (DO.quiet rfl (q_load_box 1 Try.underlying27 rfl rfl rfl rfl) (DO.quiet rfl (q_move rfl) (DO.quiet rfl (q_subN (a := n) (b := 1) rfl rfl (by omega) (by omega)) ?_)))
    refine DO.quiet rfl (q_ix (i := (n - 1)) Try.underlying27 inf5 rfl rfl (Sl.o h.pre)) (DO.quiet rfl (q_ld Try.underlying5 rfl rfl (Sl.o h.pre) byts_get) (DO.quiet rfl (q_move rfl) (DO.quiet rfl (q_move rfl) ?_)))
    refine DO.quiet rfl (q_subN (a := a) (b := 1) rfl rfl (by omega) (by omega)) (DO.quiet rfl (q_move rfl) (DO.quiet rfl (q_len Try.underlying27 rfl) (DO.quiet rfl (q_remN (a := (a - 1)) (b := q) rfl rfl (by omega)) ?_)))
    refine DO.quiet rfl (q_ix (i := ((a - 1) % q)) Try.underlying27 inf5 rfl rfl (Sl.o h.loop) (by omega) (by rw [List.length_map]; omega)) (DO.quiet rfl (q_ld Try.underlying5 rfl rfl (Sl.o h.loop) (byts_get (by omega))) (DO.quiet rfl (q_neq rfl rfl) ?_))
    refine DO.done ?_
    refine T.condP rfl (fun hc => ?_) (fun hc => ?_)
    · have hlt32 : l.pre[n - 1] ≠ l.loop[(a - 1) % q] := by omega
      have hx : 0 < n → l.pre.getD (n - 1) 0 ≠ l.loop.getD ((a - 1) % q) 0 := fun h9 => by rw [gd (by omega), gd (by omega)]; omega
      refine T.exit ?_
      refine T.seq ?_
      have hmq9 : a % q < q := Nat.mod_lt _ hq0
      have hmq := hmq9
      have hpn : (l.pre.take n).length = n := by rw [List.length_take]; omega
      have hr1 : ((l.loop.take q).drop (a % q)).length = q - a % q := by rw [List.length_drop, List.length_take]; omega
      have hr2 : ((l.loop.take q).take (a % q)).length = a % q := by rw [List.length_take, List.length_take]; omega
      have hfe : [(l.loop.take q).drop (a % q), (l.loop.take q).take (a % q)].flatten = (l.loop.take q).drop (a % q) ++ (l.loop.take q).take (a % q) := by simp
      have hfl : ((l.loop.take q).drop (a % q) ++ (l.loop.take q).take (a % q)).length = q := by rw [List.length_append, hr1, hr2]; omega
      have hco := canon_of h0 hr hcp hx
      refine T.region ?_
      refine TO.quiet (q_move rfl) (TO.quiet (q_move rfl) (TO.quiet (q_len Try.underlying27 rfl) (TO.quiet (q_remN (a := a) (b := q) rfl rfl (by omega)) ?_)))
      refine TO.quiet (q_assign rfl) ?_
      refine TO.nil ?_
      refine T.cut (fun ρ O => ∃ (kb cb2 : Option Addr) (kc cc2 : Nat), O = [oI bx2 29 [(.slice kb n kc), (.slice cb2 q cc2)], rowI kb kc 5 1 (byts (l.pre.take n)), rowI cb2 cc2 5 1 (byts ((l.loop.take q).drop (a % q) ++ (l.loop.take q).take (a % q))), oI bx1 29 (laCells l pb pc lb lc)] ∧ Heads [(0, (.agg (laCells l pb pc lb lc).toArray)), (1, (.pointer (some ⟨bx1, 0, none⟩))), (2, (.pointer (some ⟨bx2, 0, none⟩))), (3, (.slice lb q lc)), (4, .int .i64 (n : Int)), (5, .int .i64 ((a % q : Nat) : Int))] ρ) ?_ ?_
      · refine T.tree [oI bx1 29 (laCells l pb pc lb lc)] 15 mixed rfl (Sub.pick [1] rfl) (fun _ _ _ h => h) ?_
        refine RO.quietT 0 rfl (by kernel_rfl) (q_fieldAddr Try.underlying29 rfl inf27 rfl rfl) ?_
        refine RO.quietT 1 rfl (by kernel_rfl) (q_load_box 0 Try.underlying27 rfl rfl rfl rfl) ?_
        refine RO.quietT 2 rfl (by kernel_rfl) (q_move rfl) ?_
        refine RO.quietT 3 rfl (by kernel_rfl) (q_sliceTo (hi := n) Try.underlying27 inf5 rfl rfl (by omega)) ?_
        refine RO.quietT 5 rfl (by kernel_rfl) (q_move rfl) ?_
        refine RO.quietT 6 rfl (by kernel_rfl) (q_move rfl) ?_
        refine RO.quietT 7 rfl (by kernel_rfl) (q_sliceFrom (lo := (a % q)) Try.underlying27 inf5 rfl rfl (by omega) (by omega)) ?_
        refine RO.quietT 8 rfl (by kernel_rfl) (q_move rfl) ?_
        refine RO.quietT 9 rfl (by kernel_rfl) (q_move rfl) ?_
        refine RO.quietT 10 rfl (by kernel_rfl) (q_sliceTo (hi := (a % q)) Try.underlying27 inf5 rfl rfl (by omega)) ?_
        have hk49 := fun (w1 : World) (hI : Inv w [oI bx2 29 [(.slice none 0 0), (.slice none 0 0)], oI bx1 29 (laCells l pb pc lb lc)] w1) => (by
          have hC := cloneB w1 pb pc (l.pre.take n) ((hI.sl h.pre).btake n) (by rw [hpn]; omega)
          rw [hpn] at hC; exact hC)
        refine RO.fork [4, 11] (by kernel_rfl) rfl ⟨⟨_, rfl, rfl, l_call ent81 (CallT.of_pure hk49) rfl ?_⟩, ⟨_, rfl, rfl, l_buildSlice (m := 2) (parts := [(0, .tmp 52), (1, .tmp 55)]) (cs := [(.slice (subB lb lc (a % q) 1) (q - (a % q)) (lc - (a % q))), (.slice lb (a % q) lc)]) Try.underlying131 inf27 (by decide) (by kernel_rfl) rfl (fun zW => ⟨Sub.pick [2] rfl, ?_⟩)⟩, trivial⟩
        · clear hk49
          rintro vr O' ⟨N, rfl, kb, kc, rfl, rfl⟩
          refine ⟨Sub.pick [2] rfl, ?_⟩
          refine RO.fork [11] (by kernel_rfl) rfl ⟨⟨_, rfl, rfl, l_buildSlice (m := 2) (parts := [(0, .tmp 52), (1, .tmp 55)]) (cs := [(.slice (subB lb lc (a % q) 1) (q - (a % q)) (lc - (a % q))), (.slice lb (a % q) lc)]) Try.underlying131 inf27 (by decide) (by kernel_rfl) rfl (fun zW => ⟨Sub.pick [3] rfl, ?_⟩)⟩, trivial⟩
          have hk57 := fun (w1 : World) (hI : Inv w [rowI (some ⟨zW, 0, none⟩) 2 27 1 [(.slice (subB lb lc (a % q) 1) (q - (a % q)) (lc - (a % q))), (.slice lb (a % q) lc)], rowI kb kc 5 1 (byts (l.pre.take n)), oI bx2 29 [(.slice none 0 0), (.slice none 0 0)], oI bx1 29 (laCells l pb pc lb lc)] w1) => (by
            have hC := concatB w1 (some ⟨zW, 0, none⟩) 2 [.slice (subB lb lc (a % q) 1) (q - a % q) (lc - a % q), .slice lb (a % q) lc] [(l.loop.take q).drop (a % q), (l.loop.take q).take (a % q)] (hI.slOf (List.mem_of_getElem? (i := 0) rfl)) (WordsR.two ((hI.sl h.loop).bsub h.lc hmq hql) (((hI.sl h.loop).btake q).btake (a % q)) hr1 hr2) (by simp) (by rw [hfe, hfl]; omega)
            rw [hfe, hfl] at hC; exact hC)
          refine RO.fork [12] (by kernel_rfl) rfl ⟨⟨_, rfl, rfl, l_call ent82 (CallT.of_pure hk57) rfl ?_⟩, trivial⟩
          clear hk57
          rintro vr O' ⟨N, rfl, cb2, cc2, rfl, rfl⟩
          refine ⟨Sub.pick [4] rfl, ?_⟩
          refine RO.quietT 13 rfl (by kernel_rfl) (q_build (cs := [(.slice kb n kc), (.slice cb2 q cc2)]) plan29 inf29 (by kernel_rfl)) ?_
          refine RO.fork [14] (by kernel_rfl) rfl ⟨⟨_, rfl, rfl, l_store_box (v := (.agg #[(.slice kb n kc), (.slice cb2 q cc2)])) (vs := [(.slice kb n kc), (.slice cb2 q cc2)]) 3 inf29 rfl rfl rfl rfl rfl rfl (by simp [putL]) ⟨Sub.pick [4] rfl, ?_⟩⟩, trivial⟩
          exact RO.fin (by kernel_rfl) ⟨kb, cb2, kc, cc2, rfl, ⟨rfl, rfl, rfl, rfl, rfl, rfl, trivial⟩⟩ (Sub.pick [3, 2, 0, 1] rfl)
        have hk49 := fun (w1 : World) (hI : Inv w [rowI (some ⟨zW, 0, none⟩) 2 27 1 [(.slice (subB lb lc (a % q) 1) (q - (a % q)) (lc - (a % q))), (.slice lb (a % q) lc)], oI bx2 29 [(.slice none 0 0), (.slice none 0 0)], oI bx1 29 (laCells l pb pc lb lc)] w1) => (by
          have hC := cloneB w1 pb pc (l.pre.take n) ((hI.sl h.pre).btake n) (by rw [hpn]; omega)
          rw [hpn] at hC; exact hC)
        refine RO.fork [4] (by kernel_rfl) rfl ⟨⟨_, rfl, rfl, l_call ent81 (CallT.of_pure hk49) rfl ?_⟩, trivial⟩
        clear hk49
        rintro vr O' ⟨N, rfl, kb, kc, rfl, rfl⟩
        refine ⟨Sub.pick [3] rfl, ?_⟩
        have hk57 := fun (w1 : World) (hI : Inv w [rowI kb kc 5 1 (byts (l.pre.take n)), rowI (some ⟨zW, 0, none⟩) 2 27 1 [(.slice (subB lb lc (a % q) 1) (q - (a % q)) (lc - (a % q))), (.slice lb (a % q) lc)], oI bx2 29 [(.slice none 0 0), (.slice none 0 0)], oI bx1 29 (laCells l pb pc lb lc)] w1) => (by
          have hC := concatB w1 (some ⟨zW, 0, none⟩) 2 [.slice (subB lb lc (a % q) 1) (q - a % q) (lc - a % q), .slice lb (a % q) lc] [(l.loop.take q).drop (a % q), (l.loop.take q).take (a % q)] (hI.slOf (List.mem_of_getElem? (i := 1) rfl)) (WordsR.two ((hI.sl h.loop).bsub h.lc hmq hql) (((hI.sl h.loop).btake q).btake (a % q)) hr1 hr2) (by simp) (by rw [hfe, hfl]; omega)
          rw [hfe, hfl] at hC; exact hC)
        refine RO.fork [12] (by kernel_rfl) rfl ⟨⟨_, rfl, rfl, l_call ent82 (CallT.of_pure hk57) rfl ?_⟩, trivial⟩
        clear hk57
        rintro vr O' ⟨N, rfl, cb2, cc2, rfl, rfl⟩
        refine ⟨Sub.pick [4] rfl, ?_⟩
        refine RO.quietT 13 rfl (by kernel_rfl) (q_build (cs := [(.slice kb n kc), (.slice cb2 q cc2)]) plan29 inf29 (by kernel_rfl)) ?_
        refine RO.fork [14] (by kernel_rfl) rfl ⟨⟨_, rfl, rfl, l_store_box (v := (.agg #[(.slice kb n kc), (.slice cb2 q cc2)])) (vs := [(.slice kb n kc), (.slice cb2 q cc2)]) 3 inf29 rfl rfl rfl rfl rfl rfl (by simp [putL]) ⟨Sub.pick [4] rfl, ?_⟩⟩, trivial⟩
        exact RO.fin (by kernel_rfl) ⟨kb, cb2, kc, cc2, rfl, ⟨rfl, rfl, rfl, rfl, rfl, rfl, trivial⟩⟩ (Sub.pick [3, 1, 0, 1] rfl)
      rintro ρ O ⟨kb, cb2, kc, cc2, rfl, hH⟩
      obtain ⟨ρ0, rfl⟩ := hH.elim
      clear hH
      refine T.ret (Res.drop ?_)
      refine Res.cell1 (i := 0) Try.results29 Try.underlying29 rfl inf29 rfl rfl rfl ?_
      exact ⟨[rowI kb kc 5 1 (byts (l.pre.take n)), rowI cb2 cc2 5 1 (byts ((l.loop.take q).drop (a % q) ++ (l.loop.take q).take (a % q)))], (Sub.pick [1, 1] rfl), _, kb, cb2, kc, cc2, by show _ = Value.agg (List.toArray [.slice kb (l.pre.take n).length kc, .slice cb2 ((l.loop.take q).drop (a % q) ++ (l.loop.take q).take (a % q)).length cc2]); rw [hpn, hfl], rfl, hco⟩
    have hge32 : ¬ l.pre[n - 1] ≠ l.loop[(a - 1) % q] := by omega
    refine T.skip (T.seq (T.region ?_))
    refine TO.quiet (q_move rfl) (TO.quiet (q_subN (a := n) (b := 1) rfl rfl (by omega) (by omega)) (TO.quiet (q_assign rfl) ?_))
    refine TO.nil (T.seq (T.region ?_))
    refine TO.quiet (q_move rfl) (TO.quiet (q_subN (a := a) (b := 1) rfl rfl (by omega) (by omega)) (TO.quiet (q_assign rfl) ?_))
    refine TO.nil (T.seq (T.region ?_))
    refine TO.quiet (q_move rfl) (TO.quiet (q_eql rfl rfl) ?_)
    refine TO.nil ?_
    refine T.condP rfl (fun hc => ?_) (fun hc => ?_)
    · have hlt38 : a - 1 = 0 := by omega
      refine T.region ?_
      refine TO.quiet (q_move rfl) (TO.quiet (q_len Try.underlying27 rfl) (TO.quiet (q_assign rfl) ?_))
      refine TO.nil ?_
      have h9 := hcp.step (by omega) (by rw [gd (by omega), gd (by omega)]; omega)
      rw [if_pos (by omega)] at h9
      exact ⟨n - 1, by omega, _, rfl, h9, ⟨rfl, rfl, rfl, rfl, rfl, rfl, trivial⟩⟩
    have hge38 : ¬ a - 1 = 0 := by omega
    refine T.skip ?_
    have h9 := hcp.step (by omega) (by rw [gd (by omega), gd (by omega)]; omega)
    rw [if_neg (by omega)] at h9
    exact ⟨n - 1, by omega, _, rfl, h9, ⟨rfl, rfl, rfl, rfl, rfl, rfl, trivial⟩⟩
  have hge17 : ¬ n > 0 := by omega
  have hx : 0 < n → l.pre.getD (n - 1) 0 ≠ l.loop.getD ((a - 1) % q) 0 := fun h9 => absurd h9 (by omega)
  refine T.exit ?_
  refine T.seq ?_
  have hmq9 : a % q < q := Nat.mod_lt _ hq0
  have hmq := hmq9
  have hpn : (l.pre.take n).length = n := by rw [List.length_take]; omega
  have hr1 : ((l.loop.take q).drop (a % q)).length = q - a % q := by rw [List.length_drop, List.length_take]; omega
  have hr2 : ((l.loop.take q).take (a % q)).length = a % q := by rw [List.length_take, List.length_take]; omega
  have hfe : [(l.loop.take q).drop (a % q), (l.loop.take q).take (a % q)].flatten = (l.loop.take q).drop (a % q) ++ (l.loop.take q).take (a % q) := by simp
  have hfl : ((l.loop.take q).drop (a % q) ++ (l.loop.take q).take (a % q)).length = q := by rw [List.length_append, hr1, hr2]; omega
  have hco := canon_of h0 hr hcp hx
  refine T.region ?_
  refine TO.quiet (q_move rfl) (TO.quiet (q_move rfl) (TO.quiet (q_len Try.underlying27 rfl) (TO.quiet (q_remN (a := a) (b := q) rfl rfl (by omega)) ?_)))
  refine TO.quiet (q_assign rfl) ?_
  refine TO.nil ?_
  refine T.cut (fun ρ O => ∃ (kb cb2 : Option Addr) (kc cc2 : Nat), O = [oI bx2 29 [(.slice kb n kc), (.slice cb2 q cc2)], rowI kb kc 5 1 (byts (l.pre.take n)), rowI cb2 cc2 5 1 (byts ((l.loop.take q).drop (a % q) ++ (l.loop.take q).take (a % q))), oI bx1 29 (laCells l pb pc lb lc)] ∧ Heads [(0, (.agg (laCells l pb pc lb lc).toArray)), (1, (.pointer (some ⟨bx1, 0, none⟩))), (2, (.pointer (some ⟨bx2, 0, none⟩))), (3, (.slice lb q lc)), (4, .int .i64 (n : Int)), (5, .int .i64 ((a % q : Nat) : Int))] ρ) ?_ ?_
  · refine T.tree [oI bx1 29 (laCells l pb pc lb lc)] 15 mixed rfl (Sub.pick [1] rfl) (fun _ _ _ h => h) ?_
    refine RO.quietT 0 rfl (by kernel_rfl) (q_fieldAddr Try.underlying29 rfl inf27 rfl rfl) ?_
    refine RO.quietT 1 rfl (by kernel_rfl) (q_load_box 0 Try.underlying27 rfl rfl rfl rfl) ?_
    refine RO.quietT 2 rfl (by kernel_rfl) (q_move rfl) ?_
    refine RO.quietT 3 rfl (by kernel_rfl) (q_sliceTo (hi := n) Try.underlying27 inf5 rfl rfl (by omega)) ?_
    refine RO.quietT 5 rfl (by kernel_rfl) (q_move rfl) ?_
    refine RO.quietT 6 rfl (by kernel_rfl) (q_move rfl) ?_
    refine RO.quietT 7 rfl (by kernel_rfl) (q_sliceFrom (lo := (a % q)) Try.underlying27 inf5 rfl rfl (by omega) (by omega)) ?_
    refine RO.quietT 8 rfl (by kernel_rfl) (q_move rfl) ?_
    refine RO.quietT 9 rfl (by kernel_rfl) (q_move rfl) ?_
    refine RO.quietT 10 rfl (by kernel_rfl) (q_sliceTo (hi := (a % q)) Try.underlying27 inf5 rfl rfl (by omega)) ?_
    have hk49 := fun (w1 : World) (hI : Inv w [oI bx2 29 [(.slice none 0 0), (.slice none 0 0)], oI bx1 29 (laCells l pb pc lb lc)] w1) => (by
      have hC := cloneB w1 pb pc (l.pre.take n) ((hI.sl h.pre).btake n) (by rw [hpn]; omega)
      rw [hpn] at hC; exact hC)
    refine RO.fork [4, 11] (by kernel_rfl) rfl ⟨⟨_, rfl, rfl, l_call ent81 (CallT.of_pure hk49) rfl ?_⟩, ⟨_, rfl, rfl, l_buildSlice (m := 2) (parts := [(0, .tmp 52), (1, .tmp 55)]) (cs := [(.slice (subB lb lc (a % q) 1) (q - (a % q)) (lc - (a % q))), (.slice lb (a % q) lc)]) Try.underlying131 inf27 (by decide) (by kernel_rfl) rfl (fun zW => ⟨Sub.pick [2] rfl, ?_⟩)⟩, trivial⟩
    · clear hk49
      rintro vr O' ⟨N, rfl, kb, kc, rfl, rfl⟩
      refine ⟨Sub.pick [2] rfl, ?_⟩
      refine RO.fork [11] (by kernel_rfl) rfl ⟨⟨_, rfl, rfl, l_buildSlice (m := 2) (parts := [(0, .tmp 52), (1, .tmp 55)]) (cs := [(.slice (subB lb lc (a % q) 1) (q - (a % q)) (lc - (a % q))), (.slice lb (a % q) lc)]) Try.underlying131 inf27 (by decide) (by kernel_rfl) rfl (fun zW => ⟨Sub.pick [3] rfl, ?_⟩)⟩, trivial⟩
      have hk57 := fun (w1 : World) (hI : Inv w [rowI (some ⟨zW, 0, none⟩) 2 27 1 [(.slice (subB lb lc (a % q) 1) (q - (a % q)) (lc - (a % q))), (.slice lb (a % q) lc)], rowI kb kc 5 1 (byts (l.pre.take n)), oI bx2 29 [(.slice none 0 0), (.slice none 0 0)], oI bx1 29 (laCells l pb pc lb lc)] w1) => (by
        have hC := concatB w1 (some ⟨zW, 0, none⟩) 2 [.slice (subB lb lc (a % q) 1) (q - a % q) (lc - a % q), .slice lb (a % q) lc] [(l.loop.take q).drop (a % q), (l.loop.take q).take (a % q)] (hI.slOf (List.mem_of_getElem? (i := 0) rfl)) (WordsR.two ((hI.sl h.loop).bsub h.lc hmq hql) (((hI.sl h.loop).btake q).btake (a % q)) hr1 hr2) (by simp) (by rw [hfe, hfl]; omega)
        rw [hfe, hfl] at hC; exact hC)
      refine RO.fork [12] (by kernel_rfl) rfl ⟨⟨_, rfl, rfl, l_call ent82 (CallT.of_pure hk57) rfl ?_⟩, trivial⟩
      clear hk57
      rintro vr O' ⟨N, rfl, cb2, cc2, rfl, rfl⟩
      refine ⟨Sub.pick [4] rfl, ?_⟩
      refine RO.quietT 13 rfl (by kernel_rfl) (q_build (cs := [(.slice kb n kc), (.slice cb2 q cc2)]) plan29 inf29 (by kernel_rfl)) ?_
      refine RO.fork [14] (by kernel_rfl) rfl ⟨⟨_, rfl, rfl, l_store_box (v := (.agg #[(.slice kb n kc), (.slice cb2 q cc2)])) (vs := [(.slice kb n kc), (.slice cb2 q cc2)]) 3 inf29 rfl rfl rfl rfl rfl rfl (by simp [putL]) ⟨Sub.pick [4] rfl, ?_⟩⟩, trivial⟩
      exact RO.fin (by kernel_rfl) ⟨kb, cb2, kc, cc2, rfl, ⟨rfl, rfl, rfl, rfl, rfl, rfl, trivial⟩⟩ (Sub.pick [3, 2, 0, 1] rfl)
    have hk49 := fun (w1 : World) (hI : Inv w [rowI (some ⟨zW, 0, none⟩) 2 27 1 [(.slice (subB lb lc (a % q) 1) (q - (a % q)) (lc - (a % q))), (.slice lb (a % q) lc)], oI bx2 29 [(.slice none 0 0), (.slice none 0 0)], oI bx1 29 (laCells l pb pc lb lc)] w1) => (by
      have hC := cloneB w1 pb pc (l.pre.take n) ((hI.sl h.pre).btake n) (by rw [hpn]; omega)
      rw [hpn] at hC; exact hC)
    refine RO.fork [4] (by kernel_rfl) rfl ⟨⟨_, rfl, rfl, l_call ent81 (CallT.of_pure hk49) rfl ?_⟩, trivial⟩
    clear hk49
    rintro vr O' ⟨N, rfl, kb, kc, rfl, rfl⟩
    refine ⟨Sub.pick [3] rfl, ?_⟩
    have hk57 := fun (w1 : World) (hI : Inv w [rowI kb kc 5 1 (byts (l.pre.take n)), rowI (some ⟨zW, 0, none⟩) 2 27 1 [(.slice (subB lb lc (a % q) 1) (q - (a % q)) (lc - (a % q))), (.slice lb (a % q) lc)], oI bx2 29 [(.slice none 0 0), (.slice none 0 0)], oI bx1 29 (laCells l pb pc lb lc)] w1) => (by
      have hC := concatB w1 (some ⟨zW, 0, none⟩) 2 [.slice (subB lb lc (a % q) 1) (q - a % q) (lc - a % q), .slice lb (a % q) lc] [(l.loop.take q).drop (a % q), (l.loop.take q).take (a % q)] (hI.slOf (List.mem_of_getElem? (i := 1) rfl)) (WordsR.two ((hI.sl h.loop).bsub h.lc hmq hql) (((hI.sl h.loop).btake q).btake (a % q)) hr1 hr2) (by simp) (by rw [hfe, hfl]; omega)
      rw [hfe, hfl] at hC; exact hC)
    refine RO.fork [12] (by kernel_rfl) rfl ⟨⟨_, rfl, rfl, l_call ent82 (CallT.of_pure hk57) rfl ?_⟩, trivial⟩
    clear hk57
    rintro vr O' ⟨N, rfl, cb2, cc2, rfl, rfl⟩
    refine ⟨Sub.pick [4] rfl, ?_⟩
    refine RO.quietT 13 rfl (by kernel_rfl) (q_build (cs := [(.slice kb n kc), (.slice cb2 q cc2)]) plan29 inf29 (by kernel_rfl)) ?_
    refine RO.fork [14] (by kernel_rfl) rfl ⟨⟨_, rfl, rfl, l_store_box (v := (.agg #[(.slice kb n kc), (.slice cb2 q cc2)])) (vs := [(.slice kb n kc), (.slice cb2 q cc2)]) 3 inf29 rfl rfl rfl rfl rfl rfl (by simp [putL]) ⟨Sub.pick [4] rfl, ?_⟩⟩, trivial⟩
    exact RO.fin (by kernel_rfl) ⟨kb, cb2, kc, cc2, rfl, ⟨rfl, rfl, rfl, rfl, rfl, rfl, trivial⟩⟩ (Sub.pick [3, 1, 0, 1] rfl)
  rintro ρ O ⟨kb, cb2, kc, cc2, rfl, hH⟩
  obtain ⟨ρ0, rfl⟩ := hH.elim
  clear hH
  refine T.ret (Res.drop ?_)
  refine Res.cell1 (i := 0) Try.results29 Try.underlying29 rfl inf29 rfl rfl rfl ?_
  exact ⟨[rowI kb kc 5 1 (byts (l.pre.take n)), rowI cb2 cc2 5 1 (byts ((l.loop.take q).drop (a % q) ++ (l.loop.take q).take (a % q)))], (Sub.pick [1, 1] rfl), _, kb, cb2, kc, cc2, by show _ = Value.agg (List.toArray [.slice kb (l.pre.take n).length kc, .slice cb2 ((l.loop.take q).drop (a % q) ++ (l.loop.take q).take (a % q)).length cc2]); rw [hpn, hfl], rfl, hco⟩
end Go.Proofs.Ytnamoapbienooaa


namespace Go.Lx
open Go.RowKit
set_option linter.unusedVariables false
structure Pf (b : Bu) (p : Nat → Nat) (w : List Nat) (s t : Nat) : Prop where
  z : p 0 = s
  e : p w.length = t
  st : ∀ i (h : i < w.length), ∃ e ∈ b.edges, e.fr = (p i : Int) ∧ e.to = (p (i + 1) : Int) ∧ e.pos = w[i]
theorem PathC.pf {b : Bu} {al : Nat → Bool} {s t : Nat} {w : List Nat} (h : PathC b al s w t) : ∃ p, Pf b p w s t := by
  induction h with
  | nil s => exact ⟨fun _ => s, rfl, rfl, fun i hi => by simp at hi⟩
  | @cons s u t w e he h1 h2 h3 h ih =>
    obtain ⟨p, hz, hp, hs⟩ := ih
    refine ⟨fun i => if i = 0 then s else p (i - 1), rfl, by simp [hp], fun i hi => ?_⟩
    cases i with
    | zero => exact ⟨e, he, h1, by simp [h2, hz], rfl⟩
    | succ i =>
      obtain ⟨e', h4, h5, h6, h7⟩ := hs i (by simpa using hi)
      exact ⟨e', h4, by simpa using h5, by simpa using h6, by simpa using h7⟩
theorem Pf.cat {b : Bu} {p q : Nat → Nat} {w v : List Nat} {s t u : Nat} (h : Pf b p w s t) (g : Pf b q v t u) : Pf b (fun i => if i < w.length then p i else q (i - w.length)) (w ++ v) s u := by
  have hj : ∀ i, i ≤ w.length → (if i < w.length then p i else q (i - w.length)) = p i := fun i hi => by
    split
    · rfl
    · have : i = w.length := by omega
      subst this; rw [Nat.sub_self, g.z, h.e]
  refine ⟨by show (if _ then _ else _) = _; rw [hj 0 (Nat.zero_le _)]; exact h.z, ?_, fun i hi => ?_⟩
  · show (if _ then _ else _) = _
    rw [if_neg (by simp), List.length_append, Nat.add_sub_cancel_left]; exact g.e
  · show ∃ e ∈ b.edges, e.fr = ((if i < w.length then p i else q (i - w.length) : Nat) : Int) ∧ e.to = ((if i + 1 < w.length then p (i + 1) else q (i + 1 - w.length) : Nat) : Int) ∧ _
    by_cases hlt : i < w.length
    · obtain ⟨e, h1, h2, h3, h4⟩ := h.st i hlt
      refine ⟨e, h1, by rw [if_pos hlt]; exact h2, by rw [hj (i + 1) hlt]; exact h3, by rw [List.getElem_append_left hlt]; exact h4⟩
    · obtain ⟨e, h1, h2, h3, h4⟩ := g.st (i - w.length) (by rw [List.length_append] at hi; omega)
      refine ⟨e, h1, by rw [if_neg hlt]; exact h2, by rw [if_neg (by omega), h3]; congr 2; omega, by rw [List.getElem_append_right (by omega)]; exact h4⟩
def LoopW (b : Bu) (first t k : Nat) (w : List Nat) : Prop := ∃ p, Pf b p w first t ∧ ∀ j, j < k → ∃ S, b.sets[j]? = some S ∧ ∃ i, i ≤ w.length ∧ (p i : Int) ∈ S
theorem LoopW.start {b : Bu} {first : Nat} : LoopW b first first 0 [] := ⟨fun _ => first, ⟨rfl, rfl, fun i hi => by simp at hi⟩, fun j hj => by omega⟩
theorem LoopW.cat {b : Bu} {al : Nat → Bool} {first t u k : Nat} {w v : List Nat} (h : LoopW b first t k w) (g : PathC b al t v u) : LoopW b first u k (w ++ v) := by
  obtain ⟨p, hp, hm⟩ := h
  obtain ⟨q, hq⟩ := g.pf
  refine ⟨_, hp.cat hq, fun j hj => ?_⟩
  obtain ⟨S, h1, i, h2, h3⟩ := hm j hj
  refine ⟨S, h1, i, by rw [List.length_append]; omega, ?_⟩
  by_cases hlt : i < w.length
  · show ((if i < w.length then p i else q (i - w.length) : Nat) : Int) ∈ S; rw [if_pos hlt]; exact h3
  · have : i = w.length := by omega
    subst this
    show ((if w.length < w.length then p w.length else q (w.length - w.length) : Nat) : Int) ∈ S
    rw [if_neg (by omega), Nat.sub_self, hq.z, ← hp.e]; exact h3
theorem LoopW.step {b : Bu} {al : Nat → Bool} {first t u k : Nat} {w v : List Nat} (h : LoopW b first t k w) (g : PathC b al t v u) {S : List Int} (hS : b.sets[k]? = some S) (hu : (u : Int) ∈ S) : LoopW b first u (k + 1) (w ++ v) := by
  obtain ⟨p, hp, hm⟩ := h.cat g
  refine ⟨p, hp, fun j hj => ?_⟩
  by_cases e : j = k
  · subst e; exact ⟨S, hS, (w ++ v).length, Nat.le_refl _, by rw [hp.e]; exact hu⟩
  · exact hm j (by omega)
theorem wit_acc {b : Bu} (hv : ValidB b) {al : Nat → Bool} {s first : Nat} {w0 w : List Nat} (hs : (s : Int) ∈ b.start) (h1 : PathC b al s w0 first) (h2 : LoopW b first first b.sets.length w) (h0 : 0 < w.length) : Acc b (La.at ⟨w0, w⟩) := by
  obtain ⟨p0, hp0⟩ := h1.pf
  obtain ⟨p, hp, hm⟩ := h2
  refine ⟨s, hs, fun i => if i < w0.length then p0 i else p ((i - w0.length) % w.length), ?_, fun i => ?_, fun S hS N => ?_⟩
  · show (if 0 < w0.length then _ else _) = _
    split
    · exact hp0.z
    · have : w0.length = 0 := by omega
      rw [Nat.zero_sub, Nat.zero_mod, hp.z, ← hp0.e, this]; exact hp0.z
  · have mt : ∀ e ∈ b.edges, mtch e e.pos := fun e he => ⟨Nat.and_self _, (hv.cu e he).2.2⟩
    show ∃ e ∈ b.edges, e.fr = ((if i < w0.length then p0 i else p ((i - w0.length) % w.length) : Nat) : Int) ∧ e.to = ((if i + 1 < w0.length then p0 (i + 1) else p ((i + 1 - w0.length) % w.length) : Nat) : Int) ∧ mtch e (La.at ⟨w0, w⟩ i)
    by_cases hlt : i < w0.length
    · obtain ⟨e, he, h3, h4, h5⟩ := hp0.st i hlt
      refine ⟨e, he, by rw [if_pos hlt]; exact h3, ?_, ?_⟩
      · rw [h4]; split
        · rfl
        · have : i + 1 = w0.length := by omega
          rw [this, Nat.sub_self, Nat.zero_mod, hp.z, hp0.e]
      · rw [La.at_pre (l := ⟨w0, w⟩) hlt]; show mtch e w0[i]; rw [← h5]; exact mt e he
    · have hml := Nat.mod_lt (i - w0.length) h0
      obtain ⟨e, he, h3, h4, h5⟩ := hp.st ((i - w0.length) % w.length) hml
      refine ⟨e, he, by rw [if_neg hlt]; exact h3, ?_, ?_⟩
      · rw [if_neg (by omega), h4, show i + 1 - w0.length = (i - w0.length) + 1 by omega]
        by_cases hl : (i - w0.length) % w.length + 1 < w.length
        · rw [Nat.add_mod (i - w0.length) 1, Nat.mod_eq_of_lt (show (i - w0.length) % w.length + 1 % w.length < w.length by
            by_cases h1w : w.length = 1
            · omega
            · rw [Nat.mod_eq_of_lt (show 1 < w.length by omega)]; exact hl)]
          by_cases h1w : w.length = 1
          · omega
          · rw [Nat.mod_eq_of_lt (show 1 < w.length by omega)]
        · have hle : (i - w0.length) % w.length + 1 = w.length := by omega
          have : (i - w0.length + 1) % w.length = 0 := by
            have h9 := Nat.mod_add_div (i - w0.length) w.length
            rw [show i - w0.length + 1 = w.length + w.length * ((i - w0.length) / w.length) by omega, Nat.add_mul_mod_self_left, Nat.mod_self]
          rw [this, hle, hp.e, hp.z]
      · rw [La.at_loop (l := ⟨w0, w⟩) h0 (by show w0.length ≤ i; omega)]; show mtch e (w[(i - w0.length) % w.length]); rw [← h5]; exact mt e he
  · obtain ⟨j, hj, rfl⟩ := List.mem_iff_getElem.1 hS
    obtain ⟨S', h3, i, h4, h5⟩ := hm j hj
    rw [List.getElem?_eq_getElem hj] at h3
    have := Option.some.inj h3
    subst this
    have hw : ((p (i % w.length) : Nat) : Int) ∈ b.sets[j] := by
      by_cases e : i = w.length
      · subst e; rw [Nat.mod_self, hp.z, ← hp.e]; exact h5
      · rw [Nat.mod_eq_of_lt (by omega)]; exact h5
    refine ⟨w0.length + (i + w.length * N), ?_, ?_⟩
    · have := Nat.le_mul_of_pos_left N h0; omega
    · show ((if _ then _ else _ : Nat) : Int) ∈ _
      rw [if_neg (by omega), Nat.add_sub_cancel_left, Nat.add_mul_mod_self_left]; exact hw
theorem rch_path {b : Bu} (hv : ValidB b) {al : Nat → Bool} {u v : Nat} (h : Rch (autE b) u v) : (∀ x, Rch (autE b) u x → Rch (autE b) x v → x < b.states.toNat → al x = true) → ∃ w, PathC b al u w v := by
  induction h with
  | refl v => intro _; exact ⟨[], .nil v⟩
  | @step u v w e h ih =>
    intro hal
    obtain ⟨z, hz⟩ := ih (fun x h1 h2 h3 => hal x (.step e h1) h2 h3)
    obtain ⟨ed, he, h1, h2⟩ := e
    have hvn : v < b.states.toNat := by have := (hv.ed ed he).2; omega
    exact ⟨_, .cons he h1 h2 (hal v (.one ⟨ed, he, h1, h2⟩) h hvn) hz⟩
theorem path_first {b : Bu} (hv : ValidB b) {ls co : List Bool} {s : Nat} (hl : liveB b s) (hls : ∀ v, v < b.states.toNat → (ls.getD v false = true ↔ liveB b v)) : ∃ w t, PathC b (fun v => ls.getD v false) s w t ∧ coreB b t := by
  obtain ⟨u, h1, h2⟩ := hl
  obtain ⟨w, hw⟩ := rch_path hv (al := fun v => ls.getD v false) h1 (fun x h3 h4 h5 => (hls x h5).2 ⟨u, h4, h2⟩)
  exact ⟨w, u, hw, h2⟩
structure SameP (b : Bu) (first : Nat) (same : List Bool) : Prop where
  h : ∀ v, v < b.states.toNat → (same.getD v false = true ↔ Rch (autE b) first v ∧ Rch (autE b) v first)
theorem SameP.path {b : Bu} (hv : ValidB b) {first u v : Nat} {same : List Bool} (h : SameP b first same) (hu : Rch (autE b) first u) (h1 : Rch (autE b) u v) (h2 : Rch (autE b) v first) : ∃ w, PathC b (fun v => same.getD v false) u w v :=
  rch_path hv h1 (fun x h3 h4 h5 => (h.h x h5).2 ⟨hu.trans h3, h4.trans h2⟩)
theorem SameP.mark {b : Bu} (hv : ValidB b) {first u k : Nat} {same : List Bool} (h : SameP b first same) (hc : coreB b first) (h1 : Rch (autE b) first u) (h2 : Rch (autE b) u first) (hk : k < b.sets.length) : ∃ w t, PathC b (fun v => same.getD v false) u w t ∧ ∃ S, b.sets[k]? = some S ∧ (t : Int) ∈ S := by
  obtain ⟨t, ⟨_, S, h3, h4⟩, h5, h6⟩ := hc.2 k hk
  obtain ⟨w, hw⟩ := h.path hv h1 (h2.trans h5) h6
  exact ⟨w, t, hw, S, h3, h4⟩
theorem SameP.back {b : Bu} (hv : ValidB b) {first u : Nat} {same : List Bool} (h : SameP b first same) (hc : coreB b first) (h1 : Rch (autE b) first u) (h2 : Rch (autE b) u first) {far : Bool} (hf : far = true → u = first) : ∃ w, PathC b (fun v => same.getD v false) u w first ∧ (far = true → w ≠ []) := by
  cases far with
  | false => obtain ⟨w, hw⟩ := h.path hv h1 h2 (.refl _); exact ⟨w, hw, fun q => by cases q⟩
  | true =>
    have e := hf rfl
    subst e
    obtain ⟨x, h3, h4⟩ := hc.1
    obtain ⟨w, hw⟩ := h.path hv (.one h3) h4 (.refl _)
    have h3' := h3
    obtain ⟨ed, he, h5, h6⟩ := h3
    have hxn : x < b.states.toNat := by have := (hv.ed ed he).2; omega
    exact ⟨_, .cons he h5 h6 ((h.h x hxn).2 ⟨.one h3', h4⟩) hw, fun _ => by simp⟩
theorem PathC.al_end {b : Bu} {al : Nat → Bool} {s t : Nat} {w : List Nat} (h : PathC b al s w t) (hs : al s = true) : al t = true := by
  induction h with
  | nil => exact hs
  | cons he h1 h2 h3 h ih => exact ih h3
theorem PathC.mem {b : Bu} {al : Nat → Bool} {s t : Nat} {w : List Nat} (h : PathC b al s w t) : ∀ x ∈ w, ∃ e ∈ b.edges, e.pos = x := by
  induction h with
  | nil => intro x hx; simp at hx
  | @cons s u t w e he h1 h2 h3 h ih =>
    intro x hx
    rcases List.mem_cons.1 hx with rfl | hx
    · exact ⟨e, he, rfl⟩
    · exact ih x hx
theorem Pf.mem {b : Bu} {p : Nat → Nat} {s t : Nat} {w : List Nat} (h : Pf b p w s t) : ∀ x ∈ w, ∃ e ∈ b.edges, e.pos = x := fun x hx => by
  obtain ⟨i, hi, rfl⟩ := List.mem_iff_getElem.1 hx
  obtain ⟨e, he, _, _, h2⟩ := h.st i hi
  exact ⟨e, he, h2⟩
theorem comp_le {n cnt : Nat} {E : Nat → Nat → Prop} {comp : Nat → Int} (hc : CompOk n E comp cnt) (hE : ∀ u v, E u v → u < n ∧ v < n) {u v : Nat} (h : Rch E u v) : comp v ≤ comp u := by
  induction h with
  | refl => exact Int.le_refl _
  | step e h ih => exact Int.le_trans ih (hc.clo _ _ (hE _ _ e).1 e)
theorem SameP.of {b : Bu} (hv : ValidB b) {nx : List (List Int)} {ms cn : List Nat} (hg : AutG b nx ms) {cnt first : Nat} (hc : CompN nx cn cnt) (hf : first < b.states.toNat) {same : List Bool} (hs : ∀ v, v < b.states.toNat → (same.getD v false = true ↔ fn cn v = fn cn first)) : SameP b first same := by
  have hE : ∀ u v, adjE nx u v → u < nx.length ∧ v < nx.length := fun u v he => adjE_lt (hg.ok hv) he
  have hnl : nx.length = b.states.toNat := hg.r.l
  refine ⟨fun v hv9 => ?_⟩
  rw [hs v hv9, ← hg.adj hv]
  constructor
  · intro e
    exact ⟨hc.cls first v (by omega) (by omega) (by show ((fn cn first : Nat) : Int) = fn cn v; omega), hc.cls v first (by omega) (by omega) (by show ((fn cn v : Nat) : Int) = fn cn first; omega)⟩
  · rintro ⟨h1, h2⟩
    have h3 := comp_le hc hE h1
    have h4 := comp_le hc hE h2
    have h5 : ((fn cn v : Nat) : Int) ≤ fn cn first := h3
    have h6 : ((fn cn first : Nat) : Int) ≤ fn cn v := h4
    omega
structure WitOf (b : Bu) (c : La) : Prop where
  can : IsCanon c
  acc : Acc b c.at
  pre : c.pre.length ≤ b.states.toNat
  loop : c.loop.length ≤ b.states.toNat * (b.sets.length + 1)
  mem : ∀ x, x ∈ c.pre ∨ x ∈ c.loop → ∃ e ∈ b.edges, e.pos = x
theorem WitOf.of {b : Bu} (hv : ValidB b) {al : Nat → Bool} {s first : Nat} {w0 w : List Nat} (hs : (s : Int) ∈ b.start) (h1 : PathC b al s w0 first) (h2 : LoopW b first first b.sets.length w) (h0 : 0 < w.length) (hl0 : w0.length ≤ b.states.toNat) (hl : w.length ≤ b.states.toNat * (b.sets.length + 1)) {c : La} (hc : CanonOf ⟨w0, w⟩ c) : WitOf b c := by
  have ha : c.at = La.at ⟨w0, w⟩ := funext hc.at_
  refine ⟨hc.can, by rw [ha]; exact wit_acc hv hs h1 h2 h0, Nat.le_trans hc.pre hl0, Nat.le_trans hc.loop hl, fun x hx => ?_⟩
  rcases hx with hx | hx
  · exact h1.mem x (hc.mp x hx)
  · obtain ⟨p, hp, _⟩ := h2; exact hp.mem x (hc.ml x hx)
def anyLive (b : Bu) : Prop := ∃ s : Nat, (s : Int) ∈ b.start ∧ liveB b s
open Classical in
noncomputable def witE (b : Bu) : Nat := if checkB b ≠ 0 then checkB b else if anyLive b then 0 else 9
theorem frm_of {b : Bu} (hv : ValidB b) {ls : List Bool} (hls : ∀ v, v < b.states.toNat → (ls.getD v false = true ↔ liveB b v)) :
    ∃ frm : List Nat, ints (b.start.filter fun x => !(!(ls.getD x.toNat false))) = nats frm ∧ (b.start.filter fun x => !(!(ls.getD x.toNat false))).length = frm.length ∧ (∀ s ∈ frm, s < b.states.toNat ∧ (s : Int) ∈ b.start ∧ liveB b s) ∧ (∀ s : Nat, (s : Int) ∈ b.start → liveB b s → s ∈ frm) ∧ frm.Nodup ∧ frm.length ≤ b.start.length := by
  have h0 : ∀ x ∈ b.start.filter (fun x => !(!(ls.getD x.toNat false))), 0 ≤ x ∧ x < b.states := fun x hx => hv.st x (List.mem_filter.1 hx).1
  have hlt : ∀ s : Nat, (s : Int) ∈ b.start → s < b.states.toNat := fun s hs => by have := hv.st _ hs; omega
  refine ⟨(b.start.filter fun x => !(!(ls.getD x.toNat false))).map Int.toNat, ?_, by rw [List.length_map], fun s hs => ?_, fun s hs hl => ?_, ?_, by rw [List.length_map]; exact List.length_filter_le _ _⟩
  · show List.map _ _ = List.map _ (List.map _ _)
    rw [List.map_map]
    apply List.map_congr_left
    intro x hx
    show Value.int _ x = Value.int _ ((x.toNat : Nat) : Int)
    rw [Int.toNat_of_nonneg (h0 x hx).1]
  · obtain ⟨x, hx, rfl⟩ := List.mem_map.1 hs
    obtain ⟨h1, h2⟩ := List.mem_filter.1 hx
    have h3 := hv.st x h1
    have e : ((x.toNat : Nat) : Int) = x := Int.toNat_of_nonneg h3.1
    have hn : x.toNat < b.states.toNat := by omega
    refine ⟨hn, by rw [e]; exact h1, (hls _ hn).1 (by simpa using h2)⟩
  · exact List.mem_map.2 ⟨(s : Int), List.mem_filter.2 ⟨hs, by have := (hls s (hlt s hs)).2 hl; simpa using this⟩, by simp⟩
  · have h1 : (b.start.filter fun x => !(!(ls.getD x.toNat false))).Pairwise (· < ·) := hv.sst.filter _
    rw [List.Nodup, List.pairwise_map]
    refine List.Pairwise.imp_of_mem (fun {x y} hx hy hlt => ?_) h1
    have := h0 x hx; have := h0 y hy
    omega
theorem sm_step {cn : List Nat} {sm : List Bool} {n k first : Nat} (hl : sm.length = n) (hk : k < n) (hc : cn.length = n) (hf : first < n) (h : ∀ v, v < n → (sm.getD v false = true ↔ v < k ∧ fn cn v = fn cn first)) : ∀ v, v < n → ((sm.set k (decide (((cn[k] : Nat) : Int) = ((cn[first] : Nat) : Int)))).getD v false = true ↔ v < k + 1 ∧ fn cn v = fn cn first) := fun v hv => by
  rw [getB_set (by omega)]
  by_cases e : v = k
  · subst e
    rw [if_pos rfl, decide_eq_true_iff, fn_get (by omega), fn_get (by omega)]
    omega
  · rw [if_neg e, h v hv]; omega
theorem bit_and {x k : Nat} : decide ((((x / 2 ^ k) &&& 1 : Nat) : Int) = ((1 : Nat) : Int)) = x.testBit k := by
  rw [Nat.testBit_eq_decide_div_mod_eq, Nat.and_one_is_mod]
  congr 1
  exact propext (by omega)
theorem bit_and9 {x k : Nat} : decide ((((x >>> k) &&& 1 : Nat) : Int) = 1) = x.testBit k := by
  rw [Nat.shiftRight_eq_div_pow]; exact bit_and
theorem mk_bit {b : Bu} {nx : List (List Int)} {ms : List Nat} (hg : AutG b nx ms) {k s : Nat} (hs : s < b.states.toNat) : (ms.getD s 0).testBit k = true ↔ ∃ S, b.sets[k]? = some S ∧ (s : Int) ∈ S := by
  rw [hg.m s hs, mkN_test]
end Go.Lx


namespace Go.Lx
open Go.RowKit
set_option linter.unusedVariables false
theorem CallV.pick {P : Program} {base : World} {fv : Value} {args : List Value} {x : Value} (is : List Nat) (L R A : List Item) (hA : pickL is L = A) (h : CallV P base fv args A (fun v O' => v = x ∧ O' = A)) : CallV P base fv args (L ++ R) (fun v O' => v = x ∧ O' = L ++ R) := by
  subst hA
  have hp : (pickL is L ++ (restL is L ++ R)).Perm (L ++ R) := by
    rw [← List.append_assoc]; exact (pick_perm is L).append_right R
  exact ((h.under (B := restL is L ++ R) (Sub.of_perm (D := []) (by simpa using hp))).mono (fun v O' ⟨A', e, hv, ha⟩ => ⟨L ++ R, by rw [e, ha]; exact Sub.of_perm (D := []) (by simpa using hp.symm), hv, rfl⟩)).reorder
theorem q_field {P : Program} {base : World} {ρ : Env} {O : List Item} {dst : Option Nat} {t : TypeId} {p : String} {af : Array Edge} {g : Option (Nat × Bool)} {x : Operand} {S : TypeId} {fs : Array Field} {i : Nat} {f : Field} {cs : List Value} {d : TypeDesc} {v : Value} (hu : P.underlying S = some (.struct fs)) (hf : fs[i]? = some f) (hd : P.underlying f.type = some d) (ha : aggB d = false) (hx : ev ρ x = .agg cs.toArray) (hv : cs[f.offset]? = some v) :
    QT P base ⟨dst, .field S x i, t, p, af, g⟩ ρ O v := fun w _ => by
  simp [execOp, hx, Instr.field, run_underlying' hu, hf, part, run_isAgg' hd, ha, asAgg, hv]
theorem Src.own {P : Program} {base : World} {O : List Item} {b : Option Addr} {c k m : Nat} {cs : List Value} (h : ∀ w, Inv base O w → Sl w b cs) (hl : cs.length = m * k) : Src P base O k m (.slice b m c) cs :=
  ⟨hl, fun w => by simp [Builtin.lenOf], fun w hI => firstCells_run (h w hI) hl (fun e => by
    cases cs with
    | nil => rfl
    | cons v cs => obtain ⟨a, h1, _⟩ := h w hI 0 (by simp); rw [e] at h1; cases h1)⟩
section
variable {P : Program} {r : Option Nat} {base : World} {n : Nat} {ops : Array Oper} {S S2 : List Item} {tail tail2 : List Nat} {K : Env → List Item → Prop} {ρ : Env} {O : List Item}
end
end Go.Lx


namespace Go.Proofs.Ytnamoapbienooaa
open Go.Lx Go.RowKit
set_option linter.unusedVariables false
set_option linter.unusedSimpArgs false
set_option maxHeartbeats 1000000 in
set_option maxRecDepth 20000 in
theorem witLive (base : World) (b1 : Nat) (lb : Option Addr) (lc : Nat) (ls : List Bool) (s : Int) (h0 : 0 ≤ s) (hs : s.toNat < ls.length) :
    CallT Try.prog base 71 [.int .i64 s, .pointer (some ⟨b1, 0, none⟩)] [oI b1 39 [(.slice lb ls.length lc)], rowI lb lc 4 1 (bools ls)] (fun v O' => v = .bool (!ls.getD s.toNat false) ∧ O' = [oI b1 39 [(.slice lb ls.length lc)], rowI lb lc 4 1 (bools ls)]) := by
  refine CallT.enter Try.func71 rfl Try.ntmps71 rfl ?_
  refine T.seq (T.region ?_)
  refine TO.quiet (q_assign rfl) ?_
  refine TO.nil (T.seq (T.region ?_))
  refine TO.quiet (q_load_box 0 Try.underlying39 rfl rfl rfl rfl) (TO.quiet (QT.cast (q_move rfl) (v' := .int .i64 ((s.toNat : Nat) : Int)) (by show Value.int _ s = _; rw [Int.toNat_of_nonneg h0])) (TO.quiet (q_ix (i := s.toNat) Try.underlying39 inf4 rfl rfl (rowO (List.mem_of_getElem? (i := 1) rfl))) (TO.quiet (q_ld Try.underlying4 rfl rfl (rowO (List.mem_of_getElem? (i := 1) rfl)) bools_get) ?_)))
  refine TO.quiet (q_not rfl) (TO.quiet (q_assign rfl) ?_)
  refine TO.nil (T.ret ?_)
  refine Res.one (.bool (!ls[s.toNat])) Try.results71 rfl ?_
  exact ⟨by rw [gb hs], rfl⟩
set_option maxHeartbeats 1000000 in
set_option maxRecDepth 20000 in
theorem witCore (base : World) (b1 : Nat) (lb : Option Addr) (lc : Nat) (ls : List Bool) (s : Int) (h0 : 0 ≤ s) (hs : s.toNat < ls.length) :
    CallT Try.prog base 73 [.int .i64 s, .pointer (some ⟨b1, 0, none⟩)] [oI b1 39 [(.slice lb ls.length lc)], rowI lb lc 4 1 (bools ls)] (fun v O' => v = .bool (ls.getD s.toNat false) ∧ O' = [oI b1 39 [(.slice lb ls.length lc)], rowI lb lc 4 1 (bools ls)]) := by
  refine CallT.enter Try.func73 rfl Try.ntmps73 rfl ?_
  refine T.seq (T.region ?_)
  refine TO.quiet (q_assign rfl) ?_
  refine TO.nil (T.seq (T.region ?_))
  refine TO.quiet (q_load_box 0 Try.underlying39 rfl rfl rfl rfl) (TO.quiet (QT.cast (q_move rfl) (v' := .int .i64 ((s.toNat : Nat) : Int)) (by show Value.int _ s = _; rw [Int.toNat_of_nonneg h0])) (TO.quiet (q_ix (i := s.toNat) Try.underlying39 inf4 rfl rfl (rowO (List.mem_of_getElem? (i := 1) rfl))) (TO.quiet (q_ld Try.underlying4 rfl rfl (rowO (List.mem_of_getElem? (i := 1) rfl)) bools_get) ?_)))
  refine TO.quiet (q_assign rfl) ?_
  refine TO.nil (T.ret ?_)
  refine Res.one (.bool ls[s.toNat]) Try.results73 rfl ?_
  exact ⟨by rw [gb hs], rfl⟩
set_option maxHeartbeats 1000000 in
set_option maxRecDepth 20000 in
theorem witMark (base : World) (bg bk : Nat) (nb mb : Option Addr) (nl nc mc mq k : Nat) (full : Int) (ms : List Nat) (s : Int) (h0 : 0 ≤ s) (hs : s.toNat < ms.length) (hk : k ≤ 63) (hm : ∀ x ∈ ms, x < 256) :
    CallT Try.prog base 75 [.int .i64 s, .pointer (some ⟨bg, 0, none⟩), .pointer (some ⟨bk, 0, none⟩)] [oI bg 79 [(.slice nb nl nc), (.slice mb ms.length mc), (.int .u64 full)], oI bk 3 [(.int .i64 ((k : Nat) : Int))], rowI mb mq 52 1 (uns ms)] (fun v O' => v = .bool ((ms.getD s.toNat 0).testBit k) ∧ O' = [oI bg 79 [(.slice nb nl nc), (.slice mb ms.length mc), (.int .u64 full)], oI bk 3 [(.int .i64 ((k : Nat) : Int))], rowI mb mq 52 1 (uns ms)]) := by
  refine CallT.enter Try.func75 rfl Try.ntmps75 rfl ?_
  refine T.seq (T.region ?_)
  refine TO.quiet (q_assign rfl) ?_
  refine TO.nil (T.seq ?_)
  refine T.draws _ [(0, 0), (1, 0), (2, 0), (3, 0), (4, 0), (5, 0), (6, 0), (7, 0), (8, 0), (9, 0)] mixed (by kernel_rfl) (Sub.of (List.Sublist.refl _)) (fun _ _ _ h => h) ?_
  refine DO.quiet rfl (q_fieldAddr Try.underlying79 rfl inf77 rfl rfl) (DO.quiet rfl (q_load_box 0 Try.underlying77 rfl rfl rfl rfl) (DO.quiet rfl (QT.cast (q_move rfl) (v' := .int .i64 ((s.toNat : Nat) : Int)) (by show Value.int _ s = _; rw [Int.toNat_of_nonneg h0])) (DO.quiet rfl (q_ix (i := s.toNat) Try.underlying77 inf52 rfl rfl (rowO (List.mem_of_getElem? (i := 2) rfl))) ?_)))
  refine DO.quiet rfl (q_ld Try.underlying52 rfl rfl (rowO (List.mem_of_getElem? (i := 2) rfl)) uns_get) (DO.quiet rfl (q_load_box 1 Try.underlying3 rfl rfl rfl rfl) (DO.quiet rfl (q_shr (a := ms[s.toNat]) (b := k) .u64 rfl rfl (by show _ < 2 ^ 64; have := hm _ (List.getElem_mem hs); omega) (by show _ ≤ 64; omega)) (DO.quiet rfl (q_and (a := (ms[s.toNat] >>> k)) (b := 1) .u64 rfl rfl (by show _ < 2 ^ 64; have := hm _ (List.getElem_mem hs); have := Nat.shiftRight_le ms[s.toNat] k; omega) (by decide)) ?_)))
  refine DO.quiet rfl (q_eql rfl rfl) (DO.quiet rfl (q_assign rfl) ?_)
  refine DO.done ?_
  refine T.ret ?_
  refine Res.one (.bool (decide ((((ms[s.toNat] >>> k) &&& 1 : Nat) : Int) = 1))) Try.results75 rfl ?_
  exact ⟨congrArg Value.bool (by rw [show ms.getD s.toNat 0 = ms[s.toNat] by simp [hs]]; exact bit_and9), rfl⟩
set_option maxHeartbeats 1000000 in
set_option maxRecDepth 20000 in
theorem witEq (base : World) (bf : Nat) (first s : Int) :
    CallT Try.prog base 76 [.int .i64 s, .pointer (some ⟨bf, 0, none⟩)] [oI bf 3 [(.int .i64 first)]] (fun v O' => v = .bool (decide (s = first)) ∧ O' = [oI bf 3 [(.int .i64 first)]]) := by
  refine CallT.enter Try.func76 rfl Try.ntmps76 rfl ?_
  refine T.seq (T.region ?_)
  refine TO.quiet (q_assign rfl) ?_
  refine TO.nil (T.seq (T.region ?_))
  refine TO.quiet (q_move rfl) (TO.quiet (q_load_box 0 Try.underlying3 rfl rfl rfl rfl) (TO.quiet (q_eql rfl rfl) (TO.quiet (q_assign rfl) ?_)))
  refine TO.nil (T.ret ?_)
  refine Res.one (.bool (decide (s = first))) Try.results76 rfl ?_
  exact ⟨rfl, rfl⟩
end Go.Proofs.Ytnamoapbienooaa


namespace Go.Proofs.Ytnamoapbienooaa
open Go.Lx Go.RowKit
set_option linter.unusedVariables false
set_option linter.unusedSimpArgs false
set_option maxHeartbeats 4000000 in
set_option maxRecDepth 20000 in
theorem witnessF (w : World) (b : Bu) (sb eb tb : Option Addr) (sc ec tc : Nat) (vs : List Value) (h : BuAt w b sb eb tb vs) (hB : BuB b) :
    PureT Try.prog 27 [.agg (buCells b sb sc eb ec tb tc).toArray] w fun v N => ∃ (c : La) (pb lb : Option Addr) (pc lc e : Nat), v = .tuple #[.agg (laCells c pb pc lb lc).toArray, .int .i64 (e : Int)] ∧ N = [rowI pb pc 5 1 (byts c.pre), rowI lb lc 5 1 (byts c.loop)] ∧ e = witE b ∧ (e ≠ 0 → c = ⟨[], []⟩) ∧ (e = 0 → WitOf b c) := by
  refine CallT.enter Try.func27 rfl Try.ntmps27 rfl ?_
  have hst := hB.st; have hed := hB.ed; have hse := hB.se
  refine T.seq (T.region ?_)
  refine TO.loud rfl (l_box (v := (.agg (buCells b sb sc eb ec tb tc).toArray)) (cs := (buCells b sb sc eb ec tb tc)) rfl rfl (fun bx1 => ?_))
  refine TO.loud rfl (l_alloc inf29 rfl (fun bx2 => ?_))
  refine TO.quiet (q_assign rfl) ?_
  refine TO.nil (T.seq (T.seq (T.region ?_)))
  refine TO.quiet (q_load_boxAgg 1 Try.underlying26 rfl inf26 rfl rfl rfl) ?_
  have hk23 := fun (w1 : World) (hI : Inv w [oI bx2 29 [(.slice none 0 0), (.slice none 0 0)], oI bx1 26 (buCells b sb sc eb ec tb tc)] w1) => checkF w1 b sb eb tb sc ec tc vs (hI.bu h) hB
  refine TO.loud rfl (l_call ent21 (CallT.of_pure hk23) rfl ?_)
  clear hk23
  rintro vr O' ⟨N, rfl, rfl, rfl⟩
  refine TO.quiet (q_assign rfl) ?_
  refine TO.nil (T.seq (T.region ?_))
  refine TO.quiet (q_move rfl) (TO.quiet (q_neq rfl rfl) ?_)
  refine TO.nil ?_
  refine T.condP rfl (fun hc => ?_) (fun hc => ?_)
  · have hlt25 : checkB b ≠ 0 := by omega
    refine T.seq ?_
    refine T.nilRow 5 1 ?_
    refine T.nilRow 5 1 ?_
    refine T.region ?_
    refine TO.quiet (q_build plan29 inf29 rfl) (TO.quiet (q_move rfl) ?_)
    refine TO.loud rfl (l_store_box (v := (.agg #[(.slice none 0 0), (.slice none 0 0)])) (vs := [(.slice none 0 0), (.slice none 0 0)]) 2 inf29 rfl rfl rfl rfl rfl rfl (by simp [putL]) ?_)
    refine TO.quiet (q_assign rfl) ?_
    refine TO.nil (T.ret (Res.drop ?_))
    refine Res.cell1b (.int .i64 (checkB b : Int)) (i := 2) Try.results27 Try.underlying29 rfl inf29 rfl rfl rfl rfl ?_
    exact ⟨[rowI none 0 5 1 [], rowI none 0 5 1 []], (Sub.pick [0, 0] rfl), ⟨[], []⟩, none, none, 0, 0, checkB b, rfl, rfl, (by unfold witE; rw [if_pos (by omega)]), fun _ => rfl, fun h9 => (by omega)⟩
  have hge25 : ¬ checkB b ≠ 0 := by omega
  refine T.skip (T.seq ?_)
  have hv : ValidB b := checkB_zero.1 (by omega)
  have hv0 := hv.n0; have hv4 := hv.n4; have hm8 := hv.m8
  refine T.region ?_
  refine TO.quiet (q_load_boxAgg 1 Try.underlying26 rfl inf26 rfl rfl rfl) ?_
  have hk29 := fun (w1 : World) (hI : Inv w [oI bx2 29 [(.slice none 0 0), (.slice none 0 0)], oI bx1 26 (buCells b sb sc eb ec tb tc)] w1) => automatonF w1 b sb eb tb sc ec tc vs (hI.bu h) hB hv
  refine TO.loud rfl (l_call ent62 (CallT.of_pure hk29) rfl ?_)
  clear hk29
  rintro vr O' ⟨N, rfl, nb2, nc2, mb2, mc2, qs, ms, rfl, rfl, hg⟩
  refine TO.sub (O' := ([rowI nb2 b.states.toNat 22 1 (vals qs), rowI mb2 b.states.toNat 52 1 (uns ms), oI bx2 29 [(.slice none 0 0), (.slice none 0 0)], oI bx1 26 (buCells b sb sc eb ec tb tc)] ++ (itms 3 qs))) (Sub.cnt [] (by intro a; simp only [itms, oI, List.set_cons_zero, List.set_cons_succ, putL, List.cons_append, List.nil_append, List.append_nil, List.append_assoc, List.map_append, List.map_cons, List.map_nil, cnt_append, cnt_cons, cnt_nil, buCells, laCells] <;> omega)) ?_
  refine TO.loud rfl (l_alloc inf79 rfl (fun bx3 => ?_))
  refine TO.loud rfl (l_store_box (v := (.agg #[(.slice nb2 b.states.toNat nc2), (.slice mb2 b.states.toNat mc2), .int .u64 ((2 ^ b.sets.length - 1 : Nat) : Int)])) (vs := [(.slice nb2 b.states.toNat nc2), (.slice mb2 b.states.toNat mc2), .int .u64 ((2 ^ b.sets.length - 1 : Nat) : Int)]) 0 inf79 rfl rfl rfl rfl rfl rfl (by simp [putL]) ?_)
  refine TO.nil (T.seq (T.region ?_))
  refine TO.quiet (q_load_boxAgg 0 Try.underlying79 rfl inf79 rfl rfl rfl) ?_
  have hk32 := fun (w1 : World) (hI : Inv w ([oI bx3 79 [(.slice nb2 b.states.toNat nc2), (.slice mb2 b.states.toNat mc2), .int .u64 ((2 ^ b.sets.length - 1 : Nat) : Int)], rowI nb2 b.states.toNat 22 1 (vals qs), rowI mb2 b.states.toNat 52 1 (uns ms), oI bx2 29 [(.slice none 0 0), (.slice none 0 0)], oI bx1 26 (buCells b sb sc eb ec tb tc)] ++ (itms 3 qs)) w1) => (by
    have hL := liveF w1 nb2 mb2 nc2 mc2 (vals qs) (nums qs) ms b.sets.length (hI.slOf (List.mem_of_getElem? (i := 1) rfl)) (Inv.recs (E := 3) hI (fun q hq => List.mem_append_right _ (List.mem_map.2 ⟨q, hq, rfl⟩))) (by rw [hg.r.l]; omega) (fun r hr => by obtain ⟨i, hi, rfl⟩ := List.mem_iff_getElem.1 hr; have h9 := hg.r.b i; rw [getD_at hi] at h9; omega) (hg.ok hv) (hI.slOf (List.mem_of_getElem? (i := 2) rfl)) (by rw [hg.l, hg.r.l]) hg.lt hv.m8
    rw [hg.r.l, hg.l] at hL; exact hL)
  refine TO.loud rfl (l_call ent55 (CallT.of_pure hk32) rfl ?_)
  clear hk32
  rintro vr O' ⟨N, rfl, lb, lc, kb, kc, ls, co, rfl, rfl, hll, hlc, hlv⟩
  refine TO.quiet (q_move rfl) (TO.quiet (q_extract (vs := _) rfl rfl) (TO.quiet (q_extract (vs := _) rfl rfl) ?_))
  refine TO.loud rfl (l_alloc inf39 rfl (fun bx4 => ?_))
  refine TO.loud rfl (l_alloc inf39 rfl (fun bx5 => ?_))
  refine TO.loud rfl (l_store_box (v := (.slice lb b.states.toNat lc)) (vs := [(.slice lb b.states.toNat lc)]) 1 inf39 rfl rfl rfl rfl rfl rfl (by simp [putL]) ?_)
  refine TO.loud rfl (l_store_box (v := (.slice kb b.states.toNat kc)) (vs := [(.slice kb b.states.toNat kc)]) 0 inf39 rfl rfl rfl rfl rfl rfl (by simp [putL]) ?_)
  refine TO.nil (T.seq ?_)
  have hls : ∀ v, v < b.states.toNat → (ls.getD v false = true ↔ liveB b v) := fun v hv9 => (hlv v hv9).1.trans (hg.liv hv v)
  have hcs : ∀ v, v < b.states.toNat → (co.getD v false = true ↔ coreB b v) := fun v hv9 => (hlv v hv9).2.trans (hg.cor hv v)
  have hll9 : ls.length = b.states.toNat := hll
  obtain ⟨frm, hfr, hfl, hfm, hfa, hfd, hfs⟩ := frm_of hv hls
  refine T.region ?_
  refine TO.quiet (q_fieldAddr Try.underlying26 rfl inf22 rfl rfl) (TO.quiet (q_load_box 8 Try.underlying22 rfl rfl rfl rfl) ?_)
  have hk37 := fun (w1 : World) (hI : Inv w ([oI bx5 39 [(.slice kb b.states.toNat kc)], oI bx4 39 [(.slice lb b.states.toNat lc)], rowI lb lc 4 1 (bools ls), rowI kb kc 4 1 (bools co), oI bx3 79 [(.slice nb2 b.states.toNat nc2), (.slice mb2 b.states.toNat mc2), .int .u64 ((2 ^ b.sets.length - 1 : Nat) : Int)], rowI nb2 b.states.toNat 22 1 (vals qs), rowI mb2 b.states.toNat 52 1 (uns ms), oI bx2 29 [(.slice none 0 0), (.slice none 0 0)], oI bx1 26 (buCells b sb sc eb ec tb tc)] ++ (itms 3 qs)) w1) => cloneI w1 sb sc b.start (hI.bu h).st (by omega)
  refine TO.loud rfl (l_call ent70 (CallT.of_pure hk37) rfl ?_)
  clear hk37
  rintro vr O' ⟨N, rfl, cb1, cc1, rfl, rfl⟩
  refine TO.quiet (q_makeFunc) ?_
  have hk39 := (show CallT Try.prog w 69 [.slice cb1 b.start.length cc1, (.func (.func 71) #[] #[.pointer (some ⟨bx4, 0, none⟩)])] ([rowI cb1 cc1 3 1 (ints b.start)] ++ ([oI bx5 39 [(.slice kb b.states.toNat kc)], oI bx4 39 [(.slice lb b.states.toNat lc)], rowI lb lc 4 1 (bools ls), rowI kb kc 4 1 (bools co), oI bx3 79 [(.slice nb2 b.states.toNat nc2), (.slice mb2 b.states.toNat mc2), .int .u64 ((2 ^ b.sets.length - 1 : Nat) : Int)], rowI nb2 b.states.toNat 22 1 (vals qs), rowI mb2 b.states.toNat 52 1 (uns ms), oI bx2 29 [(.slice none 0 0), (.slice none 0 0)], oI bx1 26 (buCells b sb sc eb ec tb tc)] ++ (itms 3 qs))) (fun v O' => v = .slice cb1 frm.length cc1 ∧ O' = [rowI cb1 cc1 3 1 (nats frm)] ++ ([oI bx5 39 [(.slice kb b.states.toNat kc)], oI bx4 39 [(.slice lb b.states.toNat lc)], rowI lb lc 4 1 (bools ls), rowI kb kc 4 1 (bools co), oI bx3 79 [(.slice nb2 b.states.toNat nc2), (.slice mb2 b.states.toNat mc2), .int .u64 ((2 ^ b.sets.length - 1 : Nat) : Int)], rowI nb2 b.states.toNat 22 1 (vals qs), rowI mb2 b.states.toNat 52 1 (uns ms), oI bx2 29 [(.slice none 0 0), (.slice none 0 0)], oI bx1 26 (buCells b sb sc eb ec tb tc)] ++ (itms 3 qs))) from
    (deleteI w cb1 cc1 b.start (by omega) ([oI bx5 39 [(.slice kb b.states.toNat kc)], oI bx4 39 [(.slice lb b.states.toNat lc)], rowI lb lc 4 1 (bools ls), rowI kb kc 4 1 (bools co), oI bx3 79 [(.slice nb2 b.states.toNat nc2), (.slice mb2 b.states.toNat mc2), .int .u64 ((2 ^ b.sets.length - 1 : Nat) : Int)], rowI nb2 b.states.toNat 22 1 (vals qs), rowI mb2 b.states.toNat 52 1 (uns ms), oI bx2 29 [(.slice none 0 0), (.slice none 0 0)], oI bx1 26 (buCells b sb sc eb ec tb tc)] ++ (itms 3 qs)) (.func (.func 71) #[] #[.pointer (some ⟨bx4, 0, none⟩)]) (fun s => !ls.getD s.toNat false) (fun x hx => CallV.pick [1, 1] [oI bx5 39 [(.slice kb b.states.toNat kc)], oI bx4 39 [(.slice lb b.states.toNat lc)], rowI lb lc 4 1 (bools ls), rowI kb kc 4 1 (bools co), oI bx3 79 [(.slice nb2 b.states.toNat nc2), (.slice mb2 b.states.toNat mc2), .int .u64 ((2 ^ b.sets.length - 1 : Nat) : Int)], rowI nb2 b.states.toNat 22 1 (vals qs), rowI mb2 b.states.toNat 52 1 (uns ms), oI bx2 29 [(.slice none 0 0), (.slice none 0 0)], oI bx1 26 (buCells b sb sc eb ec tb tc)] (itms 3 qs) [oI bx4 39 [(.slice lb b.states.toNat lc)], rowI lb lc 4 1 (bools ls)] rfl (CallV.of_fn (first := []) (args := [.int .i64 x]) (caps := [.pointer (some ⟨bx4, 0, none⟩)]) ent71 (by have h9 := witLive w bx4 lb lc ls x (hv.st x hx).1 (by have := hv.st x hx; omega); rw [hll] at h9; exact h9)))).mono (fun v O' ⟨e1, e2⟩ => ⟨by rw [e1, hfl], by rw [e2, hfr]⟩))
  refine TO.loud rfl (l_call ent69 hk39 rfl ?_)
  clear hk39
  rintro vr O' ⟨rfl, rfl⟩
  refine TO.quiet (q_assign rfl) ?_
  refine TO.nil (T.seq (T.seq (T.region ?_)))
  refine TO.quiet (q_move rfl) (TO.quiet (q_len Try.underlying22 rfl) (TO.quiet (q_eql rfl rfl) ?_))
  refine TO.nil ?_
  refine T.condP rfl (fun hc => ?_) (fun hc => ?_)
  · have hlt42 : frm.length = 0 := by omega
    refine T.seq ?_
    refine T.nilRow 5 1 ?_
    refine T.nilRow 5 1 ?_
    refine T.region ?_
    refine TO.quiet (q_build plan29 inf29 rfl) ?_
    refine TO.loud rfl (l_store_box (v := (.agg #[(.slice none 0 0), (.slice none 0 0)])) (vs := [(.slice none 0 0), (.slice none 0 0)]) 10 inf29 rfl rfl rfl rfl rfl rfl (by simp [putL]) ?_)
    refine TO.quiet (q_assign rfl) ?_
    refine TO.nil (T.ret (Res.drop ?_))
    refine Res.cell1b (.int .i64 9) (i := 10) Try.results27 Try.underlying29 rfl inf29 rfl rfl rfl rfl ?_
    exact ⟨[rowI none 0 5 1 [], rowI none 0 5 1 []], (Sub.pick0 [0, 0] [rowI none 0 5 1 [], rowI none 0 5 1 [], rowI cb1 cc1 3 1 (nats frm), oI bx5 39 [(.slice kb b.states.toNat kc)], oI bx4 39 [(.slice lb b.states.toNat lc)], rowI lb lc 4 1 (bools ls), rowI kb kc 4 1 (bools co), oI bx3 79 [(.slice nb2 b.states.toNat nc2), (.slice mb2 b.states.toNat mc2), .int .u64 ((2 ^ b.sets.length - 1 : Nat) : Int)], rowI nb2 b.states.toNat 22 1 (vals qs), rowI mb2 b.states.toNat 52 1 (uns ms), oI bx2 29 [(.slice none 0 0), (.slice none 0 0)], oI bx1 26 (buCells b sb sc eb ec tb tc)] (itms 3 qs) rfl rfl), ⟨[], []⟩, none, none, 0, 0, 9, rfl, rfl, (by unfold witE; rw [if_neg (by omega), if_neg]; rintro ⟨s9, h8, h9⟩; have := hfa s9 h8 h9; rw [List.eq_nil_of_length_eq_zero (show frm.length = 0 by omega)] at this; cases this), fun _ => rfl, fun h9 => (by cases h9)⟩
  have hge42 : ¬ frm.length = 0 := by omega
  refine T.skip (T.seq ?_)
  have hex1 : ∃ s ∈ frm, ∃ w t, PathC b (fun v => ls.getD v false) s w t ∧ (fun s : Int => co.getD s.toNat false) (t : Int) = true ∧ (false = true → w ≠ []) := by
    obtain ⟨s, hs⟩ := List.exists_mem_of_length_pos (show 0 < frm.length by omega)
    obtain ⟨h1, _, h3⟩ := hfm s hs
    obtain ⟨w9, t, h4, h5⟩ := path_first (co := co) hv h3 hls
    have ht : t < b.states.toNat := by
      obtain ⟨u, ⟨e9, he9, h6, h7⟩, h8⟩ := h5.1
      have := (hv.ed e9 he9).1; omega
    exact ⟨s, hs, w9, t, h4, (hcs t ht).2 h5, fun q => by cases q⟩
  refine T.region ?_
  refine TO.quiet (q_load_boxAgg 9 Try.underlying26 rfl inf26 rfl rfl rfl) (TO.quiet (q_move rfl) (TO.quiet (q_load_box 2 Try.underlying39 rfl rfl rfl rfl) (TO.quiet (q_makeFunc) ?_)))
  have hk49 := by have h9 := lettersF w b sb eb tb sc ec tc vs h hB hv ([rowI cb1 cc1 3 1 (nats frm), oI bx5 39 [(.slice kb b.states.toNat kc)], oI bx4 39 [(.slice lb b.states.toNat lc)], rowI lb lc 4 1 (bools ls), rowI kb kc 4 1 (bools co), oI bx3 79 [(.slice nb2 b.states.toNat nc2), (.slice mb2 b.states.toNat mc2), .int .u64 ((2 ^ b.sets.length - 1 : Nat) : Int)], rowI nb2 b.states.toNat 22 1 (vals qs), rowI mb2 b.states.toNat 52 1 (uns ms), oI bx2 29 [(.slice none 0 0), (.slice none 0 0)], oI bx1 26 (buCells b sb sc eb ec tb tc)] ++ (itms 3 qs)) cb1 cc1 frm (fun w hI => hI.slOf (List.mem_of_getElem? (i := 0) rfl)) (by omega) (fun s hs => (hfm s hs).1) hfd lb lc ls (fun w hI => hI.slOf (List.mem_of_getElem? (i := 3) rfl)) hll false (.func (.func 73) #[] #[.pointer (some ⟨bx5, 0, none⟩)]) (fun s => co.getD s.toNat false) (fun x hx => CallV.pick [1, 3] [rowI cb1 cc1 3 1 (nats frm), oI bx5 39 [(.slice kb b.states.toNat kc)], oI bx4 39 [(.slice lb b.states.toNat lc)], rowI lb lc 4 1 (bools ls), rowI kb kc 4 1 (bools co), oI bx3 79 [(.slice nb2 b.states.toNat nc2), (.slice mb2 b.states.toNat mc2), .int .u64 ((2 ^ b.sets.length - 1 : Nat) : Int)], rowI nb2 b.states.toNat 22 1 (vals qs), rowI mb2 b.states.toNat 52 1 (uns ms), oI bx2 29 [(.slice none 0 0), (.slice none 0 0)], oI bx1 26 (buCells b sb sc eb ec tb tc)] (itms 3 qs) [oI bx5 39 [(.slice kb b.states.toNat kc)], rowI kb kc 4 1 (bools co)] rfl (CallV.of_fn (first := []) (args := [.int .i64 (x : Int)]) (caps := [.pointer (some ⟨bx5, 0, none⟩)]) ent73 (by have h9 := witCore w bx5 kb kc co (x : Int) (by omega) (by rw [hlc]; omega); rw [hlc] at h9; exact h9))) hex1; rw [hll] at h9; exact h9
  refine TO.loud rfl (l_call ent72 hk49 rfl ?_)
  clear hk49
  rintro vr O' ⟨w0, first, wb, wc, rfl, rfl, ⟨s0, hs0, hp0⟩, hfn, hfc, -, hw0⟩
  refine TO.quiet (q_move rfl) (TO.quiet (q_extract (vs := _) rfl rfl) (TO.quiet (q_extract (vs := _) rfl rfl) ?_))
  refine TO.loud rfl (l_alloc inf3 rfl (fun bx6 => ?_))
  refine TO.quiet (q_assign rfl) ?_
  refine TO.loud rfl (l_store_box (v := .int .i64 ((first : Nat) : Int)) (vs := [(.int .i64 ((first : Nat) : Int))]) 0 inf3 rfl rfl rfl rfl rfl rfl (by simp [putL]) ?_)
  refine TO.nil (T.seq ?_)
  have hco : coreB b first := (hcs first hfn).1 hfc
  have hms : ∀ x ∈ ms, x < 256 := fun x hx => lt64 (hg.lt x hx) hm8
  refine T.region ?_
  refine TO.quiet (q_load_boxAgg 7 Try.underlying79 rfl inf79 rfl rfl rfl) ?_
  have hk54 := fun (w1 : World) (hI : Inv w ([oI bx6 3 [(.int .i64 ((first : Nat) : Int))], rowI wb wc 5 1 (byts w0), rowI cb1 cc1 3 1 (nats frm), oI bx5 39 [(.slice kb b.states.toNat kc)], oI bx4 39 [(.slice lb b.states.toNat lc)], rowI lb lc 4 1 (bools ls), rowI kb kc 4 1 (bools co), oI bx3 79 [(.slice nb2 b.states.toNat nc2), (.slice mb2 b.states.toNat mc2), .int .u64 ((2 ^ b.sets.length - 1 : Nat) : Int)], rowI nb2 b.states.toNat 22 1 (vals qs), rowI mb2 b.states.toNat 52 1 (uns ms), oI bx2 29 [(.slice none 0 0), (.slice none 0 0)], oI bx1 26 (buCells b sb sc eb ec tb tc)] ++ (itms 3 qs)) w1) => (by
    have hL := componentsF w1 nb2 mb2 nc2 b.states.toNat mc2 ((2 ^ b.sets.length - 1 : Nat) : Int) (vals qs) (nums qs) (hI.slOf (List.mem_of_getElem? (i := 8) rfl)) (Inv.recs (E := 3) hI (fun q hq => List.mem_append_right _ (List.mem_map.2 ⟨q, hq, rfl⟩))) (by rw [hg.r.l]; omega) (fun r hr => by obtain ⟨i, hi, rfl⟩ := List.mem_iff_getElem.1 hr; have h9 := hg.r.b i; rw [getD_at hi] at h9; omega) (hg.ok hv)
    rw [hg.r.l] at hL; exact hL)
  refine TO.loud rfl (l_call ent74 (CallT.of_pure hk54) rfl ?_)
  clear hk54
  rintro vr O' ⟨N, rfl, cb, cc, cn, cnt, rfl, rfl, hcl, hcn, hcnt⟩
  refine TO.quiet (q_move rfl) (TO.quiet (q_extract (vs := _) rfl rfl) (TO.quiet (q_extract (vs := _) rfl rfl) (TO.quiet (q_assign rfl) ?_)))
  refine TO.quiet (q_assign rfl) ?_
  refine TO.nil (T.seq ?_)
  have hcl2 : cn.length = b.states.toNat := hcl
  refine T.region ?_
  refine TO.quiet (q_fieldAddr Try.underlying26 rfl inf3 rfl rfl) (TO.quiet (QT.cast (q_load_box 12 Try.underlying3 rfl rfl rfl rfl) (v' := .int .i64 ((b.states.toNat : Nat) : Int)) (by show Value.int _ b.states = _; rw [Int.toNat_of_nonneg hv0])) ?_)
  refine TO.loud rfl (l_makeSlice (m := b.states.toNat) Try.underlying39 inf4 rfl rfl (by omega) (by omega) (fun bx7 => ?_))
  refine TO.quiet (q_assign rfl) ?_
  refine TO.nil (T.seq (T.seq (T.region ?_)))
  refine TO.quiet (q_move rfl) (TO.quiet (q_len Try.underlying39 rfl) (TO.quiet (q_move rfl) ?_))
  refine TO.nil (T.block ?_)
  refine T.sub (O' := [rowI (some ⟨bx7, 0, none⟩) b.states.toNat 4 1 (List.replicate b.states.toNat (.bool false)), oI bx6 3 [(.int .i64 ((first : Nat) : Int))], oI bx3 79 [(.slice nb2 b.states.toNat nc2), (.slice mb2 b.states.toNat mc2), .int .u64 ((2 ^ b.sets.length - 1 : Nat) : Int)], oI bx2 29 [(.slice none 0 0), (.slice none 0 0)], oI bx1 26 (buCells b sb sc eb ec tb tc), rowI mb2 b.states.toNat 52 1 (uns ms), rowI wb wc 5 1 (byts w0), rowI cb cc 3 1 (nats cn)]) (Sub.pick0 [0, 1, 7, 9, 9, 8, 1, 0] [rowI (some ⟨bx7, 0, none⟩) b.states.toNat 4 1 (List.replicate b.states.toNat (.bool false)), rowI cb cc 3 1 (nats cn), oI bx6 3 [(.int .i64 ((first : Nat) : Int))], rowI wb wc 5 1 (byts w0), rowI cb1 cc1 3 1 (nats frm), oI bx5 39 [(.slice kb b.states.toNat kc)], oI bx4 39 [(.slice lb b.states.toNat lc)], rowI lb lc 4 1 (bools ls), rowI kb kc 4 1 (bools co), oI bx3 79 [(.slice nb2 b.states.toNat nc2), (.slice mb2 b.states.toNat mc2), .int .u64 ((2 ^ b.sets.length - 1 : Nat) : Int)], rowI nb2 b.states.toNat 22 1 (vals qs), rowI mb2 b.states.toNat 52 1 (uns ms), oI bx2 29 [(.slice none 0 0), (.slice none 0 0)], oI bx1 26 (buCells b sb sc eb ec tb tc)] (itms 3 qs) rfl rfl) ?_
  refine T.loop (fun (k : Nat) ρ O => ∃ (sm : List Bool), O = [rowI (some ⟨bx7, 0, none⟩) b.states.toNat 4 1 (bools sm), oI bx6 3 [(.int .i64 ((first : Nat) : Int))], oI bx3 79 [(.slice nb2 b.states.toNat nc2), (.slice mb2 b.states.toNat mc2), .int .u64 ((2 ^ b.sets.length - 1 : Nat) : Int)], oI bx2 29 [(.slice none 0 0), (.slice none 0 0)], oI bx1 26 (buCells b sb sc eb ec tb tc), rowI mb2 b.states.toNat 52 1 (uns ms), rowI wb wc 5 1 (byts w0), rowI cb cc 3 1 (nats cn)] ∧ k ≤ b.states.toNat ∧ sm.length = b.states.toNat ∧ (∀ v, v < b.states.toNat → (sm.getD v false = true ↔ v < k ∧ fn cn v = fn cn first)) ∧ Heads [(0, (.agg (buCells b sb sc eb ec tb tc).toArray)), (1, (.pointer (some ⟨bx1, 0, none⟩))), (2, (.pointer (some ⟨bx2, 0, none⟩))), (3, .int .i64 0), (4, .int .i64 (checkB b : Int)), (5, (.pointer (some ⟨bx3, 0, none⟩))), (6, (.pointer (some ⟨bx4, 0, none⟩))), (7, (.pointer (some ⟨bx5, 0, none⟩))), (8, (.slice cb1 frm.length cc1)), (9, (.slice wb w0.length wc)), (10, (.pointer (some ⟨bx6, 0, none⟩))), (11, (.slice cb b.states.toNat cc)), (13, (.slice (some ⟨bx7, 0, none⟩) b.states.toNat b.states.toNat)), (61, .int .i64 (b.states.toNat : Int)), (62, .int .i64 (k : Int))] ρ) (fun k => b.states.toNat - k) 0 ?_ ?_
  · exact ⟨List.replicate b.states.toNat false, by simp only [List.map_replicate], Nat.zero_le _, by simp, (fun v hv9 => by rw [gb (by simpa using hv9)]; simp), ⟨rfl, rfl, rfl, rfl, rfl, rfl, rfl, rfl, rfl, rfl, rfl, rfl, rfl, rfl, rfl, trivial⟩⟩
  rintro k ρ O ⟨sm, rfl, hk, hsl, hsm, hH⟩
  obtain ⟨ρ0, rfl⟩ := hH.elim
  clear hH
  refine T.seq (T.region ?_)
  refine TO.quiet (q_lss rfl rfl) ?_
  refine TO.nil (T.seq ?_)
  refine T.condP rfl (fun hc => ?_) (fun hc => ?_)
  · have hlt63 : k < b.states.toNat := by omega
    refine T.skip (T.seq (T.block (T.seq (T.region ?_))))
    refine TO.quiet (q_move rfl) (TO.quiet (q_assign rfl) ?_)
    refine TO.nil ?_
    refine T.draws _ [(0, 0), (1, 0), (2, 0), (3, 0), (4, 0), (5, 0), (6, 0), (7, 0), (8, 0), (9, 0), (10, 0), (11, 0), (12, 2)] mixed (by kernel_rfl) (Sub.of (List.Sublist.refl _)) (fun _ _ _ h => h) ?_
    refine DO.quiet rfl (q_move rfl) (DO.quiet rfl (q_move rfl) (DO.quiet rfl (q_move rfl) (DO.quiet rfl (q_move rfl) ?_)))
    refine DO.quiet rfl (q_ix (i := k) Try.underlying22 inf3 rfl rfl (rowO (List.mem_of_getElem? (i := 7) rfl))) (DO.quiet rfl (q_ld Try.underlying3 rfl rfl (rowO (List.mem_of_getElem? (i := 7) rfl)) nats_get) (DO.quiet rfl (q_move rfl) (DO.quiet rfl (q_load_box 1 Try.underlying3 rfl rfl rfl rfl) ?_)))
    refine DO.quiet rfl (q_ix (i := first) Try.underlying22 inf3 rfl rfl (rowO (List.mem_of_getElem? (i := 7) rfl))) (DO.quiet rfl (q_ld Try.underlying3 rfl rfl (rowO (List.mem_of_getElem? (i := 7) rfl)) nats_get) (DO.quiet rfl (q_eql rfl rfl) (DO.quiet rfl (q_ix (i := k) Try.underlying39 inf4 rfl rfl (rowO (List.mem_of_getElem? (i := 0) rfl))) ?_)))
    refine DO.last rfl rfl (l_st (j := k) (v := .bool (decide (((cn[k] : Nat) : Int) = ((cn[first] : Nat) : Int)))) (vs := [(.bool (decide (((cn[k] : Nat) : Int) = ((cn[first] : Nat) : Int))))]) (cs := bools sm) 0 inf4 rfl rfl rfl rfl rfl (by simp) rfl (by first | (simp; omega) | (simp_all; omega)) ?_)
    refine DO.sub (O' := [rowI (some ⟨bx7, 0, none⟩) b.states.toNat 4 1 (bools (sm.set k (decide (((cn[k] : Nat) : Int) = ((cn[first] : Nat) : Int))))), oI bx6 3 [(.int .i64 ((first : Nat) : Int))], oI bx3 79 [(.slice nb2 b.states.toNat nc2), (.slice mb2 b.states.toNat mc2), .int .u64 ((2 ^ b.sets.length - 1 : Nat) : Int)], oI bx2 29 [(.slice none 0 0), (.slice none 0 0)], oI bx1 26 (buCells b sb sc eb ec tb tc), rowI mb2 b.states.toNat 52 1 (uns ms), rowI wb wc 5 1 (byts w0), rowI cb cc 3 1 (nats cn)]) (by rw [show putL (bools sm) k [(.bool (decide (((cn[k] : Nat) : Int) = ((cn[first] : Nat) : Int))))] = bools (sm.set k (decide (((cn[k] : Nat) : Int) = ((cn[first] : Nat) : Int)))) from (by simp [putL])]; exact Sub.of (List.Sublist.refl _)) ?_
    refine DO.done ?_
    refine T.region ?_
    refine TO.quiet (q_addN (a := k) (b := 1) rfl rfl (by omega)) (TO.quiet (q_move rfl) ?_)
    refine TO.nil ?_
    exact ⟨k + 1, by omega, sm.set k (decide (((cn[k] : Nat) : Int) = ((cn[first] : Nat) : Int))), rfl, by omega, by simp [hsl], sm_step hsl hlt63 hcl2 hfn hsm, ⟨rfl, rfl, rfl, rfl, rfl, rfl, rfl, rfl, rfl, rfl, rfl, rfl, rfl, rfl, rfl, trivial⟩⟩
  have hge63 : ¬ k < b.states.toNat := by omega
  refine T.exit ?_
  refine T.seq (T.region ?_)
  refine TO.quiet (q_assign rfl) ?_
  refine TO.nil (T.seq (T.region ?_))
  refine TO.quiet (q_load_box 1 Try.underlying3 rfl rfl rfl rfl) (TO.quiet (q_assign rfl) ?_)
  refine TO.nil (T.seq (T.seq (T.region ?_)))
  refine TO.quiet (q_fieldAddr Try.underlying26 rfl inf24 rfl rfl) (TO.quiet (q_load_box 4 Try.underlying24 rfl rfl rfl rfl) (TO.quiet (q_len Try.underlying24 rfl) (TO.quiet (q_move rfl) ?_)))
  refine TO.nil (T.block ?_)
  refine T.nilRow 5 1 ?_
  have hsp : SameP b first sm := SameP.of hv hg hcn hfn (fun v hv9 => by rw [hsm v hv9]; exact ⟨fun q => q.2, fun q => ⟨by omega, q⟩⟩)
  refine T.loopS (fun (j : Nat) ρ O => ∃ (lw : List Nat) (cu : Nat) (lb3 : Option Addr) (lc3 : Nat), O = [rowI lb3 lc3 5 1 (byts lw), rowI (some ⟨bx7, 0, none⟩) b.states.toNat 4 1 (bools sm), oI bx6 3 [(.int .i64 ((first : Nat) : Int))], oI bx3 79 [(.slice nb2 b.states.toNat nc2), (.slice mb2 b.states.toNat mc2), .int .u64 ((2 ^ b.sets.length - 1 : Nat) : Int)], oI bx2 29 [(.slice none 0 0), (.slice none 0 0)], oI bx1 26 (buCells b sb sc eb ec tb tc), rowI mb2 b.states.toNat 52 1 (uns ms), rowI wb wc 5 1 (byts w0), rowI cb cc 3 1 (nats cn)] ∧ j ≤ b.sets.length ∧ LoopW b first cu j lw ∧ Rch (autE b) first cu ∧ Rch (autE b) cu first ∧ cu < b.states.toNat ∧ lw.length ≤ b.states.toNat * j ∧ Heads [(0, (.agg (buCells b sb sc eb ec tb tc).toArray)), (1, (.pointer (some ⟨bx1, 0, none⟩))), (2, (.pointer (some ⟨bx2, 0, none⟩))), (3, .int .i64 0), (4, .int .i64 (checkB b : Int)), (5, (.pointer (some ⟨bx3, 0, none⟩))), (6, (.pointer (some ⟨bx4, 0, none⟩))), (7, (.pointer (some ⟨bx5, 0, none⟩))), (8, (.slice cb1 frm.length cc1)), (9, (.slice wb w0.length wc)), (10, (.pointer (some ⟨bx6, 0, none⟩))), (11, (.slice cb b.states.toNat cc)), (13, (.slice (some ⟨bx7, 0, none⟩) b.states.toNat b.states.toNat)), (15, (.slice lb3 lw.length lc3)), (16, .int .i64 (cu : Int)), (81, .int .i64 (b.sets.length : Int)), (82, .int .i64 (j : Int))] ρ) (fun j => b.sets.length - j) 0 ?_ ?_
  · exact ⟨[], first, none, 0, rfl, Nat.zero_le _, LoopW.start, .refl _, .refl _, hfn, Nat.zero_le _, ⟨rfl, rfl, rfl, rfl, rfl, rfl, rfl, rfl, rfl, rfl, rfl, rfl, rfl, rfl, rfl, rfl, rfl, trivial⟩⟩
  rintro j ρ O ⟨lw, cu, lb3, lc3, rfl, hj, hlw, hrf, hrb, hcu, hll3, hH⟩
  obtain ⟨ρ0, rfl⟩ := hH.elim
  clear hH
  have hbj : b.states.toNat * j ≤ 4096 * 8 := Nat.mul_le_mul (by omega) (by omega)
  refine T.seq (T.region ?_)
  refine TO.quiet (q_lss rfl rfl) ?_
  refine TO.nil (T.seq ?_)
  refine T.condP rfl (fun hc => ?_) (fun hc => ?_)
  · have hlt83 : j < b.sets.length := by omega
    refine T.skip (T.seq (T.block (T.seq (T.region ?_))))
    refine TO.quiet (q_move rfl) ?_
    refine TO.loud rfl (l_alloc inf3 rfl (fun bx8 => ?_))
    refine TO.loud rfl (l_store_box (v := .int .i64 (j : Int)) (vs := [(.int .i64 (j : Int))]) 0 inf3 rfl rfl rfl rfl rfl rfl (by simp [putL]) ?_)
    refine TO.nil (T.seq ?_)
    have hex2 : ∃ s ∈ [cu], ∃ w t, PathC b (fun v => sm.getD v false) s w t ∧ (fun s : Int => (ms.getD s.toNat 0).testBit j) (t : Int) = true ∧ (false = true → w ≠ []) := by
      obtain ⟨w9, t, h4, S9, h5, h6⟩ := hsp.mark hv hco hrf hrb hlt83
      have ht : t < b.states.toNat := by have := hv.se S9 (List.mem_of_getElem? h5) _ h6; omega
      exact ⟨cu, by simp, w9, t, h4, (mk_bit hg ht).2 ⟨S9, h5, h6⟩, fun q => by cases q⟩
    refine T.region ?_
    refine TO.quiet (q_load_boxAgg 6 Try.underlying26 rfl inf26 rfl rfl rfl) (TO.quiet (q_move rfl) ?_)
    refine TO.loud rfl (l_build1 (v := .int .i64 (cu : Int)) Try.underlying22 inf3 rfl rfl rfl (fun bx9 => ?_))
    refine TO.quiet (q_move rfl) (TO.quiet (q_makeFunc) ?_)
    have hk91 := by have h9 := lettersF w b sb eb tb sc ec tc vs h hB hv ([rowI (some ⟨bx9, 0, none⟩) 1 3 1 [.int .i64 (cu : Int)], oI bx8 3 [(.int .i64 (j : Int))], rowI lb3 lc3 5 1 (byts lw), rowI (some ⟨bx7, 0, none⟩) b.states.toNat 4 1 (bools sm), oI bx6 3 [(.int .i64 ((first : Nat) : Int))], oI bx3 79 [(.slice nb2 b.states.toNat nc2), (.slice mb2 b.states.toNat mc2), .int .u64 ((2 ^ b.sets.length - 1 : Nat) : Int)], oI bx2 29 [(.slice none 0 0), (.slice none 0 0)], oI bx1 26 (buCells b sb sc eb ec tb tc), rowI mb2 b.states.toNat 52 1 (uns ms), rowI wb wc 5 1 (byts w0), rowI cb cc 3 1 (nats cn)] ++ []) (some ⟨bx9, 0, none⟩) 1 [cu] (fun w hI => hI.slOf (List.mem_of_getElem? (i := 0) rfl)) (by simp) (by simpa using hcu) (by simp) (some ⟨bx7, 0, none⟩) b.states.toNat sm (fun w hI => hI.slOf (List.mem_of_getElem? (i := 3) rfl)) hsl false (.func (.func 75) #[] #[.pointer (some ⟨bx3, 0, none⟩), .pointer (some ⟨bx8, 0, none⟩)]) (fun s => (ms.getD s.toNat 0).testBit j) (fun x hx => CallV.pick [5, 1, 6] [rowI (some ⟨bx9, 0, none⟩) 1 3 1 [.int .i64 (cu : Int)], oI bx8 3 [(.int .i64 (j : Int))], rowI lb3 lc3 5 1 (byts lw), rowI (some ⟨bx7, 0, none⟩) b.states.toNat 4 1 (bools sm), oI bx6 3 [(.int .i64 ((first : Nat) : Int))], oI bx3 79 [(.slice nb2 b.states.toNat nc2), (.slice mb2 b.states.toNat mc2), .int .u64 ((2 ^ b.sets.length - 1 : Nat) : Int)], oI bx2 29 [(.slice none 0 0), (.slice none 0 0)], oI bx1 26 (buCells b sb sc eb ec tb tc), rowI mb2 b.states.toNat 52 1 (uns ms), rowI wb wc 5 1 (byts w0), rowI cb cc 3 1 (nats cn)] [] [oI bx3 79 [(.slice nb2 b.states.toNat nc2), (.slice mb2 b.states.toNat mc2), .int .u64 ((2 ^ b.sets.length - 1 : Nat) : Int)], oI bx8 3 [(.int .i64 (j : Int))], rowI mb2 b.states.toNat 52 1 (uns ms)] rfl (CallV.of_fn (first := []) (args := [.int .i64 (x : Int)]) (caps := [.pointer (some ⟨bx3, 0, none⟩), .pointer (some ⟨bx8, 0, none⟩)]) ent75 (by have h9 := witMark w bx3 bx8 nb2 mb2 b.states.toNat nc2 mc2 b.states.toNat j ((2 ^ b.sets.length - 1 : Nat) : Int) ms (x : Int) (by omega) (by rw [hg.l]; omega) (by omega) hms; rw [hg.l] at h9; exact h9))) hex2; rw [hsl] at h9; exact h9
    refine TO.loud rfl (l_call ent72 hk91 rfl ?_)
    clear hk91
    rintro vr O' ⟨w2, cu2, wb2, wc2, rfl, rfl, ⟨s2, hs2, hp2⟩, hcn2, hcm2, -, hw2⟩
    refine TO.quiet (q_move rfl) (TO.quiet (q_extract (vs := _) rfl rfl) (TO.quiet (q_extract (vs := _) rfl rfl) (TO.quiet (q_assign rfl) ?_)))
    refine TO.quiet (q_assign rfl) ?_
    refine TO.nil ?_
    have hs2e : cu = s2 := (List.mem_singleton.1 hs2).symm
    subst hs2e
    refine T.region ?_
    refine TO.quiet (q_move rfl) (TO.quiet (q_move rfl) ?_)
    refine TO.loud rfl (l_append 3 Try.underlying27 Try.underlying27 inf5 rfl rfl rfl rfl (by simp) (by decide) (Src.row (j := 0) rfl (by simp)) (byts_one w2) (by omega) (by decide) (by decide) (fun bx10 c11 => ?_))
    refine TO.quiet (q_move rfl) (TO.quiet (q_assign rfl) (TO.quiet (q_assign rfl) ?_))
    refine TO.nil (T.region ?_)
    refine TO.quiet (q_addN (a := j) (b := 1) rfl rfl (by omega)) (TO.quiet (q_move rfl) ?_)
    refine TO.nil ?_
    refine ⟨j + 1, by omega, [rowI bx10 c11 5 1 ((byts lw) ++ (byts w2)), rowI (some ⟨bx7, 0, none⟩) b.states.toNat 4 1 (bools sm), oI bx6 3 [(.int .i64 ((first : Nat) : Int))], oI bx3 79 [(.slice nb2 b.states.toNat nc2), (.slice mb2 b.states.toNat mc2), .int .u64 ((2 ^ b.sets.length - 1 : Nat) : Int)], oI bx2 29 [(.slice none 0 0), (.slice none 0 0)], oI bx1 26 (buCells b sb sc eb ec tb tc), rowI mb2 b.states.toNat 52 1 (uns ms), rowI wb wc 5 1 (byts w0), rowI cb cc 3 1 (nats cn)], (Sub.pick [3, 3, 3, 3, 3, 3, 3, 3, 3] rfl), lw ++ w2, cu2, bx10, c11, by rw [show byts (lw ++ w2) = byts lw ++ byts w2 from List.map_append], by omega, ?_, (hsp.h cu2 hcn2).1 (hp2.al_end ((hsp.h cu hcu).2 ⟨hrf, hrb⟩)) |>.1, (hsp.h cu2 hcn2).1 (hp2.al_end ((hsp.h cu hcu).2 ⟨hrf, hrb⟩)) |>.2, hcn2, ?_, ⟨rfl, rfl, rfl, rfl, rfl, rfl, rfl, rfl, rfl, rfl, rfl, rfl, rfl, (by rw [List.length_append]; rfl), rfl, rfl, rfl, trivial⟩⟩
    · obtain ⟨S9, h8, h9⟩ := (mk_bit hg hcn2).1 hcm2
      exact hlw.step hp2 h8 h9
    · rw [List.length_append, Nat.mul_succ]; have h9 : w2.length + 1 ≤ b.states.toNat := hw2; omega
  have hge83 : ¬ j < b.sets.length := by omega
  refine T.exit ?_
  refine T.seq ?_
  have hje : j = b.sets.length := by omega
  refine T.region ?_
  refine TO.quiet (q_load_boxAgg 5 Try.underlying26 rfl inf26 rfl rfl rfl) (TO.quiet (q_move rfl) ?_)
  refine TO.loud rfl (l_build1 (v := .int .i64 (cu : Int)) Try.underlying22 inf3 rfl rfl rfl (fun bx12 => ?_))
  refine TO.quiet (q_move rfl) (TO.quiet (q_move rfl) (TO.quiet (q_load_box 3 Try.underlying3 rfl rfl rfl rfl) (TO.quiet (q_eql rfl rfl) ?_)))
  by_cases hs107 : (cu : Int) = ((first : Nat) : Int)
  · refine TO.quiet (QT.toB (q_move rfl) (decide_eq_true hs107)) ?_
    refine TO.guarded rfl rfl rfl (LT.of_quiet rfl rfl (q_move rfl) ?_)
    refine TO.guarded rfl rfl rfl (LT.of_quiet rfl rfl (q_len Try.underlying27 rfl) ?_)
    refine TO.guarded rfl rfl rfl (LT.of_quiet rfl rfl (q_eql rfl rfl) ?_)
    refine TO.quiet (q_pick1 rfl rfl) (TO.quiet (q_makeFunc) ?_)
    have hk113 := by have h9 := lettersF w b sb eb tb sc ec tc vs h hB hv ([rowI (some ⟨bx12, 0, none⟩) 1 3 1 [.int .i64 (cu : Int)], rowI lb3 lc3 5 1 (byts lw), rowI (some ⟨bx7, 0, none⟩) b.states.toNat 4 1 (bools sm), oI bx6 3 [(.int .i64 ((first : Nat) : Int))], oI bx3 79 [(.slice nb2 b.states.toNat nc2), (.slice mb2 b.states.toNat mc2), .int .u64 ((2 ^ b.sets.length - 1 : Nat) : Int)], oI bx2 29 [(.slice none 0 0), (.slice none 0 0)], oI bx1 26 (buCells b sb sc eb ec tb tc), rowI mb2 b.states.toNat 52 1 (uns ms), rowI wb wc 5 1 (byts w0), rowI cb cc 3 1 (nats cn)] ++ []) (some ⟨bx12, 0, none⟩) 1 [cu] (fun w hI => hI.slOf (List.mem_of_getElem? (i := 0) rfl)) (by simp) (by simpa using hcu) (by simp) (some ⟨bx7, 0, none⟩) b.states.toNat sm (fun w hI => hI.slOf (List.mem_of_getElem? (i := 2) rfl)) hsl (decide ((lw.length : Int) = 0)) (.func (.func 76) #[] #[.pointer (some ⟨bx6, 0, none⟩)]) (fun s => decide (s = (first : Int))) (fun x hx => CallV.pick [3] [rowI (some ⟨bx12, 0, none⟩) 1 3 1 [.int .i64 (cu : Int)], rowI lb3 lc3 5 1 (byts lw), rowI (some ⟨bx7, 0, none⟩) b.states.toNat 4 1 (bools sm), oI bx6 3 [(.int .i64 ((first : Nat) : Int))], oI bx3 79 [(.slice nb2 b.states.toNat nc2), (.slice mb2 b.states.toNat mc2), .int .u64 ((2 ^ b.sets.length - 1 : Nat) : Int)], oI bx2 29 [(.slice none 0 0), (.slice none 0 0)], oI bx1 26 (buCells b sb sc eb ec tb tc), rowI mb2 b.states.toNat 52 1 (uns ms), rowI wb wc 5 1 (byts w0), rowI cb cc 3 1 (nats cn)] [] [oI bx6 3 [(.int .i64 ((first : Nat) : Int))]] rfl (CallV.of_fn (first := []) (args := [.int .i64 (x : Int)]) (caps := [.pointer (some ⟨bx6, 0, none⟩)]) ent76 (witEq w bx6 (first : Int) (x : Int)))) (by obtain ⟨w9, h1, h2⟩ := hsp.back hv hco hrf hrb (far := (decide ((lw.length : Int) = 0))) (by intro _; omega); exact ⟨cu, by simp, w9, first, h1, by simp, h2⟩); rw [hsl] at h9; exact h9
    refine TO.loud rfl (l_call ent72 hk113 rfl ?_)
    clear hk113
    rintro vr O' ⟨w3, cu3, wb3, wc3, rfl, rfl, ⟨s3, hs3, hp3⟩, hcn3, hcm3, hfar3, hw3⟩
    refine TO.quiet (q_move rfl) (TO.quiet (q_extract (vs := _) rfl rfl) (TO.quiet (q_extract (vs := _) rfl rfl) (TO.quiet (q_assign rfl) ?_)))
    refine TO.quiet (q_assign rfl) ?_
    refine TO.nil (T.seq ?_)
    have hs3e : cu = s3 := (List.mem_singleton.1 hs3).symm
    subst hs3e
    have hc3 : first = cu3 := by have h9 : decide ((cu3 : Int) = (first : Int)) = true := hcm3; have := of_decide_eq_true h9; omega
    subst hc3
    have hlw3 := hlw.cat hp3
    rw [hje] at hlw3 hll3
    have hw3n : w3.length ≤ b.states.toNat := by omega
    have hbig : b.states.toNat * b.sets.length ≤ 4096 * 8 := Nat.mul_le_mul (by omega) hm8
    have hpos : 0 < (lw ++ w3).length := by
      rw [List.length_append]
      apply Nat.pos_of_ne_zero; intro h9
      have hw : w3 = [] := List.eq_nil_of_length_eq_zero (by omega)
      subst hw
      cases hp3
      first
      | exact hs107 rfl
      | exact hfar3 (decide_eq_true (show ((lw.length : Nat) : Int) = 0 by omega)) rfl
    have hLB : LaB ⟨w0, lw ++ w3⟩ := ⟨by show w0.length ≤ _; omega, by show (lw ++ w3).length ≤ _; rw [List.length_append]; omega, fun x hx => by obtain ⟨e, he, rfl⟩ := hp0.mem x hx; exact (hB.pn e he).1, fun x hx => by obtain ⟨p9, hp9, _⟩ := hlw3; obtain ⟨e, he, rfl⟩ := hp9.mem x hx; exact (hB.pn e he).1⟩
    refine T.region ?_
    refine TO.quiet (q_move rfl) (TO.quiet (q_move rfl) (TO.quiet (q_move rfl) ?_))
    refine TO.loud rfl (l_append 2 Try.underlying27 Try.underlying27 inf5 rfl rfl rfl rfl (by simp) (by decide) (Src.row (j := 0) rfl (by simp)) (byts_one w3) (by omega) (by decide) (by decide) (fun bx13 c14 => ?_))
    refine TO.quiet (QT.cast (q_build (cs := [.slice wb w0.length wc, .slice bx13 (lw.length + w3.length) c14]) plan29 inf29 (by kernel_rfl)) (v' := .agg #[.slice wb w0.length wc, .slice bx13 (lw ++ w3).length c14]) (by rw [List.length_append])) ?_
    have hk121 := fun (w1 : World) (hI : Inv w [rowI wb3 wc3 5 1 (byts w3), rowI (some ⟨bx12, 0, none⟩) 1 3 1 [.int .i64 (cu : Int)], rowI bx13 c14 5 1 ((byts lw) ++ (byts w3)), rowI (some ⟨bx7, 0, none⟩) b.states.toNat 4 1 (bools sm), oI bx6 3 [(.int .i64 ((first : Nat) : Int))], oI bx3 79 [(.slice nb2 b.states.toNat nc2), (.slice mb2 b.states.toNat mc2), .int .u64 ((2 ^ b.sets.length - 1 : Nat) : Int)], oI bx2 29 [(.slice none 0 0), (.slice none 0 0)], oI bx1 26 (buCells b sb sc eb ec tb tc), rowI mb2 b.states.toNat 52 1 (uns ms), rowI wb wc 5 1 (byts w0), rowI cb cc 3 1 (nats cn)] w1) => canonicalF w1 ⟨w0, lw ++ w3⟩ wb bx13 wc c14 ⟨hI.slOf (List.mem_of_getElem? (i := 9) rfl), by have h9 := hI.slOf (List.mem_of_getElem? (i := 2) rfl); show Sl w1 _ (List.map _ (lw ++ w3)); rw [List.map_append]; exact h9, by have h9 := rowP.cap (hI.row (i := 9) rfl); simpa using h9, by have h9 := rowP.cap (hI.row (i := 2) rfl); simpa using h9⟩ hLB hpos
    refine TO.loud rfl (l_call ent29 (CallT.of_pure hk121) rfl ?_)
    clear hk121
    rintro vr O' ⟨N, rfl, c, pb2, lb2, pc2, lc2, rfl, rfl, hcan⟩
    refine TO.loud rfl (l_store_box (v := (.agg (laCells c pb2 pc2 lb2 lc2).toArray)) (vs := (laCells c pb2 pc2 lb2 lc2)) 8 inf29 rfl rfl rfl rfl rfl rfl (by simp [putL]) ?_)
    refine TO.quiet (q_assign rfl) ?_
    refine TO.nil (T.ret (Res.drop ?_))
    refine Res.cell1b (.int .i64 0) (i := 8) Try.results27 Try.underlying29 rfl inf29 rfl rfl rfl rfl ?_
    exact ⟨[rowI pb2 pc2 5 1 (byts c.pre), rowI lb2 lc2 5 1 (byts c.loop)], (Sub.pick [0, 0] rfl), c, pb2, lb2, pc2, lc2, 0, rfl, rfl, by unfold witE; rw [if_neg (by omega), if_pos ⟨s0, (hfm s0 hs0).2⟩], fun h9 => absurd rfl h9, fun _ => WitOf.of hv (hfm s0 hs0).2.1 hp0 hlw3 hpos (by omega) (by rw [List.length_append, Nat.mul_succ]; omega) hcan⟩
  refine TO.quiet (QT.toB (q_move rfl) (decide_eq_false hs107)) ?_
  refine TO.passed rfl rfl ?_
  refine TO.passed rfl rfl ?_
  refine TO.passed rfl rfl ?_
  refine TO.quiet (q_pick0 rfl rfl) (TO.quiet (q_makeFunc) ?_)
  have hk113 := by have h9 := lettersF w b sb eb tb sc ec tc vs h hB hv ([rowI (some ⟨bx12, 0, none⟩) 1 3 1 [.int .i64 (cu : Int)], rowI lb3 lc3 5 1 (byts lw), rowI (some ⟨bx7, 0, none⟩) b.states.toNat 4 1 (bools sm), oI bx6 3 [(.int .i64 ((first : Nat) : Int))], oI bx3 79 [(.slice nb2 b.states.toNat nc2), (.slice mb2 b.states.toNat mc2), .int .u64 ((2 ^ b.sets.length - 1 : Nat) : Int)], oI bx2 29 [(.slice none 0 0), (.slice none 0 0)], oI bx1 26 (buCells b sb sc eb ec tb tc), rowI mb2 b.states.toNat 52 1 (uns ms), rowI wb wc 5 1 (byts w0), rowI cb cc 3 1 (nats cn)] ++ []) (some ⟨bx12, 0, none⟩) 1 [cu] (fun w hI => hI.slOf (List.mem_of_getElem? (i := 0) rfl)) (by simp) (by simpa using hcu) (by simp) (some ⟨bx7, 0, none⟩) b.states.toNat sm (fun w hI => hI.slOf (List.mem_of_getElem? (i := 2) rfl)) hsl false (.func (.func 76) #[] #[.pointer (some ⟨bx6, 0, none⟩)]) (fun s => decide (s = (first : Int))) (fun x hx => CallV.pick [3] [rowI (some ⟨bx12, 0, none⟩) 1 3 1 [.int .i64 (cu : Int)], rowI lb3 lc3 5 1 (byts lw), rowI (some ⟨bx7, 0, none⟩) b.states.toNat 4 1 (bools sm), oI bx6 3 [(.int .i64 ((first : Nat) : Int))], oI bx3 79 [(.slice nb2 b.states.toNat nc2), (.slice mb2 b.states.toNat mc2), .int .u64 ((2 ^ b.sets.length - 1 : Nat) : Int)], oI bx2 29 [(.slice none 0 0), (.slice none 0 0)], oI bx1 26 (buCells b sb sc eb ec tb tc), rowI mb2 b.states.toNat 52 1 (uns ms), rowI wb wc 5 1 (byts w0), rowI cb cc 3 1 (nats cn)] [] [oI bx6 3 [(.int .i64 ((first : Nat) : Int))]] rfl (CallV.of_fn (first := []) (args := [.int .i64 (x : Int)]) (caps := [.pointer (some ⟨bx6, 0, none⟩)]) ent76 (witEq w bx6 (first : Int) (x : Int)))) (by obtain ⟨w9, h1, h2⟩ := hsp.back hv hco hrf hrb (far := false) (by intro h; cases h); exact ⟨cu, by simp, w9, first, h1, by simp, h2⟩); rw [hsl] at h9; exact h9
  refine TO.loud rfl (l_call ent72 hk113 rfl ?_)
  clear hk113
  rintro vr O' ⟨w3, cu3, wb3, wc3, rfl, rfl, ⟨s3, hs3, hp3⟩, hcn3, hcm3, hfar3, hw3⟩
  refine TO.quiet (q_move rfl) (TO.quiet (q_extract (vs := _) rfl rfl) (TO.quiet (q_extract (vs := _) rfl rfl) (TO.quiet (q_assign rfl) ?_)))
  refine TO.quiet (q_assign rfl) ?_
  refine TO.nil (T.seq ?_)
  have hs3e : cu = s3 := (List.mem_singleton.1 hs3).symm
  subst hs3e
  have hc3 : first = cu3 := by have h9 : decide ((cu3 : Int) = (first : Int)) = true := hcm3; have := of_decide_eq_true h9; omega
  subst hc3
  have hlw3 := hlw.cat hp3
  rw [hje] at hlw3 hll3
  have hw3n : w3.length ≤ b.states.toNat := by omega
  have hbig : b.states.toNat * b.sets.length ≤ 4096 * 8 := Nat.mul_le_mul (by omega) hm8
  have hpos : 0 < (lw ++ w3).length := by
    rw [List.length_append]
    apply Nat.pos_of_ne_zero; intro h9
    have hw : w3 = [] := List.eq_nil_of_length_eq_zero (by omega)
    subst hw
    cases hp3
    first
    | exact hs107 rfl
    | exact hfar3 (decide_eq_true (show ((lw.length : Nat) : Int) = 0 by omega)) rfl
  have hLB : LaB ⟨w0, lw ++ w3⟩ := ⟨by show w0.length ≤ _; omega, by show (lw ++ w3).length ≤ _; rw [List.length_append]; omega, fun x hx => by obtain ⟨e, he, rfl⟩ := hp0.mem x hx; exact (hB.pn e he).1, fun x hx => by obtain ⟨p9, hp9, _⟩ := hlw3; obtain ⟨e, he, rfl⟩ := hp9.mem x hx; exact (hB.pn e he).1⟩
  refine T.region ?_
  refine TO.quiet (q_move rfl) (TO.quiet (q_move rfl) (TO.quiet (q_move rfl) ?_))
  refine TO.loud rfl (l_append 2 Try.underlying27 Try.underlying27 inf5 rfl rfl rfl rfl (by simp) (by decide) (Src.row (j := 0) rfl (by simp)) (byts_one w3) (by omega) (by decide) (by decide) (fun bx15 c16 => ?_))
  refine TO.quiet (QT.cast (q_build (cs := [.slice wb w0.length wc, .slice bx15 (lw.length + w3.length) c16]) plan29 inf29 (by kernel_rfl)) (v' := .agg #[.slice wb w0.length wc, .slice bx15 (lw ++ w3).length c16]) (by rw [List.length_append])) ?_
  have hk121 := fun (w1 : World) (hI : Inv w [rowI wb3 wc3 5 1 (byts w3), rowI (some ⟨bx12, 0, none⟩) 1 3 1 [.int .i64 (cu : Int)], rowI bx15 c16 5 1 ((byts lw) ++ (byts w3)), rowI (some ⟨bx7, 0, none⟩) b.states.toNat 4 1 (bools sm), oI bx6 3 [(.int .i64 ((first : Nat) : Int))], oI bx3 79 [(.slice nb2 b.states.toNat nc2), (.slice mb2 b.states.toNat mc2), .int .u64 ((2 ^ b.sets.length - 1 : Nat) : Int)], oI bx2 29 [(.slice none 0 0), (.slice none 0 0)], oI bx1 26 (buCells b sb sc eb ec tb tc), rowI mb2 b.states.toNat 52 1 (uns ms), rowI wb wc 5 1 (byts w0), rowI cb cc 3 1 (nats cn)] w1) => canonicalF w1 ⟨w0, lw ++ w3⟩ wb bx15 wc c16 ⟨hI.slOf (List.mem_of_getElem? (i := 9) rfl), by have h9 := hI.slOf (List.mem_of_getElem? (i := 2) rfl); show Sl w1 _ (List.map _ (lw ++ w3)); rw [List.map_append]; exact h9, by have h9 := rowP.cap (hI.row (i := 9) rfl); simpa using h9, by have h9 := rowP.cap (hI.row (i := 2) rfl); simpa using h9⟩ hLB hpos
  refine TO.loud rfl (l_call ent29 (CallT.of_pure hk121) rfl ?_)
  clear hk121
  rintro vr O' ⟨N, rfl, c, pb2, lb2, pc2, lc2, rfl, rfl, hcan⟩
  refine TO.loud rfl (l_store_box (v := (.agg (laCells c pb2 pc2 lb2 lc2).toArray)) (vs := (laCells c pb2 pc2 lb2 lc2)) 8 inf29 rfl rfl rfl rfl rfl rfl (by simp [putL]) ?_)
  refine TO.quiet (q_assign rfl) ?_
  refine TO.nil (T.ret (Res.drop ?_))
  refine Res.cell1b (.int .i64 0) (i := 8) Try.results27 Try.underlying29 rfl inf29 rfl rfl rfl rfl ?_
  exact ⟨[rowI pb2 pc2 5 1 (byts c.pre), rowI lb2 lc2 5 1 (byts c.loop)], (Sub.pick [0, 0] rfl), c, pb2, lb2, pc2, lc2, 0, rfl, rfl, by unfold witE; rw [if_neg (by omega), if_pos ⟨s0, (hfm s0 hs0).2⟩], fun h9 => absurd rfl h9, fun _ => WitOf.of hv (hfm s0 hs0).2.1 hp0 hlw3 hpos (by omega) (by rw [List.length_append, Nat.mul_succ]; omega) hcan⟩
end Go.Proofs.Ytnamoapbienooaa


namespace Go.Lx
open Go.RowKit
set_option linter.unusedVariables false
inductive Rea (E : Nat → Nat → Prop) (al : Nat → Bool) (root X : Nat → Prop) : Nat → Prop
  | root {v : Nat} : root v → al v = true → Rea E al root X v
  | base {u v : Nat} : X u → E u v → al v = true → Rea E al root X v
  | step {u v : Nat} : Rea E al root X u → E u v → al v = true → Rea E al root X v
def visK (al : Nat → Bool) (keep : List Bool) (v : Nat) : List Bool := if al v = true ∧ ¬ keep.getD v false = true then keep.set v true else keep
def visT (al : Nat → Bool) (keep : List Bool) (todo : List Nat) (v : Nat) : List Nat := if al v = true ∧ ¬ keep.getD v false = true then todo ++ [v] else todo
structure SeaP (nx : List (List Int)) (al : Nat → Bool) (roots : List Int) (X : Nat → Prop) (keep : List Bool) (todo : List Nat) (k cur j : Nat) : Prop where
  l : keep.length = nx.length
  snd : ∀ v, keep.getD v false = true → Rea (adjE nx) al (fun v => (v : Int) ∈ roots) X v
  td : ∀ u ∈ todo, u < nx.length ∧ (X u ∨ keep.getD u false = true)
  cls : ∀ u, (X u ∨ keep.getD u false = true) → u ∉ todo → ∀ v, v < nx.length → adjE nx u v → al v = true → keep.getD v false = true ∨ (u = cur ∧ (v : Int) ∉ (nx.getD cur []).take j)
  rts : ∀ v : Nat, (v : Int) ∈ roots.take k → al v = true → keep.getD v false = true
  mu : todo.length + keep.count false ≤ nx.length + 1
section
variable {nx : List (List Int)} {al : Nat → Bool} {roots : List Int} {X : Nat → Prop} {keep : List Bool} {todo : List Nat} {k cur j : Nat}
theorem getB_lt {l : List Bool} {v : Nat} (h : l.getD v false = true) : v < l.length := by
  by_cases hv : v < l.length
  · exact hv
  · rw [List.getD_eq_getElem?_getD, List.getElem?_eq_none (by omega)] at h; cases h
theorem count_mark {l : List Bool} {v : Nat} (hv : v < l.length) (h : ¬ l.getD v false = true) : (l.set v true).count false + 1 = l.count false := by
  have h1 : l[v] = false := by rw [gb hv] at h; simpa using h
  have h2 : 0 < l.count false := List.count_pos_iff.2 (by rw [← h1]; exact List.getElem_mem hv)
  rw [List.count_set hv, h1]; simp; omega
theorem SeaP.vis (h : SeaP nx al roots X keep todo k cur j) {v : Nat} (hv : v < nx.length) (hw : al v = true → Rea (adjE nx) al (fun v => (v : Int) ∈ roots) X v) :
    SeaP nx al roots X (visK al keep v) (visT al keep todo v) k cur j ∧ (al v = true → (visK al keep v).getD v false = true) ∧ (∀ x, keep.getD x false = true → (visK al keep v).getD x false = true) ∧ (visT al keep todo v).length + (visK al keep v).count false = todo.length + keep.count false := by
  unfold visK visT
  by_cases hc : al v = true ∧ ¬ keep.getD v false = true
  · rw [if_pos hc, if_pos hc]
    have hvl : v < keep.length := by rw [h.l]; exact hv
    have hs := fun x => getB_set (a := true) hvl x
    have hmono : ∀ x, keep.getD x false = true → (keep.set v true).getD x false = true := fun x hx => by rw [hs]; split <;> simp_all
    have hcnt := count_mark hvl hc.2
    refine ⟨⟨by rw [List.length_set]; exact h.l, fun x hx => ?_, fun u hu => ?_, fun u hu hn x hx he ha => ?_, fun x hx ha => hmono x (h.rts x hx ha), ?_⟩, fun _ => by rw [hs, if_pos rfl], hmono, ?_⟩
    · rw [hs] at hx
      by_cases e : x = v
      · subst e; exact hw hc.1
      · rw [if_neg e] at hx; exact h.snd x hx
    · rcases List.mem_append.1 hu with hu | hu
      · obtain ⟨h1, h2⟩ := h.td u hu
        exact ⟨h1, h2.imp id (hmono u)⟩
      · rw [List.mem_singleton] at hu; subst hu
        exact ⟨hv, .inr (by rw [hs, if_pos rfl])⟩
    · rw [List.mem_append, not_or, List.mem_singleton] at hn
      rw [hs, if_neg hn.2] at hu
      exact (h.cls u hu hn.1 x hx he ha).imp (hmono x) id
    · have := h.mu; rw [List.length_append, List.length_singleton]; omega
    · rw [List.length_append, List.length_singleton]; omega
  · rw [if_neg hc, if_neg hc]
    refine ⟨h, fun ha => ?_, fun _ hx => hx, rfl⟩
    apply Classical.byContradiction; intro h9; exact hc ⟨ha, h9⟩
theorem SeaP.root (h : SeaP nx al roots X keep todo k cur j) (hk : k < roots.length) {v : Nat} (he : roots[k] = (v : Int)) (hv : v < nx.length) :
    SeaP nx al roots X (visK al keep v) (visT al keep todo v) (k + 1) cur j := by
  obtain ⟨h1, h2, h3, _⟩ := h.vis hv (fun ha => .root (by show (v : Int) ∈ roots; rw [← he]; exact List.getElem_mem hk) ha)
  refine { h1 with rts := fun x hx ha => ?_ }
  rw [List.take_succ_eq_append_getElem hk, List.mem_append, List.mem_singleton, he] at hx
  rcases hx with hx | hx
  · exact h3 x (h.rts x hx ha)
  · have : x = v := by omega
    subst this; exact h2 ha
theorem SeaP.edge (h : SeaP nx al roots X keep todo k cur j) (hc : cur < nx.length) (hx : X cur ∨ keep.getD cur false = true) (hj : j < nx[cur].length) {v : Nat} (he : nx[cur][j] = (v : Int)) (hv : v < nx.length) :
    SeaP nx al roots X (visK al keep v) (visT al keep todo v) k cur (j + 1) ∧ (visT al keep todo v).length + (visK al keep v).count false = todo.length + keep.count false := by
  have hrow : nx.getD cur [] = nx[cur] := getD_at hc
  have hE : adjE nx cur v := ⟨nx[cur], List.getElem?_eq_getElem hc, by rw [← he]; exact List.getElem_mem hj⟩
  obtain ⟨h1, h2, h3, h4⟩ := h.vis hv (fun ha => hx.elim (fun q => .base q hE ha) (fun q => .step (h.snd _ q) hE ha))
  refine ⟨{ h1 with cls := fun u hu hn x hxl hxe ha => ?_ }, h4⟩
  rcases h1.cls u hu hn x hxl hxe ha with q | ⟨rfl, q⟩
  · exact .inl q
  · by_cases e : x = v
    · subst e; exact .inl (h2 ha)
    · refine .inr ⟨rfl, ?_⟩
      rw [hrow, List.take_succ_eq_append_getElem hj, List.mem_append, List.mem_singleton, he, not_or]
      rw [hrow] at q
      exact ⟨q, by omega⟩
theorem SeaP.edge_mono (al : Nat → Bool) {keep : List Bool} {v x : Nat} (h : keep.getD x false = true) : (visK al keep v).getD x false = true := by
  unfold visK
  split
  · have hx := getB_lt h
    by_cases hv : v < keep.length
    · rw [getB_set hv]; split <;> simp_all
    · rw [List.set_eq_of_length_le (by omega)]; exact h
  · exact h
theorem SeaP.pop {u : Nat} {rest : List Nat} (h : SeaP nx al roots X keep (u :: rest) k cur j) (hj : ∀ r, nx[cur]? = some r → r.length ≤ j) :
    SeaP nx al roots X keep rest k u 0 := by
  refine { h with td := fun x hx => h.td x (List.mem_cons_of_mem _ hx), cls := fun x hx hn v hv he ha => ?_, mu := ?_ }
  · by_cases e : x = u
    · subst e; exact .inr ⟨rfl, by simp⟩
    · rcases h.cls x hx (by rw [List.mem_cons, not_or]; exact ⟨e, hn⟩) v hv he ha with q | ⟨rfl, q⟩
      · exact .inl q
      · obtain ⟨r, h1, h2⟩ := he
        exfalso; apply q
        rw [List.getD_eq_getElem?_getD, h1, Option.getD_some, List.take_of_length_le (hj r h1)]; exact h2
  · have := h.mu; simp at this; omega
theorem SeaP.done (hok : okRows nx) (h : SeaP nx al roots X keep [] k cur j) (hk : roots.length ≤ k) (hj : ∀ r, nx[cur]? = some r → r.length ≤ j) (v : Nat) : keep.getD v false = true ↔ Rea (adjE nx) al (fun v => (v : Int) ∈ roots) X v := by
  have hc : ∀ u, (X u ∨ keep.getD u false = true) → ∀ v, adjE nx u v → al v = true → keep.getD v false = true := fun u hu v he ha => by
    rcases h.cls u hu (by simp) v (adjE_lt hok he).2 he ha with q | ⟨rfl, q⟩
    · exact q
    · obtain ⟨r, h1, h2⟩ := he
      exfalso; apply q
      rw [List.getD_eq_getElem?_getD, h1, Option.getD_some, List.take_of_length_le (hj r h1)]; exact h2
  constructor
  · exact h.snd v
  · intro hr
    induction hr with
    | root h1 h2 => exact h.rts _ (by rw [List.take_of_length_le hk]; exact h1) h2
    | base h1 h2 h3 => exact hc _ (.inl h1) _ h2 h3
    | step h1 h2 h3 ih => exact hc _ (.inr ih) _ h2 h3
theorem SeaP.start0 (X : Nat → Prop) {roots : List Int} {todo : List Nat} (hX : ∀ u, X u → u ∈ todo) (ht : ∀ u ∈ todo, u < nx.length ∧ X u) (hl : todo.length ≤ 1) : SeaP nx al roots X (List.replicate nx.length false) todo 0 nx.length 0 := by
  have hf : ∀ v, ¬ (List.replicate nx.length false).getD v false = true := fun v => by
    by_cases hv : v < nx.length
    · simp [hv]
    · rw [List.getD_eq_getElem?_getD, List.getElem?_eq_none (by simp; omega)]; simp
  refine ⟨by simp, fun v hv => absurd hv (hf v), fun u hu => ⟨(ht u hu).1, .inl (ht u hu).2⟩, fun u hu hn => ?_, fun v hv => by simp at hv, by rw [List.count_replicate_self]; omega⟩
  exfalso
  exact hu.elim (fun q => hn (hX u q)) (hf u)
end
theorem rea_live {E : Nat → Nat → Prop} {al : Nat → Bool} {root : Nat → Prop} (hb : ∀ u v, E u v → al v = true → al u = true) {v : Nat} : Rea E al root (fun _ => False) v ↔ al v = true ∧ ∃ s, root s ∧ Rch E s v := by
  constructor
  · intro h
    induction h with
    | root h1 h2 => exact ⟨h2, _, h1, .refl _⟩
    | base h1 => exact h1.elim
    | step h1 h2 h3 ih => obtain ⟨_, s, h4, h5⟩ := ih; exact ⟨h3, s, h4, h5.tail h2⟩
  · rintro ⟨h1, s, h2, h3⟩
    have key : ∀ {s v : Nat}, Rch E s v → al v = true → Rea E al root (fun _ => False) s → Rea E al root (fun _ => False) v := by
      intro s v h
      induction h with
      | refl => intro _ h; exact h
      | step e h ih =>
        intro ha hr
        refine ih ha (.step hr e ?_)
        have back : ∀ {x y : Nat}, Rch E x y → al y = true → al x = true := by
          intro x y h
          induction h with
          | refl => exact id
          | step e _ ih => intro hy; exact hb _ _ e (ih hy)
        exact back h ha
    have hs : al s = true := by
      have back : ∀ {x y : Nat}, Rch E x y → al y = true → al x = true := by
        intro x y h
        induction h with
        | refl => exact id
        | step e _ ih => intro hy; exact hb _ _ e (ih hy)
      exact back h3 h1
    exact key h3 h1 (.root h2 hs)
theorem vis_hit {al : Nat → Bool} {keep : List Bool} {todo : List Nat} {v : Nat} (h : al v = true) (h2 : ¬ keep.getD v false = true) : visK al keep v = keep.set v true ∧ visT al keep todo v = todo ++ [v] := by
  unfold visK visT; rw [if_pos ⟨h, h2⟩, if_pos ⟨h, h2⟩]; exact ⟨rfl, rfl⟩
theorem vis_miss {al : Nat → Bool} {keep : List Bool} {todo : List Nat} {v : Nat} (h : ¬ (al v = true ∧ ¬ keep.getD v false = true)) : visK al keep v = keep ∧ visT al keep todo v = todo := by
  unfold visK visT; rw [if_neg h, if_neg h]; exact ⟨rfl, rfl⟩
end Go.Lx


namespace Go.Lx
open Go.RowKit
set_option linter.unusedVariables false
def cntK (keep : List Bool) (s : Nat) : Nat := (keep.take s).count true
theorem cntK_succ {keep : List Bool} {s : Nat} (h : s < keep.length) : cntK keep (s + 1) = cntK keep s + if keep.getD s false = true then 1 else 0 := by
  unfold cntK
  rw [List.take_succ_eq_append_getElem h, List.count_append, gb h]
  cases keep[s] <;> rfl
theorem cntK_le (keep : List Bool) (s : Nat) : cntK keep s ≤ s := Nat.le_trans List.count_le_length (by rw [List.length_take]; omega)
theorem cntK_all {keep : List Bool} {s : Nat} (h : keep.length ≤ s) : cntK keep s = keep.count true := by unfold cntK; rw [List.take_of_length_le h]
def renK (keep : List Bool) (l : List Int) : List Int := (l.filter fun s => keep.getD s.toNat false).map fun s => ((cntK keep s.toNat : Nat) : Int)
theorem renK_yes {keep : List Bool} {l : List Int} {k : Nat} (hk : k < l.length) {s : Nat} (e : l[k] = (s : Int)) (h : keep.getD s false = true) : renK keep (l.take (k + 1)) = renK keep (l.take k) ++ [((cntK keep s : Nat) : Int)] := by
  unfold renK; rw [List.take_succ_eq_append_getElem hk, List.filter_append, List.map_append, e]; simp only [List.filter_cons, Int.toNat_natCast, h, if_true, List.filter_nil, List.map_cons, List.map_nil]
theorem renK_no {keep : List Bool} {l : List Int} {k : Nat} (hk : k < l.length) {s : Nat} (e : l[k] = (s : Int)) (h : ¬ keep.getD s false = true) : renK keep (l.take (k + 1)) = renK keep (l.take k) := by
  unfold renK; rw [List.take_succ_eq_append_getElem hk, List.filter_append, List.map_append, e]
  have : keep.getD s false = false := by simpa using h
  simp only [List.filter_cons, Int.toNat_natCast, this, Bool.false_eq_true, if_false, List.filter_nil, List.map_nil, List.append_nil]
theorem renK_len (keep : List Bool) (l : List Int) : (renK keep l).length ≤ l.length := by unfold renK; rw [List.length_map]; exact List.length_filter_le _ _
theorem renK_lenT (keep : List Bool) (l : List Int) (k : Nat) : (renK keep (l.take k)).length ≤ l.length := Nat.le_trans (renK_len _ _) (by rw [List.length_take]; omega)
def renE (keep : List Bool) (e : Ed) : Ed := ⟨((cntK keep e.fr.toNat : Nat) : Int), ((cntK keep e.to.toNat : Nat) : Int), e.pos, e.neg⟩
def edK (keep : List Bool) (es : List Ed) : List Ed := (es.filter fun e => keep.getD e.fr.toNat false && keep.getD e.to.toNat false).map (renE keep)
theorem edK_yes {keep : List Bool} {es : List Ed} {k : Nat} (hk : k < es.length) (h : keep.getD es[k].fr.toNat false = true) (h2 : keep.getD es[k].to.toNat false = true) : edK keep (es.take (k + 1)) = edK keep (es.take k) ++ [renE keep es[k]] := by
  unfold edK; rw [List.take_succ_eq_append_getElem hk, List.filter_append, List.map_append]; simp only [List.filter_cons, h, h2, Bool.and_self, if_true, List.filter_nil, List.map_cons, List.map_nil]
theorem edK_no {keep : List Bool} {es : List Ed} {k : Nat} (hk : k < es.length) (h : ¬ (keep.getD es[k].fr.toNat false = true ∧ keep.getD es[k].to.toNat false = true)) : edK keep (es.take (k + 1)) = edK keep (es.take k) := by
  unfold edK; rw [List.take_succ_eq_append_getElem hk, List.filter_append, List.map_append]
  have : (keep.getD es[k].fr.toNat false && keep.getD es[k].to.toNat false) = false := by
    rw [← Bool.not_eq_true, Bool.and_eq_true]; exact h
  simp only [List.filter_cons, this, Bool.false_eq_true, if_false, List.filter_nil, List.map_nil, List.append_nil]
theorem edK_len (keep : List Bool) (l : List Ed) : (edK keep l).length ≤ l.length := by unfold edK; rw [List.length_map]; exact List.length_filter_le _ _
theorem edK_lenT (keep : List Bool) (l : List Ed) (k : Nat) : (edK keep (l.take k)).length ≤ l.length := Nat.le_trans (edK_len _ _) (by rw [List.length_take]; omega)
def trimWith (b : Bu) (keep : List Bool) : Bu := { vars := b.vars, states := ((keep.count true : Nat) : Int), start := renK keep b.start, edges := edK keep b.edges, sets := b.sets.map (renK keep) }
def zeroBu : Bu := { vars := 0, states := 0, start := [], edges := [], sets := [] }
def keepP (b : Bu) (v : Nat) : Prop := liveB b v ∧ ∃ s : Nat, (s : Int) ∈ b.start ∧ Rch (autE b) s v
open Classical in
noncomputable def keepB (b : Bu) : List Bool := (List.range b.states.toNat).map fun v => decide (keepP b v)
open Classical in
noncomputable def trimB (b : Bu) : Bu := if checkB b = 0 then trimWith b (keepB b) else zeroBu
open Classical in
theorem keepB_of {b : Bu} {ks : List Bool} (hl : ks.length = b.states.toNat) (h : ∀ v, v < b.states.toNat → (ks.getD v false = true ↔ keepP b v)) : ks = keepB b := by
  unfold keepB
  apply List.ext_getElem (by simp [hl])
  intro i h1 h2
  have h3 := h i (by omega)
  rw [gb h1] at h3
  rw [List.getElem_map, List.getElem_range]
  by_cases e : keepP b i
  · rw [decide_eq_true e]; exact h3.2 e
  · rw [decide_eq_false e]; rw [← Bool.not_eq_true]; exact fun q => e (h3.1 q)
structure NumP (keep : List Bool) (k : Nat) (ns : List Nat) : Prop where
  l : ns.length = keep.length
  h : ∀ s, s < k → keep.getD s false = true → ns.getD s 0 = cntK keep s
theorem NumP.start (keep : List Bool) : NumP keep 0 (List.replicate keep.length 0) := ⟨by simp, fun s hs => by omega⟩
theorem NumP.yes {keep : List Bool} {k : Nat} {ns : List Nat} (h : NumP keep k ns) (hk : k < keep.length) : NumP keep (k + 1) (ns.set k (cntK keep k)) := by
  refine ⟨by simp [h.l], fun s hs hy => ?_⟩
  have := fn_set (l := ns) (v := k) (a := cntK keep k) (by rw [h.l]; exact hk) s
  rw [show (ns.set k (cntK keep k)).getD s 0 = fn (ns.set k (cntK keep k)) s from rfl, this]
  by_cases e : s = k
  · rw [if_pos e, e]
  · rw [if_neg e]; exact h.h s (by omega) hy
theorem NumP.no {keep : List Bool} {k : Nat} {ns : List Nat} (h : NumP keep k ns) (hn : ¬ keep.getD k false = true) : NumP keep (k + 1) ns := by
  refine ⟨h.l, fun s hs hy => ?_⟩
  by_cases e : s = k
  · subst e; exact absurd hy hn
  · exact h.h s (by omega) hy
theorem NumP.get {keep : List Bool} {ns : List Nat} (h : NumP keep keep.length ns) {s : Nat} (hs : s < ns.length) (hk : keep.getD s false = true) : ns[s] = cntK keep s := by
  have := h.h s (by rw [← h.l]; exact hs) hk
  rwa [gd hs] at this
theorem keep_live {b : Bu} (he : checkB b = 0) {nx : List (List Int)} {ms : List Nat} (hv : ValidB b) (hg : AutG b nx ms) {v : Nat} (hvn : v < b.states.toNat) : Rea (adjE nx) (fun v => (livesB b).getD v false) (fun v => (v : Int) ∈ b.start) (fun _ => False) v ↔ keepP b v := by
  have hback : ∀ x y, adjE nx x y → (livesB b).getD y false = true → (livesB b).getD x false = true := fun x y hxy hy => by
    have h1 := adjE_lt (hg.ok hv) hxy
    have hl : nx.length = b.states.toNat := hg.r.l
    have h2 := (livesB_get he (by omega)).1 hy
    refine (livesB_get he (by omega)).2 ?_
    rw [hg.adj hv] at hxy
    exact LiveG.back h2 (.one hxy)
  rw [rea_live hback, livesB_get he hvn, hg.adj hv]; exact Iff.rfl
theorem cntK_lt {keep : List Bool} {s : Nat} (h : keep.getD s false = true) : cntK keep s < keep.count true := by
  have hs := getB_lt h
  have h1 : cntK keep (s + 1) ≤ keep.count true := (List.take_sublist (s + 1) keep).count_le true
  rw [cntK_succ hs, if_pos h] at h1; omega
end Go.Lx


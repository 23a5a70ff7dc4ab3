/- Contracts of functions of the program (BAut, Acc, BLvs, BLet, BMat, Pth, BPth, Kmp, BCan): what each call answers and that it leaves memory as it was. Conditions: those each theorem names. -/
import Derived.Test.YtnamoapbienooaaBMrk
import Derived.Test.YtnamoapbienooaaBChk
set_option linter.unusedSectionVars false
set_option linter.unusedSimpArgs false
set_option linter.unusedVariables false
set_option linter.unnecessarySimpa false
namespace Go.Proofs.Ytnamoapbienooaa
open Go.Lx Go.RowKit
set_option linter.unusedVariables false
set_option linter.unusedSimpArgs false
set_option maxHeartbeats 1000000 in
set_option maxRecDepth 20000 in
theorem automatonF (w : World) (b : Bu) (sb eb tb : Option Addr) (sc ec tc : Nat) (vs : List Value) (h : BuAt w b sb eb tb vs) (hB : BuB b) (hv : ValidB b) :
    PureT Try.prog 62 [.agg (buCells b sb sc eb ec tb tc).toArray] w fun v N => ∃ nb nc mb mc qs ms, v = .agg #[.slice nb b.states.toNat nc, .slice mb b.states.toNat mc, .int .u64 ((2 ^ b.sets.length - 1 : Nat) : Int)] ∧ N = [rowI nb b.states.toNat 22 1 (vals qs), rowI mb b.states.toNat 52 1 (uns ms)] ++ itms 3 qs ∧ AutG b (nums qs) ms := by
  refine CallT.enter Try.func62 rfl Try.ntmps62 rfl ?_
  have hv0 := hv.n0; have hv4 := hv.n4; have hm8 := hv.m8; have hed := hB.ed
  obtain ⟨n, hn⟩ : ∃ n : Nat, b.states = (n : Int) := ⟨b.states.toNat, by omega⟩
  have hnn : b.states.toNat = n := by omega
  refine T.seq (T.region ?_)
  refine TO.loud rfl (l_box (v := (.agg (buCells b sb sc eb ec tb tc).toArray)) (cs := (buCells b sb sc eb ec tb tc)) rfl rfl (fun bx1 => ?_))
  refine TO.loud rfl (l_alloc inf79 rfl (fun bx2 => ?_))
  refine TO.nil ?_
  refine T.cut (fun ρ O => ∃ (zN zM zG : Nat), O = [oI zG 79 [(.slice (some ⟨zN, 0, none⟩) n n), (.slice (some ⟨zM, 0, none⟩) n n), .int .u64 ((2 ^ b.sets.length - 1 : Nat) : Int)], rowI (some ⟨zN, 0, none⟩) n 22 1 (List.replicate n (.slice none 0 0)), rowI (some ⟨zM, 0, none⟩) n 52 1 (List.replicate n (.int .u64 0)), oI bx2 79 [(.slice none 0 0), (.slice none 0 0), (.int .u64 0)], oI bx1 26 (buCells b sb sc eb ec tb tc)] ∧ Heads [(0, (.agg (buCells b sb sc eb ec tb tc).toArray)), (1, (.pointer (some ⟨bx1, 0, none⟩))), (2, (.pointer (some ⟨bx2, 0, none⟩))), (3, (.pointer (some ⟨zG, 0, none⟩)))] ρ) ?_ ?_
  · refine T.tree [oI bx1 26 (buCells b sb sc eb ec tb tc)] 14 mixed rfl (Sub.pick [1] rfl) (fun _ _ _ h => h) ?_
    refine RO.quietT 0 rfl (by kernel_rfl) (q_fieldAddr Try.underlying26 rfl inf3 rfl rfl) ?_
    refine RO.quietT 1 rfl (by kernel_rfl) (QT.cast (q_load_box 0 Try.underlying3 rfl rfl rfl rfl) (v' := .int .i64 ((n : Nat) : Int)) (by show Value.int _ b.states = _; rw [hn])) ?_
    refine RO.quietT 3 rfl (by kernel_rfl) (q_fieldAddr Try.underlying26 rfl inf3 rfl rfl) ?_
    refine RO.quietT 4 rfl (by kernel_rfl) (QT.cast (q_load_box 0 Try.underlying3 rfl rfl rfl rfl) (v' := .int .i64 ((n : Nat) : Int)) (by show Value.int _ b.states = _; rw [hn])) ?_
    refine RO.quietT 6 rfl (by kernel_rfl) (q_fieldAddr Try.underlying26 rfl inf24 rfl rfl) ?_
    refine RO.quietT 7 rfl (by kernel_rfl) (q_load_box 0 Try.underlying24 rfl rfl rfl rfl) ?_
    refine RO.quietT 8 rfl (by kernel_rfl) (q_len Try.underlying24 rfl) ?_
    refine RO.quietT 9 rfl (by kernel_rfl) (QT.cast (q_shlU (a := 1) (b := b.sets.length) .u64 rfl rfl (by show _ ≤ 64; omega) (by show _ < 2 ^ 64; rw [Nat.one_mul]; exact Nat.pow_lt_pow_right (by omega) (by omega))) (v' := .int .u64 ((2 ^ b.sets.length : Nat) : Int)) (by rw [Nat.one_mul])) ?_
    refine RO.quietT 10 rfl (by kernel_rfl) (q_subU (a := (2 ^ b.sets.length)) (b := 1) .u64 rfl rfl (by show _ < 2 ^ 64; exact Nat.pow_lt_pow_right (by omega) (by omega)) Nat.one_le_two_pow) ?_
    refine RO.fork [2, 5, 12] (by kernel_rfl) rfl ⟨⟨_, rfl, rfl, l_makeSlice (m := n) Try.underlying24 inf22 rfl rfl (by omega) (by omega) (fun zN => ⟨Sub.pick [2] rfl, ?_⟩)⟩, ⟨_, rfl, rfl, l_makeSlice (m := n) Try.underlying77 inf52 rfl rfl (by omega) (by omega) (fun zM => ⟨Sub.pick [2] rfl, ?_⟩)⟩, ⟨_, rfl, rfl, l_alloc inf79 rfl (fun zG => ⟨Sub.pick [2] rfl, ?_⟩)⟩, trivial⟩
    · refine RO.fork [5, 12] (by kernel_rfl) rfl ⟨⟨_, rfl, rfl, l_makeSlice (m := n) Try.underlying77 inf52 rfl rfl (by omega) (by omega) (fun zM => ⟨Sub.pick [3] rfl, ?_⟩)⟩, ⟨_, rfl, rfl, l_alloc inf79 rfl (fun zG => ⟨Sub.pick [3] rfl, ?_⟩)⟩, trivial⟩
      · refine RO.quietT 11 rfl (by kernel_rfl) (q_build (cs := [(.slice (some ⟨zN, 0, none⟩) n n), (.slice (some ⟨zM, 0, none⟩) n n), .int .u64 ((2 ^ b.sets.length - 1 : Nat) : Int)]) plan79 inf79 (by kernel_rfl)) ?_
        refine RO.fork [12] (by kernel_rfl) rfl ⟨⟨_, rfl, rfl, l_alloc inf79 rfl (fun zG => ⟨Sub.pick [4] rfl, ?_⟩)⟩, trivial⟩
        refine RO.fork [13] (by kernel_rfl) rfl ⟨⟨_, rfl, rfl, l_store_box (v := (.agg #[(.slice (some ⟨zN, 0, none⟩) n n), (.slice (some ⟨zM, 0, none⟩) n n), .int .u64 ((2 ^ b.sets.length - 1 : Nat) : Int)])) (vs := [(.slice (some ⟨zN, 0, none⟩) n n), (.slice (some ⟨zM, 0, none⟩) n n), .int .u64 ((2 ^ b.sets.length - 1 : Nat) : Int)]) 0 inf79 rfl rfl rfl rfl rfl rfl (by simp [putL]) ⟨Sub.pick [4] rfl, ?_⟩⟩, trivial⟩
        exact RO.fin (by kernel_rfl) ⟨zN, zM, zG, rfl, ⟨rfl, rfl, rfl, rfl, trivial⟩⟩ (Sub.pick [0, 1, 0, 0, 0] rfl)
      refine RO.fork [5] (by kernel_rfl) rfl ⟨⟨_, rfl, rfl, l_makeSlice (m := n) Try.underlying77 inf52 rfl rfl (by omega) (by omega) (fun zM => ⟨Sub.pick [4] rfl, ?_⟩)⟩, trivial⟩
      refine RO.quietT 11 rfl (by kernel_rfl) (q_build (cs := [(.slice (some ⟨zN, 0, none⟩) n n), (.slice (some ⟨zM, 0, none⟩) n n), .int .u64 ((2 ^ b.sets.length - 1 : Nat) : Int)]) plan79 inf79 (by kernel_rfl)) ?_
      refine RO.fork [13] (by kernel_rfl) rfl ⟨⟨_, rfl, rfl, l_store_box (v := (.agg #[(.slice (some ⟨zN, 0, none⟩) n n), (.slice (some ⟨zM, 0, none⟩) n n), .int .u64 ((2 ^ b.sets.length - 1 : Nat) : Int)])) (vs := [(.slice (some ⟨zN, 0, none⟩) n n), (.slice (some ⟨zM, 0, none⟩) n n), .int .u64 ((2 ^ b.sets.length - 1 : Nat) : Int)]) 1 inf79 rfl rfl rfl rfl rfl rfl (by simp [putL]) ⟨Sub.pick [4] rfl, ?_⟩⟩, trivial⟩
      exact RO.fin (by kernel_rfl) ⟨zN, zM, zG, rfl, ⟨rfl, rfl, rfl, rfl, trivial⟩⟩ (Sub.pick [1, 1, 0, 0, 0] rfl)
    · refine RO.fork [2, 12] (by kernel_rfl) rfl ⟨⟨_, rfl, rfl, l_makeSlice (m := n) Try.underlying24 inf22 rfl rfl (by omega) (by omega) (fun zN => ⟨Sub.pick [3] rfl, ?_⟩)⟩, ⟨_, rfl, rfl, l_alloc inf79 rfl (fun zG => ⟨Sub.pick [3] rfl, ?_⟩)⟩, trivial⟩
      · refine RO.quietT 11 rfl (by kernel_rfl) (q_build (cs := [(.slice (some ⟨zN, 0, none⟩) n n), (.slice (some ⟨zM, 0, none⟩) n n), .int .u64 ((2 ^ b.sets.length - 1 : Nat) : Int)]) plan79 inf79 (by kernel_rfl)) ?_
        refine RO.fork [12] (by kernel_rfl) rfl ⟨⟨_, rfl, rfl, l_alloc inf79 rfl (fun zG => ⟨Sub.pick [4] rfl, ?_⟩)⟩, trivial⟩
        refine RO.fork [13] (by kernel_rfl) rfl ⟨⟨_, rfl, rfl, l_store_box (v := (.agg #[(.slice (some ⟨zN, 0, none⟩) n n), (.slice (some ⟨zM, 0, none⟩) n n), .int .u64 ((2 ^ b.sets.length - 1 : Nat) : Int)])) (vs := [(.slice (some ⟨zN, 0, none⟩) n n), (.slice (some ⟨zM, 0, none⟩) n n), .int .u64 ((2 ^ b.sets.length - 1 : Nat) : Int)]) 0 inf79 rfl rfl rfl rfl rfl rfl (by simp [putL]) ⟨Sub.pick [4] rfl, ?_⟩⟩, trivial⟩
        exact RO.fin (by kernel_rfl) ⟨zN, zM, zG, rfl, ⟨rfl, rfl, rfl, rfl, trivial⟩⟩ (Sub.pick [0, 0, 0, 0, 0] rfl)
      refine RO.fork [2] (by kernel_rfl) rfl ⟨⟨_, rfl, rfl, l_makeSlice (m := n) Try.underlying24 inf22 rfl rfl (by omega) (by omega) (fun zN => ⟨Sub.pick [4] rfl, ?_⟩)⟩, trivial⟩
      refine RO.quietT 11 rfl (by kernel_rfl) (q_build (cs := [(.slice (some ⟨zN, 0, none⟩) n n), (.slice (some ⟨zM, 0, none⟩) n n), .int .u64 ((2 ^ b.sets.length - 1 : Nat) : Int)]) plan79 inf79 (by kernel_rfl)) ?_
      refine RO.fork [13] (by kernel_rfl) rfl ⟨⟨_, rfl, rfl, l_store_box (v := (.agg #[(.slice (some ⟨zN, 0, none⟩) n n), (.slice (some ⟨zM, 0, none⟩) n n), .int .u64 ((2 ^ b.sets.length - 1 : Nat) : Int)])) (vs := [(.slice (some ⟨zN, 0, none⟩) n n), (.slice (some ⟨zM, 0, none⟩) n n), .int .u64 ((2 ^ b.sets.length - 1 : Nat) : Int)]) 1 inf79 rfl rfl rfl rfl rfl rfl (by simp [putL]) ⟨Sub.pick [4] rfl, ?_⟩⟩, trivial⟩
      exact RO.fin (by kernel_rfl) ⟨zN, zM, zG, rfl, ⟨rfl, rfl, rfl, rfl, trivial⟩⟩ (Sub.pick [1, 0, 0, 0, 0] rfl)
    refine RO.fork [2, 5] (by kernel_rfl) rfl ⟨⟨_, rfl, rfl, l_makeSlice (m := n) Try.underlying24 inf22 rfl rfl (by omega) (by omega) (fun zN => ⟨Sub.pick [3] rfl, ?_⟩)⟩, ⟨_, rfl, rfl, l_makeSlice (m := n) Try.underlying77 inf52 rfl rfl (by omega) (by omega) (fun zM => ⟨Sub.pick [3] rfl, ?_⟩)⟩, trivial⟩
    · refine RO.fork [5] (by kernel_rfl) rfl ⟨⟨_, rfl, rfl, l_makeSlice (m := n) Try.underlying77 inf52 rfl rfl (by omega) (by omega) (fun zM => ⟨Sub.pick [4] rfl, ?_⟩)⟩, trivial⟩
      refine RO.quietT 11 rfl (by kernel_rfl) (q_build (cs := [(.slice (some ⟨zN, 0, none⟩) n n), (.slice (some ⟨zM, 0, none⟩) n n), .int .u64 ((2 ^ b.sets.length - 1 : Nat) : Int)]) plan79 inf79 (by kernel_rfl)) ?_
      refine RO.fork [13] (by kernel_rfl) rfl ⟨⟨_, rfl, rfl, l_store_box (v := (.agg #[(.slice (some ⟨zN, 0, none⟩) n n), (.slice (some ⟨zM, 0, none⟩) n n), .int .u64 ((2 ^ b.sets.length - 1 : Nat) : Int)])) (vs := [(.slice (some ⟨zN, 0, none⟩) n n), (.slice (some ⟨zM, 0, none⟩) n n), .int .u64 ((2 ^ b.sets.length - 1 : Nat) : Int)]) 2 inf79 rfl rfl rfl rfl rfl rfl (by simp [putL]) ⟨Sub.pick [4] rfl, ?_⟩⟩, trivial⟩
      exact RO.fin (by kernel_rfl) ⟨zN, zM, zG, rfl, ⟨rfl, rfl, rfl, rfl, trivial⟩⟩ (Sub.pick [2, 1, 0, 0, 0] rfl)
    refine RO.fork [2] (by kernel_rfl) rfl ⟨⟨_, rfl, rfl, l_makeSlice (m := n) Try.underlying24 inf22 rfl rfl (by omega) (by omega) (fun zN => ⟨Sub.pick [4] rfl, ?_⟩)⟩, trivial⟩
    refine RO.quietT 11 rfl (by kernel_rfl) (q_build (cs := [(.slice (some ⟨zN, 0, none⟩) n n), (.slice (some ⟨zM, 0, none⟩) n n), .int .u64 ((2 ^ b.sets.length - 1 : Nat) : Int)]) plan79 inf79 (by kernel_rfl)) ?_
    refine RO.fork [13] (by kernel_rfl) rfl ⟨⟨_, rfl, rfl, l_store_box (v := (.agg #[(.slice (some ⟨zN, 0, none⟩) n n), (.slice (some ⟨zM, 0, none⟩) n n), .int .u64 ((2 ^ b.sets.length - 1 : Nat) : Int)])) (vs := [(.slice (some ⟨zN, 0, none⟩) n n), (.slice (some ⟨zM, 0, none⟩) n n), .int .u64 ((2 ^ b.sets.length - 1 : Nat) : Int)]) 2 inf79 rfl rfl rfl rfl rfl rfl (by simp [putL]) ⟨Sub.pick [4] rfl, ?_⟩⟩, trivial⟩
    exact RO.fin (by kernel_rfl) ⟨zN, zM, zG, rfl, ⟨rfl, rfl, rfl, rfl, trivial⟩⟩ (Sub.pick [2, 0, 0, 0, 0] rfl)
  rintro ρ O ⟨zN, zM, zG, rfl, hH⟩
  obtain ⟨ρ0, rfl⟩ := hH.elim
  clear hH
  refine T.seq (T.seq (T.region ?_))
  refine TO.quiet (q_load_boxAgg 4 Try.underlying26 rfl inf26 rfl rfl rfl) ?_
  have hk21 := fun (w1 : World) (hI : Inv w [oI zG 79 [(.slice (some ⟨zN, 0, none⟩) n n), (.slice (some ⟨zM, 0, none⟩) n n), .int .u64 ((2 ^ b.sets.length - 1 : Nat) : Int)], rowI (some ⟨zN, 0, none⟩) n 22 1 (List.replicate n (.slice none 0 0)), rowI (some ⟨zM, 0, none⟩) n 52 1 (List.replicate n (.int .u64 0)), oI bx2 79 [(.slice none 0 0), (.slice none 0 0), (.int .u64 0)], oI bx1 26 (buCells b sb sc eb ec tb tc)] w1) => marksF w1 b sb eb tb sc ec tc vs (hI.bu h) hB hm8
  refine TO.loud rfl (l_call ent52 (CallT.of_pure hk21) rfl ?_)
  clear hk21
  rintro vr O' ⟨N, rfl, m, l, rfl, rfl, hmp, hin⟩
  refine TO.loud rfl (l_rangeMap 0 Try.underlying80 rfl rfl (fun it3 => ?_))
  refine TO.nil (T.block ?_)
  refine T.loop (fun (left : List (Int × Nat)) ρ O => ∃ (cur : Option (Int × Nat)) (ms : List Nat), O = [iterI KI VU m it3 l left cur, oI zG 79 [(.slice (some ⟨zN, 0, none⟩) n n), (.slice (some ⟨zM, 0, none⟩) n n), .int .u64 ((2 ^ b.sets.length - 1 : Nat) : Int)], rowI (some ⟨zN, 0, none⟩) n 22 1 (List.replicate n (.slice none 0 0)), rowI (some ⟨zM, 0, none⟩) n 52 1 (uns ms), oI bx2 79 [(.slice none 0 0), (.slice none 0 0), (.int .u64 0)], oI bx1 26 (buCells b sb sc eb ec tb tc)] ∧ (∀ q ∈ left, q ∈ l) ∧ (left.map Prod.fst).Nodup ∧ ms.length = n ∧ (∀ s, s < n → ms.getD s 0 = if (s : Int) ∈ left.map Prod.fst then 0 else mkN b.sets s) ∧ Heads [(0, (.agg (buCells b sb sc eb ec tb tc).toArray)), (1, (.pointer (some ⟨bx1, 0, none⟩))), (2, (.pointer (some ⟨bx2, 0, none⟩))), (3, (.pointer (some ⟨zG, 0, none⟩))), (22, (.pointer (some ⟨it3, 0, none⟩)))] ρ) (fun left => left.length) l ?_ ?_
  · refine ⟨none, List.replicate n 0, (by first | (simp only [List.map_replicate]; done) | (simp only [List.map_replicate]; rfl)), fun q hq => hq, hmp.nd, by simp, fun s hs => ?_, ⟨rfl, rfl, rfl, rfl, rfl, trivial⟩⟩
    rw [show (List.replicate n 0).getD s 0 = 0 by simp [hs]]
    split
    · rfl
    · rename_i hs2; exact (hmp.out hs2).symm
  rintro left ρ O ⟨cur, ms, rfl, hsub, hnd, hml, hms, hH⟩
  obtain ⟨ρ0, rfl⟩ := hH.elim
  clear hH
  refine T.seq (T.region ?_)
  refine TO.loud rfl (l_nextMap (K := KI) (V := VU) 0 rfl rfl (fun hleft => ?_) (fun lA le lB hleft => ?_))
  · refine TO.quiet (q_extract (vs := _) rfl rfl) ?_
    refine TO.nil (T.seq ?_)
    refine T.cond0 rfl ?_
    refine T.exit ?_
    refine T.seq (T.seq (T.region ?_))
    refine TO.quiet (q_fieldAddr Try.underlying26 rfl inf23 rfl rfl) (TO.quiet (q_load_box 5 Try.underlying23 rfl rfl rfl rfl) (TO.quiet (q_len Try.underlying23 rfl) (TO.quiet (q_move rfl) ?_)))
    refine TO.nil (T.block ?_)
    subst hleft
    refine T.sub (O' := [oI zG 79 [(.slice (some ⟨zN, 0, none⟩) n n), (.slice (some ⟨zM, 0, none⟩) n n), .int .u64 ((2 ^ b.sets.length - 1 : Nat) : Int)], rowI (some ⟨zN, 0, none⟩) n 22 1 (List.replicate n (.slice none 0 0)), rowI (some ⟨zM, 0, none⟩) n 52 1 (uns ms), oI bx2 79 [(.slice none 0 0), (.slice none 0 0), (.int .u64 0)], oI bx1 26 (buCells b sb sc eb ec tb tc)]) (Sub.pick [1, 1, 1, 1, 1] rfl) ?_
    refine T.nilRows 3 n ?_
    refine T.loopS (fun (k : Nat) ρ O => ∃ (qs : List Rec), O = ([oI zG 79 [(.slice (some ⟨zN, 0, none⟩) n n), (.slice (some ⟨zM, 0, none⟩) n n), .int .u64 ((2 ^ b.sets.length - 1 : Nat) : Int)], rowI (some ⟨zN, 0, none⟩) n 22 1 (vals qs), rowI (some ⟨zM, 0, none⟩) n 52 1 (uns ms), oI bx2 79 [(.slice none 0 0), (.slice none 0 0), (.int .u64 0)], oI bx1 26 (buCells b sb sc eb ec tb tc)] ++ (itms 3 qs)) ∧ k ≤ b.edges.length ∧ RowsP n (autR (b.edges.take k)) k (nums qs) ∧ Heads [(0, (.agg (buCells b sb sc eb ec tb tc).toArray)), (1, (.pointer (some ⟨bx1, 0, none⟩))), (2, (.pointer (some ⟨bx2, 0, none⟩))), (3, (.pointer (some ⟨zG, 0, none⟩))), (34, (.slice eb b.edges.length ec)), (35, .int .i64 (b.edges.length : Int)), (36, .int .i64 (k : Int))] ρ) (fun k => b.edges.length - k) 0 ?_ ?_
    · exact ⟨List.replicate n nilRec, (by simp only [List.map_replicate]; rfl), Nat.zero_le _, RowsP.start (fun u y _ ⟨e, he, _⟩ => by simp at he) _, ⟨rfl, rfl, rfl, rfl, rfl, rfl, rfl, trivial⟩⟩
    rintro k ρ O ⟨qs, rfl, hk, hrw, hH⟩
    obtain ⟨ρ0, rfl⟩ := hH.elim
    clear hH
    have hql := hrw.ql
    refine T.seq (T.region ?_)
    refine TO.quiet (q_lss rfl rfl) ?_
    refine TO.nil (T.seq ?_)
    refine T.condP rfl (fun hc => ?_) (fun hc => ?_)
    · have hlt37 : k < b.edges.length := by omega
      obtain ⟨u, hu, hun⟩ : ∃ u : Nat, b.edges[k].fr = (u : Int) ∧ u < n := by
        have := (hv.ed _ (List.getElem_mem hlt37)).1
        exact ⟨b.edges[k].fr.toNat, by omega, by omega⟩
      have hqu : u < qs.length := by omega
      have hrq := hrw.rl hqu
      refine T.skip (T.seq (T.block (T.seq (T.region ?_))))
      refine TO.quiet (q_ixK (i := k) Try.underlying23 inf54 rfl rfl (Sl.o h.ed) (by first | assumption | omega | (simp; omega) | simp_all) (by first | (rw [eds_len]; omega) | (simp [eds_len]; omega) | (simp_all [eds_len]; omega))) (TO.quiet (q_ldK (vs := [.int .i64 b.edges[k].fr, .int .i64 b.edges[k].to, .int .u8 ((b.edges[k].pos : Nat) : Int), .int .u8 ((b.edges[k].neg : Nat) : Int)]) Try.underlying54 rfl inf54 rfl rfl (Nat.succ_pos _) (Sl.o h.ed) (eds_get (by first | assumption | omega | (simp; omega) | simp_all))) ?_)
      refine TO.loud rfl (l_alloc inf54 rfl (fun bx4 => ?_))
      refine TO.loud rfl (l_store_box (v := (.agg #[.int .i64 b.edges[k].fr, .int .i64 b.edges[k].to, .int .u8 ((b.edges[k].pos : Nat) : Int), .int .u8 ((b.edges[k].neg : Nat) : Int)])) (vs := [.int .i64 b.edges[k].fr, .int .i64 b.edges[k].to, .int .u8 ((b.edges[k].pos : Nat) : Int), .int .u8 ((b.edges[k].neg : Nat) : Int)]) 0 inf54 rfl rfl rfl rfl rfl rfl (by simp [putL]) ?_)
      refine TO.nil ?_
      refine T.sub (sub_out hqu [oI bx4 54 [.int .i64 b.edges[k].fr, .int .i64 b.edges[k].to, .int .u8 ((b.edges[k].pos : Nat) : Int), .int .u8 ((b.edges[k].neg : Nat) : Int)], oI zG 79 [(.slice (some ⟨zN, 0, none⟩) n n), (.slice (some ⟨zM, 0, none⟩) n n), .int .u64 ((2 ^ b.sets.length - 1 : Nat) : Int)], rowI (some ⟨zN, 0, none⟩) n 22 1 (vals qs), rowI (some ⟨zM, 0, none⟩) n 52 1 (uns ms), oI bx2 79 [(.slice none 0 0), (.slice none 0 0), (.int .u64 0)], oI bx1 26 (buCells b sb sc eb ec tb tc)]) ?_
      refine T.draws [oI bx4 54 [.int .i64 b.edges[k].fr, .int .i64 b.edges[k].to, .int .u8 ((b.edges[k].pos : Nat) : Int), .int .u8 ((b.edges[k].neg : Nat) : Int)], oI zG 79 [(.slice (some ⟨zN, 0, none⟩) n n), (.slice (some ⟨zM, 0, none⟩) n n), .int .u64 ((2 ^ b.sets.length - 1 : Nat) : Int)], rowI (some ⟨zN, 0, none⟩) n 22 1 (vals qs), rowI (some ⟨zM, 0, none⟩) n 52 1 (uns ms), oI bx2 79 [(.slice none 0 0), (.slice none 0 0), (.int .u64 0)], oI bx1 26 (buCells b sb sc eb ec tb tc)] [(0, 0), (1, 0), (2, 0), (3, 0), (4, 0), (5, 0), (6, 0), (7, 0), (8, 0), (9, 0), (10, 0), (11, 0), (12, 1), (13, 1), (14, 0), (15, 2)] mixed (by kernel_rfl) (Sub.pick0 [1, 1, 1, 1, 1, 1] [rowI qs[u].b qs[u].c 3 1 (ints qs[u].xs), oI bx4 54 [.int .i64 b.edges[k].fr, .int .i64 b.edges[k].to, .int .u8 ((b.edges[k].pos : Nat) : Int), .int .u8 ((b.edges[k].neg : Nat) : Int)], oI zG 79 [(.slice (some ⟨zN, 0, none⟩) n n), (.slice (some ⟨zM, 0, none⟩) n n), .int .u64 ((2 ^ b.sets.length - 1 : Nat) : Int)], rowI (some ⟨zN, 0, none⟩) n 22 1 (vals qs), rowI (some ⟨zM, 0, none⟩) n 52 1 (uns ms), oI bx2 79 [(.slice none 0 0), (.slice none 0 0), (.int .u64 0)], oI bx1 26 (buCells b sb sc eb ec tb tc)] (itms 3 (qs.eraseIdx u)) rfl rfl) (fun _ _ _ h => h) ?_
      refine DO.quiet rfl (q_fieldAddr Try.underlying79 rfl inf24 rfl rfl) (DO.quiet rfl (q_load_box 1 Try.underlying24 rfl rfl rfl rfl) (DO.quiet rfl (q_fieldAddr Try.underlying54 rfl inf3 rfl rfl) (DO.quiet rfl (QT.cast (q_load_box 0 Try.underlying3 rfl rfl rfl rfl) (v' := .int .i64 ((u : Nat) : Int)) (by show Value.int _ _ = _; rw [hu])) ?_)))
      refine DO.quiet rfl (q_fieldAddr Try.underlying79 rfl inf24 rfl rfl) (DO.quiet rfl (q_load_box 1 Try.underlying24 rfl rfl rfl rfl) (DO.quiet rfl (q_fieldAddr Try.underlying54 rfl inf3 rfl rfl) (DO.quiet rfl (QT.cast (q_load_box 0 Try.underlying3 rfl rfl rfl rfl) (v' := .int .i64 ((u : Nat) : Int)) (by show Value.int _ _ = _; rw [hu])) ?_)))
      refine DO.quiet rfl (q_ix (i := u) Try.underlying24 inf22 rfl rfl (rowO (List.mem_of_getElem? (i := 2) rfl))) (DO.quiet rfl (q_ld Try.underlying22 rfl rfl (rowO (List.mem_of_getElem? (i := 2) rfl)) (vals_at hqu)) (DO.quiet rfl (q_fieldAddr Try.underlying54 rfl inf3 rfl rfl) (DO.quiet rfl (q_load_box 0 Try.underlying3 rfl rfl rfl rfl) ?_)))
      refine DO.loud rfl rfl (l_build1 (v := .int .i64 b.edges[k].to) Try.underlying22 inf3 rfl rfl rfl (fun bx5 => ⟨Sub.pick0 [2, 2, 2, 2, 2, 2] [rowI (some ⟨bx5, 0, none⟩) 1 3 1 [.int .i64 b.edges[k].to], rowI qs[u].b qs[u].c 3 1 (ints qs[u].xs), oI bx4 54 [.int .i64 b.edges[k].fr, .int .i64 b.edges[k].to, .int .u8 ((b.edges[k].pos : Nat) : Int), .int .u8 ((b.edges[k].neg : Nat) : Int)], oI zG 79 [(.slice (some ⟨zN, 0, none⟩) n n), (.slice (some ⟨zM, 0, none⟩) n n), .int .u64 ((2 ^ b.sets.length - 1 : Nat) : Int)], rowI (some ⟨zN, 0, none⟩) n 22 1 (vals qs), rowI (some ⟨zM, 0, none⟩) n 52 1 (uns ms), oI bx2 79 [(.slice none 0 0), (.slice none 0 0), (.int .u64 0)], oI bx1 26 (buCells b sb sc eb ec tb tc)] (itms 3 (qs.eraseIdx u)) rfl rfl, ?_⟩))
      refine DO.loud rfl rfl (l_append 1 Try.underlying22 Try.underlying22 inf3 rfl rfl rfl rfl (by simp) (by decide) (Src.row (j := 0) rfl (by simp)) (by simp [oneB]) (by omega) (by decide) (by decide) (fun bx6 c7 => ⟨Sub.pick0 [2, 2, 2, 2, 2, 2] [rowI (some ⟨bx5, 0, none⟩) 1 3 1 [.int .i64 b.edges[k].to], rowI bx6 c7 3 1 ((ints qs[u].xs) ++ [.int .i64 b.edges[k].to]), oI bx4 54 [.int .i64 b.edges[k].fr, .int .i64 b.edges[k].to, .int .u8 ((b.edges[k].pos : Nat) : Int), .int .u8 ((b.edges[k].neg : Nat) : Int)], oI zG 79 [(.slice (some ⟨zN, 0, none⟩) n n), (.slice (some ⟨zM, 0, none⟩) n n), .int .u64 ((2 ^ b.sets.length - 1 : Nat) : Int)], rowI (some ⟨zN, 0, none⟩) n 22 1 (vals qs), rowI (some ⟨zM, 0, none⟩) n 52 1 (uns ms), oI bx2 79 [(.slice none 0 0), (.slice none 0 0), (.int .u64 0)], oI bx1 26 (buCells b sb sc eb ec tb tc)] (itms 3 (qs.eraseIdx u)) rfl rfl, ?_⟩))
      refine DO.quiet rfl (q_ix (i := u) Try.underlying24 inf22 rfl rfl (rowO (List.mem_of_getElem? (i := 2) rfl))) ?_
      refine DO.last rfl rfl (l_st (j := u) (v := (.slice bx6 (qs[u].xs.length + 1) c7)) (vs := [(.slice bx6 (qs[u].xs.length + 1) c7)]) (cs := vals qs) 4 inf22 rfl rfl rfl rfl rfl (by simp) rfl (by first | (simp; omega) | (simp_all; omega)) ?_)
      refine DO.sub (O' := ([rowI (some ⟨bx5, 0, none⟩) 1 3 1 [.int .i64 b.edges[k].to], rowI bx6 c7 3 1 ((ints qs[u].xs) ++ [.int .i64 b.edges[k].to]), oI bx4 54 [.int .i64 b.edges[k].fr, .int .i64 b.edges[k].to, .int .u8 ((b.edges[k].pos : Nat) : Int), .int .u8 ((b.edges[k].neg : Nat) : Int)], oI zG 79 [(.slice (some ⟨zN, 0, none⟩) n n), (.slice (some ⟨zM, 0, none⟩) n n), .int .u64 ((2 ^ b.sets.length - 1 : Nat) : Int)], rowI (some ⟨zN, 0, none⟩) n 22 1 (vals (qs.set u ⟨bx6, c7, qs[u].xs ++ [b.edges[k].to]⟩)), rowI (some ⟨zM, 0, none⟩) n 52 1 (uns ms), oI bx2 79 [(.slice none 0 0), (.slice none 0 0), (.int .u64 0)], oI bx1 26 (buCells b sb sc eb ec tb tc)] ++ (itms 3 (qs.eraseIdx u)))) (by rw [show putL (vals qs) u [(.slice bx6 (qs[u].xs.length + 1) c7)] = vals (qs.set u ⟨bx6, c7, qs[u].xs ++ [b.edges[k].to]⟩) from (by simp [putL, Rec.val])]; exact Sub.of (List.Sublist.refl _)) ?_
      refine DO.sub (O' := [rowI bx6 c7 3 1 ((ints qs[u].xs) ++ [.int .i64 b.edges[k].to]), oI bx4 54 [.int .i64 b.edges[k].fr, .int .i64 b.edges[k].to, .int .u8 ((b.edges[k].pos : Nat) : Int), .int .u8 ((b.edges[k].neg : Nat) : Int)], oI zG 79 [(.slice (some ⟨zN, 0, none⟩) n n), (.slice (some ⟨zM, 0, none⟩) n n), .int .u64 ((2 ^ b.sets.length - 1 : Nat) : Int)], rowI (some ⟨zN, 0, none⟩) n 22 1 (vals (qs.set u ⟨bx6, c7, qs[u].xs ++ [b.edges[k].to]⟩)), rowI (some ⟨zM, 0, none⟩) n 52 1 (uns ms), oI bx2 79 [(.slice none 0 0), (.slice none 0 0), (.int .u64 0)], oI bx1 26 (buCells b sb sc eb ec tb tc)] ++ (itms 3 (qs.eraseIdx u))) (Sub.pickR [1, 1, 1, 1, 1, 1, 1] [rowI (some ⟨bx5, 0, none⟩) 1 3 1 [.int .i64 b.edges[k].to], rowI bx6 c7 3 1 ((ints qs[u].xs) ++ [.int .i64 b.edges[k].to]), oI bx4 54 [.int .i64 b.edges[k].fr, .int .i64 b.edges[k].to, .int .u8 ((b.edges[k].pos : Nat) : Int), .int .u8 ((b.edges[k].neg : Nat) : Int)], oI zG 79 [(.slice (some ⟨zN, 0, none⟩) n n), (.slice (some ⟨zM, 0, none⟩) n n), .int .u64 ((2 ^ b.sets.length - 1 : Nat) : Int)], rowI (some ⟨zN, 0, none⟩) n 22 1 (vals (qs.set u ⟨bx6, c7, qs[u].xs ++ [b.edges[k].to]⟩)), rowI (some ⟨zM, 0, none⟩) n 52 1 (uns ms), oI bx2 79 [(.slice none 0 0), (.slice none 0 0), (.int .u64 0)], oI bx1 26 (buCells b sb sc eb ec tb tc)] (itms 3 (qs.eraseIdx u)) rfl rfl) ?_
      refine DO.sub (O' := [oI bx4 54 [.int .i64 b.edges[k].fr, .int .i64 b.edges[k].to, .int .u8 ((b.edges[k].pos : Nat) : Int), .int .u8 ((b.edges[k].neg : Nat) : Int)], oI zG 79 [(.slice (some ⟨zN, 0, none⟩) n n), (.slice (some ⟨zM, 0, none⟩) n n), .int .u64 ((2 ^ b.sets.length - 1 : Nat) : Int)], rowI (some ⟨zN, 0, none⟩) n 22 1 (vals (qs.set u ⟨bx6, c7, qs[u].xs ++ [b.edges[k].to]⟩)), rowI (some ⟨zM, 0, none⟩) n 52 1 (uns ms), oI bx2 79 [(.slice none 0 0), (.slice none 0 0), (.int .u64 0)], oI bx1 26 (buCells b sb sc eb ec tb tc)] ++ (itms 3 (qs.set u ⟨bx6, c7, qs[u].xs ++ [b.edges[k].to]⟩))) (sub_in hqu [oI bx4 54 [.int .i64 b.edges[k].fr, .int .i64 b.edges[k].to, .int .u8 ((b.edges[k].pos : Nat) : Int), .int .u8 ((b.edges[k].neg : Nat) : Int)], oI zG 79 [(.slice (some ⟨zN, 0, none⟩) n n), (.slice (some ⟨zM, 0, none⟩) n n), .int .u64 ((2 ^ b.sets.length - 1 : Nat) : Int)], rowI (some ⟨zN, 0, none⟩) n 22 1 (vals (qs.set u ⟨bx6, c7, qs[u].xs ++ [b.edges[k].to]⟩)), rowI (some ⟨zM, 0, none⟩) n 52 1 (uns ms), oI bx2 79 [(.slice none 0 0), (.slice none 0 0), (.int .u64 0)], oI bx1 26 (buCells b sb sc eb ec tb tc)] ⟨bx6, c7, qs[u].xs ++ [b.edges[k].to]⟩ (by simp)) ?_
      refine DO.done ?_
      refine T.region ?_
      refine TO.quiet (q_addN (a := k) (b := 1) rfl rfl (by omega)) (TO.quiet (q_move rfl) ?_)
      refine TO.nil ?_
      exact ⟨k + 1, by omega, ([oI zG 79 [(.slice (some ⟨zN, 0, none⟩) n n), (.slice (some ⟨zM, 0, none⟩) n n), .int .u64 ((2 ^ b.sets.length - 1 : Nat) : Int)], rowI (some ⟨zN, 0, none⟩) n 22 1 (vals (qs.set u ⟨bx6, c7, qs[u].xs ++ [b.edges[k].to]⟩)), rowI (some ⟨zM, 0, none⟩) n 52 1 (uns ms), oI bx2 79 [(.slice none 0 0), (.slice none 0 0), (.int .u64 0)], oI bx1 26 (buCells b sb sc eb ec tb tc)] ++ (itms 3 (qs.set u ⟨bx6, c7, qs[u].xs ++ [b.edges[k].to]⟩))), (Sub.pickR [1, 1, 1, 1, 1] [oI bx4 54 [.int .i64 b.edges[k].fr, .int .i64 b.edges[k].to, .int .u8 ((b.edges[k].pos : Nat) : Int), .int .u8 ((b.edges[k].neg : Nat) : Int)], oI zG 79 [(.slice (some ⟨zN, 0, none⟩) n n), (.slice (some ⟨zM, 0, none⟩) n n), .int .u64 ((2 ^ b.sets.length - 1 : Nat) : Int)], rowI (some ⟨zN, 0, none⟩) n 22 1 (vals (qs.set u ⟨bx6, c7, qs[u].xs ++ [b.edges[k].to]⟩)), rowI (some ⟨zM, 0, none⟩) n 52 1 (uns ms), oI bx2 79 [(.slice none 0 0), (.slice none 0 0), (.int .u64 0)], oI bx1 26 (buCells b sb sc eb ec tb tc)] (itms 3 (qs.set u ⟨bx6, c7, qs[u].xs ++ [b.edges[k].to]⟩)) rfl rfl), qs.set u ⟨bx6, c7, qs[u].xs ++ [b.edges[k].to]⟩, rfl, by omega, hrw.push hqu b.edges[k].to (fun w y hw => by rw [autR_snoc hlt37]; constructor <;> (rintro (h | h) <;> first | exact .inl h | exact .inr ⟨by omega, by omega⟩)) _ _, ⟨rfl, rfl, rfl, rfl, rfl, rfl, rfl, trivial⟩⟩
    have hge37 : ¬ k < b.edges.length := by omega
    refine T.exit ?_
    refine T.seq (T.region ?_)
    refine TO.quiet (q_load_boxAgg 0 Try.underlying79 rfl inf79 rfl rfl rfl) ?_
    refine TO.loud rfl (l_store_box (v := (.agg #[(.slice (some ⟨zN, 0, none⟩) n n), (.slice (some ⟨zM, 0, none⟩) n n), .int .u64 ((2 ^ b.sets.length - 1 : Nat) : Int)])) (vs := [(.slice (some ⟨zN, 0, none⟩) n n), (.slice (some ⟨zM, 0, none⟩) n n), .int .u64 ((2 ^ b.sets.length - 1 : Nat) : Int)]) 3 inf79 rfl rfl rfl rfl rfl rfl (by simp [putL]) ?_)
    refine TO.nil (T.ret (Res.drop ?_))
    refine Res.cell1 (i := 3) Try.results62 Try.underlying79 rfl inf79 rfl rfl rfl ?_
    have hke : k = b.edges.length := by omega
    subst hke
    rw [List.take_length] at hrw
    exact ⟨[rowI (some ⟨zN, 0, none⟩) n 22 1 (vals qs), rowI (some ⟨zM, 0, none⟩) n 52 1 (uns ms)] ++ itms 3 qs, (Sub.pickR [1, 1] [oI zG 79 [(.slice (some ⟨zN, 0, none⟩) n n), (.slice (some ⟨zM, 0, none⟩) n n), .int .u64 ((2 ^ b.sets.length - 1 : Nat) : Int)], rowI (some ⟨zN, 0, none⟩) n 22 1 (vals qs), rowI (some ⟨zM, 0, none⟩) n 52 1 (uns ms), oI bx2 79 [(.slice (some ⟨zN, 0, none⟩) n n), (.slice (some ⟨zM, 0, none⟩) n n), .int .u64 ((2 ^ b.sets.length - 1 : Nat) : Int)], oI bx1 26 (buCells b sb sc eb ec tb tc)] (itms 3 qs) rfl rfl), _, _, _, _, qs, ms, by rw [hnn]; rfl, by rw [hnn], ⟨by rw [hnn]; exact hrw, by rw [hnn]; exact hml, fun s hs => by rw [hms s (by omega)]; simp⟩⟩
  refine TO.quiet (q_extract (vs := _) rfl rfl) ?_
  refine TO.nil (T.seq ?_)
  refine T.cond1 rfl ?_
  refine T.skip (T.block (T.seq (T.region ?_)))
  refine TO.quiet (q_entryMap (K := KI) (V := VU) rfl (List.mem_of_getElem? (i := 0) rfl)) (TO.quiet (q_extract (vs := _) rfl rfl) (TO.quiet (q_extract (vs := _) rfl rfl) (TO.quiet (q_assign rfl) ?_)))
  refine TO.quiet (q_assign rfl) ?_
  refine TO.nil ?_
  have hml0 := hml
  obtain ⟨x, hx, hxn⟩ : ∃ x : Nat, le.1 = (x : Int) ∧ x < n := by
    obtain ⟨S, hS, hS2⟩ := hin le (hsub le (by rw [hleft]; simp))
    have := hv.se S hS _ hS2
    exact ⟨le.1.toNat, by omega, by omega⟩
  refine T.region ?_
  refine TO.quiet (q_fieldAddr Try.underlying79 rfl inf77 rfl rfl) (TO.quiet (q_load_box 1 Try.underlying77 rfl rfl rfl rfl) (TO.quiet (QT.cast (q_move rfl) (v' := .int .i64 ((x : Nat) : Int)) (by show Value.int _ _ = _; rw [hx])) (TO.quiet (q_move rfl) ?_)))
  refine TO.quiet (q_ix (i := x) Try.underlying77 inf52 rfl rfl (rowO (List.mem_of_getElem? (i := 3) rfl))) ?_
  refine TO.loud rfl (l_st (j := x) (v := .int .u64 ((le.2 : Nat) : Int)) (vs := [(.int .u64 ((le.2 : Nat) : Int))]) (cs := uns ms) 3 inf52 rfl rfl rfl rfl rfl (by simp) rfl (by first | (simp; omega) | (simp_all; omega)) ?_)
  refine TO.sub (O' := [iterI KI VU m it3 l (lA ++ lB) (some le), oI zG 79 [(.slice (some ⟨zN, 0, none⟩) n n), (.slice (some ⟨zM, 0, none⟩) n n), .int .u64 ((2 ^ b.sets.length - 1 : Nat) : Int)], rowI (some ⟨zN, 0, none⟩) n 22 1 (List.replicate n (.slice none 0 0)), rowI (some ⟨zM, 0, none⟩) n 52 1 (uns (ms.set x le.2)), oI bx2 79 [(.slice none 0 0), (.slice none 0 0), (.int .u64 0)], oI bx1 26 (buCells b sb sc eb ec tb tc)]) (by rw [show putL (uns ms) x [(.int .u64 ((le.2 : Nat) : Int))] = uns (ms.set x le.2) from (by simp [putL])]; exact Sub.of (List.Sublist.refl _)) ?_
  refine TO.nil ?_
  subst hleft
  exact ⟨lA ++ lB, by simp, some le, ms.set x le.2, rfl, fun q hq => hsub q (by rcases List.mem_append.1 hq with h | h <;> simp [h]), nodup_mid hnd, by simp [hml], marks_step hml hms hnd (hmp.val (hsub le (by simp))) hx hxn, ⟨rfl, rfl, rfl, rfl, rfl, trivial⟩⟩
end Go.Proofs.Ytnamoapbienooaa


namespace Go.Lx
open Go.RowKit
set_option linter.unusedVariables false
def prodP (l : La) (e : Ed) (j u : Nat) (y : Int) : Prop := mtch e (l.at j) ∧ (u : Int) = e.fr * (l.n : Int) + (j : Int) ∧ y = e.to * (l.n : Int) + (l.ix (j + 1) : Int)
def prodR (es : List Ed) (l : La) (i k : Nat) (u : Nat) (y : Int) : Prop := (∃ j, j < i ∧ ∃ e ∈ es, prodP l e j u y) ∨ ∃ e ∈ es.take k, prodP l e i u y
theorem prodR_hit {es : List Ed} {l : La} {i k : Nat} (hk : k < es.length) {u : Nat} {y : Int} : prodR es l i (k + 1) u y ↔ prodR es l i k u y ∨ prodP l es[k] i u y := by
  unfold prodR
  rw [List.take_succ_eq_append_getElem hk]
  constructor
  · rintro (h | ⟨e, h1, h2⟩)
    · exact .inl (.inl h)
    · rcases List.mem_append.1 h1 with h1 | h1
      · exact .inl (.inr ⟨e, h1, h2⟩)
      · rw [List.mem_singleton] at h1; subst h1; exact .inr h2
  · rintro ((h | ⟨e, h1, h2⟩) | h)
    · exact .inl h
    · exact .inr ⟨e, List.mem_append_left _ h1, h2⟩
    · exact .inr ⟨es[k], List.mem_append_right _ (by simp), h⟩
theorem prodR_row {es : List Ed} {l : La} {i : Nat} {u : Nat} {y : Int} : prodR es l (i + 1) 0 u y ↔ prodR es l i es.length u y := by
  unfold prodR
  rw [List.take_length, List.take_zero]
  constructor
  · rintro (⟨j, h1, h2⟩ | ⟨e, h1, _⟩)
    · by_cases e : j = i
      · subst e; exact .inr h2
      · exact .inl ⟨j, by omega, h2⟩
    · cases h1
  · rintro (⟨j, h1, h2⟩ | h)
    · exact .inl ⟨j, by omega, h2⟩
    · exact .inl ⟨i, by omega, h⟩
structure ProdG (b : Bu) (l : La) (nx : List (List Int)) (ms : List Nat) : Prop where
  r : ∃ B, B ≤ 1000000 ∧ RowsP (b.states.toNat * l.n) (prodR b.edges l l.n 0) B nx
  ll : ms.length = b.states.toNat * l.n
  m : ∀ v, v < b.states.toNat * l.n → ms.getD v 0 = mkN b.sets ((v / l.n : Nat) : Int)
theorem prod_pe {b : Bu} {l : La} (hv : ValidB b) {u v : Nat} : prodR b.edges l l.n 0 u (v : Int) ↔ PE b l u v := by
  have key : ∀ e ∈ b.edges, ∀ j : Nat, ((u : Int) = e.fr * (l.n : Int) + (j : Int) ↔ u = e.fr.toNat * l.n + j) ∧ ((v : Int) = e.to * (l.n : Int) + (l.ix (j + 1) : Int) ↔ v = e.to.toNat * l.n + l.ix (j + 1)) := fun e he j => by
    have h := hv.ed e he
    have e1 : e.fr * (l.n : Int) = ((e.fr.toNat * l.n : Nat) : Int) := by rw [Int.natCast_mul, Int.toNat_of_nonneg h.1.1]
    have e2 : e.to * (l.n : Int) = ((e.to.toNat * l.n : Nat) : Int) := by rw [Int.natCast_mul, Int.toNat_of_nonneg h.2.1]
    rw [e1, e2]; omega
  unfold prodR PE prodP
  constructor
  · rintro (⟨j, h1, e, he, h2, h3, h4⟩ | ⟨e, he, _⟩)
    · exact ⟨e, he, j, h1, h2, ((key e he j).1).1 h3, ((key e he j).2).1 h4⟩
    · simp at he
  · rintro ⟨e, he, j, h1, h2, h3, h4⟩
    exact .inl ⟨j, h1, e, he, h2, ((key e he j).1).2 h3, ((key e he j).2).2 h4⟩
theorem ProdG.ok {b : Bu} {l : La} {nx : List (List Int)} {ms : List Nat} (h : ProdG b l nx ms) (hv : ValidB b) (hl : 0 < l.loop.length) : okRows nx := fun r hr x hx => by
  obtain ⟨i, hi, rfl⟩ := List.mem_iff_getElem.1 hr
  obtain ⟨B, _, hb⟩ := h.r
  have hln := hb.l
  have h1 := (hb.h i x (by omega)).1 (by rw [getD_at hi]; exact hx)
  have h0 : 0 ≤ x := by
    rcases h1 with ⟨j, _, e, he, _, _, rfl⟩ | ⟨e, he, _⟩
    · have := Int.mul_nonneg ((hv.ed e he).2.1) (show (0 : Int) ≤ (l.n : Int) by omega); omega
    · simp at he
  have h2 : PE b l i x.toNat := (prod_pe hv).1 (by rw [Int.toNat_of_nonneg h0]; exact h1)
  have := (h2.lt hv hl).2
  omega
theorem ProdG.adj {b : Bu} {l : La} {nx : List (List Int)} {ms : List Nat} (h : ProdG b l nx ms) (hv : ValidB b) (hl : 0 < l.loop.length) : adjE nx = PE b l := by
  obtain ⟨B, _, hb⟩ := h.r
  funext u v
  apply propext
  constructor
  · rintro ⟨r, h1, h2⟩
    have hu : u < b.states.toNat * l.n := by rw [← hb.l]; exact (List.getElem?_eq_some_iff.1 h1).1
    exact (prod_pe hv).1 ((hb.h u v hu).1 (by rw [List.getD_eq_getElem?_getD, h1]; exact h2))
  · intro hr
    have hu := (hr.lt hv hl).1
    have h1 := (hb.h u v hu).2 ((prod_pe hv).2 hr)
    refine ⟨nx.getD u [], ?_, h1⟩
    rw [List.getD_eq_getElem?_getD, List.getElem?_eq_getElem (by rw [hb.l]; exact hu)]; rfl
theorem ProdG.mrk {b : Bu} {l : La} {nx : List (List Int)} {ms : List Nat} (h : ProdG b l nx ms) : mkM nx ms = PM b l := by
  obtain ⟨B, _, hb⟩ := h.r
  funext k v
  apply propext
  unfold mkM PM
  rw [hb.l]
  constructor
  · rintro ⟨h1, h2⟩
    rw [h.m v h1, mkN_test] at h2
    exact ⟨h1, h2⟩
  · rintro ⟨h1, h2⟩
    exact ⟨h1, by rw [h.m v h1, mkN_test]; exact h2⟩
theorem ProdG.lt {b : Bu} {l : La} {nx : List (List Int)} {ms : List Nat} (h : ProdG b l nx ms) : ∀ x ∈ ms, x < 2 ^ b.sets.length := fun x hx => by
  obtain ⟨i, hi, rfl⟩ := List.mem_iff_getElem.1 hx
  have := h.m i (by rw [← h.ll]; exact hi)
  rw [gd hi] at this
  rw [this]; exact mkN_lt _ _
theorem ProdG.liv {b : Bu} {l : La} {nx : List (List Int)} {ms : List Nat} (h : ProdG b l nx ms) (hv : ValidB b) (hl : 0 < l.loop.length) (v : Nat) : Liv nx ms b.sets.length v ↔ LiveG (PE b l) b.sets.length (PM b l) v := by
  unfold Liv; rw [h.adj hv hl, h.mrk]
open Classical in
noncomputable def accV (b : Bu) (l : La) : Bool := if checkB b = 0 ∧ checkLV b.vars l = 0 then decide (accL b l) else false
def accE (b : Bu) (l : La) : Nat := if checkB b = 0 then checkLV b.vars l else checkB b
open Classical in
noncomputable def livesB (b : Bu) : List Bool := if checkB b = 0 then (List.range b.states.toNat).map (fun v => decide (liveB b v)) else []
theorem livesB_of {b : Bu} (he : checkB b = 0) {ls : List Bool} (hl : ls.length = b.states.toNat) (h : ∀ v, v < b.states.toNat → (ls.getD v false = true ↔ liveB b v)) : ls = livesB b := by
  unfold livesB
  rw [if_pos he]
  apply List.ext_getElem
  · simp [hl]
  · intro i h1 h2
    have := h i (by omega)
    rw [gb h1] at this
    simp only [List.getElem_map, List.getElem_range]
    by_cases hL : liveB b i
    · rw [this.2 hL]; simp [hL]
    · have : ls[i] ≠ true := fun q => hL (this.1 q)
      simp only [Bool.not_eq_true] at this
      rw [this]; simp [hL]
theorem livesB_len {b : Bu} (he : checkB b = 0) : (livesB b).length = b.states.toNat := by unfold livesB; rw [if_pos he]; simp
theorem livesB_get {b : Bu} (he : checkB b = 0) {v : Nat} (hv : v < b.states.toNat) : (livesB b).getD v false = true ↔ liveB b v := by
  unfold livesB; rw [if_pos he]; simp [hv]
open Classical in
theorem acc_any {b : Bu} {l : La} (he : checkB b = 0) (hel : checkLV b.vars l = 0) {ls : List Bool} (h : ∀ s ∈ b.start, (ls.getD (s.toNat * l.n) false = true ↔ LiveG (PE b l) b.sets.length (PM b l) (s.toNat * l.n))) :
    (b.start.any fun s => ls.getD (s.toNat * l.n) false) = accV b l := by
  unfold accV
  rw [if_pos ⟨he, hel⟩]
  by_cases hA : accL b l
  · obtain ⟨s, h1, h2⟩ := hA
    rw [List.any_eq_true.2 ⟨s, h1, (h s h1).2 h2⟩, decide_eq_true ⟨s, h1, h2⟩]
  · rw [decide_eq_false hA, List.any_eq_false]
    intro s hs hh
    exact hA ⟨s, hs, (h s hs).1 hh⟩
theorem checkL_loop {v : Int} {l : La} (h : checkLV v l = 0) : 0 < l.loop.length ∧ l.pre.length ≤ 64 ∧ l.loop.length ≤ 64 ∧ 0 ≤ v ∧ v ≤ 6 ∧ (∀ x ∈ l.pre, x < 2 ^ v.toNat) ∧ ∀ x ∈ l.loop, x < 2 ^ v.toNat := by
  unfold checkLV checkL at h
  split at h; · cases h
  split at h; · cases h
  split at h; · cases h
  split at h
  · rename_i h1 h2 h3 h4
    simp only [Classical.not_not] at h1
    simp only [List.all_eq_true, decide_eq_true_eq] at h4
    exact ⟨by omega, by omega, by omega, h1.1, h1.2, h4.1, h4.2⟩
  · cases h
theorem prod_marks {ms : List Nat} {n L x i e : Nat} {F : Nat → Nat} (hl : ms.length = n * L) (hi : i < L) (hx : x < n) (h : ∀ v, v < n * L → ms.getD v 0 = if v / L = x ∧ v % L < i then e else F v) :
    x * L + i < n * L ∧ ∀ v, v < n * L → (ms.set (x * L + i) e).getD v 0 = if v / L = x ∧ v % L < i + 1 then e else F v := by
  have hlt : x * L + i < n * L := by
    have := Nat.mul_le_mul_right L (show x + 1 ≤ n by omega)
    rw [Nat.succ_mul] at this; omega
  refine ⟨hlt, fun v hv => ?_⟩
  have h1 := fn_set (a := e) (l := ms) (v := x * L + i) (by rw [hl]; exact hlt) v
  rw [show (ms.set (x * L + i) e).getD v 0 = fn (ms.set (x * L + i) e) v from rfl, h1]
  have hd := Nat.div_add_mod v L
  by_cases hv1 : v = x * L + i
  · rw [if_pos hv1, if_pos]
    have h2 : (x * L + i) / L = x := by rw [Nat.mul_comm, Nat.mul_add_div (by omega), Nat.div_eq_of_lt hi, Nat.add_zero]
    have h3 : (x * L + i) % L = i := by rw [Nat.mul_add_mod_self_right, Nat.mod_eq_of_lt hi]
    rw [hv1, h2, h3]; omega
  · rw [if_neg hv1, show fn ms v = ms.getD v 0 from rfl, h v hv]
    by_cases hc : v / L = x ∧ v % L < i
    · rw [if_pos hc, if_pos (by omega)]
    · rw [if_neg hc, if_neg]
      rintro ⟨h2, h3⟩
      by_cases h4 : v % L < i
      · exact hc ⟨h2, h4⟩
      · have : v % L = i := by omega
        rw [h2, this, Nat.mul_comm] at hd
        exact hv1 hd.symm
theorem marks_stepG {F : Int → Nat} {A B : List (Int × Nat)} {e : Int × Nat} (hn : ((A ++ e :: B).map Prod.fst).Nodup) (he : e.2 = F e.1) {x : Nat} (hx : e.1 = (x : Int)) {p g : Nat} (h : g = if (p : Int) ∈ (A ++ e :: B).map Prod.fst then 0 else F p) :
    (if p = x then e.2 else g) = if (p : Int) ∈ (A ++ B).map Prod.fst then 0 else F p := by
  simp only [List.map_append, List.map_cons, List.nodup_append, List.nodup_cons, List.mem_cons] at hn
  by_cases es : p = x
  · subst es
    rw [if_pos rfl, if_neg, he, hx]
    rw [List.map_append, List.mem_append, ← hx]
    rintro (h2 | h2)
    · exact hn.2.2 _ h2 _ (.inl rfl) rfl
    · exact hn.2.1.1 h2
  · rw [if_neg es, h]
    have : ¬ (p : Int) = e.1 := by rw [hx]; omega
    by_cases hm : (p : Int) ∈ (A ++ B).map Prod.fst
    · rw [if_pos hm, if_pos]
      rw [List.map_append, List.mem_append] at hm ⊢
      rcases hm with hm | hm
      · exact .inl hm
      · exact .inr (List.mem_cons_of_mem _ hm)
    · rw [if_neg hm, if_neg]
      rw [List.map_append, List.mem_append] at hm ⊢
      rintro (h2 | h2)
      · exact hm (.inl h2)
      · rw [List.map_cons, List.mem_cons] at h2
        exact h2.elim this (fun h3 => hm (.inr h3))
end Go.Lx


namespace Go.Proofs.Ytnamoapbienooaa
open Go.Lx Go.RowKit
set_option linter.unusedVariables false
set_option linter.unusedSimpArgs false
set_option maxHeartbeats 1000000 in
set_option maxRecDepth 20000 in
theorem livesF (w : World) (b : Bu) (sb eb tb : Option Addr) (sc ec tc : Nat) (vs : List Value) (h : BuAt w b sb eb tb vs) (hB : BuB b) :
    PureT Try.prog 19 [.agg (buCells b sb sc eb ec tb tc).toArray] w fun v N => ∃ lb lc, v = .tuple #[.slice lb (livesB b).length lc, .int .i64 (checkB b : Int)] ∧ N = [rowI lb lc 4 1 (bools (livesB b))] := by
  refine CallT.enter Try.func19 rfl Try.ntmps19 rfl ?_
  refine T.seq (T.region ?_)
  refine TO.loud rfl (l_box (v := (.agg (buCells b sb sc eb ec tb tc).toArray)) (cs := (buCells b sb sc eb ec tb tc)) rfl rfl (fun bx1 => ?_))
  refine TO.quiet (q_assign rfl) (TO.quiet (q_assign rfl) ?_)
  refine TO.nil (T.seq (T.seq (T.region ?_)))
  refine TO.quiet (q_load_boxAgg 0 Try.underlying26 rfl inf26 rfl rfl rfl) ?_
  have hk8 := fun (w1 : World) (hI : Inv w [oI bx1 26 (buCells b sb sc eb ec tb tc)] w1) => checkF w1 b sb eb tb sc ec tc vs (hI.bu h) hB
  refine TO.loud rfl (l_call ent21 (CallT.of_pure hk8) rfl ?_)
  clear hk8
  rintro vr O' ⟨N, rfl, rfl, rfl⟩
  refine TO.quiet (q_assign rfl) ?_
  refine TO.nil (T.seq (T.region ?_))
  refine TO.quiet (q_move rfl) (TO.quiet (q_neq rfl rfl) ?_)
  refine TO.nil ?_
  refine T.condP rfl (fun hc => ?_) (fun hc => ?_)
  · have hlt10 : checkB b ≠ 0 := by omega
    refine T.seq ?_
    refine T.nilRow 4 1 ?_
    refine T.region ?_
    refine TO.quiet (q_move rfl) (TO.quiet (q_assign rfl) (TO.quiet (q_assign rfl) ?_))
    refine TO.nil (T.ret (Res.drop ?_))
    refine Res.two (.slice none 0 0) (.int .i64 (checkB b : Int)) Try.results19 rfl rfl ?_
    exact ⟨[rowI none 0 4 1 []], (Sub.pick [0] rfl), none, 0, by unfold livesB; rw [if_neg hlt10]; rfl, by unfold livesB; rw [if_neg hlt10]; rfl⟩
  have hge10 : ¬ checkB b ≠ 0 := by omega
  refine T.skip (T.seq ?_)
  have hv : ValidB b := checkB_zero.1 (by omega)
  have hn4 := hv.n4
  have hed := hB.ed
  refine T.region ?_
  refine TO.quiet (q_load_boxAgg 0 Try.underlying26 rfl inf26 rfl rfl rfl) ?_
  have hk14 := fun (w1 : World) (hI : Inv w [oI bx1 26 (buCells b sb sc eb ec tb tc)] w1) => automatonF w1 b sb eb tb sc ec tc vs (hI.bu h) hB hv
  refine TO.loud rfl (l_call ent62 (CallT.of_pure hk14) rfl ?_)
  clear hk14
  rintro vr O' ⟨N, rfl, nb2, nc2, mb2, mc2, qs, ms, rfl, rfl, hg⟩
  refine TO.sub (O' := ([rowI nb2 b.states.toNat 22 1 (vals qs), rowI mb2 b.states.toNat 52 1 (uns ms), oI bx1 26 (buCells b sb sc eb ec tb tc)] ++ (itms 3 qs))) (Sub.cnt [] (by intro a; simp only [itms, oI, List.set_cons_zero, List.set_cons_succ, putL, List.cons_append, List.nil_append, List.append_nil, List.append_assoc, List.map_append, List.map_cons, List.map_nil, cnt_append, cnt_cons, cnt_nil, buCells, laCells] <;> omega)) ?_
  have hk15 := fun (w1 : World) (hI : Inv w ([rowI nb2 b.states.toNat 22 1 (vals qs), rowI mb2 b.states.toNat 52 1 (uns ms), oI bx1 26 (buCells b sb sc eb ec tb tc)] ++ (itms 3 qs)) w1) => (by
    have hL := liveF w1 nb2 mb2 nc2 mc2 (vals qs) (nums qs) ms b.sets.length (hI.slOf (List.mem_of_getElem? (i := 0) rfl)) (Inv.recs (E := 3) hI (fun q hq => List.mem_append_right _ (List.mem_map.2 ⟨q, hq, rfl⟩))) (by rw [hg.r.l]; omega) (fun r hr => by obtain ⟨i, hi, rfl⟩ := List.mem_iff_getElem.1 hr; have h9 := hg.r.b i; rw [getD_at hi] at h9; omega) (hg.ok hv) (hI.slOf (List.mem_of_getElem? (i := 1) rfl)) (by rw [hg.l, hg.r.l]) hg.lt hv.m8
    rw [hg.r.l, hg.l] at hL; exact hL)
  refine TO.loud rfl (l_call ent55 (CallT.of_pure hk15) rfl ?_)
  clear hk15
  rintro vr O' ⟨N, rfl, lb, lc, kb, kc, ls, co, rfl, rfl, hll, hlc, hlv⟩
  refine TO.quiet (q_move rfl) (TO.quiet (q_extract (vs := _) rfl rfl) (TO.quiet (q_extract (vs := _) rfl rfl) (TO.quiet (q_assign rfl) ?_)))
  refine TO.quiet (q_assign rfl) ?_
  refine TO.nil (T.seq (T.region ?_))
  refine TO.quiet (q_move rfl) (TO.quiet (q_assign rfl) (TO.quiet (q_assign rfl) ?_))
  refine TO.nil (T.ret (Res.drop ?_))
  refine Res.two (.slice lb b.states.toNat lc) (.int .i64 0) Try.results19 rfl rfl ?_
  have he : checkB b = 0 := by omega
  have hls := livesB_of he hll (fun v hv9 => (hlv v hv9).1.trans (hg.liv hv v))
  exact ⟨[rowI lb lc 4 1 (bools ls)], (Sub.pick0 [0] [rowI lb lc 4 1 (bools ls), rowI kb kc 4 1 (bools co), rowI nb2 b.states.toNat 22 1 (vals qs), rowI mb2 b.states.toNat 52 1 (uns ms), oI bx1 26 (buCells b sb sc eb ec tb tc)] (itms 3 qs) rfl rfl), lb, lc, by rw [← hls, hll, he]; rfl, by rw [← hls]⟩
end Go.Proofs.Ytnamoapbienooaa


namespace Go.Proofs.Ytnamoapbienooaa
open Go.Lx Go.RowKit
set_option linter.unusedVariables false
set_option linter.unusedSimpArgs false
set_option maxHeartbeats 1000000 in
set_option maxRecDepth 20000 in
theorem fullF (w : World) (l : La) (pb lb : Option Addr) (pc lc : Nat) (h0 : 0 < l.loop.length) :
    PureT Try.prog 79 [.agg (laCells l pb pc lb lc).toArray] w fun z N => z = .agg (laCells l pb pc lb lc).toArray ∧ N = [] := by
  refine CallT.enter Try.func79 rfl Try.ntmps79 rfl ?_
  refine T.seq (T.region ?_)
  refine TO.loud rfl (l_box (v := (.agg (laCells l pb pc lb lc).toArray)) (cs := (laCells l pb pc lb lc)) rfl rfl (fun bx1 => ?_))
  refine TO.loud rfl (l_alloc inf29 rfl (fun bx2 => ?_))
  refine TO.nil (T.seq (T.seq (T.region ?_)))
  refine TO.quiet (q_fieldAddr Try.underlying29 rfl inf27 rfl rfl) (TO.quiet (q_load_box 1 Try.underlying27 rfl rfl rfl rfl) (TO.quiet (q_len Try.underlying27 rfl) (TO.quiet (QT.toB (q_eql rfl rfl) (decide_eq_false (show ¬ ((l.loop.length : Int) = 0) by omega))) ?_)))
  refine TO.nil ?_
  refine T.cond0 rfl ?_
  refine T.skip (T.seq (T.region ?_))
  refine TO.quiet (q_load_boxAgg 1 Try.underlying29 rfl inf29 rfl rfl rfl) ?_
  refine TO.loud rfl (l_store_box (v := (.agg (laCells l pb pc lb lc).toArray)) (vs := (laCells l pb pc lb lc)) 0 inf29 rfl rfl rfl rfl rfl rfl (by simp [putL]) ?_)
  refine TO.nil (T.ret (Res.drop ?_))
  refine Res.cell1 (i := 0) Try.results79 Try.underlying29 rfl inf29 rfl rfl rfl ?_
  exact ⟨[], Sub.of (List.nil_sublist _), rfl, rfl⟩
set_option maxHeartbeats 1000000 in
set_option maxRecDepth 20000 in
theorem indexF (w : World) (l : La) (pb lb : Option Addr) (pc lc : Nat) (h : LaAt w l pb lb pc lc) (hL : LaB l) (i : Nat) (hi : i ≤ 1000000000000) :
    PureT Try.prog 54 [.agg (laCells l pb pc lb lc).toArray, .int .i64 (i : Int)] w fun z N => z = .int .i64 ((l.ix i : Nat) : Int) ∧ N = [] := by
  refine CallT.enter Try.func54 rfl Try.ntmps54 rfl ?_
  have hpl := hL.pre; have hll := hL.loop
  have hml := Nat.mod_le (i - l.pre.length) (max l.loop.length 1)
  refine T.seq (T.region ?_)
  refine TO.loud rfl (l_box (v := (.agg (laCells l pb pc lb lc).toArray)) (cs := (laCells l pb pc lb lc)) rfl rfl (fun bx1 => ?_))
  refine TO.quiet (q_assign rfl) ?_
  refine TO.nil (T.seq (T.region ?_))
  refine TO.quiet (q_fieldAddr Try.underlying29 rfl inf27 rfl rfl) (TO.quiet (q_load_box 0 Try.underlying27 rfl rfl rfl rfl) (TO.quiet (q_len Try.underlying27 rfl) (TO.quiet (q_assign rfl) ?_)))
  refine TO.nil (T.seq (T.seq (T.region ?_)))
  refine TO.quiet (q_move rfl) (TO.quiet (q_move rfl) (TO.quiet (q_lss rfl rfl) ?_))
  refine TO.nil ?_
  refine T.condP rfl (fun hc => ?_) (fun hc => ?_)
  · have hlt11 : i < l.pre.length := by omega
    refine T.seq (T.region ?_)
    refine TO.quiet (q_move rfl) (TO.quiet (QT.cast (q_maxN (a := i) (b := 0) rfl rfl) (v' := .int .i64 ((l.ix i : Nat) : Int)) (by rw [La.ix_pre hlt11, Nat.max_zero])) (TO.quiet (q_assign rfl) ?_))
    refine TO.nil (T.ret (Res.drop ?_))
    refine Res.one (.int .i64 ((l.ix i : Nat) : Int)) Try.results54 rfl ?_
    exact ⟨[], Sub.of (List.nil_sublist _), rfl, rfl⟩
  have hge11 : ¬ i < l.pre.length := by omega
  refine T.skip (T.seq (T.region ?_))
  refine TO.quiet (q_move rfl) (TO.quiet (q_move rfl) (TO.quiet (q_move rfl) (TO.quiet (q_subN (a := i) (b := l.pre.length) rfl rfl (by omega) (by omega)) ?_)))
  refine TO.quiet (q_fieldAddr Try.underlying29 rfl inf27 rfl rfl) (TO.quiet (q_load_box 0 Try.underlying27 rfl rfl rfl rfl) (TO.quiet (q_len Try.underlying27 rfl) (TO.quiet (q_maxN (a := l.loop.length) (b := 1) rfl rfl) ?_)))
  refine TO.quiet (q_remN (a := (i - l.pre.length)) (b := (max l.loop.length 1)) rfl rfl (by omega)) (TO.quiet (q_addN (a := l.pre.length) (b := ((i - l.pre.length) % (max l.loop.length 1))) rfl rfl (by omega)) (TO.quiet (q_assign rfl) ?_))
  refine TO.nil (T.ret (Res.drop ?_))
  refine Res.one (.int .i64 ((l.pre.length + ((i - l.pre.length) % (max l.loop.length 1)) : Nat) : Int)) Try.results54 rfl ?_
  exact ⟨[], Sub.of (List.nil_sublist _), congrArg (fun z : Nat => Value.int .i64 (z : Int)) (by unfold La.ix; rw [if_neg hge11]), rfl⟩
set_option maxHeartbeats 1000000 in
set_option maxRecDepth 20000 in
theorem atF (w : World) (l : La) (pb lb : Option Addr) (pc lc : Nat) (h : LaAt w l pb lb pc lc) (hL : LaB l) (h0 : 0 < l.loop.length) (i : Nat) (hi : i ≤ 1000000000000) :
    PureT Try.prog 34 [.agg (laCells l pb pc lb lc).toArray, .int .i64 (i : Int)] w fun z N => z = .int .u8 ((l.at i : Nat) : Int) ∧ N = [] := by
  refine CallT.enter Try.func34 rfl Try.ntmps34 rfl ?_
  have hpl := hL.pre; have hll := hL.loop
  have hixl := La.ix_lt h0 i
  have hn : l.n = l.pre.length + l.loop.length := rfl
  have hlo : l.pre.length ≤ l.ix i → ∃ hx : l.ix i - l.pre.length < l.loop.length, l.loop[l.ix i - l.pre.length] = l.at i := fun hh => by
    by_cases e : i < l.pre.length
    · rw [La.ix_pre e] at hh; omega
    · refine ⟨by omega, ?_⟩
      rw [La.at_loop h0 (by omega)]; congr 1; rw [La.ix_loop h0 (by omega)]; omega
  have hpr : l.ix i < l.pre.length → ∃ hx : i < l.pre.length, l.ix i = i := fun hh => by
    by_cases e : i < l.pre.length
    · exact ⟨e, La.ix_pre e⟩
    · rw [La.ix_loop h0 (by omega)] at hh; omega
  refine T.seq (T.region ?_)
  refine TO.loud rfl (l_box (v := (.agg (laCells l pb pc lb lc).toArray)) (cs := (laCells l pb pc lb lc)) rfl rfl (fun bx1 => ?_))
  refine TO.quiet (q_assign rfl) ?_
  refine TO.nil (T.seq (T.seq (T.region ?_)))
  refine TO.quiet (q_move rfl) (TO.quiet (q_lss rfl rfl) ?_)
  refine TO.nil ?_
  refine T.cond0 (congrArg Value.bool (decide_eq_false (by omega))) ?_
  refine T.skip (T.seq (T.region ?_))
  refine TO.quiet (q_load_boxAgg 0 Try.underlying29 rfl inf29 rfl rfl rfl) ?_
  have hk9 := fun (w1 : World) (hI : Inv w [oI bx1 29 (laCells l pb pc lb lc)] w1) => fullF w1 l pb lb pc lc h0
  refine TO.loud rfl (l_call ent79 (CallT.of_pure hk9) rfl ?_)
  clear hk9
  rintro vr O' ⟨N, rfl, rfl, rfl⟩
  refine TO.loud rfl (l_store_box (v := (.agg (laCells l pb pc lb lc).toArray)) (vs := (laCells l pb pc lb lc)) 0 inf29 rfl rfl rfl rfl rfl rfl (by simp [putL]) ?_)
  refine TO.nil (T.seq (T.seq ?_))
  refine T.draws _ [(0, 0), (1, 0), (3, 0), (4, 0), (5, 0), (2, 1), (6, 0), (7, 0)] mixed (by kernel_rfl) (Sub.of (List.Sublist.refl _)) (fun _ _ _ h => h) ?_
  refine DO.quiet rfl (q_load_boxAgg 0 Try.underlying29 rfl inf29 rfl rfl rfl) (DO.quiet rfl (q_move rfl) (DO.quiet rfl (q_fieldAddr Try.underlying29 rfl inf27 rfl rfl) (DO.quiet rfl (q_load_box 0 Try.underlying27 rfl rfl rfl rfl) ?_)))
  refine DO.quiet rfl (q_len Try.underlying27 rfl) ?_
  have hk12 := fun (w1 : World) (hI : Inv w [oI bx1 29 (laCells l pb pc lb lc)] w1) => indexF w1 l pb lb pc lc (hI.la h) hL i hi
  refine DO.loud rfl rfl (l_call ent54 (CallT.of_pure hk12) rfl ?_)
  clear hk12
  rintro vr O' ⟨N, rfl, rfl, rfl⟩
  refine ⟨Sub.pick [0] rfl, ?_⟩
  refine DO.quiet rfl (q_sub64 rfl rfl (by omega)) (DO.quiet rfl (q_assign rfl) ?_)
  refine DO.done ?_
  refine T.seq (T.region ?_)
  refine TO.quiet (q_move rfl) (TO.quiet (q_geq rfl rfl) ?_)
  refine TO.nil ?_
  refine T.condP rfl (fun hc => ?_) (fun hc => ?_)
  · obtain ⟨hx1, hx2⟩ := hlo (by omega)
    refine T.seq (T.region ?_)
    refine TO.quiet (q_fieldAddr Try.underlying29 rfl inf27 rfl rfl) (TO.quiet (q_load_box 0 Try.underlying27 rfl rfl rfl rfl) (TO.quiet (QT.cast (q_move rfl) (v' := .int .i64 ((l.ix i - l.pre.length : Nat) : Int)) (by show Value.int _ _ = _; congr 1; omega)) (TO.quiet (q_ix (i := (l.ix i - l.pre.length)) Try.underlying27 inf5 rfl rfl (Sl.o h.loop) hx1 (by rw [List.length_map]; exact hx1)) ?_)))
    refine TO.quiet (q_ld Try.underlying5 rfl rfl (Sl.o h.loop) (show (byts l.loop)[l.ix i - l.pre.length]? = _ by rw [byts_get hx1, hx2])) (TO.quiet (q_assign rfl) ?_)
    refine TO.nil (T.ret (Res.drop ?_))
    refine Res.one (.int .u8 ((l.at i : Nat) : Int)) Try.results34 rfl ?_
    exact ⟨[], Sub.of (List.nil_sublist _), rfl, rfl⟩
  obtain ⟨hx1, hx2⟩ := hpr (by omega)
  refine T.skip (T.seq (T.region ?_))
  refine TO.quiet (q_fieldAddr Try.underlying29 rfl inf27 rfl rfl) (TO.quiet (q_load_box 0 Try.underlying27 rfl rfl rfl rfl) (TO.quiet (q_move rfl) (TO.quiet (q_ix (i := i) Try.underlying27 inf5 rfl rfl (Sl.o h.pre) hx1 (by rw [List.length_map]; exact hx1)) ?_)))
  refine TO.quiet (q_ld Try.underlying5 rfl rfl (Sl.o h.pre) (show (byts l.pre)[i]? = _ by rw [byts_get hx1, ← La.at_pre hx1])) (TO.quiet (q_assign rfl) ?_)
  refine TO.nil (T.ret (Res.drop ?_))
  refine Res.one (.int .u8 ((l.at i : Nat) : Int)) Try.results34 rfl ?_
  exact ⟨[], Sub.of (List.nil_sublist _), rfl, rfl⟩
set_option maxHeartbeats 1000000 in
set_option maxRecDepth 20000 in
theorem hasF (w : World) (e : Ed) (hp : e.pos < 256) (hn : e.neg < 256) (x : Nat) (hx : x < 256) :
    PureT Try.prog 100 [.agg #[.int .u8 (e.pos : Int), .int .u8 (e.neg : Int)], .int .u8 (x : Int)] w fun z N => z = .bool (decide (mtch e x)) ∧ N = [] := by
  refine CallT.enter Try.func100 rfl Try.ntmps100 rfl ?_
  refine T.seq (T.region ?_)
  refine TO.loud rfl (l_box (v := (.agg #[.int .u8 ((e.pos : Nat) : Int), .int .u8 ((e.neg : Nat) : Int)])) (cs := [.int .u8 ((e.pos : Nat) : Int), .int .u8 ((e.neg : Nat) : Int)]) rfl rfl (fun bx1 => ?_))
  refine TO.quiet (q_assign rfl) ?_
  refine TO.nil (T.seq (T.region ?_))
  refine TO.quiet (q_move rfl) (TO.quiet (q_fieldAddr Try.underlying116 rfl inf5 rfl rfl) (TO.quiet (q_load_box 0 Try.underlying5 rfl rfl rfl rfl) (TO.quiet (q_and (a := x) (b := e.pos) .u8 rfl rfl (by show _ < 256; omega) (by show _ < 256; omega)) ?_)))
  refine TO.quiet (q_fieldAddr Try.underlying116 rfl inf5 rfl rfl) (TO.quiet (q_load_box 0 Try.underlying5 rfl rfl rfl rfl) (TO.quiet (q_eql rfl rfl) ?_))
  by_cases hs12 : ((x &&& e.pos : Nat) : Int) = ((e.pos : Nat) : Int)
  · refine TO.quiet (QT.toB (q_move rfl) (decide_eq_true hs12)) ?_
    refine TO.guarded rfl rfl rfl (LT.of_quiet rfl rfl (q_move rfl) ?_)
    refine TO.guarded rfl rfl rfl (LT.of_quiet rfl rfl (q_fieldAddr Try.underlying116 rfl inf5 rfl rfl) ?_)
    refine TO.guarded rfl rfl rfl (LT.of_quiet rfl rfl (q_load_box 0 Try.underlying5 rfl rfl rfl rfl) ?_)
    refine TO.guarded rfl rfl rfl (LT.of_quiet rfl rfl (q_and (a := x) (b := e.neg) .u8 rfl rfl (by show _ < 256; omega) (by show _ < 256; omega)) ?_)
    refine TO.guarded rfl rfl rfl (LT.of_quiet rfl rfl (q_eql rfl rfl) ?_)
    refine TO.quiet (q_pick1 rfl rfl) (TO.quiet (q_assign rfl) ?_)
    refine TO.nil (T.ret (Res.drop ?_))
    refine Res.one (.bool (decide (((x &&& e.neg : Nat) : Int) = 0))) Try.results100 rfl ?_
    exact ⟨[], Sub.of (List.nil_sublist _), congrArg Value.bool (Eq.symm (decide_eq_decide.2 (by unfold mtch; omega))), rfl⟩
  refine TO.quiet (QT.toB (q_move rfl) (decide_eq_false hs12)) ?_
  refine TO.passed rfl rfl ?_
  refine TO.passed rfl rfl ?_
  refine TO.passed rfl rfl ?_
  refine TO.passed rfl rfl ?_
  refine TO.passed rfl rfl ?_
  refine TO.quiet (q_pick0 rfl rfl) (TO.quiet (q_assign rfl) ?_)
  refine TO.nil (T.ret (Res.drop ?_))
  refine Res.one (.bool false) Try.results100 rfl ?_
  exact ⟨[], Sub.of (List.nil_sublist _), congrArg Value.bool (Eq.symm (decide_eq_false (fun hm => by unfold mtch at hm; omega))), rfl⟩
end Go.Proofs.Ytnamoapbienooaa


namespace Go.Proofs.Ytnamoapbienooaa
open Go.Lx Go.RowKit
set_option linter.unusedVariables false
set_option linter.unusedSimpArgs false
set_option maxHeartbeats 1000000 in
set_option maxRecDepth 20000 in
theorem matchingF (w : World) (b : Bu) (sb eb tb : Option Addr) (sc ec tc : Nat) (vs : List Value) (h : BuAt w b sb eb tb vs) (hB : BuB b) (x : Nat) :
    PureT Try.prog 53 [.agg (buCells b sb sc eb ec tb tc).toArray, .int .u8 (x : Int)] w fun v N => ∃ bx cx, v = .func (.func 99) #[] #[.pointer (some ⟨bx, 0, none⟩), .pointer (some ⟨cx, 0, none⟩)] ∧ N = [oI bx 26 (buCells b sb sc eb ec tb tc), oI cx 5 [(.int .u8 (x : Int))]] := by
  refine CallT.enter Try.func53 rfl Try.ntmps53 rfl ?_
  refine T.seq (T.region ?_)
  refine TO.loud rfl (l_box (v := (.agg (buCells b sb sc eb ec tb tc).toArray)) (cs := (buCells b sb sc eb ec tb tc)) rfl rfl (fun bx1 => ?_))
  refine TO.loud rfl (l_box (v := .int .u8 (x : Int)) (cs := [(.int .u8 (x : Int))]) rfl rfl (fun bx2 => ?_))
  refine TO.quiet (q_assign rfl) ?_
  refine TO.nil (T.seq (T.region ?_))
  refine TO.quiet (q_makeFunc) (TO.quiet (q_assign rfl) ?_)
  refine TO.nil (T.ret (Res.drop ?_))
  refine Res.one (.func (.func 99) #[] #[(.pointer (some ⟨bx1, 0, none⟩)), (.pointer (some ⟨bx2, 0, none⟩))]) Try.results53 rfl ?_
  exact ⟨[oI bx1 26 (buCells b sb sc eb ec tb tc), oI bx2 5 [(.int .u8 (x : Int))]], (Sub.pick [1, 0] rfl), _, _, rfl, rfl⟩
set_option maxHeartbeats 1000000 in
set_option maxRecDepth 20000 in
theorem match1 (base : World) (b : Bu) (sb eb tb : Option Addr) (sc ec tc : Nat) (vs : List Value) (h : BuAt base b sb eb tb vs) (hB : BuB b) (bx cx x : Nat) (hx : x < 256) (yv : Value) (J : Nat → List Lx.Item → Prop) (Q : List Lx.Item → Prop)
    (hno : ∀ k (hk : k < b.edges.length), ¬ mtch b.edges[k] x → ∀ O, J k O → J (k + 1) O)
    (hy : ∀ k (hk : k < b.edges.length) (O : List Lx.Item), mtch b.edges[k] x → J k O → CallV Try.prog base yv [(.agg #[.int .i64 b.edges[k].fr, .int .i64 b.edges[k].to, .int .u8 ((b.edges[k].pos : Nat) : Int), .int .u8 ((b.edges[k].neg : Nat) : Int)])] O (fun v O' => (v = .bool true ∧ J (k + 1) O') ∨ (v = .bool false ∧ Q O')))
    (O : List Lx.Item) (h0 : J 0 O) : CallT Try.prog base 99 [yv, .pointer (some ⟨bx, 0, none⟩), .pointer (some ⟨cx, 0, none⟩)] (oI bx 26 (buCells b sb sc eb ec tb tc) :: oI cx 5 [(.int .u8 (x : Int))] :: O) (fun _ O' => J b.edges.length O' ∨ Q O') := by
  refine CallT.enter Try.func99 rfl Try.ntmps99 rfl ?_
  have hed := hB.ed
  refine T.seq (T.region ?_)
  refine TO.quiet (q_fieldAddr Try.underlying26 rfl inf23 rfl rfl) (TO.quiet (q_load_box 0 Try.underlying23 rfl rfl rfl rfl) (TO.quiet (q_len Try.underlying23 rfl) (TO.quiet (q_move rfl) ?_)))
  refine TO.nil (T.block ?_)
  refine T.loop (fun (k : Nat) ρ O => ∃ (O1 : List Lx.Item), O = ([oI bx 26 (buCells b sb sc eb ec tb tc), oI cx 5 [(.int .u8 (x : Int))]] ++ O1) ∧ k ≤ b.edges.length ∧ J k O1 ∧ Heads [(0, yv), (1, (.pointer (some ⟨bx, 0, none⟩))), (2, (.pointer (some ⟨cx, 0, none⟩))), (7, (.slice eb b.edges.length ec)), (8, .int .i64 (b.edges.length : Int)), (9, .int .i64 (k : Int))] ρ) (fun k => b.edges.length - k) 0 ?_ ?_
  · exact ⟨O, rfl, Nat.zero_le _, h0, ⟨rfl, rfl, rfl, rfl, rfl, rfl, trivial⟩⟩
  rintro k ρ O ⟨O1, rfl, hk, hJ, hH⟩
  obtain ⟨ρ0, rfl⟩ := hH.elim
  clear hH
  refine T.seq (T.region ?_)
  refine TO.quiet (q_lss rfl rfl) ?_
  refine TO.nil (T.seq ?_)
  refine T.condP rfl (fun hc => ?_) (fun hc => ?_)
  · have hlt10 : k < b.edges.length := by omega
    have hpn := hB.pn _ (List.getElem_mem hlt10)
    refine T.skip (T.seq (T.block (T.seq (T.region ?_))))
    refine TO.quiet (q_ixK (i := k) Try.underlying23 inf54 rfl rfl (Sl.o h.ed) (by first | assumption | omega | (simp; omega) | simp_all) (by first | (rw [eds_len]; omega) | (simp [eds_len]; omega) | (simp_all [eds_len]; omega))) (TO.quiet (q_ldK (vs := [.int .i64 b.edges[k].fr, .int .i64 b.edges[k].to, .int .u8 ((b.edges[k].pos : Nat) : Int), .int .u8 ((b.edges[k].neg : Nat) : Int)]) Try.underlying54 rfl inf54 rfl rfl (Nat.succ_pos _) (Sl.o h.ed) (eds_get (by first | assumption | omega | (simp; omega) | simp_all))) ?_)
    refine TO.loud rfl (l_alloc inf54 rfl (fun bx1 => ?_))
    refine TO.loud rfl (l_store_box (v := (.agg #[.int .i64 b.edges[k].fr, .int .i64 b.edges[k].to, .int .u8 ((b.edges[k].pos : Nat) : Int), .int .u8 ((b.edges[k].neg : Nat) : Int)])) (vs := [.int .i64 b.edges[k].fr, .int .i64 b.edges[k].to, .int .u8 ((b.edges[k].pos : Nat) : Int), .int .u8 ((b.edges[k].neg : Nat) : Int)]) 0 inf54 rfl rfl rfl rfl rfl rfl (by simp [putL]) ?_)
    refine TO.nil (T.seq (T.region ?_))
    refine TO.quiet (q_fieldAddr Try.underlying54 rfl inf5 rfl rfl) (TO.quiet (q_load_box 0 Try.underlying5 rfl rfl rfl rfl) (TO.quiet (q_fieldAddr Try.underlying54 rfl inf5 rfl rfl) (TO.quiet (q_load_box 0 Try.underlying5 rfl rfl rfl rfl) ?_)))
    refine TO.quiet (q_build (cs := [.int .u8 ((b.edges[k].pos : Nat) : Int), .int .u8 ((b.edges[k].neg : Nat) : Int)]) plan116 inf116 (by kernel_rfl)) (TO.quiet (q_load_box 2 Try.underlying5 rfl rfl rfl rfl) ?_)
    have hk19 := fun (w1 : World) (hI : Inv base ([oI bx1 54 [.int .i64 b.edges[k].fr, .int .i64 b.edges[k].to, .int .u8 ((b.edges[k].pos : Nat) : Int), .int .u8 ((b.edges[k].neg : Nat) : Int)], oI bx 26 (buCells b sb sc eb ec tb tc), oI cx 5 [(.int .u8 (x : Int))]] ++ O1) w1) => hasF w1 b.edges[k] hpn.1 hpn.2 x hx
    refine TO.loud rfl (l_call ent100 (CallT.of_pure hk19) rfl ?_)
    clear hk19
    rintro vr O' ⟨N, rfl, rfl, rfl⟩
    by_cases hs20 : mtch b.edges[k] x
    · refine TO.quiet (QT.toB (q_move rfl) (decide_eq_true hs20)) ?_
      refine TO.guarded rfl rfl rfl (LT.of_quiet rfl rfl (q_move rfl) ?_)
      refine TO.guarded rfl rfl rfl (LT.of_quiet rfl rfl (q_load_boxAgg 0 Try.underlying54 rfl inf54 rfl rfl rfl) ?_)
      have hk23 := CallV.under (B := [oI bx1 54 [.int .i64 b.edges[k].fr, .int .i64 b.edges[k].to, .int .u8 ((b.edges[k].pos : Nat) : Int), .int .u8 ((b.edges[k].neg : Nat) : Int)], oI bx 26 (buCells b sb sc eb ec tb tc), oI cx 5 [(.int .u8 (x : Int))]]) (O := ([oI bx1 54 [.int .i64 b.edges[k].fr, .int .i64 b.edges[k].to, .int .u8 ((b.edges[k].pos : Nat) : Int), .int .u8 ((b.edges[k].neg : Nat) : Int)], oI bx 26 (buCells b sb sc eb ec tb tc), oI cx 5 [(.int .u8 (x : Int))]] ++ O1)) (hy k hlt10 O1 hs20 hJ) (Sub.cnt [] (by intro a; simp only [itms, oI, List.set_cons_zero, List.set_cons_succ, putL, List.cons_append, List.nil_append, List.append_nil, List.append_assoc, List.map_append, List.map_cons, List.map_nil, cnt_append, cnt_cons, cnt_nil, buCells, laCells] <;> omega))
      refine TO.guarded rfl rfl rfl (l_callG hk23 rfl rfl ?_)
      clear hk23
      rintro vr O' ⟨O2, rfl, ⟨rfl, hJ2⟩ | ⟨rfl, hQ2⟩⟩
      · refine TO.guarded rfl rfl rfl (LT.of_quiet rfl rfl (q_not rfl) ?_)
        refine TO.quiet (q_pick1 rfl rfl) ?_
        refine TO.nil ?_
        refine T.cond0 rfl ?_
        refine T.skip ?_
        refine T.sub (O' := [oI bx 26 (buCells b sb sc eb ec tb tc), oI cx 5 [(.int .u8 (x : Int))]] ++ O2) (Sub.cnt [oI bx1 54 [.int .i64 b.edges[k].fr, .int .i64 b.edges[k].to, .int .u8 ((b.edges[k].pos : Nat) : Int), .int .u8 ((b.edges[k].neg : Nat) : Int)]] (by intro a; simp only [itms, oI, List.set_cons_zero, List.set_cons_succ, putL, List.cons_append, List.nil_append, List.append_nil, List.append_assoc, List.map_append, List.map_cons, List.map_nil, cnt_append, cnt_cons, cnt_nil, buCells, laCells] <;> omega)) ?_
        refine T.region ?_
        refine TO.quiet (q_addN (a := k) (b := 1) rfl rfl (by omega)) (TO.quiet (q_move rfl) ?_)
        refine TO.nil ?_
        exact ⟨k + 1, by omega, O2, rfl, by omega, hJ2, ⟨rfl, rfl, rfl, rfl, rfl, rfl, trivial⟩⟩
      refine TO.guarded rfl rfl rfl (LT.of_quiet rfl rfl (q_not rfl) ?_)
      refine TO.quiet (q_pick1 rfl rfl) ?_
      refine TO.nil ?_
      refine T.cond1 rfl ?_
      refine T.ret (Res.drop ?_)
      refine Res.zero Try.results99 ?_
      exact ⟨O2, Sub.cnt [oI bx1 54 [.int .i64 b.edges[k].fr, .int .i64 b.edges[k].to, .int .u8 ((b.edges[k].pos : Nat) : Int), .int .u8 ((b.edges[k].neg : Nat) : Int)], oI bx 26 (buCells b sb sc eb ec tb tc), oI cx 5 [(.int .u8 (x : Int))]] (by intro a; simp only [itms, oI, List.set_cons_zero, List.set_cons_succ, putL, List.cons_append, List.nil_append, List.append_nil, List.append_assoc, List.map_append, List.map_cons, List.map_nil, cnt_append, cnt_cons, cnt_nil, buCells, laCells] <;> omega), .inr hQ2⟩
    refine TO.quiet (QT.toB (q_move rfl) (decide_eq_false hs20)) ?_
    refine TO.passed rfl rfl ?_
    refine TO.passed rfl rfl ?_
    refine TO.passed rfl rfl ?_
    refine TO.passed rfl rfl ?_
    refine TO.quiet (q_pick0 rfl rfl) ?_
    refine TO.nil ?_
    refine T.cond0 rfl ?_
    refine T.skip ?_
    refine T.sub (O' := [oI bx 26 (buCells b sb sc eb ec tb tc), oI cx 5 [(.int .u8 (x : Int))]] ++ O1) (Sub.pickR [1, 1] [oI bx1 54 [.int .i64 b.edges[k].fr, .int .i64 b.edges[k].to, .int .u8 ((b.edges[k].pos : Nat) : Int), .int .u8 ((b.edges[k].neg : Nat) : Int)], oI bx 26 (buCells b sb sc eb ec tb tc), oI cx 5 [(.int .u8 (x : Int))]] O1 rfl rfl) ?_
    refine T.region ?_
    refine TO.quiet (q_addN (a := k) (b := 1) rfl rfl (by omega)) (TO.quiet (q_move rfl) ?_)
    refine TO.nil ?_
    exact ⟨k + 1, by omega, O1, rfl, by omega, hno k hlt10 hs20 _ hJ, ⟨rfl, rfl, rfl, rfl, rfl, rfl, trivial⟩⟩
  have hge10 : ¬ k < b.edges.length := by omega
  refine T.exit ?_
  refine Res.drop ?_
  refine Res.zero Try.results99 ?_
  have hke : k = b.edges.length := by omega
  subst hke
  exact ⟨O1, Sub.cnt [oI bx 26 (buCells b sb sc eb ec tb tc), oI cx 5 [(.int .u8 (x : Int))]] (by intro a; simp only [itms, oI, List.set_cons_zero, List.set_cons_succ, putL, List.cons_append, List.nil_append, List.append_nil, List.append_assoc, List.map_append, List.map_cons, List.map_nil, cnt_append, cnt_cons, cnt_nil, buCells, laCells] <;> omega), .inl hJ⟩
end Go.Proofs.Ytnamoapbienooaa


namespace Go.Lx
open Go.RowKit
set_option linter.unusedVariables false
theorem nodup_lt {l : List Nat} {n : Nat} (hn : l.Nodup) (h : ∀ x ∈ l, x < n) : l.length ≤ n := by
  have := List.Nodup.length_le_of_subset (l₂ := List.range n) hn (fun x hx => List.mem_range.2 (h x hx))
  rwa [List.length_range] at this
inductive PathC (b : Bu) (al : Nat → Bool) : Nat → List Nat → Nat → Prop
  | nil (s : Nat) : PathC b al s [] s
  | cons {s u t : Nat} {w : List Nat} {e : Ed} (he : e ∈ b.edges) (h1 : e.fr = (s : Int)) (h2 : e.to = (u : Int)) (h3 : al u = true) (h : PathC b al u w t) : PathC b al s (e.pos :: w) t
structure ChP (b : Bu) (n : Nat) (al : Nat → Bool) (frm : List Nat) (far : Bool) (sts : List (Nat × Int)) (la : List Nat) : Prop where
  ll : la.length = sts.length
  lt : ∀ q ∈ sts, q.1 < n
  src : ∀ q (h : q < sts.length), (sts[q].2 = -1 ∧ sts[q].1 ∈ frm) ∨ ∃ k : Nat, ∃ hk : k < q, sts[q].2 = (k : Int) ∧ ∃ e ∈ b.edges, e.fr = ((sts[k]'(by omega)).1 : Int) ∧ e.to = (sts[q].1 : Int) ∧ al sts[q].1 = true ∧ la[q]? = some e.pos
  nd : ((sts.filter (fun q => far == false || q.2 != -1)).map Prod.fst).Nodup
structure LetP (b : Bu) (n : Nat) (al : Nat → Bool) (p : Int → Bool) (frm : List Nat) (far : Bool) (sts : List (Nat × Int)) (la : List Nat) (seen : List Bool) (i j : Nat) : Prop where
  ch : ChP b n al frm far sts la
  ls : seen.length = n
  sn : ∀ v, v < n → (seen.getD v false = true ↔ ∃ q ∈ sts, q.1 = v ∧ (far = true → q.2 ≠ -1))
  np : ∀ q ∈ sts, (far = true → q.2 ≠ -1) → p (q.1 : Int) = false
  fr : ∀ s ∈ frm, ∃ q ∈ sts, q.1 = s
  ex : ∀ q (h : q < sts.length), q < i → ∀ e ∈ b.edges, e.fr = (sts[q].1 : Int) → al e.to.toNat = true → seen.getD e.to.toNat false = true
  exi : ∀ (h : i < sts.length), ∀ e ∈ b.edges.take j, e.fr = (sts[i].1 : Int) → al e.to.toNat = true → seen.getD e.to.toNat false = true
section
variable {b : Bu} {n : Nat} {al : Nat → Bool} {p : Int → Bool} {frm : List Nat} {far : Bool} {sts : List (Nat × Int)} {la : List Nat} {seen : List Bool} {i j : Nat}
theorem ChP.start (hf : ∀ s ∈ frm, s < n) (hnd : frm.Nodup) : ChP b n al frm far (frm.map fun s => (s, -1)) (List.replicate frm.length 0) := by
  refine ⟨by simp, fun q hq => ?_, fun q h => ?_, ?_⟩
  · obtain ⟨s, hs, rfl⟩ := List.mem_map.1 hq; exact hf s hs
  · left; simp only [List.getElem_map, true_and]; exact List.getElem_mem _
  · have h2 := (List.filter_sublist (l := frm.map fun s => ((s, -1) : Nat × Int)) (p := fun q => far == false || q.2 != -1)).map Prod.fst
    rw [List.map_map] at h2
    have : frm.map (Prod.fst ∘ fun s => ((s, -1) : Nat × Int)) = frm := by
      conv => rhs; rw [← List.map_id frm]
      rfl
    rw [this] at h2
    exact h2.nodup hnd
theorem LetP.start (hf : ∀ s ∈ frm, s < n) (hnd : frm.Nodup) (hl : seen.length = n) (hs : ∀ v, v < n → (seen.getD v false = true ↔ far = false ∧ v ∈ frm)) (hp : far = false → ∀ s ∈ frm, p (s : Int) = false) :
    LetP b n al p frm far (frm.map fun s => (s, -1)) (List.replicate frm.length 0) seen 0 0 := by
  refine ⟨ChP.start hf hnd, hl, fun v hv => ?_, fun q hq hne => ?_, fun s hs => ⟨(s, -1), List.mem_map.2 ⟨s, hs, rfl⟩, rfl⟩, fun q h h0 => by omega, fun h e he => by simp at he⟩
  · rw [hs v hv]
    constructor
    · rintro ⟨h1, h2⟩; exact ⟨(v, -1), List.mem_map.2 ⟨v, h2, rfl⟩, rfl, fun h => by rw [h1] at h; cases h⟩
    · rintro ⟨q, h1, h2, h3⟩
      obtain ⟨s, hs, rfl⟩ := List.mem_map.1 h1
      have : far = false := by
        cases hfar : far
        · rfl
        · exact absurd rfl (h3 hfar)
      exact ⟨this, by rw [← h2]; exact hs⟩
  · obtain ⟨s, hs, rfl⟩ := List.mem_map.1 hq
    have : far = false := by
      cases hfar : far
      · rfl
      · exact absurd rfl (hne hfar)
    exact hp this s hs
theorem ChP.push (h : ChP b n al frm far sts la) (hi : i < sts.length) {e : Ed} (he : e ∈ b.edges) (h1 : e.fr = (sts[i].1 : Int)) {v : Nat} (h2 : e.to = (v : Int)) (hv : v < n) (hal : al v = true) (hnew : ∀ q ∈ sts, q.1 = v → ¬ (far = true → q.2 ≠ -1)) :
    ChP b n al frm far (sts ++ [(v, (i : Int))]) (la ++ [e.pos]) := by
  refine ⟨by simp [h.ll], fun q hq => ?_, fun q hq => ?_, ?_⟩
  · rcases List.mem_append.1 hq with hq | hq
    · exact h.lt q hq
    · simp at hq; subst hq; exact hv
  · by_cases hlt : q < sts.length
    · have h3 := h.src q hlt
      rw [List.getElem_append_left hlt]
      rcases h3 with h3 | ⟨k, hk, h4, e', h5, h6, h7, h8, h9⟩
      · exact .inl h3
      · refine .inr ⟨k, hk, h4, e', h5, ?_, h7, h8, ?_⟩
        · rw [List.getElem_append_left (by omega)]; exact h6
        · rw [List.getElem?_append_left (by rw [h.ll]; exact hlt)]; exact h9
    · have hqe : q = sts.length := by simp at hq; omega
      subst hqe
      refine .inr ⟨i, hi, by simp, e, he, ?_, by simp [h2], by simpa using hal, ?_⟩
      · rw [List.getElem_append_left hi]; exact h1
      · rw [List.getElem?_append_right (by rw [h.ll]; exact Nat.le_refl _), h.ll]; simp
  · rw [List.filter_append, List.map_append, List.nodup_append]
    refine ⟨h.nd, ?_, ?_⟩
    · exact ((List.filter_sublist (l := [(v, (i : Int))])).map Prod.fst).nodup (by simp)
    · intro x hx y hy hxy
      obtain ⟨q, hq, rfl⟩ := List.mem_map.1 hx
      obtain ⟨q2, hq2, rfl⟩ := List.mem_map.1 hy
      have hq3 := (List.mem_filter.1 hq2).1
      simp at hq3; subst hq3
      obtain ⟨hq1, hf⟩ := List.mem_filter.1 hq
      refine hnew q hq1 hxy (fun hfar => ?_)
      rw [hfar] at hf; simpa using hf
theorem LetP.fresh (h : LetP b n al p frm far sts la seen i j) {v : Nat} (hv : v < n) (hs : ¬ seen.getD v false = true) : ∀ q ∈ sts, q.1 = v → ¬ (far = true → q.2 ≠ -1) :=
  fun q hq e hne => hs ((h.sn v hv).2 ⟨q, hq, e, hne⟩)
theorem LetP.skip (h : LetP b n al p frm far sts la seen i j) (hj : j < b.edges.length) (hi : i < sts.length) (hx : ¬ (b.edges[j].fr = (sts[i].1 : Int) ∧ ¬ seen.getD b.edges[j].to.toNat false = true ∧ al b.edges[j].to.toNat = true)) : LetP b n al p frm far sts la seen i (j + 1) := by
  refine ⟨h.ch, h.ls, h.sn, h.np, h.fr, h.ex, fun hi e he h1 h2 => ?_⟩
  rw [List.take_succ_eq_append_getElem hj] at he
  rcases List.mem_append.1 he with he | he
  · exact h.exi hi e he h1 h2
  · rw [List.mem_singleton] at he; subst he
    apply Classical.byContradiction
    intro hs
    exact hx ⟨h1, hs, h2⟩
theorem LetP.add (h : LetP b n al p frm far sts la seen i j) (hj : j < b.edges.length) (hi : i < sts.length) {v : Nat} (h1 : b.edges[j].fr = (sts[i].1 : Int)) (h2 : b.edges[j].to = (v : Int)) (hv : v < n) (hs : ¬ seen.getD v false = true) (hal : al v = true) (hp : p (v : Int) = false) :
    LetP b n al p frm far (sts ++ [(v, (i : Int))]) (la ++ [b.edges[j].pos]) (seen.set v true) i (j + 1) := by
  have hset := fun x => fb_set (a := true) (l := seen) (v := v) (by rw [h.ls]; exact hv) x
  have hset' : ∀ x, (seen.set v true).getD x false = if x = v then true else seen.getD x false := hset
  have hmono : ∀ x, seen.getD x false = true → (seen.set v true).getD x false = true := fun x hx => by rw [hset']; split <;> simp_all
  refine ⟨h.ch.push hi (List.getElem_mem hj) h1 h2 hv hal (h.fresh hv hs), by simp [h.ls], fun x hx => ?_, fun q hq hne => ?_, fun s hs => ?_, fun q hq hqi e he he1 he2 => ?_, fun hi' e he he1 he2 => ?_⟩
  · rw [hset']
    by_cases e : x = v
    · subst e
      rw [if_pos rfl]
      exact ⟨fun _ => ⟨(x, (i : Int)), by simp, rfl, fun _ => by show (i : Int) ≠ -1; omega⟩, fun _ => rfl⟩
    · rw [if_neg e, h.sn x hx]
      constructor
      · rintro ⟨q, h3, h4, h5⟩; exact ⟨q, List.mem_append_left _ h3, h4, h5⟩
      · rintro ⟨q, h3, h4, h5⟩
        rcases List.mem_append.1 h3 with h3 | h3
        · exact ⟨q, h3, h4, h5⟩
        · simp at h3; subst h3; exact absurd h4.symm e
  · rcases List.mem_append.1 hq with hq | hq
    · exact h.np q hq hne
    · simp at hq; subst hq; exact hp
  · obtain ⟨q, h3, h4⟩ := h.fr s hs; exact ⟨q, List.mem_append_left _ h3, h4⟩
  · rw [List.getElem_append_left (by omega)] at he1
    exact hmono _ (h.ex q (by omega) hqi e he he1 he2)
  · rw [List.getElem_append_left hi] at he1
    rw [List.take_succ_eq_append_getElem hj] at he
    rcases List.mem_append.1 he with he | he
    · exact hmono _ (h.exi hi e he he1 he2)
    · rw [List.mem_singleton] at he; subst he
      rw [hset', h2]; simp
theorem LetP.next (h : LetP b n al p frm far sts la seen i j) (hj : ¬ j < b.edges.length) (hi : i < sts.length) : LetP b n al p frm far sts la seen (i + 1) 0 := by
  refine ⟨h.ch, h.ls, h.sn, h.np, h.fr, fun q hq hqi e he h1 h2 => ?_, fun _ e he => by simp at he⟩
  by_cases e2 : q = i
  · subst e2
    exact h.exi hq e (by rw [List.take_of_length_le (by omega)]; exact he) h1 h2
  · exact h.ex q hq (by omega) e he h1 h2
theorem LetP.none (h : LetP b n al p frm far sts la seen i j) (hi : ¬ i < sts.length) (hb : ∀ e ∈ b.edges, e.to.toNat < n) {s t : Nat} {w : List Nat} (hs : s ∈ frm) (hp : PathC b al s w t) (hw : far = true → w ≠ []) : p (t : Int) = false := by
  have key : ∀ {s t : Nat} {w : List Nat}, PathC b al s w t → (∃ q ∈ sts, q.1 = s) → w ≠ [] → ∃ q ∈ sts, q.1 = t ∧ (far = true → q.2 ≠ -1) := by
    intro s t w hp
    induction hp with
    | nil => intro _ h; exact absurd rfl h
    | @cons s u t w e he h1 h2 h3 hp ih =>
      rintro ⟨q, hq, rfl⟩ _
      obtain ⟨k, hk, rfl⟩ := List.mem_iff_getElem.1 hq
      have hun : u < n := by have := hb e he; rw [h2] at this; simpa using this
      have h4 := h.ex k hk (by omega) e he h1 (by rw [h2]; simpa using h3)
      rw [h2] at h4
      obtain ⟨q2, h5, h6, h7⟩ := (h.sn u hun).1 (by simpa using h4)
      by_cases hw : w = []
      · subst hw
        cases hp
        exact ⟨q2, h5, h6, h7⟩
      · exact ih ⟨q2, h5, h6⟩ hw
  obtain ⟨q0, hq0, hq1⟩ := h.fr s hs
  by_cases hwe : w = []
  · subst hwe
    cases hp
    have hfar : far = false := by
      cases hfar : far
      · rfl
      · exact absurd rfl (hw hfar)
    rw [← hq1]
    exact h.np q0 hq0 (fun h => by rw [hfar] at h; cases h)
  · obtain ⟨q, h1, rfl, h3⟩ := key hp ⟨q0, hq0, hq1⟩ hwe
    exact h.np q h1 h3
def nr (sts : List (Nat × Int)) (k : Nat) : Nat := ((sts.take (k + 1)).filter (fun q => q.2 != -1)).length
theorem nr_lt {sts : List (Nat × Int)} {k q : Nat} (hk : k < q) (hq : q < sts.length) (h : sts[q].2 ≠ -1) : nr sts k + 1 ≤ nr sts q := by
  unfold nr
  rw [List.take_succ_eq_append_getElem hq, List.filter_append, List.length_append]
  have h1 : ([sts[q]].filter (fun q => q.2 != -1)).length = 1 := by simp [h]
  have h2 : ((sts.take (k + 1)).filter (fun q => q.2 != -1)).length ≤ ((sts.take q).filter (fun q => q.2 != -1)).length :=
    ((List.take_sublist_take_left (by omega : k + 1 ≤ q)).filter _).length_le
  omega
theorem ChP.bound (h : ChP b n al frm far sts la) {k : Nat} (hk : k < sts.length) : nr sts k + (if far = true then 0 else 1) ≤ n := by
  have hlt : ∀ x ∈ (sts.filter (fun q => far == false || q.2 != -1)).map Prod.fst, x < n := fun x hx => by
    obtain ⟨q, hq, rfl⟩ := List.mem_map.1 hx
    exact h.lt q (List.mem_filter.1 hq).1
  have h1 := nodup_lt h.nd hlt
  rw [List.length_map] at h1
  have h2 : nr sts k ≤ (sts.filter (fun q => q.2 != -1)).length := ((List.take_sublist _ _).filter _).length_le
  by_cases hf : far = true
  · rw [if_pos hf, Nat.add_zero]
    have e : (fun q : Nat × Int => far == false || q.2 != -1) = fun q => q.2 != -1 := by funext q; rw [hf]; simp
    rw [e] at h1
    omega
  · rw [if_neg hf]
    have hf' : far = false := by simpa using hf
    have e : sts.filter (fun q : Nat × Int => far == false || q.2 != -1) = sts := List.filter_eq_self.2 (fun q _ => by rw [hf']; simp)
    rw [e] at h1
    have h3 : (sts.filter (fun q => q.2 != -1)).length < sts.length := by
      have h4 := h.src 0 (by omega)
      rcases h4 with ⟨h4, _⟩ | ⟨k, hk, _⟩
      · apply Nat.lt_of_le_of_ne (List.length_filter_le _ _)
        intro e
        have h5 := List.length_filter_eq_length_iff.1 e _ (List.getElem_mem (show 0 < sts.length by omega))
        simp [h4] at h5
      · omega
    omega
structure BackP (b : Bu) (al : Nat → Bool) (sts : List (Nat × Int)) (k : Nat) (w : List Nat) (t m : Nat) : Prop where
  hk : k < sts.length
  path : PathC b al (sts[k]'hk).1 w.reverse t
  len : w.length + nr sts k ≤ m
theorem BackP.start {k : Nat} (hk : k < sts.length) : BackP b al sts k [] (sts[k]'hk).1 (nr sts k) := ⟨hk, .nil _, by simp⟩
theorem BackP.step (hc : ChP b n al frm far sts la) {k t m : Nat} {w : List Nat} (h : BackP b al sts k w t m) (h2 : 0 ≤ (sts[k]'h.hk).2) : ∃ q : Nat, q < k ∧ (sts[k]'h.hk).2 = (q : Int) ∧ ∃ hk : k < la.length, BackP b al sts q (w ++ [la[k]]) t m := by
  have hk := h.hk
  rcases hc.src k hk with ⟨h3, _⟩ | ⟨q, hq, h3, e, he, h4, h5, h6, h7⟩
  · omega
  · have hkl : k < la.length := by rw [hc.ll]; exact hk
    refine ⟨q, hq, h3, hkl, by omega, ?_, ?_⟩
    · rw [List.reverse_append, List.reverse_singleton, List.singleton_append]
      rw [List.getElem?_eq_getElem hkl] at h7
      rw [Option.some.inj h7]
      exact .cons he h4 h5 h6 h.path
    · have := nr_lt hq hk (by omega)
      have := h.len
      simp; omega
theorem BackP.done (hc : ChP b n al frm far sts la) {k t m : Nat} {w : List Nat} (h : BackP b al sts k w t m) (h2 : ¬ 0 ≤ (sts[k]'h.hk).2) : ∃ s ∈ frm, PathC b al s w.reverse t := by
  rcases hc.src k h.hk with ⟨_, h3⟩ | ⟨q, hq, h3, _⟩
  · exact ⟨_, h3, h.path⟩
  · omega
end
theorem start_nr {frm : List Nat} : (((frm.map fun s => ((s, -1) : Nat × Int))).filter (fun q => q.2 != -1)).length = 0 := by
  rw [List.length_eq_zero_iff, List.filter_eq_nil_iff]
  intro q hq
  obtain ⟨s, _, rfl⟩ := List.mem_map.1 hq
  simp
theorem nr_snoc {sts : List (Nat × Int)} {u i : Nat} : ((sts ++ [(u, (i : Int))]).filter (fun q => q.2 != -1)).length = (sts.filter (fun q => q.2 != -1)).length + 1 := by
  rw [List.filter_append, List.length_append]
  have : (i : Int) ≠ -1 := by omega
  simp [this]
theorem ChP.len_le {b : Bu} {n : Nat} {al : Nat → Bool} {frm : List Nat} {far : Bool} {sts : List (Nat × Int)} {la : List Nat} (h : ChP b n al frm far sts la) : (sts.filter (fun q => q.2 != -1)).length ≤ n := by
  have h1 : ((sts.filter (fun q => q.2 != -1)).map Prod.fst).Nodup := by
    refine (List.Sublist.map _ ?_).nodup h.nd
    have : sts.filter (fun q => q.2 != -1) = (sts.filter (fun q => far == false || q.2 != -1)).filter (fun q => q.2 != -1) := by
      rw [List.filter_filter]; congr 1; funext q; cases far <;> cases (q.2 != -1) <;> rfl
    rw [this]; exact List.filter_sublist
  have h2 := nodup_lt h1 (n := n) (fun x hx => by
    obtain ⟨q, hq, rfl⟩ := List.mem_map.1 hx
    exact h.lt q (List.mem_filter.1 hq).1)
  rwa [List.length_map] at h2
def stpC (sts : List (Nat × Int)) : List Value := sts.flatMap fun q => [.int .i64 (q.1 : Int), .int .i64 q.2]
theorem stp_get {sts : List (Nat × Int)} {i : Nat} (h : i < sts.length) (j : Nat) (hj : j < 2) : (stpC sts)[i * 2 + j]? = ([Value.int .i64 (sts[i].1 : Int), .int .i64 sts[i].2])[j]? := flat_get (F := fun q : Nat × Int => [Value.int .i64 (q.1 : Int), .int .i64 q.2]) (fun _ => rfl) h j hj
theorem stp_len (sts : List (Nat × Int)) : (stpC sts).length = sts.length * 2 := flat_len (F := fun q : Nat × Int => [Value.int .i64 (q.1 : Int), .int .i64 q.2]) (fun _ => rfl) sts
theorem stp_snoc (sts : List (Nat × Int)) (s : Nat) (k : Int) : stpC (sts ++ [(s, k)]) = stpC sts ++ [.int .i64 (s : Int), .int .i64 k] := by simp [stpC]
end Go.Lx


namespace Go.Proofs.Ytnamoapbienooaa
open Go.Lx Go.RowKit
set_option linter.unusedVariables false
set_option linter.unusedSimpArgs false
set_option maxHeartbeats 4000000 in
set_option maxRecDepth 20000 in
theorem lettersF (base : World) (b : Bu) (sb eb tb : Option Addr) (sc ec tc : Nat) (vs : List Value) (h : BuAt base b sb eb tb vs) (hB : BuB b) (hv : ValidB b) (OO : List Lx.Item) (fb : Option Addr) (fc : Nat) (frm : List Nat) (hF : ∀ w, Inv base OO w → Sl w fb (nats frm)) (hfl : frm.length ≤ 1000000) (hfn : ∀ s ∈ frm, s < b.states.toNat) (hnd : frm.Nodup)
    (ab : Option Addr) (ac : Nat) (av : List Bool) (hA : ∀ w, Inv base OO w → Sl w ab (bools av)) (has : av.length = b.states.toNat) (far : Bool) (fv : Value) (p : Int → Bool) (hy : ∀ x : Nat, x < b.states.toNat → CallV Try.prog base fv [.int .i64 (x : Int)] OO (fun v O' => v = .bool (p (x : Int)) ∧ O' = OO))
    (hex : ∃ s ∈ frm, ∃ w t, PathC b (fun v => av.getD v false) s w t ∧ p (t : Int) = true ∧ (far = true → w ≠ [])) :
    CallT Try.prog base 72 [.agg (buCells b sb sc eb ec tb tc).toArray, .slice fb frm.length fc, .slice ab av.length ac, .bool far, fv] OO (fun v O' => ∃ (w : List Nat) (t : Nat) (wb : Option Addr) (wc : Nat), v = .tuple #[.slice wb w.length wc, .int .i64 (t : Int)] ∧ O' = [rowI wb wc 5 1 (byts w)] ++ OO ∧ (∃ s ∈ frm, PathC b (fun v => av.getD v false) s w t) ∧ t < b.states.toNat ∧ p (t : Int) = true ∧ (far = true → w ≠ []) ∧ w.length + (if far = true then 0 else 1) ≤ b.states.toNat) := by
  refine CallT.enter Try.func72 rfl Try.ntmps72 rfl ?_
  have hv0 := hv.n0; have hv4 := hv.n4; have hed := hB.ed
  obtain ⟨n, hn⟩ : ∃ n : Nat, b.states = (n : Int) := ⟨b.states.toNat, by omega⟩
  have hnn : b.states.toNat = n := by omega
  rw [hnn] at hfn has hy ⊢
  refine T.seq (T.region ?_)
  refine TO.loud rfl (l_box (v := (.agg (buCells b sb sc eb ec tb tc).toArray)) (cs := (buCells b sb sc eb ec tb tc)) rfl rfl (fun bx1 => ?_))
  refine TO.quiet (q_assign rfl) (TO.quiet (q_assign rfl) ?_)
  refine TO.nil (T.seq (T.region ?_))
  refine TO.quiet (q_fieldAddr Try.underlying26 rfl inf3 rfl rfl) (TO.quiet (QT.cast (q_load_box 0 Try.underlying3 rfl rfl rfl rfl) (v' := .int .i64 ((n : Nat) : Int)) (by show Value.int _ b.states = _; rw [hn])) ?_)
  refine TO.loud rfl (l_makeSlice (m := n) Try.underlying39 inf4 rfl rfl (by omega) (by omega) (fun bx2 => ?_))
  refine TO.quiet (q_assign rfl) ?_
  refine TO.nil (T.seq (T.region ?_))
  refine TO.quiet (q_assign rfl) ?_
  refine TO.nil (T.seq (T.region ?_))
  refine TO.quiet (q_assign rfl) ?_
  refine TO.nil (T.seq (T.seq (T.region ?_)))
  refine TO.quiet (q_move rfl) (TO.quiet (q_len Try.underlying22 rfl) (TO.quiet (q_move rfl) ?_))
  refine TO.nil (T.block ?_)
  refine T.nilRow 129 2 ?_
  refine T.nilRow 5 1 ?_
  refine T.sub (O' := [rowI (some ⟨bx2, 0, none⟩) n 4 1 (List.replicate n (.bool false)), rowI none 0 129 2 [], rowI none 0 5 1 [], oI bx1 26 (buCells b sb sc eb ec tb tc)] ++ OO) (Sub.pickR [2, 1, 0, 0] [rowI none 0 5 1 [], rowI none 0 129 2 [], rowI (some ⟨bx2, 0, none⟩) n 4 1 (List.replicate n (.bool false)), oI bx1 26 (buCells b sb sc eb ec tb tc)] OO rfl rfl) ?_
  refine T.loop (fun (k : Nat) ρ O => ∃ (sn : List Bool) (sb2 lb2 : Option Addr) (sc2 lc2 : Nat), O = ([rowI (some ⟨bx2, 0, none⟩) n 4 1 (bools sn), rowI sb2 sc2 129 2 (stpC ((frm.take k).map fun s => ((s, -1) : Nat × Int))), rowI lb2 lc2 5 1 (byts (List.replicate k 0)), oI bx1 26 (buCells b sb sc eb ec tb tc)] ++ OO) ∧ k ≤ frm.length ∧ sn.length = n ∧ (∀ v, v < n → (sn.getD v false = true ↔ far = false ∧ v ∈ frm.take k)) ∧ (far = false → ∀ s ∈ frm.take k, p (s : Int) = false) ∧ Heads [(0, (.agg (buCells b sb sc eb ec tb tc).toArray)), (1, (.slice fb frm.length fc)), (2, (.slice ab av.length ac)), (3, .bool far), (4, fv), (5, (.pointer (some ⟨bx1, 0, none⟩))), (10, (.slice none 0 0)), (12, (.slice (some ⟨bx2, 0, none⟩) n n)), (13, (.slice sb2 k sc2)), (14, (.slice lb2 k lc2)), (24, (.slice fb frm.length fc)), (25, .int .i64 (frm.length : Int)), (26, .int .i64 (k : Int))] ρ) (fun k => frm.length - k) 0 ?_ ?_
  · refine ⟨List.replicate n false, none, none, 0, 0, by simp only [List.map_replicate]; rfl, Nat.zero_le _, by simp, fun v hv9 => ?_, fun _ s hs => by simp at hs, ⟨rfl, rfl, rfl, rfl, rfl, rfl, rfl, rfl, rfl, rfl, rfl, rfl, rfl, trivial⟩⟩
    rw [gb (by simpa using hv9)]; simp
  rintro k ρ O ⟨sn, sb2, lb2, sc2, lc2, rfl, hk, hsl, hsn, hnp, hH⟩
  obtain ⟨ρ0, rfl⟩ := hH.elim
  clear hH
  refine T.seq (T.region ?_)
  refine TO.quiet (q_lss rfl rfl) ?_
  refine TO.nil (T.seq ?_)
  refine T.condP rfl (fun hc => ?_) (fun hc => ?_)
  · have hlt27 : k < frm.length := by omega
    have hfk : frm[k] < n := hfn _ (List.getElem_mem hlt27)
    refine T.skip (T.seq (T.block (T.seq (T.region ?_))))
    refine TO.quiet (q_ix (i := k) Try.underlying22 inf3 rfl rfl (fun w hI => hF w (Inv.right (A := [_, _, _, _]) hI))) (TO.quiet (q_ld Try.underlying3 rfl rfl (fun w hI => hF w (Inv.right (A := [_, _, _, _]) hI)) nats_get) (TO.quiet (q_assign rfl) ?_))
    refine TO.nil (T.seq (T.seq (T.region ?_)))
    refine TO.quiet (q_move rfl) (TO.quiet (q_not rfl) ?_)
    by_cases hs32 : (!far) = true
    · refine TO.quiet (QT.toB (q_move rfl) (hs32)) ?_
      refine TO.guarded rfl rfl rfl (LT.of_quiet rfl rfl (q_move rfl) ?_)
      refine TO.guarded rfl rfl rfl (LT.of_quiet rfl rfl (q_move rfl) ?_)
      have hk35 := (show CallV Try.prog base fv [.int .i64 (frm[k] : Int)] ([rowI (some ⟨bx2, 0, none⟩) n 4 1 (bools sn), rowI sb2 sc2 129 2 (stpC ((frm.take k).map fun s => ((s, -1) : Nat × Int))), rowI lb2 lc2 5 1 (byts (List.replicate k 0)), oI bx1 26 (buCells b sb sc eb ec tb tc)] ++ OO) (fun v O' => v = .bool (p (frm[k] : Int)) ∧ O' = [rowI (some ⟨bx2, 0, none⟩) n 4 1 (bools sn), rowI sb2 sc2 129 2 (stpC ((frm.take k).map fun s => ((s, -1) : Nat × Int))), rowI lb2 lc2 5 1 (byts (List.replicate k 0)), oI bx1 26 (buCells b sb sc eb ec tb tc)] ++ OO) from (CallV.atR [rowI (some ⟨bx2, 0, none⟩) n 4 1 (bools sn), rowI sb2 sc2 129 2 (stpC ((frm.take k).map fun s => ((s, -1) : Nat × Int))), rowI lb2 lc2 5 1 (byts (List.replicate k 0)), oI bx1 26 (buCells b sb sc eb ec tb tc)] (hy frm[k] (hfn _ (List.getElem_mem hlt27)))).mono (fun v O' ⟨A', e1, e2, e3⟩ => ⟨e2, by rw [e1, e3]⟩))
      refine TO.guarded rfl rfl rfl (l_callG hk35 rfl rfl ?_)
      clear hk35
      rintro vr O' ⟨rfl, rfl⟩
      refine TO.quiet (q_pick1 rfl rfl) ?_
      refine TO.nil ?_
      refine T.cond rfl (fun hc => ?_) (fun hc => ?_)
      · have hpt : p (frm[k] : Int) = true := hc
        refine T.seq ?_
        refine T.nilRow 5 1 ?_
        refine T.region ?_
        refine TO.quiet (q_move rfl) (TO.quiet (q_assign rfl) (TO.quiet (q_assign rfl) ?_))
        refine TO.nil (T.ret (Res.drop ?_))
        refine Res.two (.slice none 0 0) (.int .i64 ((frm[k] : Nat) : Int)) Try.results72 rfl rfl ?_
        have hff : far = false := by simpa using hs32
        exact ⟨[rowI none 0 5 1 []] ++ OO, (Sub.pickR [0] [rowI none 0 5 1 [], rowI (some ⟨bx2, 0, none⟩) n 4 1 (bools sn), rowI sb2 sc2 129 2 (stpC ((frm.take k).map fun s => ((s, -1) : Nat × Int))), rowI lb2 lc2 5 1 (byts (List.replicate k 0)), oI bx1 26 (buCells b sb sc eb ec tb tc)] OO rfl rfl), [], frm[k], none, 0, rfl, rfl, ⟨frm[k], List.getElem_mem hlt27, .nil _⟩, hfk, hpt, fun h => by rw [hff] at h; (cases h), by rw [hff]; simp; omega⟩
      have hpk : far = false → p (frm[k] : Int) = false := fun hf => by simp_all
      refine T.skip (T.seq (T.region ?_))
      refine TO.quiet (q_move rfl) (TO.quiet (q_move rfl) (TO.quiet (q_build (cs := [.int .i64 ((frm[k] : Nat) : Int), .int .i64 (-1)]) plan129 inf129 (by kernel_rfl)) ?_))
      refine TO.loud rfl (l_buildSlice (m := 1) (parts := [(0, _)]) (cs := [.int .i64 ((frm[k] : Nat) : Int), .int .i64 (-1)]) Try.underlying127 inf129 (by decide) (by kernel_rfl) rfl (fun bx3 => ?_))
      refine TO.loud rfl (l_append 2 Try.underlying127 Try.underlying127 inf129 rfl rfl rfl rfl (by rw [stp_len]; simp; omega) (by decide) (Src.row (j := 0) rfl (by simp)) (by simp [oneB]) (by omega) (by decide) (by decide) (fun bx4 c5 => ?_))
      refine TO.quiet (q_move rfl) ?_
      refine TO.loud rfl (l_build1 (v := .int .u8 0) Try.underlying27 inf5 rfl rfl rfl (fun bx6 => ?_))
      refine TO.loud rfl (l_append 4 Try.underlying27 Try.underlying27 inf5 rfl rfl rfl rfl (by simp) (by decide) (Src.row (j := 0) rfl (by simp)) (by simp [oneB]) (by omega) (by decide) (by decide) (fun bx7 c8 => ?_))
      refine TO.quiet (q_assign rfl) (TO.quiet (q_assign rfl) ?_)
      refine TO.sub (O' := ([rowI (some ⟨bx2, 0, none⟩) n 4 1 (bools sn), rowI bx4 c5 129 2 ((stpC ((frm.take k).map fun s => ((s, -1) : Nat × Int))) ++ [.int .i64 ((frm[k] : Nat) : Int), .int .i64 (-1)]), rowI bx7 c8 5 1 ((byts (List.replicate k 0)) ++ [.int .u8 0]), oI bx1 26 (buCells b sb sc eb ec tb tc)] ++ OO)) (Sub.pickR [2, 2, 2, 2] [rowI (some ⟨bx6, 0, none⟩) 1 5 1 [.int .u8 0], rowI (some ⟨bx3, 0, none⟩) 1 129 2 [.int .i64 ((frm[k] : Nat) : Int), .int .i64 (-1)], rowI (some ⟨bx2, 0, none⟩) n 4 1 (bools sn), rowI bx4 c5 129 2 ((stpC ((frm.take k).map fun s => ((s, -1) : Nat × Int))) ++ [.int .i64 ((frm[k] : Nat) : Int), .int .i64 (-1)]), rowI bx7 c8 5 1 ((byts (List.replicate k 0)) ++ [.int .u8 0]), oI bx1 26 (buCells b sb sc eb ec tb tc)] OO rfl rfl) ?_
      refine TO.nil (T.region ?_)
      refine TO.quiet (q_move rfl) (TO.quiet (q_move rfl) (TO.quiet (q_move rfl) (TO.quiet (q_not rfl) ?_)))
      refine TO.quiet (q_ix (i := frm[k]) Try.underlying39 inf4 rfl rfl (rowO (List.mem_of_getElem? (i := 0) rfl))) ?_
      refine TO.loud rfl (l_st (j := frm[k]) (v := .bool (!far)) (vs := [(.bool (!far))]) (cs := bools sn) 0 inf4 rfl rfl rfl rfl rfl (by simp) rfl (by first | (simp; omega) | (simp_all; omega)) ?_)
      refine TO.sub (O' := ([rowI (some ⟨bx2, 0, none⟩) n 4 1 (bools (sn.set frm[k] (!far))), rowI bx4 c5 129 2 ((stpC ((frm.take k).map fun s => ((s, -1) : Nat × Int))) ++ [.int .i64 ((frm[k] : Nat) : Int), .int .i64 (-1)]), rowI bx7 c8 5 1 ((byts (List.replicate k 0)) ++ [.int .u8 0]), oI bx1 26 (buCells b sb sc eb ec tb tc)] ++ OO)) (by rw [show putL (bools sn) frm[k] [(.bool (!far))] = bools (sn.set frm[k] (!far)) from (by simp [putL])]; exact Sub.of (List.Sublist.refl _)) ?_
      refine TO.nil (T.region ?_)
      refine TO.quiet (q_addN (a := k) (b := 1) rfl rfl (by omega)) (TO.quiet (q_move rfl) ?_)
      refine TO.nil ?_
      have htk := List.take_succ_eq_append_getElem hlt27
      refine ⟨k + 1, by omega, sn.set frm[k] (!far), bx4, bx7, c5, c8, ?_, by omega, by simp [hsl], fun v hv9 => ?_, fun hf s hs => ?_, ⟨rfl, rfl, rfl, rfl, rfl, rfl, rfl, rfl, rfl, rfl, rfl, rfl, rfl, trivial⟩⟩
      · rw [htk, List.map_append, List.map_singleton, stp_snoc, List.replicate_succ', show byts (List.replicate k 0 ++ [0]) = byts (List.replicate k 0) ++ [.int .u8 0] from List.map_append]
      · rw [getB_set (by omega), htk, List.mem_append, List.mem_singleton]
        by_cases e : v = frm[k]
        · rw [if_pos e]; subst e; cases far <;> simp
        · rw [if_neg e, hsn v hv9]; simp [e]
      · rw [htk, List.mem_append, List.mem_singleton] at hs
        rcases hs with hs | rfl
        · exact hnp hf s hs
        · first | exact hpk hf | (rw [hf] at hs32; exact absurd rfl hs32)
    refine TO.quiet (QT.toB (q_move rfl) (Bool.eq_false_iff.2 hs32)) ?_
    refine TO.passed rfl rfl ?_
    refine TO.passed rfl rfl ?_
    refine TO.passed rfl rfl ?_
    refine TO.quiet (q_pick0 rfl rfl) ?_
    refine TO.nil ?_
    refine T.cond0 rfl ?_
    refine T.skip (T.seq (T.region ?_))
    refine TO.quiet (q_move rfl) (TO.quiet (q_move rfl) (TO.quiet (q_build (cs := [.int .i64 ((frm[k] : Nat) : Int), .int .i64 (-1)]) plan129 inf129 (by kernel_rfl)) ?_))
    refine TO.loud rfl (l_buildSlice (m := 1) (parts := [(0, _)]) (cs := [.int .i64 ((frm[k] : Nat) : Int), .int .i64 (-1)]) Try.underlying127 inf129 (by decide) (by kernel_rfl) rfl (fun bx9 => ?_))
    refine TO.loud rfl (l_append 2 Try.underlying127 Try.underlying127 inf129 rfl rfl rfl rfl (by rw [stp_len]; simp; omega) (by decide) (Src.row (j := 0) rfl (by simp)) (by simp [oneB]) (by omega) (by decide) (by decide) (fun bx10 c11 => ?_))
    refine TO.quiet (q_move rfl) ?_
    refine TO.loud rfl (l_build1 (v := .int .u8 0) Try.underlying27 inf5 rfl rfl rfl (fun bx12 => ?_))
    refine TO.loud rfl (l_append 4 Try.underlying27 Try.underlying27 inf5 rfl rfl rfl rfl (by simp) (by decide) (Src.row (j := 0) rfl (by simp)) (by simp [oneB]) (by omega) (by decide) (by decide) (fun bx13 c14 => ?_))
    refine TO.quiet (q_assign rfl) (TO.quiet (q_assign rfl) ?_)
    refine TO.sub (O' := ([rowI (some ⟨bx2, 0, none⟩) n 4 1 (bools sn), rowI bx10 c11 129 2 ((stpC ((frm.take k).map fun s => ((s, -1) : Nat × Int))) ++ [.int .i64 ((frm[k] : Nat) : Int), .int .i64 (-1)]), rowI bx13 c14 5 1 ((byts (List.replicate k 0)) ++ [.int .u8 0]), oI bx1 26 (buCells b sb sc eb ec tb tc)] ++ OO)) (Sub.pickR [2, 2, 2, 2] [rowI (some ⟨bx12, 0, none⟩) 1 5 1 [.int .u8 0], rowI (some ⟨bx9, 0, none⟩) 1 129 2 [.int .i64 ((frm[k] : Nat) : Int), .int .i64 (-1)], rowI (some ⟨bx2, 0, none⟩) n 4 1 (bools sn), rowI bx10 c11 129 2 ((stpC ((frm.take k).map fun s => ((s, -1) : Nat × Int))) ++ [.int .i64 ((frm[k] : Nat) : Int), .int .i64 (-1)]), rowI bx13 c14 5 1 ((byts (List.replicate k 0)) ++ [.int .u8 0]), oI bx1 26 (buCells b sb sc eb ec tb tc)] OO rfl rfl) ?_
    refine TO.nil (T.region ?_)
    refine TO.quiet (q_move rfl) (TO.quiet (q_move rfl) (TO.quiet (q_move rfl) (TO.quiet (q_not rfl) ?_)))
    refine TO.quiet (q_ix (i := frm[k]) Try.underlying39 inf4 rfl rfl (rowO (List.mem_of_getElem? (i := 0) rfl))) ?_
    refine TO.loud rfl (l_st (j := frm[k]) (v := .bool (!far)) (vs := [(.bool (!far))]) (cs := bools sn) 0 inf4 rfl rfl rfl rfl rfl (by simp) rfl (by first | (simp; omega) | (simp_all; omega)) ?_)
    refine TO.sub (O' := ([rowI (some ⟨bx2, 0, none⟩) n 4 1 (bools (sn.set frm[k] (!far))), rowI bx10 c11 129 2 ((stpC ((frm.take k).map fun s => ((s, -1) : Nat × Int))) ++ [.int .i64 ((frm[k] : Nat) : Int), .int .i64 (-1)]), rowI bx13 c14 5 1 ((byts (List.replicate k 0)) ++ [.int .u8 0]), oI bx1 26 (buCells b sb sc eb ec tb tc)] ++ OO)) (by rw [show putL (bools sn) frm[k] [(.bool (!far))] = bools (sn.set frm[k] (!far)) from (by simp [putL])]; exact Sub.of (List.Sublist.refl _)) ?_
    refine TO.nil (T.region ?_)
    refine TO.quiet (q_addN (a := k) (b := 1) rfl rfl (by omega)) (TO.quiet (q_move rfl) ?_)
    refine TO.nil ?_
    have htk := List.take_succ_eq_append_getElem hlt27
    refine ⟨k + 1, by omega, sn.set frm[k] (!far), bx10, bx13, c11, c14, ?_, by omega, by simp [hsl], fun v hv9 => ?_, fun hf s hs => ?_, ⟨rfl, rfl, rfl, rfl, rfl, rfl, rfl, rfl, rfl, rfl, rfl, rfl, rfl, trivial⟩⟩
    · rw [htk, List.map_append, List.map_singleton, stp_snoc, List.replicate_succ', show byts (List.replicate k 0 ++ [0]) = byts (List.replicate k 0) ++ [.int .u8 0] from List.map_append]
    · rw [getB_set (by omega), htk, List.mem_append, List.mem_singleton]
      by_cases e : v = frm[k]
      · rw [if_pos e]; subst e; cases far <;> simp
      · rw [if_neg e, hsn v hv9]; simp [e]
    · rw [htk, List.mem_append, List.mem_singleton] at hs
      rcases hs with hs | rfl
      · exact hnp hf s hs
      · first | exact hpk hf | (rw [hf] at hs32; exact absurd rfl hs32)
  have hge27 : ¬ k < frm.length := by omega
  refine T.exit ?_
  refine T.seq (T.seq (T.region ?_))
  refine TO.quiet (q_assign rfl) ?_
  refine TO.nil (T.block ?_)
  have hkf : k = frm.length := by omega
  subst hkf
  rw [List.take_length] at hsn hnp
  refine T.loop (fun (i : Nat) ρ O => ∃ (sts : List (Nat × Int)) (la : List Nat) (sn2 : List Bool) (sb3 lb3 : Option Addr) (sc3 lc3 : Nat), O = ([rowI (some ⟨bx2, 0, none⟩) n 4 1 (bools sn2), rowI sb3 sc3 129 2 (stpC sts), rowI lb3 lc3 5 1 (byts la), oI bx1 26 (buCells b sb sc eb ec tb tc)] ++ OO) ∧ i ≤ sts.length ∧ LetP b n (fun v => av.getD v false) p frm far sts la sn2 i 0 ∧ (sts.filter (fun q => q.2 != -1)).length + frm.length = sts.length ∧ Heads [(0, (.agg (buCells b sb sc eb ec tb tc).toArray)), (1, (.slice fb frm.length fc)), (2, (.slice ab av.length ac)), (3, .bool far), (4, fv), (5, (.pointer (some ⟨bx1, 0, none⟩))), (10, (.slice none 0 0)), (12, (.slice (some ⟨bx2, 0, none⟩) n n)), (13, (.slice sb3 sts.length sc3)), (14, (.slice lb3 la.length lc3)), (17, .int .i64 (i : Int))] ρ) (fun i => frm.length + n + 1 - i) 0 ?_ ?_
  · refine ⟨frm.map (fun s => (s, -1)), List.replicate frm.length 0, sn, sb2, lb2, sc2, lc2, by rw [List.take_length], Nat.zero_le _, LetP.start hfn hnd hsl hsn hnp, by rw [start_nr]; simp, ⟨rfl, rfl, rfl, rfl, rfl, rfl, rfl, rfl, (by rw [List.length_map]; rfl), (by rw [List.length_replicate]; rfl), rfl, trivial⟩⟩
  rintro i ρ O ⟨sts, la, sn2, sb3, lb3, sc3, lc3, rfl, hi, hlp, hcn, hH⟩
  obtain ⟨ρ0, rfl⟩ := hH.elim
  clear hH
  have hll := hlp.ch.ll; have hsl2 := hlp.ls
  refine T.seq (T.seq (T.region ?_))
  refine TO.quiet (q_move rfl) (TO.quiet (q_move rfl) (TO.quiet (q_len Try.underlying127 rfl) (TO.quiet (q_lss rfl rfl) ?_)))
  refine TO.nil ?_
  refine T.condP rfl (fun hc => ?_) (fun hc => ?_)
  · have hlt55 : i < sts.length := by omega
    refine T.skip (T.seq (T.block (T.seq (T.region ?_))))
    refine TO.quiet (q_fieldAddr Try.underlying26 rfl inf23 rfl rfl) (TO.quiet (q_load_box 3 Try.underlying23 rfl rfl rfl rfl) (TO.quiet (q_len Try.underlying23 rfl) (TO.quiet (q_move rfl) ?_)))
    refine TO.nil (T.block ?_)
    refine T.loopS (fun (j : Nat) ρ O => ∃ (sts3 : List (Nat × Int)) (la3 : List Nat) (sn3 : List Bool) (sb4 lb4 : Option Addr) (sc4 lc4 : Nat), O = ([rowI (some ⟨bx2, 0, none⟩) n 4 1 (bools sn3), rowI sb4 sc4 129 2 (stpC sts3), rowI lb4 lc4 5 1 (byts la3), oI bx1 26 (buCells b sb sc eb ec tb tc)] ++ OO) ∧ j ≤ b.edges.length ∧ i < sts3.length ∧ LetP b n (fun v => av.getD v false) p frm far sts3 la3 sn3 i j ∧ (sts3.filter (fun q => q.2 != -1)).length + frm.length = sts3.length ∧ Heads [(0, (.agg (buCells b sb sc eb ec tb tc).toArray)), (1, (.slice fb frm.length fc)), (2, (.slice ab av.length ac)), (3, .bool far), (4, fv), (5, (.pointer (some ⟨bx1, 0, none⟩))), (10, (.slice none 0 0)), (12, (.slice (some ⟨bx2, 0, none⟩) n n)), (13, (.slice sb4 sts3.length sc4)), (14, (.slice lb4 la3.length lc4)), (17, .int .i64 (i : Int)), (59, (.slice eb b.edges.length ec)), (60, .int .i64 (b.edges.length : Int)), (61, .int .i64 (j : Int))] ρ) (fun j => b.edges.length - j) 0 ?_ ?_
    · exact ⟨sts, la, sn2, sb3, lb3, sc3, lc3, rfl, Nat.zero_le _, by omega, hlp, hcn, ⟨rfl, rfl, rfl, rfl, rfl, rfl, rfl, rfl, rfl, rfl, rfl, rfl, rfl, rfl, trivial⟩⟩
    rintro j ρ O ⟨sts3, la3, sn3, sb4, lb4, sc4, lc4, rfl, hj, hi3, hlp3, hcn3, hH⟩
    obtain ⟨ρ0, rfl⟩ := hH.elim
    clear hH
    have hll3 := hlp3.ch.ll; have hsl3 := hlp3.ls; have hle3 := hlp3.ch.len_le
    refine T.seq (T.region ?_)
    refine TO.quiet (q_lss rfl rfl) ?_
    refine TO.nil (T.seq ?_)
    refine T.condP rfl (fun hc => ?_) (fun hc => ?_)
    · have hlt62 : j < b.edges.length := by omega
      obtain ⟨u, hu, hun⟩ : ∃ u : Nat, b.edges[j].to = (u : Int) ∧ u < n := by
        have := (hv.ed _ (List.getElem_mem hlt62)).2
        exact ⟨b.edges[j].to.toNat, by omega, by omega⟩
      refine T.skip (T.seq (T.block (T.seq (T.region ?_))))
      refine TO.quiet (q_ixK (i := j) Try.underlying23 inf54 rfl rfl (Sl.o h.ed) (by first | assumption | omega | (simp; omega) | simp_all) (by first | (rw [eds_len]; omega) | (simp [eds_len]; omega) | (simp_all [eds_len]; omega))) (TO.quiet (q_ldK (vs := [.int .i64 b.edges[j].fr, .int .i64 b.edges[j].to, .int .u8 ((b.edges[j].pos : Nat) : Int), .int .u8 ((b.edges[j].neg : Nat) : Int)]) Try.underlying54 rfl inf54 rfl rfl (Nat.succ_pos _) (Sl.o h.ed) (eds_get (by first | assumption | omega | (simp; omega) | simp_all))) ?_)
      refine TO.loud rfl (l_alloc inf54 rfl (fun bx15 => ?_))
      refine TO.loud rfl (l_store_box (v := (.agg #[.int .i64 b.edges[j].fr, .int .i64 b.edges[j].to, .int .u8 ((b.edges[j].pos : Nat) : Int), .int .u8 ((b.edges[j].neg : Nat) : Int)])) (vs := [.int .i64 b.edges[j].fr, .int .i64 b.edges[j].to, .int .u8 ((b.edges[j].pos : Nat) : Int), .int .u8 ((b.edges[j].neg : Nat) : Int)]) 0 inf54 rfl rfl rfl rfl rfl rfl (by simp [putL]) ?_)
      refine TO.nil (T.seq (T.seq ?_))
      refine T.draws _ [(0, 0), (1, 0), (2, 0), (3, 0), (4, 0), (5, 0), (6, 0), (7, 0), (8, 0), (9, 0), (10, 0), (11, 0), (12, 0), (13, 0), (14, 0), (15, 0), (16, 0), (17, 0), (18, 0), (19, 0), (20, 0), (21, 0), (22, 0)] mixed (by kernel_rfl) (Sub.of (List.Sublist.refl _)) (fun _ _ _ h => h) ?_
      refine DO.quiet rfl (q_fieldAddr Try.underlying54 rfl inf3 rfl rfl) (DO.quiet rfl (q_load_box 0 Try.underlying3 rfl rfl rfl rfl) (DO.quiet rfl (q_move rfl) (DO.quiet rfl (q_move rfl) ?_)))
      refine DO.quiet rfl (q_ixK (i := i) Try.underlying127 inf129 rfl rfl (rowO (List.mem_of_getElem? (i := 2) rfl)) (by first | assumption | omega | (simp; omega) | simp_all) (by first | (rw [stp_len]; omega) | (simp [stp_len]; omega) | (simp_all [stp_len]; omega))) (DO.quiet rfl (q_fieldEl Try.underlying129 rfl inf3 rfl rfl (rowO (List.mem_of_getElem? (i := 2) rfl)) (by first | (rw [stp_len]; omega) | (simp [stp_len]; omega) | (simp_all [stp_len]; omega))) (DO.quiet rfl (q_ld Try.underlying3 rfl rfl (rowO (List.mem_of_getElem? (i := 2) rfl)) (stp_get (by first | assumption | omega | (simp; omega) | simp_all) 0 (by decide))) (DO.quiet rfl (q_neq rfl rfl) ?_)))
      by_cases hs73 : b.edges[j].fr ≠ ((sts3[i].1 : Nat) : Int)
      · refine DO.quiet rfl (QT.toB (q_move rfl) (decide_eq_true hs73)) ?_
        refine DO.passed rfl rfl rfl ?_
        refine DO.passed rfl rfl rfl ?_
        refine DO.passed rfl rfl rfl ?_
        refine DO.passed rfl rfl rfl ?_
        refine DO.passed rfl rfl rfl ?_
        refine DO.quiet rfl (q_pick1 rfl rfl) (DO.quiet rfl (q_move rfl) ?_)
        refine DO.passed rfl rfl rfl ?_
        refine DO.passed rfl rfl rfl ?_
        refine DO.passed rfl rfl rfl ?_
        refine DO.passed rfl rfl rfl ?_
        refine DO.passed rfl rfl rfl ?_
        refine DO.passed rfl rfl rfl ?_
        refine DO.quiet rfl (q_pick1 rfl rfl) ?_
        refine DO.done ?_
        refine T.cond1 rfl ?_
        refine T.exit ?_
        refine T.region ?_
        refine TO.quiet (q_addN (a := j) (b := 1) rfl rfl (by omega)) (TO.quiet (q_move rfl) ?_)
        refine TO.nil ?_
        exact ⟨j + 1, by omega, ([rowI (some ⟨bx2, 0, none⟩) n 4 1 (bools sn3), rowI sb4 sc4 129 2 (stpC sts3), rowI lb4 lc4 5 1 (byts la3), oI bx1 26 (buCells b sb sc eb ec tb tc)] ++ OO), (Sub.pickR [1, 1, 1, 1] [oI bx15 54 [.int .i64 b.edges[j].fr, .int .i64 b.edges[j].to, .int .u8 ((b.edges[j].pos : Nat) : Int), .int .u8 ((b.edges[j].neg : Nat) : Int)], rowI (some ⟨bx2, 0, none⟩) n 4 1 (bools sn3), rowI sb4 sc4 129 2 (stpC sts3), rowI lb4 lc4 5 1 (byts la3), oI bx1 26 (buCells b sb sc eb ec tb tc)] OO rfl rfl), sts3, la3, sn3, sb4, lb4, sc4, lc4, rfl, by omega, hi3, hlp3.skip hlt62 hi3 (by
          rintro ⟨h1, h2, h3⟩
          rw [hu, Int.toNat_natCast] at h2 h3
          exact hs73 h1), hcn3, ⟨rfl, rfl, rfl, rfl, rfl, rfl, rfl, rfl, rfl, rfl, rfl, rfl, rfl, rfl, trivial⟩⟩
      refine DO.quiet rfl (QT.toB (q_move rfl) (decide_eq_false hs73)) ?_
      refine DO.guarded rfl rfl rfl (q_move rfl) ?_
      refine DO.guarded rfl rfl rfl (q_fieldAddr Try.underlying54 rfl inf3 rfl rfl) ?_
      refine DO.guarded rfl rfl rfl (QT.cast (q_load_box 0 Try.underlying3 rfl rfl rfl rfl) (v' := .int .i64 ((u : Nat) : Int)) (by show Value.int _ _ = _; rw [hu])) ?_
      refine DO.guarded rfl rfl rfl (q_ix (i := u) Try.underlying39 inf4 rfl rfl (rowO (List.mem_of_getElem? (i := 1) rfl))) ?_
      refine DO.guarded rfl rfl rfl (q_ld Try.underlying4 rfl rfl (rowO (List.mem_of_getElem? (i := 1) rfl)) bools_get) ?_
      refine DO.quiet rfl (q_pick0 rfl rfl) ?_
      by_cases hs80 : sn3[u] = true
      · refine DO.quiet rfl (QT.toB (q_move rfl) (hs80)) ?_
        refine DO.passed rfl rfl rfl ?_
        refine DO.passed rfl rfl rfl ?_
        refine DO.passed rfl rfl rfl ?_
        refine DO.passed rfl rfl rfl ?_
        refine DO.passed rfl rfl rfl ?_
        refine DO.passed rfl rfl rfl ?_
        refine DO.quiet rfl (q_pick1 rfl rfl) ?_
        refine DO.done ?_
        refine T.cond1 rfl ?_
        refine T.exit ?_
        refine T.region ?_
        refine TO.quiet (q_addN (a := j) (b := 1) rfl rfl (by omega)) (TO.quiet (q_move rfl) ?_)
        refine TO.nil ?_
        exact ⟨j + 1, by omega, ([rowI (some ⟨bx2, 0, none⟩) n 4 1 (bools sn3), rowI sb4 sc4 129 2 (stpC sts3), rowI lb4 lc4 5 1 (byts la3), oI bx1 26 (buCells b sb sc eb ec tb tc)] ++ OO), (Sub.pickR [1, 1, 1, 1] [oI bx15 54 [.int .i64 b.edges[j].fr, .int .i64 b.edges[j].to, .int .u8 ((b.edges[j].pos : Nat) : Int), .int .u8 ((b.edges[j].neg : Nat) : Int)], rowI (some ⟨bx2, 0, none⟩) n 4 1 (bools sn3), rowI sb4 sc4 129 2 (stpC sts3), rowI lb4 lc4 5 1 (byts la3), oI bx1 26 (buCells b sb sc eb ec tb tc)] OO rfl rfl), sts3, la3, sn3, sb4, lb4, sc4, lc4, rfl, by omega, hi3, hlp3.skip hlt62 hi3 (by
          rintro ⟨h1, h2, h3⟩
          rw [hu, Int.toNat_natCast] at h2 h3
          rw [gb (by omega)] at h2; exact h2 hs80), hcn3, ⟨rfl, rfl, rfl, rfl, rfl, rfl, rfl, rfl, rfl, rfl, rfl, rfl, rfl, rfl, trivial⟩⟩
      refine DO.quiet rfl (QT.toB (q_move rfl) (Bool.eq_false_iff.2 hs80)) ?_
      refine DO.guarded rfl rfl rfl (q_move rfl) ?_
      refine DO.guarded rfl rfl rfl (q_fieldAddr Try.underlying54 rfl inf3 rfl rfl) ?_
      refine DO.guarded rfl rfl rfl (QT.cast (q_load_box 0 Try.underlying3 rfl rfl rfl rfl) (v' := .int .i64 ((u : Nat) : Int)) (by show Value.int _ _ = _; rw [hu])) ?_
      refine DO.guarded rfl rfl rfl (q_ix (i := u) Try.underlying39 inf4 rfl rfl (fun w hI => hA w (Inv.right (A := [_, _, _, _, _]) hI))) ?_
      refine DO.guarded rfl rfl rfl (q_ld Try.underlying4 rfl rfl (fun w hI => hA w (Inv.right (A := [_, _, _, _, _]) hI)) bools_get) ?_
      refine DO.guarded rfl rfl rfl (q_not rfl) ?_
      refine DO.quiet rfl (q_pick0 rfl rfl) ?_
      refine DO.done ?_
      refine T.cond rfl (fun hc => ?_) (fun hc => ?_)
      · refine T.exit ?_
        refine T.region ?_
        refine TO.quiet (q_addN (a := j) (b := 1) rfl rfl (by omega)) (TO.quiet (q_move rfl) ?_)
        refine TO.nil ?_
        exact ⟨j + 1, by omega, ([rowI (some ⟨bx2, 0, none⟩) n 4 1 (bools sn3), rowI sb4 sc4 129 2 (stpC sts3), rowI lb4 lc4 5 1 (byts la3), oI bx1 26 (buCells b sb sc eb ec tb tc)] ++ OO), (Sub.pickR [1, 1, 1, 1] [oI bx15 54 [.int .i64 b.edges[j].fr, .int .i64 b.edges[j].to, .int .u8 ((b.edges[j].pos : Nat) : Int), .int .u8 ((b.edges[j].neg : Nat) : Int)], rowI (some ⟨bx2, 0, none⟩) n 4 1 (bools sn3), rowI sb4 sc4 129 2 (stpC sts3), rowI lb4 lc4 5 1 (byts la3), oI bx1 26 (buCells b sb sc eb ec tb tc)] OO rfl rfl), sts3, la3, sn3, sb4, lb4, sc4, lc4, rfl, by omega, hi3, hlp3.skip hlt62 hi3 (by
          rintro ⟨h1, h2, h3⟩
          rw [hu, Int.toNat_natCast] at h2 h3
          rw [gb (by omega)] at h3; rw [h3] at hc; simp at hc), hcn3, ⟨rfl, rfl, rfl, rfl, rfl, rfl, rfl, rfl, rfl, rfl, rfl, rfl, rfl, rfl, trivial⟩⟩
      have hfr : b.edges[j].fr = (sts3[i].1 : Int) := by omega
      have hns : ¬ sn3.getD u false = true := by rw [gb (by omega)]; exact hs80
      have hau : av.getD u false = true := by rw [gb (by omega)]; simpa using hc
      refine T.skip (T.seq (T.region ?_))
      refine TO.quiet (q_move rfl) (TO.quiet (q_fieldAddr Try.underlying54 rfl inf3 rfl rfl) (TO.quiet (QT.cast (q_load_box 0 Try.underlying3 rfl rfl rfl rfl) (v' := .int .i64 ((u : Nat) : Int)) (by show Value.int _ _ = _; rw [hu])) (TO.quiet (q_ix (i := u) Try.underlying39 inf4 rfl rfl (rowO (List.mem_of_getElem? (i := 1) rfl))) ?_)))
      refine TO.loud rfl (l_st (j := u) (v := .bool true) (vs := [(.bool true)]) (cs := bools sn3) 1 inf4 rfl rfl rfl rfl rfl (by simp) rfl (by first | (simp; omega) | (simp_all; omega)) ?_)
      refine TO.sub (O' := ([oI bx15 54 [.int .i64 b.edges[j].fr, .int .i64 b.edges[j].to, .int .u8 ((b.edges[j].pos : Nat) : Int), .int .u8 ((b.edges[j].neg : Nat) : Int)], rowI (some ⟨bx2, 0, none⟩) n 4 1 (bools (sn3.set u true)), rowI sb4 sc4 129 2 (stpC sts3), rowI lb4 lc4 5 1 (byts la3), oI bx1 26 (buCells b sb sc eb ec tb tc)] ++ OO)) (by rw [show putL (bools sn3) u [(.bool true)] = bools (sn3.set u true) from (by simp [putL])]; exact Sub.of (List.Sublist.refl _)) ?_
      refine TO.nil ?_
      refine T.cut (fun ρ O => ∃ (sb5 lb5 : Option Addr) (sc5 lc5 : Nat), O = ([rowI (some ⟨bx2, 0, none⟩) n 4 1 (bools (sn3.set u true)), rowI sb5 sc5 129 2 ((stpC sts3) ++ [.int .i64 ((u : Nat) : Int), .int .i64 (i : Int)]), rowI lb5 lc5 5 1 ((byts la3) ++ [.int .u8 ((b.edges[j].pos : Nat) : Int)]), oI bx1 26 (buCells b sb sc eb ec tb tc), oI bx15 54 [.int .i64 b.edges[j].fr, .int .i64 b.edges[j].to, .int .u8 ((b.edges[j].pos : Nat) : Int), .int .u8 ((b.edges[j].neg : Nat) : Int)]] ++ OO) ∧ Heads [(0, (.agg (buCells b sb sc eb ec tb tc).toArray)), (1, (.slice fb frm.length fc)), (2, (.slice ab av.length ac)), (3, .bool far), (4, fv), (5, (.pointer (some ⟨bx1, 0, none⟩))), (10, (.slice none 0 0)), (12, (.slice (some ⟨bx2, 0, none⟩) n n)), (13, (.slice sb5 (sts3.length + 1) sc5)), (14, (.slice lb5 (la3.length + 1) lc5)), (17, .int .i64 (i : Int)), (19, (.pointer (some ⟨bx15, 0, none⟩))), (59, (.slice eb b.edges.length ec)), (60, .int .i64 (b.edges.length : Int)), (61, .int .i64 (j : Int))] ρ) ?_ ?_
      · refine T.tree [oI bx15 54 [.int .i64 b.edges[j].fr, .int .i64 b.edges[j].to, .int .u8 ((b.edges[j].pos : Nat) : Int), .int .u8 ((b.edges[j].neg : Nat) : Int)]] 14 mixed rfl (Sub.pick0 [0] [oI bx15 54 [.int .i64 b.edges[j].fr, .int .i64 b.edges[j].to, .int .u8 ((b.edges[j].pos : Nat) : Int), .int .u8 ((b.edges[j].neg : Nat) : Int)], rowI (some ⟨bx2, 0, none⟩) n 4 1 (bools (sn3.set u true)), rowI sb4 sc4 129 2 (stpC sts3), rowI lb4 lc4 5 1 (byts la3), oI bx1 26 (buCells b sb sc eb ec tb tc)] OO rfl rfl) (fun _ _ _ h => h) ?_
        refine RO.quietT 0 rfl (by kernel_rfl) (q_move rfl) ?_
        refine RO.quietT 1 rfl (by kernel_rfl) (q_fieldAddr Try.underlying54 rfl inf3 rfl rfl) ?_
        refine RO.quietT 2 rfl (by kernel_rfl) (QT.cast (q_load_box 0 Try.underlying3 rfl rfl rfl rfl) (v' := .int .i64 ((u : Nat) : Int)) (by show Value.int _ _ = _; rw [hu])) ?_
        refine RO.quietT 3 rfl (by kernel_rfl) (q_move rfl) ?_
        refine RO.quietT 4 rfl (by kernel_rfl) (q_build (cs := [.int .i64 ((u : Nat) : Int), .int .i64 (i : Int)]) plan129 inf129 (by kernel_rfl)) ?_
        refine RO.quietT 7 rfl (by kernel_rfl) (q_move rfl) ?_
        refine RO.quietT 8 rfl (by kernel_rfl) (q_fieldAddr Try.underlying54 rfl inf5 rfl rfl) ?_
        refine RO.quietT 9 rfl (by kernel_rfl) (q_load_box 0 Try.underlying5 rfl rfl rfl rfl) ?_
        refine RO.fork [5, 10] (by kernel_rfl) rfl ⟨⟨_, rfl, rfl, l_buildSlice (m := 1) (parts := [(0, _)]) (cs := [.int .i64 ((u : Nat) : Int), .int .i64 (i : Int)]) Try.underlying127 inf129 (by decide) (by kernel_rfl) rfl (fun zP => ⟨Sub.pick0 [1] [rowI (some ⟨zP, 0, none⟩) 1 129 2 [.int .i64 ((u : Nat) : Int), .int .i64 (i : Int)], oI bx15 54 [.int .i64 b.edges[j].fr, .int .i64 b.edges[j].to, .int .u8 ((b.edges[j].pos : Nat) : Int), .int .u8 ((b.edges[j].neg : Nat) : Int)], rowI (some ⟨bx2, 0, none⟩) n 4 1 (bools (sn3.set u true)), rowI sb4 sc4 129 2 (stpC sts3), rowI lb4 lc4 5 1 (byts la3), oI bx1 26 (buCells b sb sc eb ec tb tc)] OO rfl rfl, ?_⟩)⟩, ⟨_, rfl, rfl, l_build1 (v := .int .u8 ((b.edges[j].pos : Nat) : Int)) Try.underlying27 inf5 rfl rfl rfl (fun zQ => ⟨Sub.pick0 [1] [rowI (some ⟨zQ, 0, none⟩) 1 5 1 [.int .u8 ((b.edges[j].pos : Nat) : Int)], oI bx15 54 [.int .i64 b.edges[j].fr, .int .i64 b.edges[j].to, .int .u8 ((b.edges[j].pos : Nat) : Int), .int .u8 ((b.edges[j].neg : Nat) : Int)], rowI (some ⟨bx2, 0, none⟩) n 4 1 (bools (sn3.set u true)), rowI sb4 sc4 129 2 (stpC sts3), rowI lb4 lc4 5 1 (byts la3), oI bx1 26 (buCells b sb sc eb ec tb tc)] OO rfl rfl, ?_⟩)⟩, trivial⟩
        · refine RO.fork [6, 10] (by kernel_rfl) rfl ⟨⟨_, rfl, rfl, l_append 3 Try.underlying127 Try.underlying127 inf129 rfl rfl rfl rfl (stp_len _) (by decide) (Src.row (j := 0) rfl (by simp)) (by simp [oneB]) (by omega) (by decide) (by decide) (fun sb5 sc5 => ⟨Sub.pick0 [1] [rowI (some ⟨zP, 0, none⟩) 1 129 2 [.int .i64 ((u : Nat) : Int), .int .i64 (i : Int)], oI bx15 54 [.int .i64 b.edges[j].fr, .int .i64 b.edges[j].to, .int .u8 ((b.edges[j].pos : Nat) : Int), .int .u8 ((b.edges[j].neg : Nat) : Int)], rowI (some ⟨bx2, 0, none⟩) n 4 1 (bools (sn3.set u true)), rowI sb5 sc5 129 2 ((stpC sts3) ++ [.int .i64 ((u : Nat) : Int), .int .i64 (i : Int)]), rowI lb4 lc4 5 1 (byts la3), oI bx1 26 (buCells b sb sc eb ec tb tc)] OO rfl rfl, ?_⟩)⟩, ⟨_, rfl, rfl, l_build1 (v := .int .u8 ((b.edges[j].pos : Nat) : Int)) Try.underlying27 inf5 rfl rfl rfl (fun zQ => ⟨Sub.pick0 [2] [rowI (some ⟨zQ, 0, none⟩) 1 5 1 [.int .u8 ((b.edges[j].pos : Nat) : Int)], rowI (some ⟨zP, 0, none⟩) 1 129 2 [.int .i64 ((u : Nat) : Int), .int .i64 (i : Int)], oI bx15 54 [.int .i64 b.edges[j].fr, .int .i64 b.edges[j].to, .int .u8 ((b.edges[j].pos : Nat) : Int), .int .u8 ((b.edges[j].neg : Nat) : Int)], rowI (some ⟨bx2, 0, none⟩) n 4 1 (bools (sn3.set u true)), rowI sb4 sc4 129 2 (stpC sts3), rowI lb4 lc4 5 1 (byts la3), oI bx1 26 (buCells b sb sc eb ec tb tc)] OO rfl rfl, ?_⟩)⟩, trivial⟩
          · refine RO.fork [10] (by kernel_rfl) rfl ⟨⟨_, rfl, rfl, l_build1 (v := .int .u8 ((b.edges[j].pos : Nat) : Int)) Try.underlying27 inf5 rfl rfl rfl (fun zQ => ⟨Sub.pick0 [2] [rowI (some ⟨zQ, 0, none⟩) 1 5 1 [.int .u8 ((b.edges[j].pos : Nat) : Int)], rowI (some ⟨zP, 0, none⟩) 1 129 2 [.int .i64 ((u : Nat) : Int), .int .i64 (i : Int)], oI bx15 54 [.int .i64 b.edges[j].fr, .int .i64 b.edges[j].to, .int .u8 ((b.edges[j].pos : Nat) : Int), .int .u8 ((b.edges[j].neg : Nat) : Int)], rowI (some ⟨bx2, 0, none⟩) n 4 1 (bools (sn3.set u true)), rowI sb5 sc5 129 2 ((stpC sts3) ++ [.int .i64 ((u : Nat) : Int), .int .i64 (i : Int)]), rowI lb4 lc4 5 1 (byts la3), oI bx1 26 (buCells b sb sc eb ec tb tc)] OO rfl rfl, ?_⟩)⟩, trivial⟩
            refine RO.fork [11] (by kernel_rfl) rfl ⟨⟨_, rfl, rfl, l_append 5 Try.underlying27 Try.underlying27 inf5 rfl rfl rfl rfl (by simp) (by decide) (Src.row (j := 0) rfl (by simp)) (by simp [oneB]) (by omega) (by decide) (by decide) (fun lb5 lc5 => ⟨Sub.pick0 [2] [rowI (some ⟨zQ, 0, none⟩) 1 5 1 [.int .u8 ((b.edges[j].pos : Nat) : Int)], rowI (some ⟨zP, 0, none⟩) 1 129 2 [.int .i64 ((u : Nat) : Int), .int .i64 (i : Int)], oI bx15 54 [.int .i64 b.edges[j].fr, .int .i64 b.edges[j].to, .int .u8 ((b.edges[j].pos : Nat) : Int), .int .u8 ((b.edges[j].neg : Nat) : Int)], rowI (some ⟨bx2, 0, none⟩) n 4 1 (bools (sn3.set u true)), rowI sb5 sc5 129 2 ((stpC sts3) ++ [.int .i64 ((u : Nat) : Int), .int .i64 (i : Int)]), rowI lb5 lc5 5 1 ((byts la3) ++ [.int .u8 ((b.edges[j].pos : Nat) : Int)]), oI bx1 26 (buCells b sb sc eb ec tb tc)] OO rfl rfl, ?_⟩)⟩, trivial⟩
            refine RO.quietT 12 rfl (by kernel_rfl) (q_assign rfl) ?_
            refine RO.quietT 13 rfl (by kernel_rfl) (q_assign rfl) ?_
            exact RO.fin (by kernel_rfl) ⟨sb5, lb5, sc5, lc5, rfl, ⟨rfl, rfl, rfl, rfl, rfl, rfl, rfl, rfl, rfl, rfl, rfl, rfl, rfl, rfl, rfl, trivial⟩⟩ (Sub.pickR [3, 3, 3, 3, 2] [rowI (some ⟨zQ, 0, none⟩) 1 5 1 [.int .u8 ((b.edges[j].pos : Nat) : Int)], rowI (some ⟨zP, 0, none⟩) 1 129 2 [.int .i64 ((u : Nat) : Int), .int .i64 (i : Int)], oI bx15 54 [.int .i64 b.edges[j].fr, .int .i64 b.edges[j].to, .int .u8 ((b.edges[j].pos : Nat) : Int), .int .u8 ((b.edges[j].neg : Nat) : Int)], rowI (some ⟨bx2, 0, none⟩) n 4 1 (bools (sn3.set u true)), rowI sb5 sc5 129 2 ((stpC sts3) ++ [.int .i64 ((u : Nat) : Int), .int .i64 (i : Int)]), rowI lb5 lc5 5 1 ((byts la3) ++ [.int .u8 ((b.edges[j].pos : Nat) : Int)]), oI bx1 26 (buCells b sb sc eb ec tb tc)] OO rfl rfl)
          refine RO.fork [6] (by kernel_rfl) rfl ⟨⟨_, rfl, rfl, l_append 4 Try.underlying127 Try.underlying127 inf129 rfl rfl rfl rfl (stp_len _) (by decide) (Src.row (j := 1) rfl (by simp)) (by simp [oneB]) (by omega) (by decide) (by decide) (fun sb5 sc5 => ⟨Sub.pick0 [2] [rowI (some ⟨zQ, 0, none⟩) 1 5 1 [.int .u8 ((b.edges[j].pos : Nat) : Int)], rowI (some ⟨zP, 0, none⟩) 1 129 2 [.int .i64 ((u : Nat) : Int), .int .i64 (i : Int)], oI bx15 54 [.int .i64 b.edges[j].fr, .int .i64 b.edges[j].to, .int .u8 ((b.edges[j].pos : Nat) : Int), .int .u8 ((b.edges[j].neg : Nat) : Int)], rowI (some ⟨bx2, 0, none⟩) n 4 1 (bools (sn3.set u true)), rowI sb5 sc5 129 2 ((stpC sts3) ++ [.int .i64 ((u : Nat) : Int), .int .i64 (i : Int)]), rowI lb4 lc4 5 1 (byts la3), oI bx1 26 (buCells b sb sc eb ec tb tc)] OO rfl rfl, ?_⟩)⟩, trivial⟩
          refine RO.fork [11] (by kernel_rfl) rfl ⟨⟨_, rfl, rfl, l_append 5 Try.underlying27 Try.underlying27 inf5 rfl rfl rfl rfl (by simp) (by decide) (Src.row (j := 0) rfl (by simp)) (by simp [oneB]) (by omega) (by decide) (by decide) (fun lb5 lc5 => ⟨Sub.pick0 [2] [rowI (some ⟨zQ, 0, none⟩) 1 5 1 [.int .u8 ((b.edges[j].pos : Nat) : Int)], rowI (some ⟨zP, 0, none⟩) 1 129 2 [.int .i64 ((u : Nat) : Int), .int .i64 (i : Int)], oI bx15 54 [.int .i64 b.edges[j].fr, .int .i64 b.edges[j].to, .int .u8 ((b.edges[j].pos : Nat) : Int), .int .u8 ((b.edges[j].neg : Nat) : Int)], rowI (some ⟨bx2, 0, none⟩) n 4 1 (bools (sn3.set u true)), rowI sb5 sc5 129 2 ((stpC sts3) ++ [.int .i64 ((u : Nat) : Int), .int .i64 (i : Int)]), rowI lb5 lc5 5 1 ((byts la3) ++ [.int .u8 ((b.edges[j].pos : Nat) : Int)]), oI bx1 26 (buCells b sb sc eb ec tb tc)] OO rfl rfl, ?_⟩)⟩, trivial⟩
          refine RO.quietT 12 rfl (by kernel_rfl) (q_assign rfl) ?_
          refine RO.quietT 13 rfl (by kernel_rfl) (q_assign rfl) ?_
          exact RO.fin (by kernel_rfl) ⟨sb5, lb5, sc5, lc5, rfl, ⟨rfl, rfl, rfl, rfl, rfl, rfl, rfl, rfl, rfl, rfl, rfl, rfl, rfl, rfl, rfl, trivial⟩⟩ (Sub.pickR [3, 3, 3, 3, 2] [rowI (some ⟨zQ, 0, none⟩) 1 5 1 [.int .u8 ((b.edges[j].pos : Nat) : Int)], rowI (some ⟨zP, 0, none⟩) 1 129 2 [.int .i64 ((u : Nat) : Int), .int .i64 (i : Int)], oI bx15 54 [.int .i64 b.edges[j].fr, .int .i64 b.edges[j].to, .int .u8 ((b.edges[j].pos : Nat) : Int), .int .u8 ((b.edges[j].neg : Nat) : Int)], rowI (some ⟨bx2, 0, none⟩) n 4 1 (bools (sn3.set u true)), rowI sb5 sc5 129 2 ((stpC sts3) ++ [.int .i64 ((u : Nat) : Int), .int .i64 (i : Int)]), rowI lb5 lc5 5 1 ((byts la3) ++ [.int .u8 ((b.edges[j].pos : Nat) : Int)]), oI bx1 26 (buCells b sb sc eb ec tb tc)] OO rfl rfl)
        refine RO.fork [5] (by kernel_rfl) rfl ⟨⟨_, rfl, rfl, l_buildSlice (m := 1) (parts := [(0, _)]) (cs := [.int .i64 ((u : Nat) : Int), .int .i64 (i : Int)]) Try.underlying127 inf129 (by decide) (by kernel_rfl) rfl (fun zP => ⟨Sub.pick0 [2] [rowI (some ⟨zP, 0, none⟩) 1 129 2 [.int .i64 ((u : Nat) : Int), .int .i64 (i : Int)], rowI (some ⟨zQ, 0, none⟩) 1 5 1 [.int .u8 ((b.edges[j].pos : Nat) : Int)], oI bx15 54 [.int .i64 b.edges[j].fr, .int .i64 b.edges[j].to, .int .u8 ((b.edges[j].pos : Nat) : Int), .int .u8 ((b.edges[j].neg : Nat) : Int)], rowI (some ⟨bx2, 0, none⟩) n 4 1 (bools (sn3.set u true)), rowI sb4 sc4 129 2 (stpC sts3), rowI lb4 lc4 5 1 (byts la3), oI bx1 26 (buCells b sb sc eb ec tb tc)] OO rfl rfl, ?_⟩)⟩, trivial⟩
        refine RO.fork [6] (by kernel_rfl) rfl ⟨⟨_, rfl, rfl, l_append 4 Try.underlying127 Try.underlying127 inf129 rfl rfl rfl rfl (stp_len _) (by decide) (Src.row (j := 0) rfl (by simp)) (by simp [oneB]) (by omega) (by decide) (by decide) (fun sb5 sc5 => ⟨Sub.pick0 [2] [rowI (some ⟨zP, 0, none⟩) 1 129 2 [.int .i64 ((u : Nat) : Int), .int .i64 (i : Int)], rowI (some ⟨zQ, 0, none⟩) 1 5 1 [.int .u8 ((b.edges[j].pos : Nat) : Int)], oI bx15 54 [.int .i64 b.edges[j].fr, .int .i64 b.edges[j].to, .int .u8 ((b.edges[j].pos : Nat) : Int), .int .u8 ((b.edges[j].neg : Nat) : Int)], rowI (some ⟨bx2, 0, none⟩) n 4 1 (bools (sn3.set u true)), rowI sb5 sc5 129 2 ((stpC sts3) ++ [.int .i64 ((u : Nat) : Int), .int .i64 (i : Int)]), rowI lb4 lc4 5 1 (byts la3), oI bx1 26 (buCells b sb sc eb ec tb tc)] OO rfl rfl, ?_⟩)⟩, trivial⟩
        refine RO.fork [11] (by kernel_rfl) rfl ⟨⟨_, rfl, rfl, l_append 5 Try.underlying27 Try.underlying27 inf5 rfl rfl rfl rfl (by simp) (by decide) (Src.row (j := 1) rfl (by simp)) (by simp [oneB]) (by omega) (by decide) (by decide) (fun lb5 lc5 => ⟨Sub.pick0 [2] [rowI (some ⟨zP, 0, none⟩) 1 129 2 [.int .i64 ((u : Nat) : Int), .int .i64 (i : Int)], rowI (some ⟨zQ, 0, none⟩) 1 5 1 [.int .u8 ((b.edges[j].pos : Nat) : Int)], oI bx15 54 [.int .i64 b.edges[j].fr, .int .i64 b.edges[j].to, .int .u8 ((b.edges[j].pos : Nat) : Int), .int .u8 ((b.edges[j].neg : Nat) : Int)], rowI (some ⟨bx2, 0, none⟩) n 4 1 (bools (sn3.set u true)), rowI sb5 sc5 129 2 ((stpC sts3) ++ [.int .i64 ((u : Nat) : Int), .int .i64 (i : Int)]), rowI lb5 lc5 5 1 ((byts la3) ++ [.int .u8 ((b.edges[j].pos : Nat) : Int)]), oI bx1 26 (buCells b sb sc eb ec tb tc)] OO rfl rfl, ?_⟩)⟩, trivial⟩
        refine RO.quietT 12 rfl (by kernel_rfl) (q_assign rfl) ?_
        refine RO.quietT 13 rfl (by kernel_rfl) (q_assign rfl) ?_
        exact RO.fin (by kernel_rfl) ⟨sb5, lb5, sc5, lc5, rfl, ⟨rfl, rfl, rfl, rfl, rfl, rfl, rfl, rfl, rfl, rfl, rfl, rfl, rfl, rfl, rfl, trivial⟩⟩ (Sub.pickR [3, 3, 3, 3, 2] [rowI (some ⟨zP, 0, none⟩) 1 129 2 [.int .i64 ((u : Nat) : Int), .int .i64 (i : Int)], rowI (some ⟨zQ, 0, none⟩) 1 5 1 [.int .u8 ((b.edges[j].pos : Nat) : Int)], oI bx15 54 [.int .i64 b.edges[j].fr, .int .i64 b.edges[j].to, .int .u8 ((b.edges[j].pos : Nat) : Int), .int .u8 ((b.edges[j].neg : Nat) : Int)], rowI (some ⟨bx2, 0, none⟩) n 4 1 (bools (sn3.set u true)), rowI sb5 sc5 129 2 ((stpC sts3) ++ [.int .i64 ((u : Nat) : Int), .int .i64 (i : Int)]), rowI lb5 lc5 5 1 ((byts la3) ++ [.int .u8 ((b.edges[j].pos : Nat) : Int)]), oI bx1 26 (buCells b sb sc eb ec tb tc)] OO rfl rfl)
      rintro ρ O ⟨sb5, lb5, sc5, lc5, rfl, hH⟩
      obtain ⟨ρ0, rfl⟩ := hH.elim
      clear hH
      refine T.seq (T.seq ?_)
      refine T.sub (O' := [rowI (some ⟨bx2, 0, none⟩) n 4 1 (bools (sn3.set u true)), rowI sb5 sc5 129 2 (stpC (sts3 ++ [(u, (i : Int))])), rowI lb5 lc5 5 1 (byts (la3 ++ [b.edges[j].pos])), oI bx1 26 (buCells b sb sc eb ec tb tc), oI bx15 54 [.int .i64 b.edges[j].fr, .int .i64 b.edges[j].to, .int .u8 ((b.edges[j].pos : Nat) : Int), .int .u8 ((b.edges[j].neg : Nat) : Int)]] ++ OO) (by rw [stp_snoc, show byts (la3 ++ [b.edges[j].pos]) = byts la3 ++ [.int .u8 ((b.edges[j].pos : Nat) : Int)] from List.map_append]; exact Sub.of (List.Sublist.refl _)) ?_
      refine T.region ?_
      refine TO.quiet (q_move rfl) (TO.quiet (q_fieldAddr Try.underlying54 rfl inf3 rfl rfl) (TO.quiet (QT.cast (q_load_box 4 Try.underlying3 rfl rfl rfl rfl) (v' := .int .i64 ((u : Nat) : Int)) (by show Value.int _ _ = _; rw [hu])) ?_))
      have hk107 := (show CallV Try.prog base fv [.int .i64 (u : Int)] ([rowI (some ⟨bx2, 0, none⟩) n 4 1 (bools (sn3.set u true)), rowI sb5 sc5 129 2 (stpC (sts3 ++ [(u, (i : Int))])), rowI lb5 lc5 5 1 (byts (la3 ++ [b.edges[j].pos])), oI bx1 26 (buCells b sb sc eb ec tb tc), oI bx15 54 [.int .i64 b.edges[j].fr, .int .i64 b.edges[j].to, .int .u8 ((b.edges[j].pos : Nat) : Int), .int .u8 ((b.edges[j].neg : Nat) : Int)]] ++ OO) (fun v O' => v = .bool (p (u : Int)) ∧ O' = [rowI (some ⟨bx2, 0, none⟩) n 4 1 (bools (sn3.set u true)), rowI sb5 sc5 129 2 (stpC (sts3 ++ [(u, (i : Int))])), rowI lb5 lc5 5 1 (byts (la3 ++ [b.edges[j].pos])), oI bx1 26 (buCells b sb sc eb ec tb tc), oI bx15 54 [.int .i64 b.edges[j].fr, .int .i64 b.edges[j].to, .int .u8 ((b.edges[j].pos : Nat) : Int), .int .u8 ((b.edges[j].neg : Nat) : Int)]] ++ OO) from (CallV.atR [rowI (some ⟨bx2, 0, none⟩) n 4 1 (bools (sn3.set u true)), rowI sb5 sc5 129 2 (stpC (sts3 ++ [(u, (i : Int))])), rowI lb5 lc5 5 1 (byts (la3 ++ [b.edges[j].pos])), oI bx1 26 (buCells b sb sc eb ec tb tc), oI bx15 54 [.int .i64 b.edges[j].fr, .int .i64 b.edges[j].to, .int .u8 ((b.edges[j].pos : Nat) : Int), .int .u8 ((b.edges[j].neg : Nat) : Int)]] (hy u hun)).mono (fun v O' ⟨A', e1, e2, e3⟩ => ⟨e2, by rw [e1, e3]⟩))
      refine TO.loud rfl (l_callG hk107 rfl rfl ?_)
      clear hk107
      rintro vr O' ⟨rfl, rfl⟩
      refine TO.quiet (q_not rfl) ?_
      refine TO.nil ?_
      refine T.cond rfl (fun hc => ?_) (fun hc => ?_)
      · refine T.exit ?_
        refine T.region ?_
        refine TO.quiet (q_addN (a := j) (b := 1) rfl rfl (by omega)) (TO.quiet (q_move rfl) ?_)
        refine TO.nil ?_
        exact ⟨j + 1, by omega, ([rowI (some ⟨bx2, 0, none⟩) n 4 1 (bools (sn3.set u true)), rowI sb5 sc5 129 2 (stpC (sts3 ++ [(u, (i : Int))])), rowI lb5 lc5 5 1 (byts (la3 ++ [b.edges[j].pos])), oI bx1 26 (buCells b sb sc eb ec tb tc)] ++ OO), (Sub.pickR [0, 0, 0, 0] [rowI (some ⟨bx2, 0, none⟩) n 4 1 (bools (sn3.set u true)), rowI sb5 sc5 129 2 (stpC (sts3 ++ [(u, (i : Int))])), rowI lb5 lc5 5 1 (byts (la3 ++ [b.edges[j].pos])), oI bx1 26 (buCells b sb sc eb ec tb tc), oI bx15 54 [.int .i64 b.edges[j].fr, .int .i64 b.edges[j].to, .int .u8 ((b.edges[j].pos : Nat) : Int), .int .u8 ((b.edges[j].neg : Nat) : Int)]] OO rfl rfl), sts3 ++ [(u, (i : Int))], la3 ++ [b.edges[j].pos], sn3.set u true, sb5, lb5, sc5, lc5, rfl, by omega, by simp; omega, hlp3.add hlt62 hi3 hfr hu hun hns hau (by simpa using hc), by rw [nr_snoc]; simp; omega, ⟨rfl, rfl, rfl, rfl, rfl, rfl, rfl, rfl, (by rw [List.length_append]; rfl), (by rw [List.length_append]; rfl), rfl, rfl, rfl, rfl, trivial⟩⟩
      have hpu : p (u : Int) = true := by simpa using hc
      refine T.skip (T.seq (T.seq (T.region ?_)))
      refine TO.quiet (q_move rfl) (TO.quiet (q_len Try.underlying127 rfl) (TO.quiet (QT.cast (q_subN (a := sts3.length + 1) (b := 1) rfl rfl (by omega) (by omega)) (v' := .int .i64 ((sts3.length : Nat) : Int)) (by rw [Nat.add_sub_cancel])) (TO.quiet (q_assign rfl) ?_)))
      refine TO.nil (T.block ?_)
      refine T.nilRow 5 1 ?_
      have hch := (hlp3.ch.push hi3 (List.getElem_mem hlt62) hfr hu hun hau (hlp3.fresh hun hns))
      refine T.loopS (fun (k4 : Nat) ρ O => ∃ (w : List Nat) (wb : Option Addr) (wc : Nat), O = ([rowI wb wc 5 1 (byts w), rowI (some ⟨bx2, 0, none⟩) n 4 1 (bools (sn3.set u true)), rowI sb5 sc5 129 2 (stpC (sts3 ++ [(u, (i : Int))])), rowI lb5 lc5 5 1 (byts (la3 ++ [b.edges[j].pos])), oI bx1 26 (buCells b sb sc eb ec tb tc), oI bx15 54 [.int .i64 b.edges[j].fr, .int .i64 b.edges[j].to, .int .u8 ((b.edges[j].pos : Nat) : Int), .int .u8 ((b.edges[j].neg : Nat) : Int)]] ++ OO) ∧ (w = [] → k4 = sts3.length) ∧ BackP b (fun v => av.getD v false) (sts3 ++ [(u, (i : Int))]) k4 w u (nr (sts3 ++ [(u, (i : Int))]) sts3.length) ∧ Heads [(0, (.agg (buCells b sb sc eb ec tb tc).toArray)), (1, (.slice fb frm.length fc)), (2, (.slice ab av.length ac)), (3, .bool far), (4, fv), (5, (.pointer (some ⟨bx1, 0, none⟩))), (10, (.slice wb w.length wc)), (12, (.slice (some ⟨bx2, 0, none⟩) n n)), (13, (.slice sb5 (sts3.length + 1) sc5)), (14, (.slice lb5 (la3.length + 1) lc5)), (17, .int .i64 (i : Int)), (19, (.pointer (some ⟨bx15, 0, none⟩))), (20, .int .i64 (k4 : Int)), (59, (.slice eb b.edges.length ec)), (60, .int .i64 (b.edges.length : Int)), (61, .int .i64 (j : Int))] ρ) (fun k4 => k4) sts3.length ?_ ?_
      · refine ⟨[], none, 0, rfl, (fun _ => rfl), ?_, ⟨rfl, rfl, rfl, rfl, rfl, rfl, rfl, rfl, rfl, rfl, rfl, rfl, rfl, rfl, rfl, rfl, trivial⟩⟩
        have h9 := BackP.start (b := b) (al := (fun v => av.getD v false)) (sts := sts3 ++ [(u, (i : Int))]) (k := sts3.length) (by simp)
        simpa using h9
      rintro k4 ρ O ⟨w, wb, wc, rfl, hwn, hbk, hH⟩
      obtain ⟨ρ0, rfl⟩ := hH.elim
      clear hH
      have hkk := hbk.hk
      have hkk2 : k4 < sts3.length + 1 := by simpa using hkk
      have hwl : w.length ≤ n := by have := hbk.len; have := hch.bound (k := sts3.length) (by simp); omega
      refine T.seq (T.seq (T.region ?_))
      refine TO.quiet (q_move rfl) (TO.quiet (q_move rfl) (TO.quiet (q_ixK (i := k4) Try.underlying127 inf129 rfl rfl (rowO (List.mem_of_getElem? (i := 2) rfl)) (by first | assumption | omega | (simp; omega) | simp_all) (by first | (rw [stp_len]; omega) | (simp [stp_len]; omega) | (simp_all [stp_len]; omega))) (TO.quiet (q_fieldEl Try.underlying129 rfl inf3 rfl rfl (rowO (List.mem_of_getElem? (i := 2) rfl)) (by first | (rw [stp_len]; omega) | (simp [stp_len]; omega) | (simp_all [stp_len]; omega))) ?_)))
      refine TO.quiet (q_ld Try.underlying3 rfl rfl (rowO (List.mem_of_getElem? (i := 2) rfl)) (show (stpC (sts3 ++ [(u, (i : Int))]))[k4 * 2 + 1]? = some (.int .i64 ((sts3 ++ [(u, (i : Int))])[k4]'hkk).2) by rw [stp_get hkk 1 (by decide)]; rfl)) (TO.quiet (q_geq rfl rfl) ?_)
      refine TO.nil ?_
      refine T.condP rfl (fun hc => ?_) (fun hc => ?_)
      · obtain ⟨q, hqk, hqe, hkl, hbk2⟩ := hbk.step hch (by omega)
        refine T.skip (T.seq (T.block (T.region ?_)))
        refine TO.quiet (q_move rfl) (TO.quiet (q_move rfl) (TO.quiet (q_move rfl) (TO.quiet (q_ix (i := k4) Try.underlying27 inf5 rfl rfl (rowO (List.mem_of_getElem? (i := 3) rfl))) ?_)))
        refine TO.quiet (q_ld Try.underlying5 rfl rfl (rowO (List.mem_of_getElem? (i := 3) rfl)) (byts_get hkl)) ?_
        refine TO.loud rfl (l_build1 (v := .int .u8 (((la3 ++ [b.edges[j].pos])[k4]'hkl : Nat) : Int)) Try.underlying27 inf5 rfl rfl rfl (fun bx16 => ?_))
        refine TO.loud rfl (l_append 1 Try.underlying27 Try.underlying27 inf5 rfl rfl rfl rfl (by simp) (by decide) (Src.row (j := 0) rfl (by simp)) (by simp [oneB]) (by omega) (by decide) (by decide) (fun bx17 c18 => ?_))
        refine TO.quiet (q_assign rfl) ?_
        refine TO.nil (T.region ?_)
        refine TO.quiet (q_move rfl) (TO.quiet (q_move rfl) (TO.quiet (q_ixK (i := k4) Try.underlying127 inf129 rfl rfl (rowO (List.mem_of_getElem? (i := 3) rfl)) (by first | assumption | omega | (simp; omega) | simp_all) (by first | (rw [stp_len]; omega) | (simp [stp_len]; omega) | (simp_all [stp_len]; omega))) (TO.quiet (q_fieldEl Try.underlying129 rfl inf3 rfl rfl (rowO (List.mem_of_getElem? (i := 3) rfl)) (by first | (rw [stp_len]; omega) | (simp [stp_len]; omega) | (simp_all [stp_len]; omega))) ?_)))
        refine TO.quiet (q_ld Try.underlying3 rfl rfl (rowO (List.mem_of_getElem? (i := 3) rfl)) (show (stpC (sts3 ++ [(u, (i : Int))]))[k4 * 2 + 1]? = some (.int .i64 ((q : Nat) : Int)) by rw [stp_get hkk 1 (by decide), ← hqe]; rfl)) (TO.quiet (q_assign rfl) ?_)
        refine TO.nil ?_
        exact ⟨q, by omega, ([rowI bx17 c18 5 1 ((byts w) ++ [.int .u8 (((la3 ++ [b.edges[j].pos])[k4]'hkl : Nat) : Int)]), rowI (some ⟨bx2, 0, none⟩) n 4 1 (bools (sn3.set u true)), rowI sb5 sc5 129 2 (stpC (sts3 ++ [(u, (i : Int))])), rowI lb5 lc5 5 1 (byts (la3 ++ [b.edges[j].pos])), oI bx1 26 (buCells b sb sc eb ec tb tc), oI bx15 54 [.int .i64 b.edges[j].fr, .int .i64 b.edges[j].to, .int .u8 ((b.edges[j].pos : Nat) : Int), .int .u8 ((b.edges[j].neg : Nat) : Int)]] ++ OO), (Sub.pickR [1, 1, 1, 1, 1, 1] [rowI (some ⟨bx16, 0, none⟩) 1 5 1 [.int .u8 (((la3 ++ [b.edges[j].pos])[k4]'hkl : Nat) : Int)], rowI bx17 c18 5 1 ((byts w) ++ [.int .u8 (((la3 ++ [b.edges[j].pos])[k4]'hkl : Nat) : Int)]), rowI (some ⟨bx2, 0, none⟩) n 4 1 (bools (sn3.set u true)), rowI sb5 sc5 129 2 (stpC (sts3 ++ [(u, (i : Int))])), rowI lb5 lc5 5 1 (byts (la3 ++ [b.edges[j].pos])), oI bx1 26 (buCells b sb sc eb ec tb tc), oI bx15 54 [.int .i64 b.edges[j].fr, .int .i64 b.edges[j].to, .int .u8 ((b.edges[j].pos : Nat) : Int), .int .u8 ((b.edges[j].neg : Nat) : Int)]] OO rfl rfl), w ++ [(la3 ++ [b.edges[j].pos])[k4]'hkl], bx17, c18, (by rw [show byts (w ++ [(la3 ++ [b.edges[j].pos])[k4]'hkl]) = byts w ++ [.int .u8 (((la3 ++ [b.edges[j].pos])[k4]'hkl : Nat) : Int)] from List.map_append]), (fun h9 => by simp at h9), hbk2, ⟨rfl, rfl, rfl, rfl, rfl, rfl, (by rw [List.length_append]; rfl), rfl, rfl, rfl, rfl, rfl, rfl, rfl, rfl, rfl, trivial⟩⟩
      have hge117 := hc
      refine T.exit ?_
      refine T.seq (T.region ?_)
      refine TO.quiet (q_move rfl) ?_
      have hk131 := CallT.under (A := [rowI wb wc 5 1 (byts w)]) (B := [rowI (some ⟨bx2, 0, none⟩) n 4 1 (bools (sn3.set u true)), rowI sb5 sc5 129 2 (stpC (sts3 ++ [(u, (i : Int))])), rowI lb5 lc5 5 1 (byts (la3 ++ [b.edges[j].pos])), oI bx1 26 (buCells b sb sc eb ec tb tc), oI bx15 54 [.int .i64 b.edges[j].fr, .int .i64 b.edges[j].to, .int .u8 ((b.edges[j].pos : Nat) : Int), .int .u8 ((b.edges[j].neg : Nat) : Int)]] ++ OO) (O := ([rowI wb wc 5 1 (byts w), rowI (some ⟨bx2, 0, none⟩) n 4 1 (bools (sn3.set u true)), rowI sb5 sc5 129 2 (stpC (sts3 ++ [(u, (i : Int))])), rowI lb5 lc5 5 1 (byts (la3 ++ [b.edges[j].pos])), oI bx1 26 (buCells b sb sc eb ec tb tc), oI bx15 54 [.int .i64 b.edges[j].fr, .int .i64 b.edges[j].to, .int .u8 ((b.edges[j].pos : Nat) : Int), .int .u8 ((b.edges[j].neg : Nat) : Int)]] ++ OO)) (reverseB base wb wc wc w (by omega)) (Sub.of (List.Sublist.refl _))
      refine TO.loud rfl (l_call ent106 hk131 rfl ?_)
      clear hk131
      rintro vr O' ⟨A1, rfl, rfl⟩
      refine TO.nil (T.seq ?_)
      refine T.draws _ [(0, 0), (1, 0), (2, 0), (3, 0), (4, 0)] mixed (by kernel_rfl) (Sub.of (List.Sublist.refl _)) (fun _ _ _ h => h) ?_
      refine DO.quiet rfl (q_move rfl) (DO.quiet rfl (q_fieldAddr Try.underlying54 rfl inf3 rfl rfl) (DO.quiet rfl (QT.cast (q_load_box 5 Try.underlying3 rfl rfl rfl rfl) (v' := .int .i64 ((u : Nat) : Int)) (by show Value.int _ _ = _; rw [hu])) (DO.quiet rfl (q_assign rfl) ?_)))
      refine DO.quiet rfl (q_assign rfl) ?_
      refine DO.done ?_
      refine T.ret (Res.drop ?_)
      refine Res.two (.slice wb w.length wc) (.int .i64 ((u : Nat) : Int)) Try.results72 rfl rfl ?_
      obtain ⟨s, hs, hp⟩ := hbk.done hch (by omega)
      have hbd := hch.bound (k := sts3.length) (by simp)
      have hbl := hbk.len
      rw [← hnn] at hbd
      refine ⟨[rowI wb wc 5 1 (byts w.reverse)] ++ OO, (Sub.pickR [0] [rowI wb wc 5 1 (byts w.reverse), rowI (some ⟨bx2, 0, none⟩) n 4 1 (bools (sn3.set u true)), rowI sb5 sc5 129 2 (stpC (sts3 ++ [(u, (i : Int))])), rowI lb5 lc5 5 1 (byts (la3 ++ [b.edges[j].pos])), oI bx1 26 (buCells b sb sc eb ec tb tc), oI bx15 54 [.int .i64 b.edges[j].fr, .int .i64 b.edges[j].to, .int .u8 ((b.edges[j].pos : Nat) : Int), .int .u8 ((b.edges[j].neg : Nat) : Int)]] OO rfl rfl), w.reverse, u, wb, wc, by rw [List.length_reverse], rfl, ⟨s, hs, hp⟩, hun, hpu, fun hfar hw => ?_, ?_⟩
      · have hw2 : w = [] := by simpa using hw
        have hk9 := hwn hw2
        subst hk9
        rw [List.getElem_append_right (Nat.le_refl _)] at hge117
        simp at hge117
      · rw [List.length_reverse]; omega
    have hge62 : ¬ j < b.edges.length := by omega
    refine T.exit ?_
    refine T.region ?_
    refine TO.quiet (q_move rfl) (TO.quiet (q_addN (a := i) (b := 1) rfl rfl (by omega)) (TO.quiet (q_assign rfl) ?_))
    refine TO.nil ?_
    exact ⟨i + 1, by have := hlp3.ch.len_le; omega, sts3, la3, sn3, sb4, lb4, sc4, lc4, rfl, by omega, hlp3.next (by omega) (by omega), hcn3, ⟨rfl, rfl, rfl, rfl, rfl, rfl, rfl, rfl, rfl, rfl, rfl, trivial⟩⟩
  have hge55 : ¬ i < sts.length := by omega
  refine T.exit ?_
  refine T.seq (T.region ?_)
  refine TO.quiet (q_assign rfl) (TO.quiet (q_assign rfl) ?_)
  refine TO.nil (T.ret (Res.drop ?_))
  refine Res.two (.slice none 0 0) (.int .i64 (-1)) Try.results72 rfl rfl ?_
  exfalso
  obtain ⟨s, hs, w, t, hpw, hpt, hw⟩ := hex
  have h9 := hlp.none (by omega) (fun e he => by have := (hv.ed e he).2; omega) hs hpw hw
  rw [h9] at hpt; cases hpt
end Go.Proofs.Ytnamoapbienooaa


namespace Go.Lx
set_option linter.unusedVariables false
section
variable {w : Nat → Nat}
def Bd (w : Nat → Nat) (n c : Nat) : Prop := c < n ∧ ∀ i, i < c → w i = w (n - c + i)
structure LB (w : Nat → Nat) (n c : Nat) : Prop where
  b : Bd w n c
  m : ∀ d, Bd w n d → d ≤ c
def Per (w : Nat → Nat) (n p : Nat) : Prop := ∀ i, i + p < n → w i = w (i + p)
theorem Bd.zero {n : Nat} (h : 0 < n) : Bd w n 0 := ⟨h, fun i hi => by omega⟩
theorem Bd.sub {n k d : Nat} (h : Bd w n k) (h2 : Bd w k d) : Bd w n d := by
  refine ⟨by have := h.1; have := h2.1; omega, fun i hi => ?_⟩
  have h1 := h.1; have h3 := h2.1
  rw [h2.2 i hi, h.2 (k - d + i) (by omega)]
  congr 1; omega
theorem Bd.of {n k d : Nat} (h : Bd w n k) (h2 : Bd w n d) (hlt : d < k) : Bd w k d := by
  refine ⟨hlt, fun i hi => ?_⟩
  have h1 := h.1
  rw [h2.2 i hi, h.2 (k - d + i) (by omega)]
  congr 1; omega
theorem Bd.per {n c : Nat} : Bd w n c ↔ c < n ∧ Per w n (n - c) := by
  constructor
  · rintro ⟨h, h2⟩
    refine ⟨h, fun i hi => ?_⟩
    rw [h2 i (by omega)]; congr 1; omega
  · rintro ⟨h, h2⟩
    refine ⟨h, fun i hi => ?_⟩
    rw [h2 i (by omega)]; congr 1; omega
def Cand (w : Nat → Nat) (i k : Nat) : Prop := Bd w i k ∧ ∀ d, Bd w i d → w d = w i → d ≤ k
end
namespace KMP
variable {w : Nat → Nat}
theorem start {i k : Nat} (h : LB w i k) : Cand w i k := ⟨h.b, fun d hd _ => h.m d hd⟩
theorem next {i k k' : Nat} (h : Cand w i k) (hne : w i ≠ w k) (hk : LB w k k') : Cand w i k' :=
  ⟨h.1.sub hk.b, fun d hd hw => by
    have h1 := h.2 d hd hw
    by_cases e : d = k
    · subst e; exact absurd hw.symm hne
    · exact hk.m d (h.1.of hd (by omega))⟩
theorem hit {i k : Nat} (h : Cand w i k) (he : w i = w k) : LB w (i + 1) (k + 1) := by
  have h1 := h.1.1
  refine ⟨⟨by omega, fun j hj => ?_⟩, fun d hd => ?_⟩
  · by_cases e : j = k
    · subst e; rw [show i + 1 - (j + 1) + j = i by omega]; exact he.symm
    · rw [h.1.2 j (by omega)]; congr 1; omega
  · cases d with
    | zero => omega
    | succ d =>
      have h2 := hd.1
      have : d ≤ k := h.2 d ⟨by omega, fun j hj => by rw [hd.2 j (by omega)]; congr 1; omega⟩ (by rw [hd.2 d (by omega)]; congr 1; omega)
      omega
theorem miss {i : Nat} (h : Cand w i 0) (he : w i ≠ w 0) : LB w (i + 1) 0 := by
  refine ⟨Bd.zero (by omega), fun d hd => ?_⟩
  cases d with
  | zero => omega
  | succ d =>
    have h2 := hd.1
    have hw : w d = w i := by rw [hd.2 d (by omega)]; congr 1; omega
    have : d ≤ 0 := h.2 d ⟨by omega, fun j hj => by rw [hd.2 j (by omega)]; congr 1; omega⟩ hw
    have : d = 0 := by omega
    subst this
    exact absurd hw.symm he
theorem one : LB w 1 0 := ⟨Bd.zero (by omega), fun d hd => by have := hd.1; omega⟩
end KMP
section
variable {w : Nat → Nat}
theorem per_gcd : ∀ (N n p q : Nat), p + q ≤ N → 0 < p → 0 < q → p + q ≤ n → Per w n p → Per w n q → Per w n (Nat.gcd p q)
  | 0, n, p, q, hN, hp, hq, _, _, _ => by omega
  | N + 1, n, p, q, hN, hp, hq, hn, h1, h2 => by
    have sub : ∀ p q : Nat, q < p → 0 < q → p + q ≤ n → Per w n p → Per w n q → Per w n (p - q) := fun p q hlt hq hn h1 h2 i hi => by
      by_cases e : q ≤ i
      · have e1 := h2 (i - q) (by omega)
        rw [Nat.sub_add_cancel e] at e1
        have e2 := h1 (i - q) (by omega)
        rw [← e1, e2]; congr 1; omega
      · have e1 := h2 (i + (p - q)) (by omega)
        rw [h1 i (by omega), e1]; congr 1; omega
    rcases Nat.lt_trichotomy p q with h | h | h
    · have h3 := per_gcd N n p (q - p) (by omega) hp (by omega) (by omega) h1 (sub q p h hp (by omega) h2 h1)
      rwa [show Nat.gcd p (q - p) = Nat.gcd p q by rw [← Nat.gcd_add_self_right p (q - p), Nat.sub_add_cancel (Nat.le_of_lt h)]] at h3
    · subst h; rwa [Nat.gcd_self]
    · have h3 := per_gcd N n (p - q) q (by omega) (by omega) hq (by omega) (sub p q h hq hn h1 h2) h2
      rwa [show Nat.gcd (p - q) q = Nat.gcd p q by rw [Nat.gcd_comm, ← Nat.gcd_add_self_right q (p - q), Nat.sub_add_cancel (Nat.le_of_lt h), Nat.gcd_comm]] at h3
theorem Per.mod {n p : Nat} (hp : 0 < p) (h : Per w n p) : ∀ i, i < n → w i = w (i % p) := by
  intro i
  induction i using Nat.strongRecOn with
  | _ i ih =>
    intro hi
    by_cases e : i < p
    · rw [Nat.mod_eq_of_lt e]
    · have h1 := h (i - p) (by omega)
      rw [Nat.sub_add_cancel (by omega)] at h1
      rw [← h1, ih (i - p) (by omega) (by omega), Nat.mod_eq_sub_mod (by omega : p ≤ i)]
theorem Per.of_mod {n p : Nat} (h : ∀ i, i < n → w i = w (i % p)) : Per w n p := fun i hi => by
  rw [h i (by omega), h (i + p) hi, Nat.add_mod_right]
structure Root (w : Nat → Nat) (n q : Nat) : Prop where
  pos : 0 < q
  dvd : q ∣ n
  rep : ∀ i, i < n → w i = w (i % q)
  prim : ∀ d, 0 < d → d ∣ q → (∀ i, i < q → w i = w (i % d)) → d = q
theorem root_of {n c : Nat} (hn : 0 < n) (h : LB w n c) : Root w n (if n % (n - c) = 0 then n - c else n) := by
  have hc := h.b.1
  have hper := (Bd.per.1 h.b).2
  have hmin : ∀ d, 0 < d → d ≤ n → Per w n d → n - c ≤ d := fun d hd hdn hp => by
    have := h.m (n - d) (Bd.per.2 ⟨by omega, by rwa [show n - (n - d) = d by omega]⟩)
    omega
  by_cases hdv : n % (n - c) = 0
  · rw [if_pos hdv]
    have hdvd : n - c ∣ n := Nat.dvd_of_mod_eq_zero hdv
    refine ⟨by omega, hdvd, hper.mod (by omega), fun d hd hdq hrep => ?_⟩
    have h1 : Per w n d := Per.of_mod fun i hi => by
      rw [hper.mod (by omega) i hi, hrep _ (Nat.mod_lt _ (by omega)), Nat.mod_mod_of_dvd _ hdq]
    have h2 := Nat.le_of_dvd (by omega) hdq
    have := hmin d hd (by omega) h1
    omega
  · rw [if_neg hdv]
    refine ⟨hn, Nat.dvd_refl _, fun i hi => by rw [Nat.mod_eq_of_lt hi], fun d hd hdn hrep => ?_⟩
    apply Classical.byContradiction
    intro hne
    have h1 : Per w n d := Per.of_mod hrep
    obtain ⟨t, ht⟩ := hdn
    have ht2 : 2 ≤ t := by
      rcases t with _ | _ | t
      · simp at ht; omega
      · simp at ht; omega
      · omega
    have hdle : d * 2 ≤ n := by rw [ht]; exact Nat.mul_le_mul_left d ht2
    have hp := hmin d hd (by omega) h1
    have hg := per_gcd _ n (n - c) d (Nat.le_refl _) (by omega) hd (by omega) hper h1
    have hgp : 0 < Nat.gcd (n - c) d := Nat.gcd_pos_of_pos_right _ hd
    have hgl : Nat.gcd (n - c) d ≤ n - c := Nat.gcd_le_left d (by omega)
    have hge := hmin _ hgp (by omega) hg
    have he : Nat.gcd (n - c) d = n - c := by omega
    have h3 : n - c ∣ d := he ▸ Nat.gcd_dvd_right (n - c) d
    exact hdv (Nat.mod_eq_zero_of_dvd (Nat.dvd_trans h3 ⟨t, ht⟩))
end
def La.u (l : La) (i : Nat) : Nat := l.loop.getD (i % l.loop.length) 0
structure IsCanon (l : La) : Prop where
  pos : 0 < l.loop.length
  prim : ∀ d, 0 < d → d ∣ l.loop.length → (∀ i, l.u (i + d) = l.u i) → d = l.loop.length
  last : 0 < l.pre.length → l.pre.getD (l.pre.length - 1) 0 ≠ l.loop.getD (l.loop.length - 1) 0
theorem La.at_u {l : La} (h : 0 < l.loop.length) (i : Nat) : l.at (l.pre.length + i) = l.u i := by
  unfold La.at La.u
  rw [if_neg (by omega), Nat.add_sub_cancel_left, show max l.loop.length 1 = l.loop.length by omega]
def EP (W : Nat → Nat) (p : Nat) : Prop := ∃ N, ∀ i, N ≤ i → W (i + p) = W i
theorem EP.sub {W : Nat → Nat} {p q : Nat} (h : q ≤ p) (h1 : EP W p) (h2 : EP W q) : EP W (p - q) := by
  obtain ⟨N, h1⟩ := h1
  obtain ⟨M, h2⟩ := h2
  refine ⟨max N M, fun i hi => ?_⟩
  have e1 := h2 (i + (p - q)) (by omega)
  rw [show i + (p - q) + q = i + p by omega, h1 i (by omega)] at e1
  exact e1.symm
theorem EP.gcd {W : Nat → Nat} : ∀ (N p q : Nat), p + q ≤ N → EP W p → EP W q → EP W (Nat.gcd p q)
  | 0, p, q, hN, h1, h2 => by
    have : p = 0 := by omega
    subst this; rw [Nat.gcd_zero_left]; exact h2
  | N + 1, p, q, hN, h1, h2 => by
    by_cases hp : p = 0
    · subst hp; rw [Nat.gcd_zero_left]; exact h2
    by_cases hq : q = 0
    · subst hq; rw [Nat.gcd_zero_right]; exact h1
    by_cases h : p ≤ q
    · have h3 := EP.gcd N p (q - p) (by omega) h1 (EP.sub h h2 h1)
      rwa [show Nat.gcd p (q - p) = Nat.gcd p q by rw [← Nat.gcd_add_self_right p (q - p), Nat.sub_add_cancel h]] at h3
    · have h3 := EP.gcd N (p - q) q (by omega) (EP.sub (by omega) h1 h2) h2
      rwa [show Nat.gcd (p - q) q = Nat.gcd p q by rw [Nat.gcd_comm, ← Nat.gcd_add_self_right q (p - q), Nat.sub_add_cancel (by omega), Nat.gcd_comm]] at h3
structure CanP (l : La) (q n a : Nat) : Prop where
  nl : n ≤ l.pre.length
  a0 : 0 < a
  aq : a ≤ q
  tail : ∀ i, n ≤ i → l.at i = l.loop.getD ((a + (i - n)) % q) 0
theorem CanP.start {l : La} {q : Nat} (h0 : 0 < l.loop.length) (hr : Root (fun i => l.loop.getD i 0) l.loop.length q) : CanP l q l.pre.length q := by
  refine ⟨Nat.le_refl _, hr.pos, Nat.le_refl _, fun i hi => ?_⟩
  obtain ⟨j, rfl⟩ := Nat.exists_eq_add_of_le hi
  rw [La.at_u h0, Nat.add_sub_cancel_left, Nat.add_mod_left]
  unfold La.u
  have := hr.rep (j % l.loop.length) (Nat.mod_lt _ h0)
  rw [this, Nat.mod_mod_of_dvd _ hr.dvd]
theorem CanP.step {l : La} {q n a : Nat} (h : CanP l q n a) (hn : 0 < n) (he : l.pre.getD (n - 1) 0 = l.loop.getD ((a - 1) % q) 0) : CanP l q (n - 1) (if a - 1 = 0 then q else a - 1) := by
  have h1 := h.nl; have h2 := h.a0; have h3 := h.aq
  refine ⟨by omega, by split <;> omega, by split <;> omega, fun i hi => ?_⟩
  by_cases e : i = n - 1
  · subst e
    have : l.at (n - 1) = l.pre.getD (n - 1) 0 := by unfold La.at; rw [if_pos (by omega)]
    rw [this, he, Nat.sub_self, Nat.add_zero]
    split
    · rename_i e; rw [e, Nat.zero_mod, Nat.mod_self]
    · rfl
  · rw [h.tail i (by omega)]
    split
    · rw [show i - (n - 1) = i - n + 1 by omega, show a + (i - n) = i - n + 1 by omega, Nat.add_mod_left]
    · rw [show a - 1 + (i - (n - 1)) = a + (i - n) by omega]
theorem rot_get {s : List Nat} {a : Nat} (ha : a < s.length) (i : Nat) (hi : i < s.length) : (s.drop a ++ s.take a).getD i 0 = s.getD ((a + i) % s.length) 0 := by
  rw [List.getD_eq_getElem?_getD, List.getD_eq_getElem?_getD]
  by_cases h : i < s.length - a
  · rw [List.getElem?_append_left (by simpa using h), List.getElem?_drop, Nat.mod_eq_of_lt (by omega)]
  · rw [List.getElem?_append_right (by simp; omega), List.length_drop, List.getElem?_take, if_pos (by omega)]
    congr 2
    rw [show a + i = (i - (s.length - a)) + s.length by omega, Nat.add_mod_right, Nat.mod_eq_of_lt (by omega)]
structure CanonOf (l c : La) : Prop where
  can : IsCanon c
  at_ : ∀ i, c.at i = l.at i
  pre : c.pre.length ≤ l.pre.length
  loop : c.loop.length ≤ l.loop.length
  mp : ∀ x ∈ c.pre, x ∈ l.pre
  ml : ∀ x ∈ c.loop, x ∈ l.loop
theorem canon_of {l : La} {q n a : Nat} (h0 : 0 < l.loop.length) (hr : Root (fun i => l.loop.getD i 0) l.loop.length q) (h : CanP l q n a) (hx : 0 < n → l.pre.getD (n - 1) 0 ≠ l.loop.getD ((a - 1) % q) 0) :
    CanonOf l ⟨l.pre.take n, (l.loop.take q).drop (a % q) ++ (l.loop.take q).take (a % q)⟩ := by
  have hq := hr.pos
  have hql : q ≤ l.loop.length := Nat.le_of_dvd h0 hr.dvd
  have hn := h.nl; have ha0 := h.a0; have haq := h.aq
  have hm : a % q < q := Nat.mod_lt _ hq
  have hsl : (l.loop.take q).length = q := by rw [List.length_take]; omega
  have hlen : ((l.loop.take q).drop (a % q) ++ (l.loop.take q).take (a % q)).length = q := by
    rw [List.length_append, List.length_drop, hsl, List.length_take, hsl]; omega
  have hpl : (l.pre.take n).length = n := by rw [List.length_take]; omega
  have hget : ∀ i, i < q → ((l.loop.take q).drop (a % q) ++ (l.loop.take q).take (a % q)).getD i 0 = l.loop.getD ((a + i) % q) 0 := fun i hi => by
    rw [rot_get (by rw [hsl]; exact hm) i (by rw [hsl]; exact hi), hsl, Nat.mod_add_mod]
    rw [List.getD_eq_getElem?_getD, List.getElem?_take, if_pos (Nat.mod_lt _ hq), List.getD_eq_getElem?_getD]
  have hat : ∀ i, (⟨l.pre.take n, (l.loop.take q).drop (a % q) ++ (l.loop.take q).take (a % q)⟩ : La).at i = l.at i := fun i => by
    by_cases hi : i < n
    · rw [La.at_pre (by simp only [hpl]; exact hi), La.at_pre (show i < l.pre.length by omega)]
      simp
    · obtain ⟨j, rfl⟩ := Nat.exists_eq_add_of_le (show n ≤ i by omega)
      rw [h.tail _ (by omega), Nat.add_sub_cancel_left]
      have h1 := La.at_u (l := ⟨l.pre.take n, (l.loop.take q).drop (a % q) ++ (l.loop.take q).take (a % q)⟩) (by simp only [hlen]; exact hq) j
      simp only [hpl] at h1
      rw [h1]
      unfold La.u
      simp only [hlen]
      rw [hget _ (Nat.mod_lt _ hq), Nat.add_mod_mod]
  refine ⟨⟨by simp only [hlen]; exact hq, fun d hd hdv hu => ?_, fun hp => ?_⟩, hat, by simp only [hpl]; exact hn, by simp only [hlen]; exact hql, fun x hx => List.mem_of_mem_take hx, fun x hx => ?_⟩
  · simp only [hlen] at hdv ⊢
    refine hr.prim d hd hdv fun i hi => ?_
    have hU : ∀ j, l.loop.getD ((a + (j + d)) % q) 0 = l.loop.getD ((a + j) % q) 0 := fun j => by
      have h1 := hu j
      unfold La.u at h1
      simp only [hlen] at h1
      rwa [hget _ (Nat.mod_lt _ hq), hget _ (Nat.mod_lt _ hq), Nat.add_mod_mod, Nat.add_mod_mod] at h1
    have hV : ∀ j, l.loop.getD ((j + d) % q) 0 = l.loop.getD (j % q) 0 := fun j => by
      have h1 := hU (j + (q - a))
      rw [show a + (j + (q - a) + d) = j + d + q by omega, show a + (j + (q - a)) = j + q by omega, Nat.add_mod_right, Nat.add_mod_right] at h1
      exact h1
    have hT : ∀ t j, l.loop.getD ((j + d * t) % q) 0 = l.loop.getD (j % q) 0 := by
      intro t
      induction t with
      | zero => intro j; rfl
      | succ t ih => intro j; rw [Nat.mul_succ, ← Nat.add_assoc, hV, ih]
    have h2 := hT (i / d) (i % d)
    rw [Nat.mod_add_div, Nat.mod_eq_of_lt hi, Nat.mod_eq_of_lt (Nat.lt_of_le_of_lt (Nat.mod_le i d) hi)] at h2
    exact h2
  · simp only [hpl, hlen] at hp ⊢
    rw [hget (q - 1) (by omega)]
    have h1 : (l.pre.take n).getD (n - 1) 0 = l.pre.getD (n - 1) 0 := by
      rw [List.getD_eq_getElem?_getD, List.getElem?_take, if_pos (by omega), List.getD_eq_getElem?_getD]
    rw [h1, show a + (q - 1) = a - 1 + q by omega, Nat.add_mod_right]
    exact hx hp
  · rcases List.mem_append.1 hx with hx | hx
    · exact List.mem_of_mem_take (List.mem_of_mem_drop hx)
    · exact List.mem_of_mem_take (List.mem_of_mem_take hx)
end Go.Lx


namespace Go.Proofs.Ytnamoapbienooaa
open Go.Lx Go.RowKit
set_option linter.unusedVariables false
set_option linter.unusedSimpArgs false
theorem lb_step {xs fl : List Nat} {i k : Nat} (hfl : fl.length = xs.length + 1) (hi : i < xs.length) (h : ∀ j, 1 ≤ j → j ≤ i → LB (fun i => xs.getD i 0) j (fl.getD j 0)) (hn : LB (fun i => xs.getD i 0) (i + 1) k) (j : Nat) (h1 : 1 ≤ j) (h2 : j ≤ i + 1) : LB (fun i => xs.getD i 0) j ((fl.set (i + 1) k).getD j 0) := by
  have e := fn_set (a := k) (l := fl) (v := i + 1) (by omega) j
  rw [show (fl.set (i + 1) k).getD j 0 = fn (fl.set (i + 1) k) j from rfl, e]
  by_cases hj : j = i + 1
  · subst hj; rw [if_pos rfl]; exact hn
  · rw [if_neg hj]; exact h j h1 (by omega)
set_option maxHeartbeats 1000000 in
set_option maxRecDepth 20000 in
theorem rootF (w : World) (b : Option Addr) (c : Nat) (xs : List Nat) (hS : Sl w b (byts xs)) (h0 : 0 < xs.length) (hc : xs.length ≤ c) (hb : xs.length ≤ 1000000) :
    PureT Try.prog 80 [.slice b xs.length c] w fun v N => ∃ q, v = .slice b q c ∧ N = [] ∧ Root (fun i => xs.getD i 0) xs.length q := by
  refine CallT.enter Try.func80 rfl Try.ntmps80 rfl ?_
  refine T.seq (T.region ?_)
  refine TO.quiet (q_assign rfl) ?_
  refine TO.nil (T.seq (T.region ?_))
  refine TO.quiet (q_move rfl) (TO.quiet (q_len Try.underlying27 rfl) (TO.quiet (q_addN (a := xs.length) (b := 1) rfl rfl (by omega)) ?_))
  refine TO.loud rfl (l_makeSlice (m := xs.length + 1) Try.underlying22 inf3 rfl rfl (by omega) (by omega) (fun bx1 => ?_))
  refine TO.quiet (q_assign rfl) ?_
  refine TO.nil (T.seq (T.region ?_))
  refine TO.quiet (q_assign rfl) ?_
  refine TO.nil (T.seq (T.seq (T.region ?_)))
  refine TO.quiet (q_assign rfl) ?_
  refine TO.nil (T.block ?_)
  refine T.loop (fun (i : Nat) ρ O => ∃ (fl : List Nat) (k : Nat), O = [rowI (some ⟨bx1, 0, none⟩) (xs.length + 1) 3 1 (nats fl)] ∧ 1 ≤ i ∧ i ≤ xs.length ∧ fl.length = xs.length + 1 ∧ (∀ j, 1 ≤ j → j ≤ i → LB (fun i => xs.getD i 0) j (fl.getD j 0)) ∧ k = fl.getD i 0 ∧ Heads [(0, (.slice b xs.length c)), (2, (.slice none 0 0)), (3, (.slice (some ⟨bx1, 0, none⟩) (xs.length + 1) (xs.length + 1))), (4, .int .i64 (k : Int)), (5, .int .i64 (i : Int))] ρ) (fun i => xs.length - i) 1 ?_ ?_
  · refine ⟨List.replicate (xs.length + 1) 0, 0, ?_, Nat.le_refl _, h0, by simp, fun j h1 h2 => ?_, by rw [gd (by simp; omega)]; simp, ⟨rfl, rfl, rfl, rfl, rfl, trivial⟩⟩
    · simp only [List.map_replicate]; rfl
    · have : j = 1 := by omega
      subst this
      rw [gd (by simp; omega), List.getElem_replicate]; exact KMP.one
  rintro i ρ O ⟨fl, k, rfl, hi1, hi, hfl, hLB, hk0, hH⟩
  obtain ⟨ρ0, rfl⟩ := hH.elim
  clear hH
  have hW := hLB i hi1 (Nat.le_refl _)
  rw [← hk0] at hW
  have hk1 := hW.b.1
  refine T.seq (T.seq (T.region ?_))
  refine TO.quiet (q_move rfl) (TO.quiet (q_move rfl) (TO.quiet (q_len Try.underlying27 rfl) (TO.quiet (q_lss rfl rfl) ?_)))
  refine TO.nil ?_
  refine T.condP rfl (fun hc => ?_) (fun hc => ?_)
  · have hlt14 : i < xs.length := by omega
    refine T.skip (T.seq (T.block (T.seq (T.block ?_))))
    refine T.loop (fun (k2 : Nat) ρ O => O = [rowI (some ⟨bx1, 0, none⟩) (xs.length + 1) 3 1 (nats fl)] ∧ Cand (fun i => xs.getD i 0) i k2 ∧ Heads [(0, (.slice b xs.length c)), (2, (.slice none 0 0)), (3, (.slice (some ⟨bx1, 0, none⟩) (xs.length + 1) (xs.length + 1))), (4, .int .i64 (k2 : Int)), (5, .int .i64 (i : Int))] ρ) (fun k2 => k2) k ?_ ?_
    · exact ⟨rfl, KMP.start hW, ⟨rfl, rfl, rfl, rfl, rfl, trivial⟩⟩
    rintro k2 ρ O ⟨rfl, hcand, hH⟩
    obtain ⟨ρ0, rfl⟩ := hH.elim
    clear hH
    have hk2 := hcand.1.1
    refine T.seq (T.seq ?_)
    refine T.draws _ [(0, 0), (1, 0), (2, 0), (3, 0), (4, 0), (5, 0), (6, 0), (7, 0), (8, 0), (9, 0), (10, 0), (11, 0), (12, 0)] mixed (by kernel_rfl) (Sub.of (List.Sublist.refl _)) (fun _ _ _ h => h) ?_
    refine DO.quiet rfl (q_move rfl) (DO.quiet rfl (q_gtr rfl rfl) ?_)
    by_cases hs19 : (k2 : Int) > 0
    · refine DO.quiet rfl (QT.toB (q_move rfl) (decide_eq_true hs19)) ?_
      refine DO.guarded rfl rfl rfl (q_move rfl) ?_
      refine DO.guarded rfl rfl rfl (q_move rfl) ?_
      refine DO.guarded rfl rfl rfl (q_ix (i := i) Try.underlying27 inf5 rfl rfl (Sl.o hS)) ?_
      refine DO.guarded rfl rfl rfl (q_ld Try.underlying5 rfl rfl (Sl.o hS) byts_get) ?_
      refine DO.guarded rfl rfl rfl (q_move rfl) ?_
      refine DO.guarded rfl rfl rfl (q_move rfl) ?_
      refine DO.guarded rfl rfl rfl (q_ix (i := k2) Try.underlying27 inf5 rfl rfl (Sl.o hS)) ?_
      refine DO.guarded rfl rfl rfl (q_ld Try.underlying5 rfl rfl (Sl.o hS) byts_get) ?_
      refine DO.guarded rfl rfl rfl (q_neq rfl rfl) ?_
      refine DO.quiet rfl (q_pick1 rfl rfl) ?_
      refine DO.done ?_
      refine T.condP rfl (fun hc => ?_) (fun hc => ?_)
      · have hlt29 : xs[i] ≠ xs[k2] := by omega
        have hs28 := hc
        refine T.skip (T.block (T.region ?_))
        refine TO.quiet (q_move rfl) (TO.quiet (q_move rfl) (TO.quiet (q_ix (i := k2) Try.underlying22 inf3 rfl rfl (rowO (List.mem_of_getElem? (i := 0) rfl))) (TO.quiet (q_ld Try.underlying3 rfl rfl (rowO (List.mem_of_getElem? (i := 0) rfl)) nats_get) ?_)))
        refine TO.quiet (q_assign rfl) ?_
        refine TO.nil ?_
        have hb := hLB k2 (by omega) (by omega)
        have hlt := hb.b.1
        rw [gd (by omega)] at hb hlt
        exact ⟨fl[k2], hlt, rfl, KMP.next hcand (by show xs.getD i 0 ≠ xs.getD k2 0; rw [gd (by omega), gd (by omega)]; omega) hb, ⟨rfl, rfl, rfl, rfl, rfl, trivial⟩⟩
      have hge29 : ¬ xs[i] ≠ xs[k2] := by omega
      refine T.exit ?_
      refine T.seq (T.seq ?_)
      refine T.draws _ [(0, 0), (1, 0), (2, 0), (3, 0), (4, 0), (5, 0), (6, 0), (7, 0), (8, 0)] mixed (by kernel_rfl) (Sub.of (List.Sublist.refl _)) (fun _ _ _ h => h) ?_
      refine DO.quiet rfl (q_move rfl) (DO.quiet rfl (q_move rfl) (DO.quiet rfl (q_ix (i := i) Try.underlying27 inf5 rfl rfl (Sl.o hS)) (DO.quiet rfl (q_ld Try.underlying5 rfl rfl (Sl.o hS) byts_get) ?_)))
      refine DO.quiet rfl (q_move rfl) (DO.quiet rfl (q_move rfl) (DO.quiet rfl (q_ix (i := k2) Try.underlying27 inf5 rfl rfl (Sl.o hS)) (DO.quiet rfl (q_ld Try.underlying5 rfl rfl (Sl.o hS) byts_get) ?_)))
      refine DO.quiet rfl (q_eql rfl rfl) ?_
      refine DO.done ?_
      refine T.condP rfl (fun hc => ?_) (fun hc => ?_)
      · have hlt42 : xs[i] = xs[k2] := by omega
        refine T.region ?_
        refine TO.quiet (q_move rfl) (TO.quiet (q_addN (a := k2) (b := 1) rfl rfl (by omega)) (TO.quiet (q_assign rfl) ?_))
        refine TO.nil (T.region ?_)
        refine TO.quiet (q_move rfl) (TO.quiet (q_move rfl) (TO.quiet (q_addN (a := i) (b := 1) rfl rfl (by omega)) (TO.quiet (q_move rfl) ?_)))
        refine TO.quiet (q_ix (i := (i + 1)) Try.underlying22 inf3 rfl rfl (rowO (List.mem_of_getElem? (i := 0) rfl))) ?_
        refine TO.loud rfl (l_st (j := (i + 1)) (v := .int .i64 ((k2 + 1 : Nat) : Int)) (vs := [(.int .i64 ((k2 + 1 : Nat) : Int))]) (cs := nats fl) 0 inf3 rfl rfl rfl rfl rfl (by simp) rfl (by first | (simp; omega) | (simp_all; omega)) ?_)
        refine TO.sub (O' := [rowI (some ⟨bx1, 0, none⟩) (xs.length + 1) 3 1 (nats (fl.set (i + 1) (k2 + 1)))]) (by rw [show putL (nats fl) (i + 1) [(.int .i64 ((k2 + 1 : Nat) : Int))] = nats (fl.set (i + 1) (k2 + 1)) from (by simp [putL])]; exact Sub.of (List.Sublist.refl _)) ?_
        refine TO.nil (T.region ?_)
        refine TO.quiet (q_move rfl) (TO.quiet (q_addN (a := i) (b := 1) rfl rfl (by omega)) (TO.quiet (q_assign rfl) ?_))
        refine TO.nil ?_
        exact ⟨i + 1, by omega, fl.set (i + 1) (k2 + 1), k2 + 1, rfl, by omega, by omega, by simp [hfl], fun j h1 h2 => lb_step hfl (by omega) hLB (KMP.hit hcand (by show xs.getD i 0 = xs.getD k2 0; rw [gd (by omega), gd (by omega)]; omega)) j h1 h2, by rw [gd (by simp; omega), List.getElem_set_self], ⟨rfl, rfl, rfl, rfl, rfl, trivial⟩⟩
      have hge42 : ¬ xs[i] = xs[k2] := by omega
      refine T.skip (T.region ?_)
      refine TO.quiet (q_move rfl) (TO.quiet (q_move rfl) (TO.quiet (q_addN (a := i) (b := 1) rfl rfl (by omega)) (TO.quiet (q_move rfl) ?_)))
      refine TO.quiet (q_ix (i := (i + 1)) Try.underlying22 inf3 rfl rfl (rowO (List.mem_of_getElem? (i := 0) rfl))) ?_
      refine TO.loud rfl (l_st (j := (i + 1)) (v := .int .i64 (k2 : Int)) (vs := [(.int .i64 (k2 : Int))]) (cs := nats fl) 0 inf3 rfl rfl rfl rfl rfl (by simp) rfl (by first | (simp; omega) | (simp_all; omega)) ?_)
      refine TO.sub (O' := [rowI (some ⟨bx1, 0, none⟩) (xs.length + 1) 3 1 (nats (fl.set (i + 1) (k2)))]) (by rw [show putL (nats fl) (i + 1) [(.int .i64 (k2 : Int))] = nats (fl.set (i + 1) (k2)) from (by simp [putL])]; exact Sub.of (List.Sublist.refl _)) ?_
      refine TO.nil (T.region ?_)
      refine TO.quiet (q_move rfl) (TO.quiet (q_addN (a := i) (b := 1) rfl rfl (by omega)) (TO.quiet (q_assign rfl) ?_))
      refine TO.nil ?_
      have hk20 : k2 = 0 := by omega
      subst hk20
      exact ⟨i + 1, by omega, fl.set (i + 1) 0, 0, rfl, by omega, by omega, by simp [hfl], fun j h1 h2 => lb_step hfl (by omega) hLB (KMP.miss hcand (by show xs.getD i 0 ≠ xs.getD 0 0; rw [gd (by omega), gd (by omega)]; omega)) j h1 h2, by rw [gd (by simp; omega), List.getElem_set_self], ⟨rfl, rfl, rfl, rfl, rfl, trivial⟩⟩
    refine DO.quiet rfl (QT.toB (q_move rfl) (decide_eq_false hs19)) ?_
    refine DO.passed rfl rfl rfl ?_
    refine DO.passed rfl rfl rfl ?_
    refine DO.passed rfl rfl rfl ?_
    refine DO.passed rfl rfl rfl ?_
    refine DO.passed rfl rfl rfl ?_
    refine DO.passed rfl rfl rfl ?_
    refine DO.passed rfl rfl rfl ?_
    refine DO.passed rfl rfl rfl ?_
    refine DO.passed rfl rfl rfl ?_
    refine DO.quiet rfl (q_pick0 rfl rfl) ?_
    refine DO.done ?_
    refine T.cond0 rfl ?_
    refine T.exit ?_
    refine T.seq (T.seq ?_)
    refine T.draws _ [(0, 0), (1, 0), (2, 0), (3, 0), (4, 0), (5, 0), (6, 0), (7, 0), (8, 0)] mixed (by kernel_rfl) (Sub.of (List.Sublist.refl _)) (fun _ _ _ h => h) ?_
    refine DO.quiet rfl (q_move rfl) (DO.quiet rfl (q_move rfl) (DO.quiet rfl (q_ix (i := i) Try.underlying27 inf5 rfl rfl (Sl.o hS)) (DO.quiet rfl (q_ld Try.underlying5 rfl rfl (Sl.o hS) byts_get) ?_)))
    refine DO.quiet rfl (q_move rfl) (DO.quiet rfl (q_move rfl) (DO.quiet rfl (q_ix (i := k2) Try.underlying27 inf5 rfl rfl (Sl.o hS)) (DO.quiet rfl (q_ld Try.underlying5 rfl rfl (Sl.o hS) byts_get) ?_)))
    refine DO.quiet rfl (q_eql rfl rfl) ?_
    refine DO.done ?_
    refine T.condP rfl (fun hc => ?_) (fun hc => ?_)
    · have hlt42 : xs[i] = xs[k2] := by omega
      refine T.region ?_
      refine TO.quiet (q_move rfl) (TO.quiet (q_addN (a := k2) (b := 1) rfl rfl (by omega)) (TO.quiet (q_assign rfl) ?_))
      refine TO.nil (T.region ?_)
      refine TO.quiet (q_move rfl) (TO.quiet (q_move rfl) (TO.quiet (q_addN (a := i) (b := 1) rfl rfl (by omega)) (TO.quiet (q_move rfl) ?_)))
      refine TO.quiet (q_ix (i := (i + 1)) Try.underlying22 inf3 rfl rfl (rowO (List.mem_of_getElem? (i := 0) rfl))) ?_
      refine TO.loud rfl (l_st (j := (i + 1)) (v := .int .i64 ((k2 + 1 : Nat) : Int)) (vs := [(.int .i64 ((k2 + 1 : Nat) : Int))]) (cs := nats fl) 0 inf3 rfl rfl rfl rfl rfl (by simp) rfl (by first | (simp; omega) | (simp_all; omega)) ?_)
      refine TO.sub (O' := [rowI (some ⟨bx1, 0, none⟩) (xs.length + 1) 3 1 (nats (fl.set (i + 1) (k2 + 1)))]) (by rw [show putL (nats fl) (i + 1) [(.int .i64 ((k2 + 1 : Nat) : Int))] = nats (fl.set (i + 1) (k2 + 1)) from (by simp [putL])]; exact Sub.of (List.Sublist.refl _)) ?_
      refine TO.nil (T.region ?_)
      refine TO.quiet (q_move rfl) (TO.quiet (q_addN (a := i) (b := 1) rfl rfl (by omega)) (TO.quiet (q_assign rfl) ?_))
      refine TO.nil ?_
      exact ⟨i + 1, by omega, fl.set (i + 1) (k2 + 1), k2 + 1, rfl, by omega, by omega, by simp [hfl], fun j h1 h2 => lb_step hfl (by omega) hLB (KMP.hit hcand (by show xs.getD i 0 = xs.getD k2 0; rw [gd (by omega), gd (by omega)]; omega)) j h1 h2, by rw [gd (by simp; omega), List.getElem_set_self], ⟨rfl, rfl, rfl, rfl, rfl, trivial⟩⟩
    have hge42 : ¬ xs[i] = xs[k2] := by omega
    refine T.skip (T.region ?_)
    refine TO.quiet (q_move rfl) (TO.quiet (q_move rfl) (TO.quiet (q_addN (a := i) (b := 1) rfl rfl (by omega)) (TO.quiet (q_move rfl) ?_)))
    refine TO.quiet (q_ix (i := (i + 1)) Try.underlying22 inf3 rfl rfl (rowO (List.mem_of_getElem? (i := 0) rfl))) ?_
    refine TO.loud rfl (l_st (j := (i + 1)) (v := .int .i64 (k2 : Int)) (vs := [(.int .i64 (k2 : Int))]) (cs := nats fl) 0 inf3 rfl rfl rfl rfl rfl (by simp) rfl (by first | (simp; omega) | (simp_all; omega)) ?_)
    refine TO.sub (O' := [rowI (some ⟨bx1, 0, none⟩) (xs.length + 1) 3 1 (nats (fl.set (i + 1) (k2)))]) (by rw [show putL (nats fl) (i + 1) [(.int .i64 (k2 : Int))] = nats (fl.set (i + 1) (k2)) from (by simp [putL])]; exact Sub.of (List.Sublist.refl _)) ?_
    refine TO.nil (T.region ?_)
    refine TO.quiet (q_move rfl) (TO.quiet (q_addN (a := i) (b := 1) rfl rfl (by omega)) (TO.quiet (q_assign rfl) ?_))
    refine TO.nil ?_
    have hk20 : k2 = 0 := by omega
    subst hk20
    exact ⟨i + 1, by omega, fl.set (i + 1) 0, 0, rfl, by omega, by omega, by simp [hfl], fun j h1 h2 => lb_step hfl (by omega) hLB (KMP.miss hcand (by show xs.getD i 0 ≠ xs.getD 0 0; rw [gd (by omega), gd (by omega)]; omega)) j h1 h2, by rw [gd (by simp; omega), List.getElem_set_self], ⟨rfl, rfl, rfl, rfl, rfl, trivial⟩⟩
  have hge14 : ¬ i < xs.length := by omega
  refine T.exit ?_
  refine T.seq (T.seq ?_)
  have hie : i = xs.length := by omega
  subst hie
  have hfn : fl[xs.length] < xs.length := by rw [gd (by omega)] at hk0; omega
  have hr0 := root_of h0 hW
  rw [hk0, gd (by omega)] at hr0
  refine T.region ?_
  refine TO.quiet (q_move rfl) (TO.quiet (q_len Try.underlying27 rfl) (TO.quiet (q_move rfl) (TO.quiet (q_move rfl) ?_)))
  refine TO.quiet (q_len Try.underlying27 rfl) (TO.quiet (q_ix (i := xs.length) Try.underlying22 inf3 rfl rfl (rowO (List.mem_of_getElem? (i := 0) rfl))) (TO.quiet (q_ld Try.underlying3 rfl rfl (rowO (List.mem_of_getElem? (i := 0) rfl)) nats_get) (TO.quiet (q_subN (a := xs.length) (b := fl[xs.length]) rfl rfl (by omega) (by omega)) ?_)))
  refine TO.quiet (q_assign rfl) ?_
  refine TO.nil (T.seq (T.region ?_))
  refine TO.quiet (q_move rfl) (TO.quiet (q_len Try.underlying27 rfl) (TO.quiet (q_move rfl) (TO.quiet (q_remN (a := xs.length) (b := (xs.length - fl[xs.length])) rfl rfl (by omega)) ?_)))
  refine TO.quiet (q_eql rfl rfl) ?_
  refine TO.nil ?_
  refine T.condP rfl (fun hc => ?_) (fun hc => ?_)
  · have hlt62 : xs.length % (xs.length - fl[xs.length]) = 0 := by omega
    refine T.seq (T.region ?_)
    refine TO.quiet (q_move rfl) (TO.quiet (q_move rfl) (TO.quiet (q_sliceTo (hi := (xs.length - fl[xs.length])) Try.underlying27 inf5 rfl rfl (by omega)) (TO.quiet (q_assign rfl) ?_)))
    refine TO.nil (T.ret (Res.drop ?_))
    refine Res.one (.slice b (xs.length - fl[xs.length]) c) Try.results80 rfl ?_
    rw [if_pos (by omega)] at hr0
    exact ⟨[], Sub.of (List.nil_sublist _), _, rfl, rfl, hr0⟩
  have hge62 : ¬ xs.length % (xs.length - fl[xs.length]) = 0 := by omega
  refine T.skip (T.seq (T.region ?_))
  refine TO.quiet (q_move rfl) (TO.quiet (q_assign rfl) ?_)
  refine TO.nil (T.ret (Res.drop ?_))
  refine Res.one (.slice b xs.length c) Try.results80 rfl ?_
  rw [if_neg (by omega)] at hr0
  exact ⟨[], Sub.of (List.nil_sublist _), _, rfl, rfl, hr0⟩
set_option maxHeartbeats 1000000 in
set_option maxRecDepth 20000 in
theorem canonicalF (w : World) (l : La) (pb lb : Option Addr) (pc lc : Nat) (h : LaAt w l pb lb pc lc) (hL : LaB l) (h0 : 0 < l.loop.length) :
    PureT Try.prog 29 [.agg (laCells l pb pc lb lc).toArray] w fun v N => ∃ c pb2 lb2 pc2 lc2, v = .agg (laCells c pb2 pc2 lb2 lc2).toArray ∧ N = [rowI pb2 pc2 5 1 (byts c.pre), rowI lb2 lc2 5 1 (byts c.loop)] ∧ CanonOf l c := by
  refine CallT.enter Try.func29 rfl Try.ntmps29 rfl ?_
  have hpl := hL.pre; have hll := hL.loop; have hpc := h.pc; have hlc := h.lc
  refine T.seq (T.region ?_)
  refine TO.loud rfl (l_box (v := (.agg (laCells l pb pc lb lc).toArray)) (cs := (laCells l pb pc lb lc)) rfl rfl (fun bx1 => ?_))
  refine TO.loud rfl (l_alloc inf29 rfl (fun bx2 => ?_))
  refine TO.nil ?_
  refine T.scope ?_ (fun _ _ _ h => h)
  refine T.seq (T.region ?_)
  refine TO.quiet (q_load_boxAgg 1 Try.underlying29 rfl inf29 rfl rfl rfl) ?_
  have hk7 := fun (w1 : World) (hI : Inv w [oI bx2 29 [(.slice none 0 0), (.slice none 0 0)], oI bx1 29 (laCells l pb pc lb lc)] w1) => fullF w1 l pb lb pc lc h0
  refine TO.loud rfl (l_call ent79 (CallT.of_pure hk7) rfl ?_)
  clear hk7
  rintro vr O' ⟨N, rfl, rfl, rfl⟩
  refine TO.loud rfl (l_store_box (v := (.agg (laCells l pb pc lb lc).toArray)) (vs := (laCells l pb pc lb lc)) 1 inf29 rfl rfl rfl rfl rfl rfl (by simp [putL]) ?_)
  refine TO.nil (T.seq ?_)
  refine T.draws _ [(0, 0), (1, 0), (3, 0), (4, 0), (5, 0), (2, 1), (6, 0), (7, 0)] mixed (by kernel_rfl) (Sub.of (List.Sublist.refl _)) (fun _ _ _ h => h) ?_
  refine DO.quiet rfl (q_fieldAddr Try.underlying29 rfl inf27 rfl rfl) (DO.quiet rfl (q_load_box 1 Try.underlying27 rfl rfl rfl rfl) (DO.quiet rfl (q_fieldAddr Try.underlying29 rfl inf27 rfl rfl) (DO.quiet rfl (q_load_box 1 Try.underlying27 rfl rfl rfl rfl) ?_)))
  refine DO.quiet rfl (q_len Try.underlying27 rfl) ?_
  have hk10 := fun (w1 : World) (hI : Inv w [oI bx2 29 [(.slice none 0 0), (.slice none 0 0)], oI bx1 29 (laCells l pb pc lb lc)] w1) => rootF w1 lb lc l.loop (hI.sl h.loop) h0 h.lc hL.loop
  refine DO.loud rfl rfl (l_call ent80 (CallT.of_pure hk10) rfl ?_)
  clear hk10
  rintro vr O' ⟨N, rfl, q, rfl, rfl, hr⟩
  refine ⟨Sub.pick [0, 0] rfl, ?_⟩
  refine DO.quiet rfl (q_assign rfl) (DO.quiet rfl (q_assign rfl) ?_)
  refine DO.done ?_
  refine T.seq ?_
  have hq0 := hr.pos
  have hql : q ≤ l.loop.length := Nat.le_of_dvd h0 hr.dvd
  refine T.region ?_
  refine TO.quiet (q_move rfl) (TO.quiet (q_len Try.underlying27 rfl) (TO.quiet (q_assign rfl) ?_))
  refine TO.nil (T.seq ?_)
  refine T.label ?_
  refine T.seq (T.block ?_)
  refine T.loop (fun (n : Nat) ρ O => ∃ (a : Nat), O = [oI bx2 29 [(.slice none 0 0), (.slice none 0 0)], oI bx1 29 (laCells l pb pc lb lc)] ∧ CanP l q n a ∧ Heads [(0, (.agg (laCells l pb pc lb lc).toArray)), (1, (.pointer (some ⟨bx1, 0, none⟩))), (2, (.pointer (some ⟨bx2, 0, none⟩))), (3, (.slice lb q lc)), (4, .int .i64 (n : Int)), (5, .int .i64 (a : Int))] ρ) (fun n => n) l.pre.length ?_ ?_
  · exact ⟨q, rfl, CanP.start h0 hr, ⟨rfl, rfl, rfl, rfl, rfl, rfl, trivial⟩⟩
  rintro n ρ O ⟨a, rfl, hcp, hH⟩
  obtain ⟨ρ0, rfl⟩ := hH.elim
  clear hH
  have hn := hcp.nl; have ha0 := hcp.a0; have haq := hcp.aq
  have hmq : (a - 1) % q < q := Nat.mod_lt _ hq0
  refine T.seq (T.seq (T.region ?_))
  refine TO.quiet (q_move rfl) (TO.quiet (q_gtr rfl rfl) ?_)
  refine TO.nil ?_
  refine T.condP rfl (fun hc => ?_) (fun hc => ?_)
  · have hlt17 : n > 0 := by omega
    have hn0 : 0 < n := by omega
    refine T.skip (T.block (T.seq (T.seq ?_)))
    refine T.draws _ [(0, 0), (1, 0), (2, 0), (3, 0), (4, 0), (5, 0), (6, 0), (7, 0), (8, 0), (9, 0), (10, 0), (11, 0), (12, 0), (13, 0), (14, 0)] mixed (by kernel_rfl) (Sub.of (List.Sublist.refl _)) (fun _ _ _ h => h) ?_
    refine DO.quiet rfl (q_fieldAddr Try.underlying29 rfl inf27 rfl rfl) (DO.quiet rfl (q_load_box 1 Try.underlying27 rfl rfl rfl rfl) (DO.quiet rfl (q_move rfl) (DO.quiet rfl (q_subN (a := n) (b := 1) rfl rfl (by omega) (by omega)) ?_)))
    refine DO.quiet rfl (q_ix (i := (n - 1)) Try.underlying27 inf5 rfl rfl (Sl.o h.pre)) (DO.quiet rfl (q_ld Try.underlying5 rfl rfl (Sl.o h.pre) byts_get) (DO.quiet rfl (q_move rfl) (DO.quiet rfl (q_move rfl) ?_)))
    refine DO.quiet rfl (q_subN (a := a) (b := 1) rfl rfl (by omega) (by omega)) (DO.quiet rfl (q_move rfl) (DO.quiet rfl (q_len Try.underlying27 rfl) (DO.quiet rfl (q_remN (a := (a - 1)) (b := q) rfl rfl (by omega)) ?_)))
    refine DO.quiet rfl (q_ix (i := ((a - 1) % q)) Try.underlying27 inf5 rfl rfl (Sl.o h.loop) (by omega) (by rw [List.length_map]; omega)) (DO.quiet rfl (q_ld Try.underlying5 rfl rfl (Sl.o h.loop) (byts_get (by omega))) (DO.quiet rfl (q_neq rfl rfl) ?_))
    refine DO.done ?_
    refine T.condP rfl (fun hc => ?_) (fun hc => ?_)
    · have hlt32 : l.pre[n - 1] ≠ l.loop[(a - 1) % q] := by omega
      have hx : 0 < n → l.pre.getD (n - 1) 0 ≠ l.loop.getD ((a - 1) % q) 0 := fun h9 => by rw [gd (by omega), gd (by omega)]; omega
      refine T.exit ?_
      refine T.seq ?_
      have hmq9 : a % q < q := Nat.mod_lt _ hq0
      have hmq := hmq9
      have hpn : (l.pre.take n).length = n := by rw [List.length_take]; omega
      have hr1 : ((l.loop.take q).drop (a % q)).length = q - a % q := by rw [List.length_drop, List.length_take]; omega
      have hr2 : ((l.loop.take q).take (a % q)).length = a % q := by rw [List.length_take, List.length_take]; omega
      have hfe : [(l.loop.take q).drop (a % q), (l.loop.take q).take (a % q)].flatten = (l.loop.take q).drop (a % q) ++ (l.loop.take q).take (a % q) := by simp
      have hfl : ((l.loop.take q).drop (a % q) ++ (l.loop.take q).take (a % q)).length = q := by rw [List.length_append, hr1, hr2]; omega
      have hco := canon_of h0 hr hcp hx
      refine T.region ?_
      refine TO.quiet (q_move rfl) (TO.quiet (q_move rfl) (TO.quiet (q_len Try.underlying27 rfl) (TO.quiet (q_remN (a := a) (b := q) rfl rfl (by omega)) ?_)))
      refine TO.quiet (q_assign rfl) ?_
      refine TO.nil ?_
      refine T.cut (fun ρ O => ∃ (kb cb2 : Option Addr) (kc cc2 : Nat), O = [oI bx2 29 [(.slice kb n kc), (.slice cb2 q cc2)], rowI kb kc 5 1 (byts (l.pre.take n)), rowI cb2 cc2 5 1 (byts ((l.loop.take q).drop (a % q) ++ (l.loop.take q).take (a % q))), oI bx1 29 (laCells l pb pc lb lc)] ∧ Heads [(0, (.agg (laCells l pb pc lb lc).toArray)), (1, (.pointer (some ⟨bx1, 0, none⟩))), (2, (.pointer (some ⟨bx2, 0, none⟩))), (3, (.slice lb q lc)), (4, .int .i64 (n : Int)), (5, .int .i64 ((a % q : Nat) : Int))] ρ) ?_ ?_
      · refine T.tree [oI bx1 29 (laCells l pb pc lb lc)] 15 mixed rfl (Sub.pick [1] rfl) (fun _ _ _ h => h) ?_
        refine RO.quietT 0 rfl (by kernel_rfl) (q_fieldAddr Try.underlying29 rfl inf27 rfl rfl) ?_
        refine RO.quietT 1 rfl (by kernel_rfl) (q_load_box 0 Try.underlying27 rfl rfl rfl rfl) ?_
        refine RO.quietT 2 rfl (by kernel_rfl) (q_move rfl) ?_
        refine RO.quietT 3 rfl (by kernel_rfl) (q_sliceTo (hi := n) Try.underlying27 inf5 rfl rfl (by omega)) ?_
        refine RO.quietT 5 rfl (by kernel_rfl) (q_move rfl) ?_
        refine RO.quietT 6 rfl (by kernel_rfl) (q_move rfl) ?_
        refine RO.quietT 7 rfl (by kernel_rfl) (q_sliceFrom (lo := (a % q)) Try.underlying27 inf5 rfl rfl (by omega) (by omega)) ?_
        refine RO.quietT 8 rfl (by kernel_rfl) (q_move rfl) ?_
        refine RO.quietT 9 rfl (by kernel_rfl) (q_move rfl) ?_
        refine RO.quietT 10 rfl (by kernel_rfl) (q_sliceTo (hi := (a % q)) Try.underlying27 inf5 rfl rfl (by omega)) ?_
        have hk49 := fun (w1 : World) (hI : Inv w [oI bx2 29 [(.slice none 0 0), (.slice none 0 0)], oI bx1 29 (laCells l pb pc lb lc)] w1) => (by
          have hC := cloneB w1 pb pc (l.pre.take n) ((hI.sl h.pre).btake n) (by rw [hpn]; omega)
          rw [hpn] at hC; exact hC)
        refine RO.fork [4, 11] (by kernel_rfl) rfl ⟨⟨_, rfl, rfl, l_call ent81 (CallT.of_pure hk49) rfl ?_⟩, ⟨_, rfl, rfl, l_buildSlice (m := 2) (parts := [(0, .tmp 52), (1, .tmp 55)]) (cs := [(.slice (subB lb lc (a % q) 1) (q - (a % q)) (lc - (a % q))), (.slice lb (a % q) lc)]) Try.underlying131 inf27 (by decide) (by kernel_rfl) rfl (fun zW => ⟨Sub.pick [2] rfl, ?_⟩)⟩, trivial⟩
        · clear hk49
          rintro vr O' ⟨N, rfl, kb, kc, rfl, rfl⟩
          refine ⟨Sub.pick [2] rfl, ?_⟩
          refine RO.fork [11] (by kernel_rfl) rfl ⟨⟨_, rfl, rfl, l_buildSlice (m := 2) (parts := [(0, .tmp 52), (1, .tmp 55)]) (cs := [(.slice (subB lb lc (a % q) 1) (q - (a % q)) (lc - (a % q))), (.slice lb (a % q) lc)]) Try.underlying131 inf27 (by decide) (by kernel_rfl) rfl (fun zW => ⟨Sub.pick [3] rfl, ?_⟩)⟩, trivial⟩
          have hk57 := fun (w1 : World) (hI : Inv w [rowI (some ⟨zW, 0, none⟩) 2 27 1 [(.slice (subB lb lc (a % q) 1) (q - (a % q)) (lc - (a % q))), (.slice lb (a % q) lc)], rowI kb kc 5 1 (byts (l.pre.take n)), oI bx2 29 [(.slice none 0 0), (.slice none 0 0)], oI bx1 29 (laCells l pb pc lb lc)] w1) => (by
            have hC := concatB w1 (some ⟨zW, 0, none⟩) 2 [.slice (subB lb lc (a % q) 1) (q - a % q) (lc - a % q), .slice lb (a % q) lc] [(l.loop.take q).drop (a % q), (l.loop.take q).take (a % q)] (hI.slOf (List.mem_of_getElem? (i := 0) rfl)) (WordsR.two ((hI.sl h.loop).bsub h.lc hmq hql) (((hI.sl h.loop).btake q).btake (a % q)) hr1 hr2) (by simp) (by rw [hfe, hfl]; omega)
            rw [hfe, hfl] at hC; exact hC)
          refine RO.fork [12] (by kernel_rfl) rfl ⟨⟨_, rfl, rfl, l_call ent82 (CallT.of_pure hk57) rfl ?_⟩, trivial⟩
          clear hk57
          rintro vr O' ⟨N, rfl, cb2, cc2, rfl, rfl⟩
          refine ⟨Sub.pick [4] rfl, ?_⟩
          refine RO.quietT 13 rfl (by kernel_rfl) (q_build (cs := [(.slice kb n kc), (.slice cb2 q cc2)]) plan29 inf29 (by kernel_rfl)) ?_
          refine RO.fork [14] (by kernel_rfl) rfl ⟨⟨_, rfl, rfl, l_store_box (v := (.agg #[(.slice kb n kc), (.slice cb2 q cc2)])) (vs := [(.slice kb n kc), (.slice cb2 q cc2)]) 3 inf29 rfl rfl rfl rfl rfl rfl (by simp [putL]) ⟨Sub.pick [4] rfl, ?_⟩⟩, trivial⟩
          exact RO.fin (by kernel_rfl) ⟨kb, cb2, kc, cc2, rfl, ⟨rfl, rfl, rfl, rfl, rfl, rfl, trivial⟩⟩ (Sub.pick [3, 2, 0, 1] rfl)
        have hk49 := fun (w1 : World) (hI : Inv w [rowI (some ⟨zW, 0, none⟩) 2 27 1 [(.slice (subB lb lc (a % q) 1) (q - (a % q)) (lc - (a % q))), (.slice lb (a % q) lc)], oI bx2 29 [(.slice none 0 0), (.slice none 0 0)], oI bx1 29 (laCells l pb pc lb lc)] w1) => (by
          have hC := cloneB w1 pb pc (l.pre.take n) ((hI.sl h.pre).btake n) (by rw [hpn]; omega)
          rw [hpn] at hC; exact hC)
        refine RO.fork [4] (by kernel_rfl) rfl ⟨⟨_, rfl, rfl, l_call ent81 (CallT.of_pure hk49) rfl ?_⟩, trivial⟩
        clear hk49
        rintro vr O' ⟨N, rfl, kb, kc, rfl, rfl⟩
        refine ⟨Sub.pick [3] rfl, ?_⟩
        have hk57 := fun (w1 : World) (hI : Inv w [rowI kb kc 5 1 (byts (l.pre.take n)), rowI (some ⟨zW, 0, none⟩) 2 27 1 [(.slice (subB lb lc (a % q) 1) (q - (a % q)) (lc - (a % q))), (.slice lb (a % q) lc)], oI bx2 29 [(.slice none 0 0), (.slice none 0 0)], oI bx1 29 (laCells l pb pc lb lc)] w1) => (by
          have hC := concatB w1 (some ⟨zW, 0, none⟩) 2 [.slice (subB lb lc (a % q) 1) (q - a % q) (lc - a % q), .slice lb (a % q) lc] [(l.loop.take q).drop (a % q), (l.loop.take q).take (a % q)] (hI.slOf (List.mem_of_getElem? (i := 1) rfl)) (WordsR.two ((hI.sl h.loop).bsub h.lc hmq hql) (((hI.sl h.loop).btake q).btake (a % q)) hr1 hr2) (by simp) (by rw [hfe, hfl]; omega)
          rw [hfe, hfl] at hC; exact hC)
        refine RO.fork [12] (by kernel_rfl) rfl ⟨⟨_, rfl, rfl, l_call ent82 (CallT.of_pure hk57) rfl ?_⟩, trivial⟩
        clear hk57
        rintro vr O' ⟨N, rfl, cb2, cc2, rfl, rfl⟩
        refine ⟨Sub.pick [4] rfl, ?_⟩
        refine RO.quietT 13 rfl (by kernel_rfl) (q_build (cs := [(.slice kb n kc), (.slice cb2 q cc2)]) plan29 inf29 (by kernel_rfl)) ?_
        refine RO.fork [14] (by kernel_rfl) rfl ⟨⟨_, rfl, rfl, l_store_box (v := (.agg #[(.slice kb n kc), (.slice cb2 q cc2)])) (vs := [(.slice kb n kc), (.slice cb2 q cc2)]) 3 inf29 rfl rfl rfl rfl rfl rfl (by simp [putL]) ⟨Sub.pick [4] rfl, ?_⟩⟩, trivial⟩
        exact RO.fin (by kernel_rfl) ⟨kb, cb2, kc, cc2, rfl, ⟨rfl, rfl, rfl, rfl, rfl, rfl, trivial⟩⟩ (Sub.pick [3, 1, 0, 1] rfl)
      rintro ρ O ⟨kb, cb2, kc, cc2, rfl, hH⟩
      obtain ⟨ρ0, rfl⟩ := hH.elim
      clear hH
      refine T.ret (Res.drop ?_)
      refine Res.cell1 (i := 0) Try.results29 Try.underlying29 rfl inf29 rfl rfl rfl ?_
      exact ⟨[rowI kb kc 5 1 (byts (l.pre.take n)), rowI cb2 cc2 5 1 (byts ((l.loop.take q).drop (a % q) ++ (l.loop.take q).take (a % q)))], (Sub.pick [1, 1] rfl), _, kb, cb2, kc, cc2, by show _ = Value.agg (List.toArray [.slice kb (l.pre.take n).length kc, .slice cb2 ((l.loop.take q).drop (a % q) ++ (l.loop.take q).take (a % q)).length cc2]); rw [hpn, hfl], rfl, hco⟩
    have hge32 : ¬ l.pre[n - 1] ≠ l.loop[(a - 1) % q] := by omega
    refine T.skip (T.seq (T.region ?_))
    refine TO.quiet (q_move rfl) (TO.quiet (q_subN (a := n) (b := 1) rfl rfl (by omega) (by omega)) (TO.quiet (q_assign rfl) ?_))
    refine TO.nil (T.seq (T.region ?_))
    refine TO.quiet (q_move rfl) (TO.quiet (q_subN (a := a) (b := 1) rfl rfl (by omega) (by omega)) (TO.quiet (q_assign rfl) ?_))
    refine TO.nil (T.seq (T.region ?_))
    refine TO.quiet (q_move rfl) (TO.quiet (q_eql rfl rfl) ?_)
    refine TO.nil ?_
    refine T.condP rfl (fun hc => ?_) (fun hc => ?_)
    · have hlt38 : a - 1 = 0 := by omega
      refine T.region ?_
      refine TO.quiet (q_move rfl) (TO.quiet (q_len Try.underlying27 rfl) (TO.quiet (q_assign rfl) ?_))
      refine TO.nil ?_
      have h9 := hcp.step (by omega) (by rw [gd (by omega), gd (by omega)]; omega)
      rw [if_pos (by omega)] at h9
      exact ⟨n - 1, by omega, _, rfl, h9, ⟨rfl, rfl, rfl, rfl, rfl, rfl, trivial⟩⟩
    have hge38 : ¬ a - 1 = 0 := by omega
    refine T.skip ?_
    have h9 := hcp.step (by omega) (by rw [gd (by omega), gd (by omega)]; omega)
    rw [if_neg (by omega)] at h9
    exact ⟨n - 1, by omega, _, rfl, h9, ⟨rfl, rfl, rfl, rfl, rfl, rfl, trivial⟩⟩
  have hge17 : ¬ n > 0 := by omega
  have hx : 0 < n → l.pre.getD (n - 1) 0 ≠ l.loop.getD ((a - 1) % q) 0 := fun h9 => absurd h9 (by omega)
  refine T.exit ?_
  refine T.seq ?_
  have hmq9 : a % q < q := Nat.mod_lt _ hq0
  have hmq := hmq9
  have hpn : (l.pre.take n).length = n := by rw [List.length_take]; omega
  have hr1 : ((l.loop.take q).drop (a % q)).length = q - a % q := by rw [List.length_drop, List.length_take]; omega
  have hr2 : ((l.loop.take q).take (a % q)).length = a % q := by rw [List.length_take, List.length_take]; omega
  have hfe : [(l.loop.take q).drop (a % q), (l.loop.take q).take (a % q)].flatten = (l.loop.take q).drop (a % q) ++ (l.loop.take q).take (a % q) := by simp
  have hfl : ((l.loop.take q).drop (a % q) ++ (l.loop.take q).take (a % q)).length = q := by rw [List.length_append, hr1, hr2]; omega
  have hco := canon_of h0 hr hcp hx
  refine T.region ?_
  refine TO.quiet (q_move rfl) (TO.quiet (q_move rfl) (TO.quiet (q_len Try.underlying27 rfl) (TO.quiet (q_remN (a := a) (b := q) rfl rfl (by omega)) ?_)))
  refine TO.quiet (q_assign rfl) ?_
  refine TO.nil ?_
  refine T.cut (fun ρ O => ∃ (kb cb2 : Option Addr) (kc cc2 : Nat), O = [oI bx2 29 [(.slice kb n kc), (.slice cb2 q cc2)], rowI kb kc 5 1 (byts (l.pre.take n)), rowI cb2 cc2 5 1 (byts ((l.loop.take q).drop (a % q) ++ (l.loop.take q).take (a % q))), oI bx1 29 (laCells l pb pc lb lc)] ∧ Heads [(0, (.agg (laCells l pb pc lb lc).toArray)), (1, (.pointer (some ⟨bx1, 0, none⟩))), (2, (.pointer (some ⟨bx2, 0, none⟩))), (3, (.slice lb q lc)), (4, .int .i64 (n : Int)), (5, .int .i64 ((a % q : Nat) : Int))] ρ) ?_ ?_
  · refine T.tree [oI bx1 29 (laCells l pb pc lb lc)] 15 mixed rfl (Sub.pick [1] rfl) (fun _ _ _ h => h) ?_
    refine RO.quietT 0 rfl (by kernel_rfl) (q_fieldAddr Try.underlying29 rfl inf27 rfl rfl) ?_
    refine RO.quietT 1 rfl (by kernel_rfl) (q_load_box 0 Try.underlying27 rfl rfl rfl rfl) ?_
    refine RO.quietT 2 rfl (by kernel_rfl) (q_move rfl) ?_
    refine RO.quietT 3 rfl (by kernel_rfl) (q_sliceTo (hi := n) Try.underlying27 inf5 rfl rfl (by omega)) ?_
    refine RO.quietT 5 rfl (by kernel_rfl) (q_move rfl) ?_
    refine RO.quietT 6 rfl (by kernel_rfl) (q_move rfl) ?_
    refine RO.quietT 7 rfl (by kernel_rfl) (q_sliceFrom (lo := (a % q)) Try.underlying27 inf5 rfl rfl (by omega) (by omega)) ?_
    refine RO.quietT 8 rfl (by kernel_rfl) (q_move rfl) ?_
    refine RO.quietT 9 rfl (by kernel_rfl) (q_move rfl) ?_
    refine RO.quietT 10 rfl (by kernel_rfl) (q_sliceTo (hi := (a % q)) Try.underlying27 inf5 rfl rfl (by omega)) ?_
    have hk49 := fun (w1 : World) (hI : Inv w [oI bx2 29 [(.slice none 0 0), (.slice none 0 0)], oI bx1 29 (laCells l pb pc lb lc)] w1) => (by
      have hC := cloneB w1 pb pc (l.pre.take n) ((hI.sl h.pre).btake n) (by rw [hpn]; omega)
      rw [hpn] at hC; exact hC)
    refine RO.fork [4, 11] (by kernel_rfl) rfl ⟨⟨_, rfl, rfl, l_call ent81 (CallT.of_pure hk49) rfl ?_⟩, ⟨_, rfl, rfl, l_buildSlice (m := 2) (parts := [(0, .tmp 52), (1, .tmp 55)]) (cs := [(.slice (subB lb lc (a % q) 1) (q - (a % q)) (lc - (a % q))), (.slice lb (a % q) lc)]) Try.underlying131 inf27 (by decide) (by kernel_rfl) rfl (fun zW => ⟨Sub.pick [2] rfl, ?_⟩)⟩, trivial⟩
    · clear hk49
      rintro vr O' ⟨N, rfl, kb, kc, rfl, rfl⟩
      refine ⟨Sub.pick [2] rfl, ?_⟩
      refine RO.fork [11] (by kernel_rfl) rfl ⟨⟨_, rfl, rfl, l_buildSlice (m := 2) (parts := [(0, .tmp 52), (1, .tmp 55)]) (cs := [(.slice (subB lb lc (a % q) 1) (q - (a % q)) (lc - (a % q))), (.slice lb (a % q) lc)]) Try.underlying131 inf27 (by decide) (by kernel_rfl) rfl (fun zW => ⟨Sub.pick [3] rfl, ?_⟩)⟩, trivial⟩
      have hk57 := fun (w1 : World) (hI : Inv w [rowI (some ⟨zW, 0, none⟩) 2 27 1 [(.slice (subB lb lc (a % q) 1) (q - (a % q)) (lc - (a % q))), (.slice lb (a % q) lc)], rowI kb kc 5 1 (byts (l.pre.take n)), oI bx2 29 [(.slice none 0 0), (.slice none 0 0)], oI bx1 29 (laCells l pb pc lb lc)] w1) => (by
        have hC := concatB w1 (some ⟨zW, 0, none⟩) 2 [.slice (subB lb lc (a % q) 1) (q - a % q) (lc - a % q), .slice lb (a % q) lc] [(l.loop.take q).drop (a % q), (l.loop.take q).take (a % q)] (hI.slOf (List.mem_of_getElem? (i := 0) rfl)) (WordsR.two ((hI.sl h.loop).bsub h.lc hmq hql) (((hI.sl h.loop).btake q).btake (a % q)) hr1 hr2) (by simp) (by rw [hfe, hfl]; omega)
        rw [hfe, hfl] at hC; exact hC)
      refine RO.fork [12] (by kernel_rfl) rfl ⟨⟨_, rfl, rfl, l_call ent82 (CallT.of_pure hk57) rfl ?_⟩, trivial⟩
      clear hk57
      rintro vr O' ⟨N, rfl, cb2, cc2, rfl, rfl⟩
      refine ⟨Sub.pick [4] rfl, ?_⟩
      refine RO.quietT 13 rfl (by kernel_rfl) (q_build (cs := [(.slice kb n kc), (.slice cb2 q cc2)]) plan29 inf29 (by kernel_rfl)) ?_
      refine RO.fork [14] (by kernel_rfl) rfl ⟨⟨_, rfl, rfl, l_store_box (v := (.agg #[(.slice kb n kc), (.slice cb2 q cc2)])) (vs := [(.slice kb n kc), (.slice cb2 q cc2)]) 3 inf29 rfl rfl rfl rfl rfl rfl (by simp [putL]) ⟨Sub.pick [4] rfl, ?_⟩⟩, trivial⟩
      exact RO.fin (by kernel_rfl) ⟨kb, cb2, kc, cc2, rfl, ⟨rfl, rfl, rfl, rfl, rfl, rfl, trivial⟩⟩ (Sub.pick [3, 2, 0, 1] rfl)
    have hk49 := fun (w1 : World) (hI : Inv w [rowI (some ⟨zW, 0, none⟩) 2 27 1 [(.slice (subB lb lc (a % q) 1) (q - (a % q)) (lc - (a % q))), (.slice lb (a % q) lc)], oI bx2 29 [(.slice none 0 0), (.slice none 0 0)], oI bx1 29 (laCells l pb pc lb lc)] w1) => (by
      have hC := cloneB w1 pb pc (l.pre.take n) ((hI.sl h.pre).btake n) (by rw [hpn]; omega)
      rw [hpn] at hC; exact hC)
    refine RO.fork [4] (by kernel_rfl) rfl ⟨⟨_, rfl, rfl, l_call ent81 (CallT.of_pure hk49) rfl ?_⟩, trivial⟩
    clear hk49
    rintro vr O' ⟨N, rfl, kb, kc, rfl, rfl⟩
    refine ⟨Sub.pick [3] rfl, ?_⟩
    have hk57 := fun (w1 : World) (hI : Inv w [rowI kb kc 5 1 (byts (l.pre.take n)), rowI (some ⟨zW, 0, none⟩) 2 27 1 [(.slice (subB lb lc (a % q) 1) (q - (a % q)) (lc - (a % q))), (.slice lb (a % q) lc)], oI bx2 29 [(.slice none 0 0), (.slice none 0 0)], oI bx1 29 (laCells l pb pc lb lc)] w1) => (by
      have hC := concatB w1 (some ⟨zW, 0, none⟩) 2 [.slice (subB lb lc (a % q) 1) (q - a % q) (lc - a % q), .slice lb (a % q) lc] [(l.loop.take q).drop (a % q), (l.loop.take q).take (a % q)] (hI.slOf (List.mem_of_getElem? (i := 1) rfl)) (WordsR.two ((hI.sl h.loop).bsub h.lc hmq hql) (((hI.sl h.loop).btake q).btake (a % q)) hr1 hr2) (by simp) (by rw [hfe, hfl]; omega)
      rw [hfe, hfl] at hC; exact hC)
    refine RO.fork [12] (by kernel_rfl) rfl ⟨⟨_, rfl, rfl, l_call ent82 (CallT.of_pure hk57) rfl ?_⟩, trivial⟩
    clear hk57
    rintro vr O' ⟨N, rfl, cb2, cc2, rfl, rfl⟩
    refine ⟨Sub.pick [4] rfl, ?_⟩
    refine RO.quietT 13 rfl (by kernel_rfl) (q_build (cs := [(.slice kb n kc), (.slice cb2 q cc2)]) plan29 inf29 (by kernel_rfl)) ?_
    refine RO.fork [14] (by kernel_rfl) rfl ⟨⟨_, rfl, rfl, l_store_box (v := (.agg #[(.slice kb n kc), (.slice cb2 q cc2)])) (vs := [(.slice kb n kc), (.slice cb2 q cc2)]) 3 inf29 rfl rfl rfl rfl rfl rfl (by simp [putL]) ⟨Sub.pick [4] rfl, ?_⟩⟩, trivial⟩
    exact RO.fin (by kernel_rfl) ⟨kb, cb2, kc, cc2, rfl, ⟨rfl, rfl, rfl, rfl, rfl, rfl, trivial⟩⟩ (Sub.pick [3, 1, 0, 1] rfl)
  rintro ρ O ⟨kb, cb2, kc, cc2, rfl, hH⟩
  obtain ⟨ρ0, rfl⟩ := hH.elim
  clear hH
  refine T.ret (Res.drop ?_)
  refine Res.cell1 (i := 0) Try.results29 Try.underlying29 rfl inf29 rfl rfl rfl ?_
  exact ⟨[rowI kb kc 5 1 (byts (l.pre.take n)), rowI cb2 cc2 5 1 (byts ((l.loop.take q).drop (a % q) ++ (l.loop.take q).take (a % q)))], (Sub.pick [1, 1] rfl), _, kb, cb2, kc, cc2, by show _ = Value.agg (List.toArray [.slice kb (l.pre.take n).length kc, .slice cb2 ((l.loop.take q).drop (a % q) ++ (l.loop.take q).take (a % q)).length cc2]); rw [hpn, hfl], rfl, hco⟩
end Go.Proofs.Ytnamoapbienooaa


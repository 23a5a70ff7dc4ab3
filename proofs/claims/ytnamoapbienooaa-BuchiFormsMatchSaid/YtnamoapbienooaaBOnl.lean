/- Contracts of functions of the program (BOnl): what each call answers and that it leaves memory as it was. Conditions: those each theorem names. -/
import Derived.Test.YtnamoapbienooaaTr2
import Derived.Test.YtnamoapbienooaaTarL
import Derived.Test.YtnamoapbienooaaBComp
import Derived.Test.YtnamoapbienooaaCoreP
import Derived.Test.YtnamoapbienooaaEndB
set_option linter.unusedSectionVars false
set_option linter.unusedSimpArgs false
set_option linter.unusedVariables false
set_option linter.unnecessarySimpa false
namespace Go.Proofs.Ytnamoapbienooaa
open Go.Lx Go.RowKit
set_option linter.unusedVariables false
set_option linter.unusedSimpArgs false
set_option maxHeartbeats 1000000 in
set_option maxRecDepth 20000 in
theorem renamedF (w : World) (b1 b2 : Option Addr) (c1 c2 : Nat) (xs ns : List Int) (h1 : Sl w b1 (ints xs)) (h2 : Sl w b2 (ints ns)) (hb : xs.length ≤ 1000000) (hx : ∀ x ∈ xs, 0 ≤ x ∧ x.toNat < ns.length) :
    PureT Try.prog 109 [.slice b1 xs.length c1, .slice b2 ns.length c2] w fun v N => ∃ rb rc, v = .slice rb (renL ns xs).length rc ∧ N = [rowI rb rc 3 1 (ints (renL ns xs))] := by
  refine CallT.enter Try.func109 rfl Try.ntmps109 rfl ?_
  refine T.seq (T.region ?_)
  refine TO.quiet (q_assign rfl) ?_
  refine TO.nil (T.seq (T.region ?_))
  refine TO.quiet (q_assign rfl) ?_
  refine TO.nil (T.seq (T.seq (T.region ?_)))
  refine TO.quiet (q_assign rfl) ?_
  refine TO.nil (T.block ?_)
  refine T.nilRow 3 1 ?_
  refine T.loopS (fun (k : Nat) ρ O => ∃ (rb : Option Addr) (rc : Nat), O = [rowI rb rc 3 1 (ints (renL ns (xs.take k)))] ∧ k ≤ xs.length ∧ Heads [(0, (.slice b1 xs.length c1)), (1, (.slice b2 ns.length c2)), (4, (.slice none 0 0)), (5, (.slice rb ((renL ns (xs.take k)).length) rc)), (6, .int .i64 (k : Int))] ρ) (fun k => xs.length - k) 0 ?_ ?_
  · exact ⟨none, 0, rfl, Nat.zero_le _, ⟨rfl, rfl, rfl, rfl, rfl, trivial⟩⟩
  rintro k ρ O ⟨rb, rc, rfl, hk, hH⟩
  obtain ⟨ρ0, rfl⟩ := hH.elim
  clear hH
  have hrl := renL_len ns xs k
  refine T.seq (T.seq (T.region ?_))
  refine TO.quiet (q_move rfl) (TO.quiet (q_move rfl) (TO.quiet (q_len Try.underlying22 rfl) (TO.quiet (q_lss rfl rfl) ?_)))
  refine TO.nil ?_
  refine T.condP rfl (fun hc => ?_) (fun hc => ?_)
  · have hlt10 : k < xs.length := by omega
    obtain ⟨x, hxe, hxn⟩ : ∃ x : Nat, xs[k] = (x : Int) ∧ x < ns.length := by
      have := hx _ (List.getElem_mem hlt10)
      exact ⟨xs[k].toNat, by omega, by omega⟩
    refine T.skip (T.seq (T.block (T.seq (T.region ?_))))
    refine TO.quiet (q_move rfl) (TO.quiet (q_move rfl) (TO.quiet (q_move rfl) (TO.quiet (q_ix (i := k) Try.underlying22 inf3 rfl rfl (Sl.o h1)) ?_)))
    refine TO.quiet (q_ld Try.underlying3 rfl rfl (Sl.o h1) (show (ints xs)[k]? = _ by rw [ints_get hlt10, hxe])) (TO.quiet (q_ix (i := x) Try.underlying22 inf3 rfl rfl (Sl.o h2)) (TO.quiet (q_ld Try.underlying3 rfl rfl (Sl.o h2) ints_get) (TO.quiet (q_geq rfl rfl) ?_)))
    refine TO.nil ?_
    refine T.condP rfl (fun hc => ?_) (fun hc => ?_)
    · refine T.region ?_
      refine TO.quiet (q_move rfl) (TO.quiet (q_move rfl) (TO.quiet (q_move rfl) (TO.quiet (q_move rfl) ?_)))
      refine TO.quiet (q_ix (i := k) Try.underlying22 inf3 rfl rfl (Sl.o h1)) (TO.quiet (q_ld Try.underlying3 rfl rfl (Sl.o h1) (show (ints xs)[k]? = _ by rw [ints_get hlt10, hxe])) (TO.quiet (q_ix (i := x) Try.underlying22 inf3 rfl rfl (Sl.o h2)) (TO.quiet (q_ld Try.underlying3 rfl rfl (Sl.o h2) ints_get) ?_)))
      refine TO.loud rfl (l_build1 (v := .int .i64 ns[x]) Try.underlying22 inf3 rfl rfl rfl (fun bx1 => ?_))
      refine TO.loud rfl (l_append 1 Try.underlying22 Try.underlying22 inf3 rfl rfl rfl rfl (by simp) (by decide) (Src.row (j := 0) rfl (by simp)) (by simp [oneB]) (by omega) (by decide) (by decide) (fun bx2 c3 => ?_))
      refine TO.quiet (q_assign rfl) ?_
      refine TO.nil (T.region ?_)
      refine TO.quiet (q_move rfl) (TO.quiet (q_addN (a := k) (b := 1) rfl rfl (by omega)) (TO.quiet (q_assign rfl) ?_))
      refine TO.nil ?_
      refine ⟨k + 1, by omega, [rowI bx2 c3 3 1 ((ints (renL ns (xs.take k))) ++ [.int .i64 ns[x]])], (by exact Sub.d (.k .z)), bx2, c3, ?_, by omega, ⟨rfl, rfl, rfl, (by rw [renL_yes hlt10 hxe hxn (by omega), List.length_append]; rfl), rfl, trivial⟩⟩
      rw [renL_yes hlt10 hxe hxn (by omega), show ints ((renL ns (xs.take k)) ++ [ns[x]]) = ints (renL ns (xs.take k)) ++ [.int .i64 ns[x]] from List.map_append]
    refine T.skip (T.region ?_)
    refine TO.quiet (q_move rfl) (TO.quiet (q_addN (a := k) (b := 1) rfl rfl (by omega)) (TO.quiet (q_assign rfl) ?_))
    refine TO.nil ?_
    refine ⟨k + 1, by omega, [rowI rb rc 3 1 (ints (renL ns (xs.take k)))], (by exact Sub.rf), rb, rc, ?_, by omega, ⟨rfl, rfl, rfl, (by rw [renL_no hlt10 hxe hxn (by omega)]; rfl), rfl, trivial⟩⟩
    rw [renL_no hlt10 hxe hxn (by omega)]
  have hge10 : ¬ k < xs.length := by omega
  refine T.exit ?_
  refine T.seq (T.region ?_)
  refine TO.quiet (q_move rfl) (TO.quiet (q_assign rfl) ?_)
  refine TO.nil (T.ret (Res.drop ?_))
  refine Res.one (.slice rb ((renL ns (xs.take k)).length) rc) Try.results109 rfl ?_
  have hkt : xs.take k = xs := List.take_of_length_le (by omega)
  rw [hkt]
  exact ⟨[rowI rb rc 3 1 (ints (renL ns xs))], (by exact Sub.rf), rb, rc, rfl, rfl⟩
set_option maxHeartbeats 4000000 in
set_option maxRecDepth 20000 in
theorem onlyF (w : World) (b : Bu) (sb eb tb : Option Addr) (sc ec tc : Nat) (vs : List Value) (h : BuAt w b sb eb tb vs) (hB : BuB b) (hv : ValidB b) (ks : List Bool) (kb : Option Addr) (kc : Nat) (hK : Sl w kb (bools ks)) (hkl : ks.length = b.states.toNat) :
    PureT Try.prog 84 [.agg (buCells b sb sc eb ec tb tc).toArray, .slice kb b.states.toNat kc] w fun v N => ∃ sb2 eb2 tb2 sc2 ec2 tc2 qs, v = .agg (buCells (trimWith b ks) sb2 sc2 eb2 ec2 tb2 tc2).toArray ∧ N = [rowI sb2 sc2 3 1 (ints (trimWith b ks).start), rowI eb2 ec2 54 4 (edsC (trimWith b ks).edges), rowI tb2 tc2 22 1 (vals qs)] ++ itms 3 qs ∧ nums qs = (trimWith b ks).sets := by
  refine CallT.enter Try.func84 rfl Try.ntmps84 rfl ?_
  have hst := hB.st; have hed := hB.ed; have hse := hB.se
  have hv0 := hv.n0; have hv4 := hv.n4; have hm8 := hv.m8
  refine T.seq (T.region ?_)
  refine TO.loud rfl (l_box (v := (.agg (buCells b sb sc eb ec tb tc).toArray)) (cs := (buCells b sb sc eb ec tb tc)) rfl rfl (fun bx1 => ?_))
  refine TO.loud rfl (l_alloc inf26 rfl (fun bx2 => ?_))
  refine TO.nil (T.seq (T.region ?_))
  refine TO.quiet (q_fieldAddr Try.underlying26 rfl inf3 rfl rfl) (TO.quiet (QT.cast (q_load_box 1 Try.underlying3 rfl rfl rfl rfl) (v' := .int .i64 ((b.states.toNat : Nat) : Int)) (by show Value.int _ _ = _; rw [Int.toNat_of_nonneg hv0])) ?_)
  refine TO.loud rfl (l_makeSlice (m := b.states.toNat) Try.underlying22 inf3 rfl rfl (by omega) (by omega) (fun bx3 => ?_))
  refine TO.quiet (q_assign rfl) ?_
  refine TO.nil (T.seq (T.region ?_))
  refine TO.quiet (q_fieldAddr Try.underlying26 rfl inf3 rfl rfl) (TO.quiet (q_load_box 2 Try.underlying3 rfl rfl rfl rfl) (TO.quiet (q_build (cs := [(.int .i64 b.vars), (.int .i64 0), (.slice none 0 0), (.slice none 0 0), (.slice none 0 0)]) plan26 inf26 (by kernel_rfl)) ?_))
  refine TO.loud rfl (l_alloc inf26 rfl (fun bx4 => ?_))
  refine TO.loud rfl (l_store_box (v := (.agg #[(.int .i64 b.vars), (.int .i64 0), (.slice none 0 0), (.slice none 0 0), (.slice none 0 0)])) (vs := [(.int .i64 b.vars), (.int .i64 0), (.slice none 0 0), (.slice none 0 0), (.slice none 0 0)]) 0 inf26 rfl rfl rfl rfl rfl rfl (by simp [putL]) ?_)
  refine TO.nil (T.seq (T.seq (T.region ?_)))
  refine TO.quiet (q_assign rfl) ?_
  refine TO.nil (T.block ?_)
  refine T.loop (fun (k : Nat) ρ O => ∃ (ns : List Int), O = [oI bx4 26 [(.int .i64 b.vars), (.int .i64 ((cntK ks k : Nat) : Int)), (.slice none 0 0), (.slice none 0 0), (.slice none 0 0)], rowI (some ⟨bx3, 0, none⟩) b.states.toNat 3 1 (ints ns), oI bx2 26 [(.int .i64 0), (.int .i64 0), (.slice none 0 0), (.slice none 0 0), (.slice none 0 0)], oI bx1 26 (buCells b sb sc eb ec tb tc)] ∧ k ≤ b.states.toNat ∧ NumZ ks k ns ∧ Heads [(0, (.agg (buCells b sb sc eb ec tb tc).toArray)), (1, (.slice kb b.states.toNat kc)), (2, (.pointer (some ⟨bx1, 0, none⟩))), (4, (.pointer (some ⟨bx2, 0, none⟩))), (5, (.slice (some ⟨bx3, 0, none⟩) b.states.toNat b.states.toNat)), (6, (.pointer (some ⟨bx4, 0, none⟩))), (7, .int .i64 (k : Int))] ρ) (fun k => b.states.toNat - k) 0 ?_ ?_
  · exact ⟨List.replicate b.states.toNat 0, (by first | (simp only [List.map_replicate]; done) | (simp only [List.map_replicate]; rfl)), Nat.zero_le _, (by rw [← hkl]; exact NumZ.start ks), ⟨rfl, rfl, rfl, rfl, rfl, rfl, rfl, trivial⟩⟩
  rintro k ρ O ⟨ns, rfl, hk, hN, hH⟩
  obtain ⟨ρ0, rfl⟩ := hH.elim
  clear hH
  have hnl : ns.length = b.states.toNat := by rw [hN.l, hkl]
  have hcl := cntK_le ks k
  refine T.seq (T.seq (T.region ?_))
  refine TO.quiet (q_move rfl) (TO.quiet (q_fieldAddr Try.underlying26 rfl inf3 rfl rfl) (TO.quiet (QT.cast (q_load_box 3 Try.underlying3 rfl rfl rfl rfl) (v' := .int .i64 ((b.states.toNat : Nat) : Int)) (by show Value.int _ _ = _; rw [Int.toNat_of_nonneg hv0])) (TO.quiet (q_lss rfl rfl) ?_)))
  refine TO.nil ?_
  refine T.condP rfl (fun hc => ?_) (fun hc => ?_)
  · have hlt20 : k < b.states.toNat := by omega
    refine T.skip (T.seq (T.block (T.seq (T.region ?_))))
    refine TO.quiet (q_move rfl) (TO.quiet (q_move rfl) (TO.quiet (q_ix (i := k) Try.underlying22 inf3 rfl rfl (rowO (List.mem_of_getElem? (i := 1) rfl))) ?_))
    refine TO.loud rfl (l_st (j := k) (v := .int .i64 (-1)) (vs := [(.int .i64 (-1))]) (cs := ints ns) 1 inf3 rfl rfl rfl rfl rfl (by simp) rfl (by first | (simp; omega) | (simp_all; omega)) ?_)
    refine TO.sub (O' := [oI bx4 26 [(.int .i64 b.vars), (.int .i64 ((cntK ks k : Nat) : Int)), (.slice none 0 0), (.slice none 0 0), (.slice none 0 0)], rowI (some ⟨bx3, 0, none⟩) b.states.toNat 3 1 (ints (ns.set k (-1))), oI bx2 26 [(.int .i64 0), (.int .i64 0), (.slice none 0 0), (.slice none 0 0), (.slice none 0 0)], oI bx1 26 (buCells b sb sc eb ec tb tc)]) (by rw [show putL (ints ns) k [(.int .i64 (-1))] = ints (ns.set k (-1)) from (by simp [putL])]; exact Sub.of (List.Sublist.refl _)) ?_
    refine TO.nil (T.seq (T.region ?_))
    refine TO.quiet (q_move rfl) (TO.quiet (q_move rfl) (TO.quiet (q_ix (i := k) Try.underlying39 inf4 rfl rfl (Sl.o hK)) (TO.quiet (q_ld Try.underlying4 rfl rfl (Sl.o hK) bools_get) ?_)))
    refine TO.nil ?_
    refine T.cond rfl (fun hc => ?_) (fun hc => ?_)
    · refine T.seq ?_
      refine T.region ?_
      refine TO.quiet (q_move rfl) (TO.quiet (q_move rfl) (TO.quiet (q_fieldAddr Try.underlying26 rfl inf3 rfl rfl) (TO.quiet (q_load_box 0 Try.underlying3 rfl rfl rfl rfl) ?_)))
      refine TO.quiet (q_ix (i := k) Try.underlying22 inf3 rfl rfl (rowO (List.mem_of_getElem? (i := 1) rfl))) ?_
      refine TO.loud rfl (l_st (j := k) (v := (.int .i64 ((cntK ks k : Nat) : Int))) (vs := [(.int .i64 ((cntK ks k : Nat) : Int))]) (cs := ints (ns.set k (-1))) 1 inf3 rfl rfl rfl rfl rfl (by simp) rfl (by first | (simp; omega) | (simp_all; omega)) ?_)
      refine TO.sub (O' := [oI bx4 26 [(.int .i64 b.vars), (.int .i64 ((cntK ks k : Nat) : Int)), (.slice none 0 0), (.slice none 0 0), (.slice none 0 0)], rowI (some ⟨bx3, 0, none⟩) b.states.toNat 3 1 (ints ((ns.set k (-1)).set k ((cntK ks k : Nat) : Int))), oI bx2 26 [(.int .i64 0), (.int .i64 0), (.slice none 0 0), (.slice none 0 0), (.slice none 0 0)], oI bx1 26 (buCells b sb sc eb ec tb tc)]) (by rw [show putL (ints (ns.set k (-1))) k [(.int .i64 ((cntK ks k : Nat) : Int))] = ints ((ns.set k (-1)).set k ((cntK ks k : Nat) : Int)) from (by simp [putL])]; exact Sub.of (List.Sublist.refl _)) ?_
      refine TO.nil (T.region ?_)
      refine TO.quiet (q_fieldAddr Try.underlying26 rfl inf3 rfl rfl) (TO.quiet (q_load_box 0 Try.underlying3 rfl rfl rfl rfl) (TO.quiet (q_addN (a := (cntK ks k)) (b := 1) rfl rfl (by omega)) (TO.quiet (q_fieldAddr Try.underlying26 rfl inf3 rfl rfl) ?_)))
      refine TO.loud rfl (l_store_box (v := .int .i64 (((cntK ks k) + 1 : Nat) : Int)) (vs := [(.int .i64 (((cntK ks k) + 1 : Nat) : Int))]) 0 inf3 rfl rfl rfl rfl rfl rfl (by simp [putL]) ?_)
      refine TO.nil (T.region ?_)
      refine TO.quiet (q_move rfl) (TO.quiet (q_addN (a := k) (b := 1) rfl rfl (by omega)) (TO.quiet (q_assign rfl) ?_))
      refine TO.nil ?_
      refine ⟨k + 1, by omega, (ns.set k (-1)).set k ((cntK ks k : Nat) : Int), ?_, by omega, (by rw [List.set_set]; exact hN.put (by omega) (by rw [gb (by omega), if_pos hc])), ⟨rfl, rfl, rfl, rfl, rfl, rfl, rfl, trivial⟩⟩
      rw [cntK_succ (by omega), if_pos (by rw [gb (by omega)]; exact hc)]; rfl
    refine T.skip (T.region ?_)
    refine TO.quiet (q_move rfl) (TO.quiet (q_addN (a := k) (b := 1) rfl rfl (by omega)) (TO.quiet (q_assign rfl) ?_))
    refine TO.nil ?_
    refine ⟨k + 1, by omega, ns.set k (-1), ?_, by omega, hN.put (by omega) (by rw [gb (by omega), if_neg (by rw [hc]; decide)]), ⟨rfl, rfl, rfl, rfl, rfl, rfl, rfl, trivial⟩⟩
    rw [cntK_succ (by omega), if_neg (by rw [gb (by omega), hc]; decide), Nat.add_zero]
  have hge20 : ¬ k < b.states.toNat := by omega
  refine T.exit ?_
  refine T.seq ?_
  have hke : k = b.states.toNat := by omega
  have hNN : NumZ ks ks.length ns := by rw [hkl, ← hke]; exact hN
  refine T.region ?_
  refine TO.quiet (q_fieldAddr Try.underlying26 rfl inf22 rfl rfl) (TO.quiet (q_load_box 3 Try.underlying22 rfl rfl rfl rfl) (TO.quiet (q_move rfl) ?_))
  have hk42 := fun (w1 : World) (hI : Inv w [oI bx4 26 [(.int .i64 b.vars), (.int .i64 ((cntK ks k : Nat) : Int)), (.slice none 0 0), (.slice none 0 0), (.slice none 0 0)], rowI (some ⟨bx3, 0, none⟩) b.states.toNat 3 1 (ints ns), oI bx2 26 [(.int .i64 0), (.int .i64 0), (.slice none 0 0), (.slice none 0 0), (.slice none 0 0)], oI bx1 26 (buCells b sb sc eb ec tb tc)] w1) => (by
    have h9 := renamedF w1 sb (some ⟨bx3, 0, none⟩) sc b.states.toNat b.start ns (hI.sl h.st) (hI.slOf (List.mem_of_getElem? (i := 1) rfl)) hst (fun x hx => by have := (fun (x : Int) hx => (show 0 ≤ x ∧ x.toNat < ks.length ∧ x.toNat < ns.length by have := hv.st x hx; omega)) x hx; omega)
    rw [renL_eq hNN (fun x hx => by have := (fun (x : Int) hx => (show 0 ≤ x ∧ x.toNat < ks.length ∧ x.toNat < ns.length by have := hv.st x hx; omega)) x hx; omega), hnl] at h9; exact h9)
  refine TO.loud rfl (l_call ent109 (CallT.of_pure hk42) rfl ?_)
  clear hk42
  rintro vr O' ⟨N, rfl, rb1, rc1, rfl, rfl⟩
  refine TO.quiet (q_fieldAddr Try.underlying26 rfl inf22 rfl rfl) ?_
  refine TO.loud rfl (l_store_box (v := (.slice rb1 ((renK ks b.start).length) rc1)) (vs := [(.slice rb1 ((renK ks b.start).length) rc1)]) 1 inf22 rfl rfl rfl rfl rfl rfl (by simp [putL]) ?_)
  refine TO.nil (T.seq (T.seq (T.region ?_)))
  refine TO.quiet (q_assign rfl) ?_
  refine TO.nil (T.block ?_)
  refine T.nilRow 22 1 ?_
  refine T.sub (O' := [rowI none 0 22 1 [], rowI rb1 rc1 3 1 (ints (renK ks b.start)), oI bx4 26 [(.int .i64 b.vars), (.int .i64 ((cntK ks k : Nat) : Int)), (.slice rb1 ((renK ks b.start).length) rc1), (.slice none 0 0), (.slice none 0 0)], rowI (some ⟨bx3, 0, none⟩) b.states.toNat 3 1 (ints ns), oI bx2 26 [(.int .i64 0), (.int .i64 0), (.slice none 0 0), (.slice none 0 0), (.slice none 0 0)], oI bx1 26 (buCells b sb sc eb ec tb tc)] ++ itms 3 []) (Sub.of (List.Sublist.refl _)) ?_
  refine T.loop (fun (k5 : Nat) ρ O => ∃ (q5 : List Rec) (tb5 : Option Addr) (tc5 : Nat), O = ([rowI tb5 tc5 22 1 (vals q5), rowI rb1 rc1 3 1 (ints (renK ks b.start)), oI bx4 26 [(.int .i64 b.vars), (.int .i64 ((cntK ks k : Nat) : Int)), (.slice rb1 ((renK ks b.start).length) rc1), (.slice none 0 0), (.slice tb5 k5 tc5)], rowI (some ⟨bx3, 0, none⟩) b.states.toNat 3 1 (ints ns), oI bx2 26 [(.int .i64 0), (.int .i64 0), (.slice none 0 0), (.slice none 0 0), (.slice none 0 0)], oI bx1 26 (buCells b sb sc eb ec tb tc)] ++ (itms 3 q5)) ∧ k5 ≤ b.sets.length ∧ nums q5 = (b.sets.take k5).map (renK ks) ∧ Heads [(0, (.agg (buCells b sb sc eb ec tb tc).toArray)), (1, (.slice kb b.states.toNat kc)), (2, (.pointer (some ⟨bx1, 0, none⟩))), (4, (.pointer (some ⟨bx2, 0, none⟩))), (5, (.slice (some ⟨bx3, 0, none⟩) b.states.toNat b.states.toNat)), (6, (.pointer (some ⟨bx4, 0, none⟩))), (7, .int .i64 (k : Int)), (8, .int .i64 (k5 : Int))] ρ) (fun k5 => b.sets.length - k5) 0 ?_ ?_
  · exact ⟨[], none, 0, rfl, Nat.zero_le _, rfl, ⟨rfl, rfl, rfl, rfl, rfl, rfl, rfl, rfl, trivial⟩⟩
  rintro k5 ρ O ⟨q5, tb5, tc5, rfl, hk5, hq5, hH⟩
  obtain ⟨ρ0, rfl⟩ := hH.elim
  clear hH
  have hq5l : q5.length = k5 := by have h9 := congrArg List.length hq5; simp [nums] at h9; omega
  refine T.seq (T.seq (T.region ?_))
  refine TO.quiet (q_move rfl) (TO.quiet (q_fieldAddr Try.underlying26 rfl inf24 rfl rfl) (TO.quiet (q_load_box 5 Try.underlying24 rfl rfl rfl rfl) (TO.quiet (q_len Try.underlying24 rfl) ?_)))
  refine TO.quiet (q_lss rfl rfl) ?_
  refine TO.nil ?_
  refine T.condP rfl (fun hc => ?_) (fun hc => ?_)
  · have hlt48 : k5 < b.sets.length := by omega
    obtain ⟨sbk, sck, g1, s1⟩ := h.rows.get hlt48
    refine T.skip (T.seq (T.block ?_))
    refine T.draws [oI bx4 26 [(.int .i64 b.vars), (.int .i64 ((cntK ks k : Nat) : Int)), (.slice rb1 ((renK ks b.start).length) rc1), (.slice none 0 0), (.slice tb5 k5 tc5)], rowI (some ⟨bx3, 0, none⟩) b.states.toNat 3 1 (ints ns), oI bx2 26 [(.int .i64 0), (.int .i64 0), (.slice none 0 0), (.slice none 0 0), (.slice none 0 0)], oI bx1 26 (buCells b sb sc eb ec tb tc)] [(0, 0), (1, 0), (2, 0), (3, 0), (4, 0), (5, 0), (6, 0), (7, 0), (8, 1), (9, 1), (10, 2), (11, 2), (12, 2)] mixed (by kernel_rfl) (by exact Sub.d (.d (.k (.k (.k (.k .z)))))) (fun _ _ _ h => h) ?_
    refine DO.quiet rfl (q_fieldAddr Try.underlying26 rfl inf24 rfl rfl) (DO.quiet rfl (q_load_box 0 Try.underlying24 rfl rfl rfl rfl) (DO.quiet rfl (q_fieldAddr Try.underlying26 rfl inf24 rfl rfl) (DO.quiet rfl (q_load_box 3 Try.underlying24 rfl rfl rfl rfl) ?_)))
    refine DO.quiet rfl (q_move rfl) (DO.quiet rfl (q_ix (i := k5) Try.underlying24 inf22 rfl rfl (Sl.o h.out) (by first | assumption | omega | (simp; omega) | simp_all) (by rw [h.rows.1]; exact hlt48)) (DO.quiet rfl (q_ld Try.underlying22 rfl rfl (Sl.o h.out) g1) (DO.quiet rfl (q_move rfl) ?_)))
    have hk59 := fun (w1 : World) (hI : Inv w ([rowI tb5 tc5 22 1 (vals q5), rowI rb1 rc1 3 1 (ints (renK ks b.start)), oI bx4 26 [(.int .i64 b.vars), (.int .i64 ((cntK ks k : Nat) : Int)), (.slice rb1 ((renK ks b.start).length) rc1), (.slice none 0 0), (.slice tb5 k5 tc5)], rowI (some ⟨bx3, 0, none⟩) b.states.toNat 3 1 (ints ns), oI bx2 26 [(.int .i64 0), (.int .i64 0), (.slice none 0 0), (.slice none 0 0), (.slice none 0 0)], oI bx1 26 (buCells b sb sc eb ec tb tc)] ++ (itms 3 q5)) w1) => (by
      have h9 := renamedF w1 sbk (some ⟨bx3, 0, none⟩) sck b.states.toNat b.sets[k5] ns (hI.sl s1) (hI.slOf (List.mem_of_getElem? (i := 3) rfl)) (hB.sr _ (List.getElem_mem hlt48)) (fun x hx => by have := (fun (x : Int) hx => (show 0 ≤ x ∧ x.toNat < ks.length ∧ x.toNat < ns.length by have := hv.se _ (List.getElem_mem hlt48) x hx; omega)) x hx; omega)
      rw [renL_eq hNN (fun x hx => by have := (fun (x : Int) hx => (show 0 ≤ x ∧ x.toNat < ks.length ∧ x.toNat < ns.length by have := hv.se _ (List.getElem_mem hlt48) x hx; omega)) x hx; omega), hnl] at h9; exact h9)
    refine DO.loud rfl rfl (l_call ent109 (CallT.of_pure hk59) rfl ?_)
    clear hk59
    rintro vr O' ⟨N, rfl, rb2, rc2, rfl, rfl⟩
    refine ⟨by exact Sub.d (.d (.d (.k (.k (.k (.k .z)))))), ?_⟩
    refine DO.loud rfl rfl (l_build1 (v := (.slice rb2 ((renK ks b.sets[k5]).length) rc2)) Try.underlying24 inf22 rfl rfl rfl (fun bx5 => ⟨by exact Sub.d (.d (.d (.d (.k (.k (.k (.k .z))))))), ?_⟩))
    refine DO.last rfl rfl (l_append 2 Try.underlying24 Try.underlying24 inf22 rfl rfl rfl rfl (by simp [vals]; omega) (by decide) (Src.row (j := 0) rfl (by simp)) (by simp [oneB]) (by omega) (by decide) (by decide) (fun bx6 c7 => ?_))
    refine DO.last rfl rfl (LT.of_quiet rfl rfl (q_fieldAddr Try.underlying26 rfl inf24 rfl rfl) ?_)
    refine DO.last rfl rfl (l_store_box (v := (.slice bx6 (k5 + 1) c7)) (vs := [(.slice bx6 (k5 + 1) c7)]) 4 inf24 rfl rfl rfl rfl rfl rfl (by simp [putL]) ?_)
    refine DO.sub (O' := [rowI rb2 rc2 3 1 (ints (renK ks b.sets[k5])), rowI bx6 c7 22 1 ((vals q5) ++ [(.slice rb2 ((renK ks b.sets[k5]).length) rc2)]), rowI rb1 rc1 3 1 (ints (renK ks b.start)), oI bx4 26 [(.int .i64 b.vars), (.int .i64 ((cntK ks k : Nat) : Int)), (.slice rb1 ((renK ks b.start).length) rc1), (.slice none 0 0), (.slice bx6 (k5 + 1) c7)], rowI (some ⟨bx3, 0, none⟩) b.states.toNat 3 1 (ints ns), oI bx2 26 [(.int .i64 0), (.int .i64 0), (.slice none 0 0), (.slice none 0 0), (.slice none 0 0)], oI bx1 26 (buCells b sb sc eb ec tb tc)] ++ itms 3 q5) (by exact Sub.d (.k (.k (.k (.k (.k (.k (.k .rf)))))))) ?_
    refine DO.sub (O' := [rowI bx6 c7 22 1 ((vals q5) ++ [(.slice rb2 ((renK ks b.sets[k5]).length) rc2)]), rowI rb1 rc1 3 1 (ints (renK ks b.start)), oI bx4 26 [(.int .i64 b.vars), (.int .i64 ((cntK ks k : Nat) : Int)), (.slice rb1 ((renK ks b.start).length) rc1), (.slice none 0 0), (.slice bx6 (k5 + 1) c7)], rowI (some ⟨bx3, 0, none⟩) b.states.toNat 3 1 (ints ns), oI bx2 26 [(.int .i64 0), (.int .i64 0), (.slice none 0 0), (.slice none 0 0), (.slice none 0 0)], oI bx1 26 (buCells b sb sc eb ec tb tc)] ++ itms 3 (q5 ++ [⟨rb2, rc2, renK ks b.sets[k5]⟩])) (Sub.cnt [] (by intro a; simp only [itms, Rec.itm, oI, List.set_cons_zero, List.set_cons_succ, putL, List.cons_append, List.nil_append, List.append_nil, List.append_assoc, List.map_append, List.map_cons, List.map_nil, cnt_append, cnt_cons, cnt_nil, buCells, laCells] <;> omega)) ?_
    refine DO.done ?_
    refine T.region ?_
    refine TO.quiet (q_move rfl) (TO.quiet (q_addN (a := k5) (b := 1) rfl rfl (by omega)) (TO.quiet (q_assign rfl) ?_))
    refine TO.nil ?_
    exact ⟨k5 + 1, by omega, q5 ++ [⟨rb2, rc2, renK ks b.sets[k5]⟩], bx6, c7, (by simp only [vals, List.map_append, List.map_cons, List.map_nil]; rfl), by omega, (by rw [List.take_succ_eq_append_getElem hlt48, List.map_append, ← hq5]; simp [nums]), ⟨rfl, rfl, rfl, rfl, rfl, rfl, rfl, rfl, trivial⟩⟩
  have hge48 : ¬ k5 < b.sets.length := by omega
  refine T.exit ?_
  refine T.seq (T.seq (T.region ?_))
  refine TO.quiet (q_assign rfl) ?_
  refine TO.nil (T.block ?_)
  refine T.nilRow 54 4 ?_
  refine T.loopS (fun (k6 : Nat) ρ O => ∃ (eb6 : Option Addr) (ec6 : Nat), O = ([rowI eb6 ec6 54 4 (edsC (edK ks (b.edges.take k6))), rowI tb5 tc5 22 1 (vals q5), rowI rb1 rc1 3 1 (ints (renK ks b.start)), oI bx4 26 [(.int .i64 b.vars), (.int .i64 ((cntK ks k : Nat) : Int)), (.slice rb1 ((renK ks b.start).length) rc1), (.slice eb6 ((edK ks (b.edges.take k6)).length) ec6), (.slice tb5 k5 tc5)], rowI (some ⟨bx3, 0, none⟩) b.states.toNat 3 1 (ints ns), oI bx2 26 [(.int .i64 0), (.int .i64 0), (.slice none 0 0), (.slice none 0 0), (.slice none 0 0)], oI bx1 26 (buCells b sb sc eb ec tb tc)] ++ (itms 3 q5)) ∧ k6 ≤ b.edges.length ∧ Heads [(0, (.agg (buCells b sb sc eb ec tb tc).toArray)), (1, (.slice kb b.states.toNat kc)), (2, (.pointer (some ⟨bx1, 0, none⟩))), (4, (.pointer (some ⟨bx2, 0, none⟩))), (5, (.slice (some ⟨bx3, 0, none⟩) b.states.toNat b.states.toNat)), (6, (.pointer (some ⟨bx4, 0, none⟩))), (7, .int .i64 (k : Int)), (8, .int .i64 (k5 : Int)), (9, .int .i64 (k6 : Int))] ρ) (fun k6 => b.edges.length - k6) 0 ?_ ?_
  · exact ⟨none, 0, rfl, Nat.zero_le _, ⟨rfl, rfl, rfl, rfl, rfl, rfl, rfl, rfl, rfl, trivial⟩⟩
  rintro k6 ρ O ⟨eb6, ec6, rfl, hk6, hH⟩
  obtain ⟨ρ0, rfl⟩ := hH.elim
  clear hH
  refine T.seq (T.seq (T.region ?_))
  refine TO.quiet (q_move rfl) (TO.quiet (q_fieldAddr Try.underlying26 rfl inf23 rfl rfl) (TO.quiet (q_load_box 6 Try.underlying23 rfl rfl rfl rfl) (TO.quiet (q_len Try.underlying23 rfl) ?_)))
  refine TO.quiet (q_lss rfl rfl) ?_
  refine TO.nil ?_
  refine T.condP rfl (fun hc => ?_) (fun hc => ?_)
  · have hlt67 : k6 < b.edges.length := by omega
    obtain ⟨u1, hu1, hn1⟩ : ∃ u : Nat, b.edges[k6].fr = (u : Int) ∧ u < ns.length := by
      have := (hv.ed _ (List.getElem_mem hlt67)).1
      exact ⟨b.edges[k6].fr.toNat, by omega, by omega⟩
    obtain ⟨u2, hu2, hn2⟩ : ∃ u : Nat, b.edges[k6].to = (u : Int) ∧ u < ns.length := by
      have := (hv.ed _ (List.getElem_mem hlt67)).2
      exact ⟨b.edges[k6].to.toNat, by omega, by omega⟩
    have hel := edK_lenT ks b.edges k6
    refine T.skip (T.seq (T.block (T.seq (T.region ?_))))
    refine TO.quiet (q_fieldAddr Try.underlying26 rfl inf23 rfl rfl) (TO.quiet (q_load_box 6 Try.underlying23 rfl rfl rfl rfl) (TO.quiet (q_move rfl) (TO.quiet (q_ixK (i := k6) Try.underlying23 inf54 rfl rfl (Sl.o h.ed) (by first | assumption | omega | (simp; omega) | simp_all) (by first | (rw [eds_len]; omega) | (simp [eds_len]; omega) | (simp_all [eds_len]; omega))) ?_)))
    refine TO.quiet (q_ldK (vs := [.int .i64 b.edges[k6].fr, .int .i64 b.edges[k6].to, .int .u8 ((b.edges[k6].pos : Nat) : Int), .int .u8 ((b.edges[k6].neg : Nat) : Int)]) Try.underlying54 rfl inf54 rfl rfl (Nat.succ_pos _) (Sl.o h.ed) (eds_get (by first | assumption | omega | (simp; omega) | simp_all))) ?_
    refine TO.loud rfl (l_alloc inf54 rfl (fun bx8 => ?_))
    refine TO.loud rfl (l_store_box (v := (.agg #[.int .i64 b.edges[k6].fr, .int .i64 b.edges[k6].to, .int .u8 ((b.edges[k6].pos : Nat) : Int), .int .u8 ((b.edges[k6].neg : Nat) : Int)])) (vs := [.int .i64 b.edges[k6].fr, .int .i64 b.edges[k6].to, .int .u8 ((b.edges[k6].pos : Nat) : Int), .int .u8 ((b.edges[k6].neg : Nat) : Int)]) 0 inf54 rfl rfl rfl rfl rfl rfl (by simp [putL]) ?_)
    refine TO.nil (T.seq ?_)
    refine T.draws2 [rowI (some ⟨bx3, 0, none⟩) b.states.toNat 3 1 (ints ns), oI bx1 26 (buCells b sb sc eb ec tb tc)] [oI bx8 54 [.int .i64 b.edges[k6].fr, .int .i64 b.edges[k6].to, .int .u8 ((b.edges[k6].pos : Nat) : Int), .int .u8 ((b.edges[k6].neg : Nat) : Int)]] [(0, 0), (1, 0), (2, 3), (3, 0), (4, 0), (5, 0), (6, 0), (7, 3), (8, 0), (9, 0), (10, 0), (11, 4), (12, 0), (13, 2)] mixed (by kernel_rfl) (by exact Sub.d (.d (.d (.d (.d (.k (.d (.k .z)))))))) (by exact Sub.k .z) (fun _ _ _ h => h) ?_
    refine DO.quiet rfl (q_move rfl) (DO.quiet rfl (q_fieldAddr Try.underlying54 rfl inf3 rfl rfl) ?_)
    refine DO.quiet2 rfl (QT.cast (q_load_box 0 Try.underlying3 rfl rfl rfl rfl) (v' := .int .i64 ((u1 : Nat) : Int)) (by show Value.int _ _ = _; rw [hu1])) ?_
    refine DO.quiet rfl (q_ix (i := u1) Try.underlying22 inf3 rfl rfl (rowO (List.mem_of_getElem? (i := 0) rfl))) (DO.quiet rfl (q_ld Try.underlying3 rfl rfl (rowO (List.mem_of_getElem? (i := 0) rfl)) ints_get) (DO.quiet rfl (q_move rfl) (DO.quiet rfl (q_fieldAddr Try.underlying54 rfl inf3 rfl rfl) ?_)))
    refine DO.quiet2 rfl (QT.cast (q_load_box 0 Try.underlying3 rfl rfl rfl rfl) (v' := .int .i64 ((u2 : Nat) : Int)) (by show Value.int _ _ = _; rw [hu2])) ?_
    refine DO.quiet rfl (q_ix (i := u2) Try.underlying22 inf3 rfl rfl (rowO (List.mem_of_getElem? (i := 0) rfl))) (DO.quiet rfl (q_ld Try.underlying3 rfl rfl (rowO (List.mem_of_getElem? (i := 0) rfl)) ints_get) (DO.quiet rfl (q_fieldAddr Try.underlying54 rfl inf3 rfl rfl) ?_))
    refine DO.last2 rfl rfl (l_store_box (v := .int .i64 ns[u1]) (vs := [(.int .i64 ns[u1])]) 0 inf3 rfl rfl rfl rfl rfl rfl (by simp [putL]) ⟨by exact Sub.d (.d (.d (.d (.d (.k (.d (.k .z))))))), ?_⟩)
    refine DO.quiet rfl (q_fieldAddr Try.underlying54 rfl inf3 rfl rfl) ?_
    refine DO.last rfl rfl (l_store_box (v := .int .i64 ns[u2]) (vs := [(.int .i64 ns[u2])]) 0 inf3 rfl rfl rfl rfl rfl rfl (by simp [putL]) ?_)
    refine DO.done ?_
    refine T.seq (T.region ?_)
    refine TO.quiet (q_fieldAddr Try.underlying54 rfl inf3 rfl rfl) (TO.quiet (q_load_box 0 Try.underlying3 rfl rfl rfl rfl) (TO.quiet (q_geq rfl rfl) ?_))
    by_cases hs90 : ns[u1] ≥ 0
    · refine TO.quiet (QT.toB (q_move rfl) (decide_eq_true hs90)) ?_
      refine TO.guarded rfl rfl rfl (LT.of_quiet rfl rfl (q_fieldAddr Try.underlying54 rfl inf3 rfl rfl) ?_)
      refine TO.guarded rfl rfl rfl (LT.of_quiet rfl rfl (q_load_box 0 Try.underlying3 rfl rfl rfl rfl) ?_)
      refine TO.guarded rfl rfl rfl (LT.of_quiet rfl rfl (q_geq rfl rfl) ?_)
      refine TO.quiet (q_pick1 rfl rfl) ?_
      refine TO.nil ?_
      refine T.condP rfl (fun hc => ?_) (fun hc => ?_)
      · refine T.region ?_
        refine TO.quiet (q_fieldAddr Try.underlying26 rfl inf23 rfl rfl) (TO.quiet (q_load_box 4 Try.underlying23 rfl rfl rfl rfl) (TO.quiet (q_load_boxAgg 0 Try.underlying54 rfl inf54 rfl rfl rfl) ?_))
        refine TO.loud rfl (l_buildSlice (m := 1) (parts := [(0, _)]) (cs := [(.int .i64 ns[u1]), (.int .i64 ns[u2]), .int .u8 ((b.edges[k6].pos : Nat) : Int), .int .u8 ((b.edges[k6].neg : Nat) : Int)]) Try.underlying23 inf54 (by decide) (by kernel_rfl) rfl (fun bx9 => ?_))
        refine TO.loud rfl (l_append 2 Try.underlying23 Try.underlying23 inf54 rfl rfl rfl rfl (by rw [eds_len]) (by decide) (Src.row (j := 0) rfl (by simp)) (by simp [oneB]) (by omega) (by decide) (by decide) (fun bx10 c11 => ?_))
        refine TO.quiet (q_fieldAddr Try.underlying26 rfl inf23 rfl rfl) ?_
        refine TO.loud rfl (l_store_box (v := (.slice bx10 (((edK ks (b.edges.take k6)).length) + 1) c11)) (vs := [(.slice bx10 (((edK ks (b.edges.take k6)).length) + 1) c11)]) 5 inf23 rfl rfl rfl rfl rfl rfl (by simp [putL]) ?_)
        refine TO.nil (T.region ?_)
        refine TO.quiet (q_move rfl) (TO.quiet (q_addN (a := k6) (b := 1) rfl rfl (by omega)) (TO.quiet (q_assign rfl) ?_))
        refine TO.nil ?_
        have hy1 := (hNN.ge hn1).1 (by omega)
        have hy2 := (hNN.ge hn2).1 (by omega)
        have hq1 := hNN.eq hn1 (by omega)
        have hq2 := hNN.eq hn2 (by omega)
        refine ⟨k6 + 1, by omega, ([rowI bx10 c11 54 4 ((edsC (edK ks (b.edges.take k6))) ++ [(.int .i64 ns[u1]), (.int .i64 ns[u2]), .int .u8 ((b.edges[k6].pos : Nat) : Int), .int .u8 ((b.edges[k6].neg : Nat) : Int)]), rowI tb5 tc5 22 1 (vals q5), rowI rb1 rc1 3 1 (ints (renK ks b.start)), oI bx4 26 [(.int .i64 b.vars), (.int .i64 ((cntK ks k : Nat) : Int)), (.slice rb1 ((renK ks b.start).length) rc1), (.slice bx10 (((edK ks (b.edges.take k6)).length) + 1) c11), (.slice tb5 k5 tc5)], rowI (some ⟨bx3, 0, none⟩) b.states.toNat 3 1 (ints ns), oI bx2 26 [(.int .i64 0), (.int .i64 0), (.slice none 0 0), (.slice none 0 0), (.slice none 0 0)], oI bx1 26 (buCells b sb sc eb ec tb tc)] ++ (itms 3 q5)), (by exact Sub.d (.d (.k (.k (.k (.k (.k (.k (.k .rf))))))))), bx10, c11, ?_, by omega, ⟨rfl, rfl, rfl, rfl, rfl, rfl, rfl, rfl, rfl, trivial⟩⟩
        rw [edK_yes hlt67 (by rw [hu1, Int.toNat_natCast]; exact hy1) (by rw [hu2, Int.toNat_natCast]; exact hy2), eds_append, List.length_append]; simp only [renE, hu1, hu2, Int.toNat_natCast, ← hq1, ← hq2]; rfl
      refine T.skip (T.region ?_)
      refine TO.quiet (q_move rfl) (TO.quiet (q_addN (a := k6) (b := 1) rfl rfl (by omega)) (TO.quiet (q_assign rfl) ?_))
      refine TO.nil ?_
      refine ⟨k6 + 1, by omega, ([rowI eb6 ec6 54 4 (edsC (edK ks (b.edges.take k6))), rowI tb5 tc5 22 1 (vals q5), rowI rb1 rc1 3 1 (ints (renK ks b.start)), oI bx4 26 [(.int .i64 b.vars), (.int .i64 ((cntK ks k : Nat) : Int)), (.slice rb1 ((renK ks b.start).length) rc1), (.slice eb6 ((edK ks (b.edges.take k6)).length) ec6), (.slice tb5 k5 tc5)], rowI (some ⟨bx3, 0, none⟩) b.states.toNat 3 1 (ints ns), oI bx2 26 [(.int .i64 0), (.int .i64 0), (.slice none 0 0), (.slice none 0 0), (.slice none 0 0)], oI bx1 26 (buCells b sb sc eb ec tb tc)] ++ (itms 3 q5)), (by exact Sub.d (.k (.k (.k (.k (.k (.k (.k .rf)))))))), eb6, ec6, ?_, by omega, ⟨rfl, rfl, rfl, rfl, rfl, rfl, rfl, rfl, rfl, trivial⟩⟩
      rw [edK_no hlt67 (by rw [hu1, hu2, Int.toNat_natCast, Int.toNat_natCast, ← hNN.ge hn1, ← hNN.ge hn2]; omega)]
    refine TO.quiet (QT.toB (q_move rfl) (decide_eq_false hs90)) ?_
    refine TO.passed rfl rfl ?_
    refine TO.passed rfl rfl ?_
    refine TO.passed rfl rfl ?_
    refine TO.quiet (q_pick0 rfl rfl) ?_
    refine TO.nil ?_
    refine T.cond0 rfl ?_
    refine T.skip (T.region ?_)
    refine TO.quiet (q_move rfl) (TO.quiet (q_addN (a := k6) (b := 1) rfl rfl (by omega)) (TO.quiet (q_assign rfl) ?_))
    refine TO.nil ?_
    refine ⟨k6 + 1, by omega, ([rowI eb6 ec6 54 4 (edsC (edK ks (b.edges.take k6))), rowI tb5 tc5 22 1 (vals q5), rowI rb1 rc1 3 1 (ints (renK ks b.start)), oI bx4 26 [(.int .i64 b.vars), (.int .i64 ((cntK ks k : Nat) : Int)), (.slice rb1 ((renK ks b.start).length) rc1), (.slice eb6 ((edK ks (b.edges.take k6)).length) ec6), (.slice tb5 k5 tc5)], rowI (some ⟨bx3, 0, none⟩) b.states.toNat 3 1 (ints ns), oI bx2 26 [(.int .i64 0), (.int .i64 0), (.slice none 0 0), (.slice none 0 0), (.slice none 0 0)], oI bx1 26 (buCells b sb sc eb ec tb tc)] ++ (itms 3 q5)), (by exact Sub.d (.k (.k (.k (.k (.k (.k (.k .rf)))))))), eb6, ec6, ?_, by omega, ⟨rfl, rfl, rfl, rfl, rfl, rfl, rfl, rfl, rfl, trivial⟩⟩
    rw [edK_no hlt67 (by rw [hu1, hu2, Int.toNat_natCast, Int.toNat_natCast, ← hNN.ge hn1, ← hNN.ge hn2]; omega)]
  have hge67 : ¬ k6 < b.edges.length := by omega
  refine T.exit ?_
  refine T.seq (T.region ?_)
  refine TO.quiet (q_load_boxAgg 3 Try.underlying26 rfl inf26 rfl rfl rfl) ?_
  refine TO.loud rfl (l_store_box (v := (.agg #[(.int .i64 b.vars), (.int .i64 ((cntK ks k : Nat) : Int)), (.slice rb1 ((renK ks b.start).length) rc1), (.slice eb6 ((edK ks (b.edges.take k6)).length) ec6), (.slice tb5 k5 tc5)])) (vs := [(.int .i64 b.vars), (.int .i64 ((cntK ks k : Nat) : Int)), (.slice rb1 ((renK ks b.start).length) rc1), (.slice eb6 ((edK ks (b.edges.take k6)).length) ec6), (.slice tb5 k5 tc5)]) 5 inf26 rfl rfl rfl rfl rfl rfl (by simp [putL]) ?_)
  refine TO.nil (T.ret (Res.drop ?_))
  refine Res.cell1 (i := 5) Try.results84 Try.underlying26 rfl inf26 rfl rfl rfl ?_
  have hk5e : k5 = b.sets.length := by omega
  have hk6e : b.edges.take k6 = b.edges := List.take_of_length_le (by omega)
  have hset : nums q5 = b.sets.map (renK ks) := by rw [hq5, hk5e, List.take_length]
  have hct : cntK ks k = ks.count true := cntK_all (by omega)
  refine ⟨[rowI rb1 rc1 3 1 (ints (renK ks b.start)), rowI eb6 ec6 54 4 (edsC (edK ks (b.edges.take k6))), rowI tb5 tc5 22 1 (vals q5)] ++ itms 3 q5, Sub.cnt [oI bx4 26 [(.int .i64 b.vars), (.int .i64 ((cntK ks k : Nat) : Int)), (.slice rb1 ((renK ks b.start).length) rc1), (.slice eb6 ((edK ks (b.edges.take k6)).length) ec6), (.slice tb5 k5 tc5)], rowI (some ⟨bx3, 0, none⟩) b.states.toNat 3 1 (ints ns), oI bx2 26 [(.int .i64 b.vars), (.int .i64 ((cntK ks k : Nat) : Int)), (.slice rb1 ((renK ks b.start).length) rc1), (.slice eb6 ((edK ks (b.edges.take k6)).length) ec6), (.slice tb5 k5 tc5)], oI bx1 26 (buCells b sb sc eb ec tb tc)] (by intro a; simp only [itms, oI, List.set_cons_zero, List.set_cons_succ, putL, List.cons_append, List.nil_append, List.append_nil, List.append_assoc, List.map_append, List.map_cons, List.map_nil, cnt_append, cnt_cons, cnt_nil, buCells, laCells] <;> omega), rb1, eb6, tb5, rc1, ec6, tc5, q5, ?_, ?_, ?_⟩
  · rw [hct, hk6e, hk5e]; simp [trimWith, putL, buCells]
  · rw [hk6e]; rfl
  · exact hset
end Go.Proofs.Ytnamoapbienooaa


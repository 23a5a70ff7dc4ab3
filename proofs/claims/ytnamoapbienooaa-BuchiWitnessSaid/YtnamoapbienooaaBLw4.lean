/- Contracts of functions of the program (BLw4): what each call answers and that it leaves memory as it was. Conditions: those each theorem names. -/
import Derived.Test.YtnamoapbienooaaEndB
import Derived.Test.YtnamoapbienooaaBChk2
import Derived.Test.YtnamoapbienooaaMon
import Derived.Test.YtnamoapbienooaaCoreP
set_option linter.unusedSectionVars false
set_option linter.unusedSimpArgs false
set_option linter.unusedVariables false
set_option linter.unnecessarySimpa false
namespace Go.Proofs.Ytnamoapbienooaa
open Go.Lx Go.RowKit
set_option linter.unusedVariables false
set_option linter.unusedSimpArgs false
noncomputable def someL (b : Bu) (k : Nat) : Bool := (b.start.take k).any fun s => (livesB b).getD s.toNat false
theorem someL_succ {b : Bu} {k x : Nat} (h : k < b.start.length) (hx : b.start[k] = (x : Int)) : someL b (k + 1) = (someL b k || (livesB b).getD x false) := by
  unfold someL; rw [List.take_succ_eq_append_getElem h, List.any_append, hx]; simp
theorem someL_all {b : Bu} (hv : ValidB b) : someL b b.start.length = true ↔ anyLive b := by
  unfold someL anyLive
  rw [List.take_length, List.any_eq_true]
  constructor
  · rintro ⟨s, h1, h2⟩
    have := hv.st s h1
    exact ⟨s.toNat, by rw [Int.toNat_of_nonneg this.1]; exact h1, (livesB_get (checkB_zero.2 hv) (by omega)).1 h2⟩
  · rintro ⟨s, h1, h2⟩
    have := hv.st _ h1
    exact ⟨_, h1, by rw [Int.toNat_natCast]; exact (livesB_get (checkB_zero.2 hv) (by omega)).2 h2⟩
theorem trim_B {b : Bu} (hv : ValidB b) (hB : BuB b) : BuB (trimB b) := by
  rw [trimB_eq hv]
  have hp : (2 : Nat) ^ b.vars.toNat ≤ 2 ^ 6 := Nat.pow_le_pow_right (by decide) (by have := hv.v6; omega)
  refine ⟨Nat.le_trans (renK_len _ _) hB.st, Nat.le_trans (edK_len _ _) hB.ed, by show (b.sets.map _).length ≤ _; rw [List.length_map]; exact hB.se, fun r hr => ?_, fun e he => ?_⟩
  · obtain ⟨s, h1, rfl⟩ := List.mem_map.1 hr
    exact Nat.le_trans (renK_len _ _) (hB.sr s h1)
  · have := (hv.trim (keep := keepB b) keepB_len).cu e he
    have h1 : e.pos < 2 ^ b.vars.toNat := this.1
    have h2 : e.neg < 2 ^ b.vars.toNat := this.2.1
    omega
theorem WitOf.check {b : Bu} {c : La} (h : WitOf b c) (hv : ValidB b) (h1 : c.pre.length ≤ 64) (h2 : c.loop.length ≤ 64) : checkLV b.vars c = 0 := by
  have key : ∀ x, x ∈ c.pre ∨ x ∈ c.loop → x < 2 ^ b.vars.toNat := fun x hx => by
    obtain ⟨e, he, rfl⟩ := h.mem x hx
    exact (hv.cu e he).1
  have := h.can.pos; have := hv.v0; have := hv.v6
  unfold checkLV checkL
  rw [if_neg (by simp; omega), if_neg (by omega), if_neg (by omega), if_pos]
  simp only [List.all_eq_true, decide_eq_true_eq]
  exact ⟨fun x hx => key x (.inl hx), fun x hx => key x (.inr hx)⟩
set_option maxHeartbeats 4000000 in
set_option maxRecDepth 20000 in
theorem lawWitness (w : World) (b : Bu) (sb eb tb : Option Addr) (sc ec tc : Nat) (vs : List Value) (h : BuAt w b sb eb tb vs) (hpn : ∀ e ∈ b.edges, e.pos < 256 ∧ e.neg < 256) (hse : b.sets.length < 9223372036854775807) (l : La) (pb lb : Option Addr) (pc lc : Nat) (h2 : LaAt w l pb lb pc lc) (hp8 : ∀ x ∈ l.pre, x < 256) (hl8 : ∀ x ∈ l.loop, x < 256) :
    PureT Try.prog 4 [.agg (buCells b sb sc eb ec tb tc).toArray, .agg (laCells l pb pc lb lc).toArray] w fun v N => v = .bool true ∧ N = [] := by
  refine CallT.enter Try.func4 rfl Try.ntmps4 rfl ?_
  refine T.seq (T.region ?_)
  refine TO.loud rfl (l_box (v := (.agg (buCells b sb sc eb ec tb tc).toArray)) (cs := (buCells b sb sc eb ec tb tc)) rfl rfl (fun bx1 => ?_))
  refine TO.loud rfl (l_box (v := (.agg (laCells l pb pc lb lc).toArray)) (cs := (laCells l pb pc lb lc)) rfl rfl (fun bx2 => ?_))
  refine TO.quiet (q_assign rfl) ?_
  refine TO.nil (T.seq (T.seq (T.region ?_)))
  refine TO.quiet (q_load_boxAgg 1 Try.underlying26 rfl inf26 rfl rfl rfl) ?_
  refine TO.loud rfl (l_buildSlice (m := 1) (parts := [(0, _)]) (cs := (buCells b sb sc eb ec tb tc)) Try.underlying71 inf26 (by decide) (by kernel_rfl) rfl (fun bx3 => ?_))
  have hk20 := fun (w1 : World) (hI : Inv w [rowI (some ⟨bx3, 0, none⟩) 1 26 5 (buCells b sb sc eb ec tb tc), oI bx2 29 (laCells l pb pc lb lc), oI bx1 26 (buCells b sb sc eb ec tb tc)] w1) => (by
    have h9 := longF w1 (some ⟨bx3, 0, none⟩) 1 [⟨b, sb, sc, eb, ec, tb, tc, vs⟩] (hI.slOf (List.mem_of_getElem? (i := 0) rfl)) (fun q hq => by have h8 := List.mem_singleton.1 hq; subst h8; exact hI.bu h) (by simp) (fun q hq => by have h8 := List.mem_singleton.1 hq; subst h8; exact hse)
    rw [show ([⟨b, sb, sc, eb, ec, tb, tc, vs⟩] : List BuRef).any (fun q => longB q.b) = longB b by simp] at h9; exact h9)
  refine TO.loud rfl (l_call ent11 (CallT.of_pure hk20) rfl ?_)
  clear hk20
  rintro vr O' ⟨N, rfl, rfl, rfl⟩
  by_cases hs21 : (longB b) = true
  · refine TO.quiet (QT.toB (q_move rfl) (hs21)) ?_
    refine TO.passed rfl rfl ?_
    refine TO.passed rfl rfl ?_
    refine TO.passed rfl rfl ?_
    refine TO.quiet (q_pick1 rfl rfl) (TO.quiet (q_move rfl) ?_)
    refine TO.passed rfl rfl ?_
    refine TO.passed rfl rfl ?_
    refine TO.passed rfl rfl ?_
    refine TO.quiet (q_pick1 rfl rfl) (TO.quiet (q_move rfl) ?_)
    refine TO.passed rfl rfl ?_
    refine TO.passed rfl rfl ?_
    refine TO.quiet (q_pick1 rfl rfl) ?_
    refine TO.nil ?_
    refine T.cond1 rfl ?_
    refine T.seq (T.region ?_)
    have hk35 := fun (w1 : World) (hI : Inv w [rowI (some ⟨bx3, 0, none⟩) 1 26 5 (buCells b sb sc eb ec tb tc), oI bx2 29 (laCells l pb pc lb lc), oI bx1 26 (buCells b sb sc eb ec tb tc)] w1) => awakeF w1
    refine TO.loud rfl (l_call ent14 (CallT.of_pure hk35) rfl ?_)
    clear hk35
    rintro vr O' ⟨N, rfl, rfl, rfl⟩
    refine TO.quiet (q_assign rfl) ?_
    refine TO.nil (T.ret (Res.drop ?_))
    refine Res.one (.bool true) Try.results4 rfl ?_
    exact ⟨[], (Sub.pick [] rfl), rfl, rfl⟩
  refine TO.quiet (QT.toB (q_move rfl) (Bool.eq_false_iff.2 hs21)) ?_
  refine TO.guarded rfl rfl rfl (LT.of_quiet rfl rfl (q_load_boxAgg 1 Try.underlying29 rfl inf29 rfl rfl rfl) ?_)
  refine TO.guarded rfl rfl rfl (l_buildSlice (m := 1) (parts := [(0, _)]) (cs := (laCells l pb pc lb lc)) Try.underlying72 inf29 (by decide) (by kernel_rfl) rfl (fun bx4 => ?_))
  have hk24 := fun (w1 : World) (hI : Inv w [rowI (some ⟨bx4, 0, none⟩) 1 29 2 (laCells l pb pc lb lc), rowI (some ⟨bx3, 0, none⟩) 1 26 5 (buCells b sb sc eb ec tb tc), oI bx2 29 (laCells l pb pc lb lc), oI bx1 26 (buCells b sb sc eb ec tb tc)] w1) => (by
    have h9 := longLF w1 (some ⟨bx4, 0, none⟩) 1 [⟨l, pb, pc, lb, lc⟩] (hI.slOf (List.mem_of_getElem? (i := 0) rfl)) (by simp)
    rw [show ([⟨l, pb, pc, lb, lc⟩] : List LaRef).any (fun q => longL q.l) = longL l by simp] at h9; exact h9)
  refine TO.guarded rfl rfl rfl (l_call ent12 (CallT.of_pure hk24) rfl ?_)
  clear hk24
  rintro vr O' ⟨N, rfl, rfl, rfl⟩
  refine TO.quiet (q_pick0 rfl rfl) ?_
  by_cases hs26 : (longL l) = true
  · refine TO.quiet (QT.toB (q_move rfl) (hs26)) ?_
    refine TO.passed rfl rfl ?_
    refine TO.passed rfl rfl ?_
    refine TO.passed rfl rfl ?_
    refine TO.quiet (q_pick1 rfl rfl) (TO.quiet (q_move rfl) ?_)
    refine TO.passed rfl rfl ?_
    refine TO.passed rfl rfl ?_
    refine TO.quiet (q_pick1 rfl rfl) ?_
    refine TO.nil ?_
    refine T.cond1 rfl ?_
    refine T.seq (T.region ?_)
    have hk35 := fun (w1 : World) (hI : Inv w [rowI (some ⟨bx4, 0, none⟩) 1 29 2 (laCells l pb pc lb lc), rowI (some ⟨bx3, 0, none⟩) 1 26 5 (buCells b sb sc eb ec tb tc), oI bx2 29 (laCells l pb pc lb lc), oI bx1 26 (buCells b sb sc eb ec tb tc)] w1) => awakeF w1
    refine TO.loud rfl (l_call ent14 (CallT.of_pure hk35) rfl ?_)
    clear hk35
    rintro vr O' ⟨N, rfl, rfl, rfl⟩
    refine TO.quiet (q_assign rfl) ?_
    refine TO.nil (T.ret (Res.drop ?_))
    refine Res.one (.bool true) Try.results4 rfl ?_
    exact ⟨[], (Sub.pick [] rfl), rfl, rfl⟩
  refine TO.quiet (QT.toB (q_move rfl) (Bool.eq_false_iff.2 hs26)) ?_
  refine TO.guarded rfl rfl rfl (LT.of_quiet rfl rfl (q_load_boxAgg 2 Try.underlying29 rfl inf29 rfl rfl rfl) ?_)
  have hk28 := fun (w1 : World) (hI : Inv w [rowI (some ⟨bx4, 0, none⟩) 1 29 2 (laCells l pb pc lb lc), rowI (some ⟨bx3, 0, none⟩) 1 26 5 (buCells b sb sc eb ec tb tc), oI bx2 29 (laCells l pb pc lb lc), oI bx1 26 (buCells b sb sc eb ec tb tc)] w1) => fairF w1 l pb lb pc lc (by have := longL_no hs26; omega) (by have := longL_no hs26; omega)
  refine TO.guarded rfl rfl rfl (l_call ent13 (CallT.of_pure hk28) rfl ?_)
  clear hk28
  rintro vr O' ⟨N, rfl, rfl, rfl⟩
  refine TO.guarded rfl rfl rfl (LT.of_quiet rfl rfl (q_not rfl) ?_)
  refine TO.quiet (q_pick0 rfl rfl) ?_
  by_cases hs31 : ((!(decide (l.n ≤ 16)))) = true
  · refine TO.quiet (QT.toB (q_move rfl) (hs31)) ?_
    refine TO.passed rfl rfl ?_
    refine TO.passed rfl rfl ?_
    refine TO.quiet (q_pick1 rfl rfl) ?_
    refine TO.nil ?_
    refine T.cond1 rfl ?_
    refine T.seq (T.region ?_)
    have hk35 := fun (w1 : World) (hI : Inv w [rowI (some ⟨bx4, 0, none⟩) 1 29 2 (laCells l pb pc lb lc), rowI (some ⟨bx3, 0, none⟩) 1 26 5 (buCells b sb sc eb ec tb tc), oI bx2 29 (laCells l pb pc lb lc), oI bx1 26 (buCells b sb sc eb ec tb tc)] w1) => awakeF w1
    refine TO.loud rfl (l_call ent14 (CallT.of_pure hk35) rfl ?_)
    clear hk35
    rintro vr O' ⟨N, rfl, rfl, rfl⟩
    refine TO.quiet (q_assign rfl) ?_
    refine TO.nil (T.ret (Res.drop ?_))
    refine Res.one (.bool true) Try.results4 rfl ?_
    exact ⟨[], (Sub.pick [] rfl), rfl, rfl⟩
  refine TO.quiet (QT.toB (q_move rfl) (Bool.eq_false_iff.2 hs31)) ?_
  have hk32 := fun (w1 : World) (hI : Inv w [rowI (some ⟨bx4, 0, none⟩) 1 29 2 (laCells l pb pc lb lc), rowI (some ⟨bx3, 0, none⟩) 1 26 5 (buCells b sb sc eb ec tb tc), oI bx2 29 (laCells l pb pc lb lc), oI bx1 26 (buCells b sb sc eb ec tb tc)] w1) => awakeF w1
  refine TO.guarded rfl rfl rfl (l_call ent14 (CallT.of_pure hk32) rfl ?_)
  clear hk32
  rintro vr O' ⟨N, rfl, rfl, rfl⟩
  refine TO.guarded rfl rfl rfl (LT.of_quiet rfl rfl (QT.toB (q_not rfl) rfl) ?_)
  refine TO.quiet (q_pick0 rfl rfl) ?_
  refine TO.nil ?_
  refine T.cond0 rfl ?_
  refine T.skip (T.seq ?_)
  have hB : BuB b := longB_no (by simp_all) hpn
  have hL : LaB l := longL_lab (by simp_all) hp8 hl8
  have hE : b.edges.length ≤ 60 := (longB_ed (b := b) (by simp_all)).2.1
  have hst9 := hB.st
  refine T.region ?_
  refine TO.quiet (q_load_boxAgg 3 Try.underlying26 rfl inf26 rfl rfl rfl) ?_
  have hk38 := fun (w1 : World) (hI : Inv w [rowI (some ⟨bx4, 0, none⟩) 1 29 2 (laCells l pb pc lb lc), rowI (some ⟨bx3, 0, none⟩) 1 26 5 (buCells b sb sc eb ec tb tc), oI bx2 29 (laCells l pb pc lb lc), oI bx1 26 (buCells b sb sc eb ec tb tc)] w1) => witnessF w1 b sb eb tb sc ec tc vs (hI.bu h) hB
  refine TO.loud rfl (l_call ent27 (CallT.of_pure hk38) rfl ?_)
  clear hk38
  rintro vr O' ⟨N, rfl, c, wp, wl, wpc, wlc, e, rfl, rfl, rfl, hw4, hw5⟩
  refine TO.quiet (q_move rfl) (TO.quiet (q_extract (vs := _) rfl rfl) (TO.quiet (q_extract (vs := _) rfl rfl) ?_))
  refine TO.loud rfl (l_alloc inf29 rfl (fun bx5 => ?_))
  refine TO.loud rfl (l_store_box (v := (.agg (laCells c wp wpc wl wlc).toArray)) (vs := (laCells c wp wpc wl wlc)) 0 inf29 rfl rfl rfl rfl rfl rfl (by simp [putL]) ?_)
  refine TO.quiet (q_assign rfl) ?_
  refine TO.nil (T.seq (T.region ?_))
  refine TO.quiet (q_load_boxAgg 6 Try.underlying26 rfl inf26 rfl rfl rfl) ?_
  have hk43 := fun (w1 : World) (hI : Inv w [oI bx5 29 (laCells c wp wpc wl wlc), rowI wp wpc 5 1 (byts c.pre), rowI wl wlc 5 1 (byts c.loop), rowI (some ⟨bx4, 0, none⟩) 1 29 2 (laCells l pb pc lb lc), rowI (some ⟨bx3, 0, none⟩) 1 26 5 (buCells b sb sc eb ec tb tc), oI bx2 29 (laCells l pb pc lb lc), oI bx1 26 (buCells b sb sc eb ec tb tc)] w1) => livesF w1 b sb eb tb sc ec tc vs (hI.bu h) hB
  refine TO.loud rfl (l_call ent19 (CallT.of_pure hk43) rfl ?_)
  clear hk43
  rintro vr O' ⟨N, rfl, lv, lvc, rfl, rfl⟩
  refine TO.quiet (q_move rfl) (TO.quiet (q_extract (vs := _) rfl rfl) (TO.quiet (q_extract (vs := _) rfl rfl) (TO.quiet (q_assign rfl) ?_)))
  refine TO.quiet (q_assign rfl) ?_
  refine TO.nil (T.seq (T.seq (T.region ?_)))
  refine TO.quiet (q_move rfl) (TO.quiet (q_neq rfl rfl) ?_)
  refine TO.nil ?_
  refine T.condP rfl (fun hc => ?_) (fun hc => ?_)
  · have hlt47 : checkB b ≠ 0 := by omega
    refine T.seq ?_
    have hw7 : witE b = checkB b := by unfold witE; rw [if_pos (by omega)]
    have hc0 := hw4 (by omega)
    have hp0 : c.pre.length = 0 := by rw [hc0]; rfl
    have hl0 : c.loop.length = 0 := by rw [hc0]; rfl
    refine T.region ?_
    refine TO.quiet (q_move rfl) (TO.quiet (q_move rfl) (TO.quiet (QT.toB (q_eql rfl rfl) (decide_eq_true (by rw [hw7]))) (TO.quiet (q_move rfl) ?_)))
    refine TO.guarded rfl rfl rfl (LT.of_quiet rfl rfl (q_fieldAddr Try.underlying29 rfl inf27 rfl rfl) ?_)
    refine TO.guarded rfl rfl rfl (LT.of_quiet rfl rfl (q_load_box 1 Try.underlying27 rfl rfl rfl rfl) ?_)
    refine TO.guarded rfl rfl rfl (LT.of_quiet rfl rfl (q_len Try.underlying27 rfl) ?_)
    refine TO.guarded rfl rfl rfl (LT.of_quiet rfl rfl (q_fieldAddr Try.underlying29 rfl inf27 rfl rfl) ?_)
    refine TO.guarded rfl rfl rfl (LT.of_quiet rfl rfl (q_load_box 1 Try.underlying27 rfl rfl rfl rfl) ?_)
    refine TO.guarded rfl rfl rfl (LT.of_quiet rfl rfl (q_len Try.underlying27 rfl) ?_)
    refine TO.guarded rfl rfl rfl (LT.of_quiet rfl rfl (q_addN (a := c.pre.length) (b := c.loop.length) rfl rfl (by omega)) ?_)
    refine TO.guarded rfl rfl rfl (LT.of_quiet rfl rfl (QT.toB (q_eql rfl rfl) (decide_eq_true (by omega))) ?_)
    refine TO.quiet (q_pick1 rfl rfl) (TO.quiet (q_assign rfl) ?_)
    refine TO.nil (T.ret (Res.drop ?_))
    refine Res.one (.bool true) Try.results4 rfl ?_
    exact ⟨[], (Sub.pick [] rfl), rfl, rfl⟩
  have hge47 : ¬ checkB b ≠ 0 := by omega
  refine T.skip (T.seq ?_)
  have he : checkB b = 0 := by omega
  have hv : ValidB b := checkB_zero.1 he
  have hv0 := hv.n0; have hv4 := hv.n4; have hm8 := hv.m8
  have hll := livesB_len he
  have hvt := trim_valid hv
  have het := checkB_zero.2 hvt
  have hlt8 : (((livesB (trimB b)).length : Nat) : Int) = (trimB b).states := by rw [livesB_len het]; exact Int.toNat_of_nonneg hvt.n0
  have hlt9 := livesB_le (trimB b)
  refine T.region ?_
  refine TO.quiet (q_assign rfl) ?_
  refine TO.nil (T.seq (T.seq (T.region ?_)))
  refine TO.quiet (q_assign rfl) ?_
  refine TO.nil (T.block ?_)
  refine T.loopS (fun (k : Nat) ρ O => O = [rowI lv lvc 4 1 (bools (livesB b)), oI bx5 29 (laCells c wp wpc wl wlc), rowI wp wpc 5 1 (byts c.pre), rowI wl wlc 5 1 (byts c.loop), rowI (some ⟨bx4, 0, none⟩) 1 29 2 (laCells l pb pc lb lc), rowI (some ⟨bx3, 0, none⟩) 1 26 5 (buCells b sb sc eb ec tb tc), oI bx2 29 (laCells l pb pc lb lc), oI bx1 26 (buCells b sb sc eb ec tb tc)] ∧ k ≤ b.start.length ∧ Heads [(0, (.agg (buCells b sb sc eb ec tb tc).toArray)), (1, (.agg (laCells l pb pc lb lc).toArray)), (2, (.pointer (some ⟨bx1, 0, none⟩))), (3, (.pointer (some ⟨bx2, 0, none⟩))), (5, (.pointer (some ⟨bx5, 0, none⟩))), (6, .int .i64 ((witE b : Nat) : Int)), (7, (.slice lv ((livesB b).length) lvc)), (8, .int .i64 ((checkB b : Nat) : Int)), (9, .bool (someL b k)), (10, .int .i64 (k : Int))] ρ) (fun k => b.start.length - k) 0 ?_ ?_
  · exact ⟨rfl, Nat.zero_le _, ⟨rfl, rfl, rfl, rfl, rfl, rfl, rfl, rfl, rfl, rfl, trivial⟩⟩
  rintro k ρ O ⟨rfl, hk, hH⟩
  obtain ⟨ρ0, rfl⟩ := hH.elim
  clear hH
  refine T.seq (T.seq (T.region ?_))
  refine TO.quiet (q_move rfl) (TO.quiet (q_fieldAddr Try.underlying26 rfl inf22 rfl rfl) (TO.quiet (q_load_box 7 Try.underlying22 rfl rfl rfl rfl) (TO.quiet (q_len Try.underlying22 rfl) ?_)))
  refine TO.quiet (q_lss rfl rfl) ?_
  refine TO.nil ?_
  refine T.condP rfl (fun hc => ?_) (fun hc => ?_)
  · have hlt65 : k < b.start.length := by omega
    obtain ⟨x, hx, hxn⟩ : ∃ x : Nat, b.start[k] = (x : Int) ∧ x < b.states.toNat := by
      have := hv.st _ (List.getElem_mem hlt65)
      exact ⟨b.start[k].toNat, by omega, by omega⟩
    refine T.skip (T.seq (T.block (T.seq (T.seq (T.region ?_)))))
    refine TO.quiet (q_fieldAddr Try.underlying26 rfl inf22 rfl rfl) (TO.quiet (q_load_box 7 Try.underlying22 rfl rfl rfl rfl) (TO.quiet (q_move rfl) (TO.quiet (q_ix (i := k) Try.underlying22 inf3 rfl rfl (Sl.o h.st)) ?_)))
    refine TO.quiet (q_ld Try.underlying3 rfl rfl (Sl.o h.st) (show (ints b.start)[k]? = _ by rw [ints_get hlt65, hx])) (TO.quiet (QT.toB (q_lss rfl rfl) (decide_eq_false (by omega))) (TO.quiet (q_move rfl) ?_))
    refine TO.guarded rfl rfl rfl (LT.of_quiet rfl rfl (q_fieldAddr Try.underlying26 rfl inf22 rfl rfl) ?_)
    refine TO.guarded rfl rfl rfl (LT.of_quiet rfl rfl (q_load_box 7 Try.underlying22 rfl rfl rfl rfl) ?_)
    refine TO.guarded rfl rfl rfl (LT.of_quiet rfl rfl (q_move rfl) ?_)
    refine TO.guarded rfl rfl rfl (LT.of_quiet rfl rfl (q_ix (i := k) Try.underlying22 inf3 rfl rfl (Sl.o h.st)) ?_)
    refine TO.guarded rfl rfl rfl (LT.of_quiet rfl rfl (q_ld Try.underlying3 rfl rfl (Sl.o h.st) (show (ints b.start)[k]? = _ by rw [ints_get hlt65, hx])) ?_)
    refine TO.guarded rfl rfl rfl (LT.of_quiet rfl rfl (q_move rfl) ?_)
    refine TO.guarded rfl rfl rfl (LT.of_quiet rfl rfl (q_len Try.underlying39 rfl) ?_)
    refine TO.guarded rfl rfl rfl (LT.of_quiet rfl rfl (QT.toB (q_geq rfl rfl) (decide_eq_false (by omega))) ?_)
    refine TO.quiet (q_pick0 rfl rfl) ?_
    refine TO.nil ?_
    refine T.cond0 rfl ?_
    refine T.skip (T.region ?_)
    refine TO.quiet (q_move rfl) ?_
    by_cases hs85 : (someL b k) = true
    · refine TO.quiet (QT.toB (q_move rfl) (hs85)) ?_
      refine TO.passed rfl rfl ?_
      refine TO.passed rfl rfl ?_
      refine TO.passed rfl rfl ?_
      refine TO.passed rfl rfl ?_
      refine TO.passed rfl rfl ?_
      refine TO.passed rfl rfl ?_
      refine TO.passed rfl rfl ?_
      refine TO.passed rfl rfl ?_
      refine TO.quiet (q_pick1 rfl rfl) (TO.quiet (q_assign rfl) ?_)
      refine TO.nil (T.region ?_)
      refine TO.quiet (q_move rfl) (TO.quiet (q_addN (a := k) (b := 1) rfl rfl (by omega)) (TO.quiet (q_assign rfl) ?_))
      refine TO.nil ?_
      refine ⟨k + 1, by omega, [rowI lv lvc 4 1 (bools (livesB b)), oI bx5 29 (laCells c wp wpc wl wlc), rowI wp wpc 5 1 (byts c.pre), rowI wl wlc 5 1 (byts c.loop), rowI (some ⟨bx4, 0, none⟩) 1 29 2 (laCells l pb pc lb lc), rowI (some ⟨bx3, 0, none⟩) 1 26 5 (buCells b sb sc eb ec tb tc), oI bx2 29 (laCells l pb pc lb lc), oI bx1 26 (buCells b sb sc eb ec tb tc)], (Sub.pick [0, 0, 0, 0, 0, 0, 0, 0] rfl), rfl, by omega, ⟨rfl, rfl, rfl, rfl, rfl, rfl, rfl, rfl, (congrArg Value.bool (by rw [someL_succ hlt65 hx, gb (by omega)]; simp_all)), rfl, trivial⟩⟩
    refine TO.quiet (QT.toB (q_move rfl) (Bool.eq_false_iff.2 hs85)) ?_
    refine TO.guarded rfl rfl rfl (LT.of_quiet rfl rfl (q_move rfl) ?_)
    refine TO.guarded rfl rfl rfl (LT.of_quiet rfl rfl (q_fieldAddr Try.underlying26 rfl inf22 rfl rfl) ?_)
    refine TO.guarded rfl rfl rfl (LT.of_quiet rfl rfl (q_load_box 7 Try.underlying22 rfl rfl rfl rfl) ?_)
    refine TO.guarded rfl rfl rfl (LT.of_quiet rfl rfl (q_move rfl) ?_)
    refine TO.guarded rfl rfl rfl (LT.of_quiet rfl rfl (q_ix (i := k) Try.underlying22 inf3 rfl rfl (Sl.o h.st)) ?_)
    refine TO.guarded rfl rfl rfl (LT.of_quiet rfl rfl (q_ld Try.underlying3 rfl rfl (Sl.o h.st) (show (ints b.start)[k]? = _ by rw [ints_get hlt65, hx])) ?_)
    refine TO.guarded rfl rfl rfl (LT.of_quiet rfl rfl (q_ix (i := x) Try.underlying39 inf4 rfl rfl (rowO (List.mem_of_getElem? (i := 0) rfl))) ?_)
    refine TO.guarded rfl rfl rfl (LT.of_quiet rfl rfl (q_ld Try.underlying4 rfl rfl (rowO (List.mem_of_getElem? (i := 0) rfl)) bools_get) ?_)
    refine TO.quiet (q_pick0 rfl rfl) (TO.quiet (q_assign rfl) ?_)
    refine TO.nil (T.region ?_)
    refine TO.quiet (q_move rfl) (TO.quiet (q_addN (a := k) (b := 1) rfl rfl (by omega)) (TO.quiet (q_assign rfl) ?_))
    refine TO.nil ?_
    refine ⟨k + 1, by omega, [rowI lv lvc 4 1 (bools (livesB b)), oI bx5 29 (laCells c wp wpc wl wlc), rowI wp wpc 5 1 (byts c.pre), rowI wl wlc 5 1 (byts c.loop), rowI (some ⟨bx4, 0, none⟩) 1 29 2 (laCells l pb pc lb lc), rowI (some ⟨bx3, 0, none⟩) 1 26 5 (buCells b sb sc eb ec tb tc), oI bx2 29 (laCells l pb pc lb lc), oI bx1 26 (buCells b sb sc eb ec tb tc)], (Sub.pick [0, 0, 0, 0, 0, 0, 0, 0] rfl), rfl, by omega, ⟨rfl, rfl, rfl, rfl, rfl, rfl, rfl, rfl, (congrArg Value.bool (by rw [someL_succ hlt65 hx, gb (by omega)]; simp_all)), rfl, trivial⟩⟩
  have hge65 : ¬ k < b.start.length := by omega
  refine T.exit ?_
  refine T.seq ?_
  have hke : k = b.start.length := by omega
  have hsm : someL b k = true ↔ anyLive b := by rw [hke]; exact someL_all hv
  refine T.region ?_
  refine TO.quiet (q_load_boxAgg 7 Try.underlying26 rfl inf26 rfl rfl rfl) ?_
  have hk97 := fun (w1 : World) (hI : Inv w [rowI lv lvc 4 1 (bools (livesB b)), oI bx5 29 (laCells c wp wpc wl wlc), rowI wp wpc 5 1 (byts c.pre), rowI wl wlc 5 1 (byts c.loop), rowI (some ⟨bx4, 0, none⟩) 1 29 2 (laCells l pb pc lb lc), rowI (some ⟨bx3, 0, none⟩) 1 26 5 (buCells b sb sc eb ec tb tc), oI bx2 29 (laCells l pb pc lb lc), oI bx1 26 (buCells b sb sc eb ec tb tc)] w1) => trimF w1 b sb eb tb sc ec tc vs (hI.bu h) hB
  refine TO.loud rfl (l_call ent28 (CallT.of_pure hk97) rfl ?_)
  clear hk97
  rintro vr O' ⟨N, rfl, sb2, eb2, tb2, sc2, ec2, tc2, qs2, rfl, rfl, hqs2⟩
  refine TO.sub (O' := ([rowI sb2 sc2 3 1 (ints (trimB b).start), rowI eb2 ec2 54 4 (edsC (trimB b).edges), rowI tb2 tc2 22 1 (vals qs2), rowI lv lvc 4 1 (bools (livesB b)), oI bx5 29 (laCells c wp wpc wl wlc), rowI wp wpc 5 1 (byts c.pre), rowI wl wlc 5 1 (byts c.loop), rowI (some ⟨bx4, 0, none⟩) 1 29 2 (laCells l pb pc lb lc), rowI (some ⟨bx3, 0, none⟩) 1 26 5 (buCells b sb sc eb ec tb tc), oI bx2 29 (laCells l pb pc lb lc), oI bx1 26 (buCells b sb sc eb ec tb tc)] ++ (itms 3 qs2))) (Sub.cnt [] (by intro a; simp only [itms, oI, List.set_cons_zero, List.set_cons_succ, putL, List.cons_append, List.nil_append, List.append_nil, List.append_assoc, List.map_append, List.map_cons, List.map_nil, cnt_append, cnt_cons, cnt_nil, buCells, laCells] <;> omega)) ?_
  refine TO.quiet (q_move rfl) (TO.quiet (q_extract (vs := _) rfl rfl) (TO.quiet (q_extract (vs := _) rfl rfl) ?_))
  refine TO.loud rfl (l_alloc inf26 rfl (fun bx6 => ?_))
  refine TO.loud rfl (l_store_box (v := (.agg #[(.int .i64 (trimB b).vars), (.int .i64 (trimB b).states), (.slice sb2 ((trimB b).start.length) sc2), (.slice eb2 ((trimB b).edges.length) ec2), (.slice tb2 ((trimB b).sets.length) tc2)])) (vs := [(.int .i64 (trimB b).vars), (.int .i64 (trimB b).states), (.slice sb2 ((trimB b).start.length) sc2), (.slice eb2 ((trimB b).edges.length) ec2), (.slice tb2 ((trimB b).sets.length) tc2)]) 0 inf26 rfl rfl rfl rfl rfl rfl (by simp [putL]) ?_)
  refine TO.quiet (q_assign rfl) ?_
  refine TO.nil (T.seq (T.region ?_))
  refine TO.quiet (q_load_boxAgg 0 Try.underlying26 rfl inf26 rfl rfl rfl) ?_
  have hk102 := fun (w1 : World) (hI : Inv w ([oI bx6 26 [(.int .i64 (trimB b).vars), (.int .i64 (trimB b).states), (.slice sb2 ((trimB b).start.length) sc2), (.slice eb2 ((trimB b).edges.length) ec2), (.slice tb2 ((trimB b).sets.length) tc2)], rowI sb2 sc2 3 1 (ints (trimB b).start), rowI eb2 ec2 54 4 (edsC (trimB b).edges), rowI tb2 tc2 22 1 (vals qs2), rowI lv lvc 4 1 (bools (livesB b)), oI bx5 29 (laCells c wp wpc wl wlc), rowI wp wpc 5 1 (byts c.pre), rowI wl wlc 5 1 (byts c.loop), rowI (some ⟨bx4, 0, none⟩) 1 29 2 (laCells l pb pc lb lc), rowI (some ⟨bx3, 0, none⟩) 1 26 5 (buCells b sb sc eb ec tb tc), oI bx2 29 (laCells l pb pc lb lc), oI bx1 26 (buCells b sb sc eb ec tb tc)] ++ (itms 3 qs2)) w1) => livesF w1 (trimB b) sb2 eb2 tb2 sc2 ec2 tc2 (vals qs2) (show BuAt w1 (trimB b) sb2 eb2 tb2 (vals qs2) from ⟨(hI.slOf (List.mem_of_getElem? (i := 1) rfl)), (hI.slOf (List.mem_of_getElem? (i := 2) rfl)), (hI.slOf (List.mem_of_getElem? (i := 3) rfl)), hqs2 ▸ Inv.recs (E := 3) hI (fun q hq => List.mem_append_right _ (by simp only [itms, List.mem_append, List.mem_map]; first | exact .inl ⟨q, hq, rfl⟩ | exact .inr ⟨q, hq, rfl⟩ | exact .inr (.inl ⟨q, hq, rfl⟩) | exact .inr (.inr ⟨q, hq, rfl⟩) | exact ⟨q, hq, rfl⟩))⟩) (trim_B hv hB)
  refine TO.loud rfl (l_call ent19 (CallT.of_pure hk102) rfl ?_)
  clear hk102
  rintro vr O' ⟨N, rfl, lt, ltc, rfl, rfl⟩
  refine TO.quiet (q_move rfl) (TO.quiet (q_extract (vs := _) rfl rfl) (TO.quiet (q_extract (vs := _) rfl rfl) (TO.quiet (q_assign rfl) ?_)))
  refine TO.quiet (q_assign rfl) ?_
  refine TO.nil (T.seq (T.seq (T.region ?_)))
  refine TO.quiet (q_move rfl) (TO.quiet (QT.toB (q_neq rfl rfl) (decide_eq_false (fun h9 => h9 (by omega)))) (TO.quiet (q_move rfl) ?_))
  refine TO.guarded rfl rfl rfl (LT.of_quiet rfl rfl (q_move rfl) ?_)
  refine TO.guarded rfl rfl rfl (LT.of_quiet rfl rfl (QT.toB (q_neq rfl rfl) (decide_eq_false (fun h9 => h9 (by omega)))) ?_)
  refine TO.quiet (q_pick0 rfl rfl) (TO.quiet (q_move rfl) ?_)
  refine TO.guarded rfl rfl rfl (LT.of_quiet rfl rfl (q_move rfl) ?_)
  refine TO.guarded rfl rfl rfl (LT.of_quiet rfl rfl (q_len Try.underlying39 rfl) ?_)
  refine TO.guarded rfl rfl rfl (LT.of_quiet rfl rfl (q_fieldAddr Try.underlying26 rfl inf3 rfl rfl) ?_)
  refine TO.guarded rfl rfl rfl (LT.of_quiet rfl rfl (q_load_box 1 Try.underlying3 rfl rfl rfl rfl) ?_)
  refine TO.guarded rfl rfl rfl (LT.of_quiet rfl rfl (QT.toB (q_neq rfl rfl) (decide_eq_false (fun h9 => h9 hlt8))) ?_)
  refine TO.quiet (q_pick0 rfl rfl) ?_
  refine TO.nil ?_
  refine T.cond0 rfl ?_
  refine T.skip (T.seq (T.seq (T.region ?_)))
  refine TO.quiet (q_assign rfl) ?_
  refine TO.nil (T.block ?_)
  refine T.loop (fun (j : Nat) ρ O => O = ([rowI lt ltc 4 1 (bools (livesB (trimB b))), oI bx6 26 [(.int .i64 (trimB b).vars), (.int .i64 (trimB b).states), (.slice sb2 ((trimB b).start.length) sc2), (.slice eb2 ((trimB b).edges.length) ec2), (.slice tb2 ((trimB b).sets.length) tc2)], rowI sb2 sc2 3 1 (ints (trimB b).start), rowI eb2 ec2 54 4 (edsC (trimB b).edges), rowI tb2 tc2 22 1 (vals qs2), rowI lv lvc 4 1 (bools (livesB b)), oI bx5 29 (laCells c wp wpc wl wlc), rowI wp wpc 5 1 (byts c.pre), rowI wl wlc 5 1 (byts c.loop), rowI (some ⟨bx4, 0, none⟩) 1 29 2 (laCells l pb pc lb lc), rowI (some ⟨bx3, 0, none⟩) 1 26 5 (buCells b sb sc eb ec tb tc), oI bx2 29 (laCells l pb pc lb lc), oI bx1 26 (buCells b sb sc eb ec tb tc)] ++ (itms 3 qs2)) ∧ j ≤ (livesB (trimB b)).length ∧ Heads [(0, (.agg (buCells b sb sc eb ec tb tc).toArray)), (1, (.agg (laCells l pb pc lb lc).toArray)), (2, (.pointer (some ⟨bx1, 0, none⟩))), (3, (.pointer (some ⟨bx2, 0, none⟩))), (5, (.pointer (some ⟨bx5, 0, none⟩))), (6, .int .i64 ((witE b : Nat) : Int)), (7, (.slice lv ((livesB b).length) lvc)), (8, .int .i64 ((checkB b : Nat) : Int)), (9, .bool (someL b k)), (10, .int .i64 (k : Int)), (11, (.pointer (some ⟨bx6, 0, none⟩))), (12, .int .i64 ((checkB b : Nat) : Int)), (13, (.slice lt ((livesB (trimB b)).length) ltc)), (14, .int .i64 ((checkB (trimB b) : Nat) : Int)), (15, .int .i64 (j : Int))] ρ) (fun j => (livesB (trimB b)).length - j) 0 ?_ ?_
  · exact ⟨rfl, Nat.zero_le _, ⟨rfl, rfl, rfl, rfl, rfl, rfl, rfl, rfl, rfl, rfl, rfl, rfl, rfl, rfl, rfl, trivial⟩⟩
  rintro j ρ O ⟨rfl, hj, hH⟩
  obtain ⟨ρ0, rfl⟩ := hH.elim
  clear hH
  refine T.seq (T.seq (T.region ?_))
  refine TO.quiet (q_move rfl) (TO.quiet (q_move rfl) (TO.quiet (q_len Try.underlying39 rfl) (TO.quiet (q_lss rfl rfl) ?_)))
  refine TO.nil ?_
  refine T.condP rfl (fun hc => ?_) (fun hc => ?_)
  · have hlt121 : j < (livesB (trimB b)).length := by omega
    refine T.skip (T.seq (T.block (T.seq (T.region ?_))))
    refine TO.quiet (q_move rfl) (TO.quiet (q_move rfl) (TO.quiet (q_ix (i := j) Try.underlying39 inf4 rfl rfl (rowO (List.mem_of_getElem? (i := 0) rfl))) (TO.quiet (q_ld Try.underlying4 rfl rfl (rowO (List.mem_of_getElem? (i := 0) rfl)) (show (bools (livesB (trimB b)))[j]? = some (.bool true) by rw [bools_get hlt121, trim_lives hv _ (List.getElem_mem _)])) ?_)))
    refine TO.quiet (q_not rfl) ?_
    refine TO.nil ?_
    refine T.cond0 rfl ?_
    refine T.skip (T.region ?_)
    refine TO.quiet (q_move rfl) (TO.quiet (q_addN (a := j) (b := 1) rfl rfl (by omega)) (TO.quiet (q_assign rfl) ?_))
    refine TO.nil ?_
    exact ⟨j + 1, by omega, rfl, by omega, ⟨rfl, rfl, rfl, rfl, rfl, rfl, rfl, rfl, rfl, rfl, rfl, rfl, rfl, rfl, rfl, trivial⟩⟩
  have hge121 : ¬ j < (livesB (trimB b)).length := by omega
  refine T.exit ?_
  refine T.seq (T.region ?_)
  refine TO.quiet (q_load_boxAgg 12 Try.underlying26 rfl inf26 rfl rfl rfl) (TO.quiet (q_load_boxAgg 11 Try.underlying29 rfl inf29 rfl rfl rfl) ?_)
  have hk132 := fun (w1 : World) (hI : Inv w ([rowI lt ltc 4 1 (bools (livesB (trimB b))), oI bx6 26 [(.int .i64 (trimB b).vars), (.int .i64 (trimB b).states), (.slice sb2 ((trimB b).start.length) sc2), (.slice eb2 ((trimB b).edges.length) ec2), (.slice tb2 ((trimB b).sets.length) tc2)], rowI sb2 sc2 3 1 (ints (trimB b).start), rowI eb2 ec2 54 4 (edsC (trimB b).edges), rowI tb2 tc2 22 1 (vals qs2), rowI lv lvc 4 1 (bools (livesB b)), oI bx5 29 (laCells c wp wpc wl wlc), rowI wp wpc 5 1 (byts c.pre), rowI wl wlc 5 1 (byts c.loop), rowI (some ⟨bx4, 0, none⟩) 1 29 2 (laCells l pb pc lb lc), rowI (some ⟨bx3, 0, none⟩) 1 26 5 (buCells b sb sc eb ec tb tc), oI bx2 29 (laCells l pb pc lb lc), oI bx1 26 (buCells b sb sc eb ec tb tc)] ++ (itms 3 qs2)) w1) => acceptsF w1 b sb eb tb sc ec tc vs (hI.bu h) hB l pb lb pc lc (hI.la h2) hL (by omega)
  refine TO.loud rfl (l_call ent17 (CallT.of_pure hk132) rfl ?_)
  clear hk132
  rintro vr O' ⟨N, rfl, rfl, rfl⟩
  refine TO.quiet (q_move rfl) (TO.quiet (q_extract (vs := _) rfl rfl) (TO.quiet (q_extract (vs := _) rfl rfl) (TO.quiet (q_assign rfl) ?_)))
  refine TO.quiet (q_assign rfl) ?_
  refine TO.nil (T.seq (T.seq (T.region ?_)))
  refine TO.quiet (q_move rfl) (TO.quiet (q_not rfl) ?_)
  refine TO.nil ?_
  refine T.cond rfl (fun hc => ?_) (fun hc => ?_)
  · have hna : ¬ anyLive b := fun h9 => by rw [hsm.2 h9] at hc; cases hc
    have hw9 : witE b = 9 := by unfold witE; rw [if_neg (fun q => q he), if_neg hna]
    have hacc : accV b l = false := by
      rw [← Bool.not_eq_true]; intro h9
      have h0 : accE b l = 0 := by
        by_cases e : accE b l = 0
        · exact e
        · rw [accV_no e] at h9; cases h9
      exact hna (acc_live hv ((accV_iffV hv (accE_zero h0).2).1 h9))
    have hts0 : (trimB b).states = 0 := (trim_zero hv).2 hna
    have hc0 := hw4 (by omega)
    have hl0 : c.loop.length = 0 := by rw [hc0]; rfl
    refine T.seq (T.region ?_)
    refine TO.quiet (q_move rfl) (TO.quiet (QT.toB (q_eql rfl rfl) (decide_eq_true (by omega))) (TO.quiet (q_move rfl) ?_))
    refine TO.guarded rfl rfl rfl (LT.of_quiet rfl rfl (q_move rfl) ?_)
    refine TO.guarded rfl rfl rfl (LT.of_quiet rfl rfl (QT.toB (q_not rfl) (by rw [hacc])) ?_)
    refine TO.quiet (q_pick1 rfl rfl) (TO.quiet (q_move rfl) ?_)
    refine TO.guarded rfl rfl rfl (LT.of_quiet rfl rfl (q_fieldAddr Try.underlying26 rfl inf3 rfl rfl) ?_)
    refine TO.guarded rfl rfl rfl (LT.of_quiet rfl rfl (q_load_box 1 Try.underlying3 rfl rfl rfl rfl) ?_)
    refine TO.guarded rfl rfl rfl (LT.of_quiet rfl rfl (QT.toB (q_eql rfl rfl) (decide_eq_true hts0)) ?_)
    refine TO.quiet (q_pick1 rfl rfl) (TO.quiet (q_move rfl) ?_)
    refine TO.guarded rfl rfl rfl (LT.of_quiet rfl rfl (q_fieldAddr Try.underlying29 rfl inf27 rfl rfl) ?_)
    refine TO.guarded rfl rfl rfl (LT.of_quiet rfl rfl (q_load_box 6 Try.underlying27 rfl rfl rfl rfl) ?_)
    refine TO.guarded rfl rfl rfl (LT.of_quiet rfl rfl (q_len Try.underlying27 rfl) ?_)
    refine TO.guarded rfl rfl rfl (LT.of_quiet rfl rfl (QT.toB (q_eql rfl rfl) (decide_eq_true (by omega))) ?_)
    refine TO.quiet (q_pick1 rfl rfl) (TO.quiet (q_assign rfl) ?_)
    refine TO.nil (T.ret (Res.drop ?_))
    refine Res.one (.bool true) Try.results4 rfl ?_
    exact ⟨[], (Sub.pick0 [] [rowI lt ltc 4 1 (bools (livesB (trimB b))), oI bx6 26 [(.int .i64 (trimB b).vars), (.int .i64 (trimB b).states), (.slice sb2 ((trimB b).start.length) sc2), (.slice eb2 ((trimB b).edges.length) ec2), (.slice tb2 ((trimB b).sets.length) tc2)], rowI sb2 sc2 3 1 (ints (trimB b).start), rowI eb2 ec2 54 4 (edsC (trimB b).edges), rowI tb2 tc2 22 1 (vals qs2), rowI lv lvc 4 1 (bools (livesB b)), oI bx5 29 (laCells c wp wpc wl wlc), rowI wp wpc 5 1 (byts c.pre), rowI wl wlc 5 1 (byts c.loop), rowI (some ⟨bx4, 0, none⟩) 1 29 2 (laCells l pb pc lb lc), rowI (some ⟨bx3, 0, none⟩) 1 26 5 (buCells b sb sc eb ec tb tc), oI bx2 29 (laCells l pb pc lb lc), oI bx1 26 (buCells b sb sc eb ec tb tc)] (itms 3 qs2) rfl rfl), rfl, rfl⟩
  have hal : anyLive b := hsm.1 (by simpa using hc)
  have hw0 : witE b = 0 := by unfold witE; rw [if_neg (fun q => q he), if_pos hal]
  have hts : ¬ (trimB b).states = 0 := fun h9 => (trim_zero hv).1 h9 hal
  have hwo := hw5 hw0
  have hwp := hwo.pre; have hwl := hwo.loop
  have hcL := hwo.lab hB hv
  refine T.skip (T.seq (T.seq ?_))
  refine T.draws _ [(0, 0), (1, 0), (2, 0), (3, 0), (4, 0), (5, 0), (6, 0), (7, 0), (8, 0), (9, 0), (10, 0), (11, 0), (12, 0), (13, 0), (14, 0), (15, 0), (16, 0), (17, 0), (18, 0), (19, 0), (20, 0), (21, 0), (22, 0), (23, 0), (24, 0), (25, 0), (26, 0), (27, 0), (28, 0), (29, 0), (31, 0), (30, 1), (32, 2), (33, 2), (34, 2)] mixed (by kernel_rfl) (Sub.of (List.Sublist.refl _)) (fun _ _ _ h => h) ?_
  refine DO.quiet rfl (q_move rfl) (DO.quiet rfl (QT.toB (q_neq rfl rfl) (decide_eq_false (fun h9 => h9 (by omega)))) (DO.quiet rfl (q_move rfl) ?_))
  refine DO.guarded rfl rfl rfl (q_fieldAddr Try.underlying26 rfl inf3 rfl rfl) ?_
  refine DO.guarded rfl rfl rfl (q_load_box 1 Try.underlying3 rfl rfl rfl rfl) ?_
  refine DO.guarded rfl rfl rfl (QT.toB (q_eql rfl rfl) (decide_eq_false hts)) ?_
  refine DO.quiet rfl (q_pick0 rfl rfl) (DO.quiet rfl (q_move rfl) ?_)
  refine DO.guarded rfl rfl rfl (q_fieldAddr Try.underlying29 rfl inf27 rfl rfl) ?_
  refine DO.guarded rfl rfl rfl (q_load_box 6 Try.underlying27 rfl rfl rfl rfl) ?_
  refine DO.guarded rfl rfl rfl (q_len Try.underlying27 rfl) ?_
  refine DO.guarded rfl rfl rfl (q_fieldAddr Try.underlying26 rfl inf3 rfl rfl) ?_
  refine DO.guarded rfl rfl rfl (QT.cast (q_load_box 12 Try.underlying3 rfl rfl rfl rfl) (v' := .int .i64 ((b.states.toNat : Nat) : Int)) (by show Value.int _ _ = _; rw [Int.toNat_of_nonneg hv0])) ?_
  refine DO.guarded rfl rfl rfl (QT.toB (q_gtr rfl rfl) (decide_eq_false (by omega))) ?_
  refine DO.quiet rfl (q_pick0 rfl rfl) (DO.quiet rfl (q_move rfl) ?_)
  refine DO.guarded rfl rfl rfl (q_fieldAddr Try.underlying29 rfl inf27 rfl rfl) ?_
  refine DO.guarded rfl rfl rfl (q_load_box 6 Try.underlying27 rfl rfl rfl rfl) ?_
  refine DO.guarded rfl rfl rfl (q_len Try.underlying27 rfl) ?_
  refine DO.guarded rfl rfl rfl (q_fieldAddr Try.underlying26 rfl inf3 rfl rfl) ?_
  refine DO.guarded rfl rfl rfl (QT.cast (q_load_box 12 Try.underlying3 rfl rfl rfl rfl) (v' := .int .i64 ((b.states.toNat : Nat) : Int)) (by show Value.int _ _ = _; rw [Int.toNat_of_nonneg hv0])) ?_
  refine DO.guarded rfl rfl rfl (q_fieldAddr Try.underlying26 rfl inf24 rfl rfl) ?_
  refine DO.guarded rfl rfl rfl (q_load_box 12 Try.underlying24 rfl rfl rfl rfl) ?_
  refine DO.guarded rfl rfl rfl (q_len Try.underlying24 rfl) ?_
  refine DO.guarded rfl rfl rfl (q_addN (a := b.sets.length) (b := 1) rfl rfl (by omega)) ?_
  refine DO.guarded rfl rfl rfl (q_mulN (a := b.states.toNat) (b := (b.sets.length + 1)) rfl rfl (by have := Nat.mul_le_mul (show b.states.toNat ≤ 4096 by omega) (show b.sets.length + 1 ≤ 9 by omega); omega)) ?_
  refine DO.guarded rfl rfl rfl (QT.toB (q_gtr rfl rfl) (decide_eq_false (by omega))) ?_
  refine DO.quiet rfl (q_pick0 rfl rfl) (DO.quiet rfl (q_move rfl) ?_)
  refine DO.guarded rfl rfl rfl (q_load_boxAgg 6 Try.underlying29 rfl inf29 rfl rfl rfl) ?_
  refine DO.guarded rfl rfl rfl (q_load_boxAgg 6 Try.underlying29 rfl inf29 rfl rfl rfl) ?_
  have hk184 := fun (w1 : World) (hI : Inv w ([rowI lt ltc 4 1 (bools (livesB (trimB b))), oI bx6 26 [(.int .i64 (trimB b).vars), (.int .i64 (trimB b).states), (.slice sb2 ((trimB b).start.length) sc2), (.slice eb2 ((trimB b).edges.length) ec2), (.slice tb2 ((trimB b).sets.length) tc2)], rowI sb2 sc2 3 1 (ints (trimB b).start), rowI eb2 ec2 54 4 (edsC (trimB b).edges), rowI tb2 tc2 22 1 (vals qs2), rowI lv lvc 4 1 (bools (livesB b)), oI bx5 29 (laCells c wp wpc wl wlc), rowI wp wpc 5 1 (byts c.pre), rowI wl wlc 5 1 (byts c.loop), rowI (some ⟨bx4, 0, none⟩) 1 29 2 (laCells l pb pc lb lc), rowI (some ⟨bx3, 0, none⟩) 1 26 5 (buCells b sb sc eb ec tb tc), oI bx2 29 (laCells l pb pc lb lc), oI bx1 26 (buCells b sb sc eb ec tb tc)] ++ (itms 3 qs2)) w1) => canonicalF w1 c wp wl wpc wlc (show LaAt w1 c wp wl wpc wlc from ⟨(hI.slOf (List.mem_of_getElem? (i := 7) rfl)), (hI.slOf (List.mem_of_getElem? (i := 8) rfl)), by have h9 := rowP.cap (hI.row (i := 7) rfl); simpa using h9, by have h9 := rowP.cap (hI.row (i := 8) rfl); simpa using h9⟩) hcL hwo.can.pos
  refine DO.loudG rfl rfl rfl rfl (l_call ent29 (CallT.of_pure hk184) rfl ?_)
  clear hk184
  rintro vr O' ⟨N, rfl, c2, kb, mb, kc, mc, rfl, rfl, hco⟩
  refine ⟨Sub.pickR [2, 2, 2, 2, 2, 2, 2, 2, 2, 2, 2, 2, 2] [rowI kb kc 5 1 (byts c2.pre), rowI mb mc 5 1 (byts c2.loop), rowI lt ltc 4 1 (bools (livesB (trimB b))), oI bx6 26 [(.int .i64 (trimB b).vars), (.int .i64 (trimB b).states), (.slice sb2 ((trimB b).start.length) sc2), (.slice eb2 ((trimB b).edges.length) ec2), (.slice tb2 ((trimB b).sets.length) tc2)], rowI sb2 sc2 3 1 (ints (trimB b).start), rowI eb2 ec2 54 4 (edsC (trimB b).edges), rowI tb2 tc2 22 1 (vals qs2), rowI lv lvc 4 1 (bools (livesB b)), oI bx5 29 (laCells c wp wpc wl wlc), rowI wp wpc 5 1 (byts c.pre), rowI wl wlc 5 1 (byts c.loop), rowI (some ⟨bx4, 0, none⟩) 1 29 2 (laCells l pb pc lb lc), rowI (some ⟨bx3, 0, none⟩) 1 26 5 (buCells b sb sc eb ec tb tc), oI bx2 29 (laCells l pb pc lb lc), oI bx1 26 (buCells b sb sc eb ec tb tc)] (itms 3 qs2) rfl rfl, ?_⟩
  have hk186 := fun (w1 : World) (hI : Inv w ([rowI kb kc 5 1 (byts c2.pre), rowI mb mc 5 1 (byts c2.loop), rowI lt ltc 4 1 (bools (livesB (trimB b))), oI bx6 26 [(.int .i64 (trimB b).vars), (.int .i64 (trimB b).states), (.slice sb2 ((trimB b).start.length) sc2), (.slice eb2 ((trimB b).edges.length) ec2), (.slice tb2 ((trimB b).sets.length) tc2)], rowI sb2 sc2 3 1 (ints (trimB b).start), rowI eb2 ec2 54 4 (edsC (trimB b).edges), rowI tb2 tc2 22 1 (vals qs2), rowI lv lvc 4 1 (bools (livesB b)), oI bx5 29 (laCells c wp wpc wl wlc), rowI wp wpc 5 1 (byts c.pre), rowI wl wlc 5 1 (byts c.loop), rowI (some ⟨bx4, 0, none⟩) 1 29 2 (laCells l pb pc lb lc), rowI (some ⟨bx3, 0, none⟩) 1 26 5 (buCells b sb sc eb ec tb tc), oI bx2 29 (laCells l pb pc lb lc), oI bx1 26 (buCells b sb sc eb ec tb tc)] ++ (itms 3 qs2)) w1) => (by
    have h9 := isF w1 c2 kb mb kc mc (show LaAt w1 c2 kb mb kc mc from ⟨(hI.slOf (List.mem_of_getElem? (i := 0) rfl)), (hI.slOf (List.mem_of_getElem? (i := 1) rfl)), by have h9 := rowP.cap (hI.row (i := 0) rfl); simpa using h9, by have h9 := rowP.cap (hI.row (i := 1) rfl); simpa using h9⟩) (by have := hco.pre; have := hcL.pre; omega) (by have := hco.loop; have := hcL.loop; omega) c wp wl wpc wlc (show LaAt w1 c wp wl wpc wlc from ⟨(hI.slOf (List.mem_of_getElem? (i := 9) rfl)), (hI.slOf (List.mem_of_getElem? (i := 10) rfl)), by have h9 := rowP.cap (hI.row (i := 9) rfl); simpa using h9, by have h9 := rowP.cap (hI.row (i := 10) rfl); simpa using h9⟩)
    rw [decide_eq_true (canon_unique hco.can hwo.can hco.at_)] at h9; exact h9)
  refine DO.lastG rfl rfl rfl rfl (l_call ent26 (CallT.of_pure hk186) rfl ?_)
  clear hk186
  rintro vr O' ⟨N, rfl, rfl, rfl⟩
  refine DO.lastG rfl rfl rfl rfl (LT.of_quiet rfl rfl (q_not rfl) ?_)
  refine DO.last rfl rfl (LT.of_quiet rfl rfl (q_pick0 rfl rfl) ?_)
  refine DO.done ?_
  refine T.cond0 rfl ?_
  refine T.skip (T.seq (T.region ?_))
  refine TO.quiet (q_fieldAddr Try.underlying29 rfl inf27 rfl rfl) (TO.quiet (q_load_box 8 Try.underlying27 rfl rfl rfl rfl) (TO.quiet (q_len Try.underlying27 rfl) (TO.quiet (q_gtr rfl rfl) ?_)))
  by_cases hs193 : (c.pre.length : Int) > 64
  · refine TO.quiet (QT.toB (q_move rfl) (decide_eq_true hs193)) ?_
    refine TO.passed rfl rfl ?_
    refine TO.passed rfl rfl ?_
    refine TO.passed rfl rfl ?_
    refine TO.passed rfl rfl ?_
    refine TO.quiet (q_pick1 rfl rfl) (TO.quiet (q_move rfl) ?_)
    refine TO.passed rfl rfl ?_
    refine TO.passed rfl rfl ?_
    refine TO.passed rfl rfl ?_
    refine TO.quiet (q_pick1 rfl rfl) (TO.quiet (q_assign rfl) ?_)
    refine TO.nil (T.ret (Res.drop ?_))
    refine Res.one (.bool true) Try.results4 rfl ?_
    exact ⟨[], (Sub.pick0 [] [rowI kb kc 5 1 (byts c2.pre), rowI mb mc 5 1 (byts c2.loop), rowI lt ltc 4 1 (bools (livesB (trimB b))), oI bx6 26 [(.int .i64 (trimB b).vars), (.int .i64 (trimB b).states), (.slice sb2 ((trimB b).start.length) sc2), (.slice eb2 ((trimB b).edges.length) ec2), (.slice tb2 ((trimB b).sets.length) tc2)], rowI sb2 sc2 3 1 (ints (trimB b).start), rowI eb2 ec2 54 4 (edsC (trimB b).edges), rowI tb2 tc2 22 1 (vals qs2), rowI lv lvc 4 1 (bools (livesB b)), oI bx5 29 (laCells c wp wpc wl wlc), rowI wp wpc 5 1 (byts c.pre), rowI wl wlc 5 1 (byts c.loop), rowI (some ⟨bx4, 0, none⟩) 1 29 2 (laCells l pb pc lb lc), rowI (some ⟨bx3, 0, none⟩) 1 26 5 (buCells b sb sc eb ec tb tc), oI bx2 29 (laCells l pb pc lb lc), oI bx1 26 (buCells b sb sc eb ec tb tc)] (itms 3 qs2) rfl rfl), rfl, rfl⟩
  refine TO.quiet (QT.toB (q_move rfl) (decide_eq_false hs193)) ?_
  refine TO.guarded rfl rfl rfl (LT.of_quiet rfl rfl (q_fieldAddr Try.underlying29 rfl inf27 rfl rfl) ?_)
  refine TO.guarded rfl rfl rfl (LT.of_quiet rfl rfl (q_load_box 8 Try.underlying27 rfl rfl rfl rfl) ?_)
  refine TO.guarded rfl rfl rfl (LT.of_quiet rfl rfl (q_len Try.underlying27 rfl) ?_)
  refine TO.guarded rfl rfl rfl (LT.of_quiet rfl rfl (q_gtr rfl rfl) ?_)
  refine TO.quiet (q_pick0 rfl rfl) ?_
  by_cases hs199 : (c.loop.length : Int) > 64
  · refine TO.quiet (QT.toB (q_move rfl) (decide_eq_true hs199)) ?_
    refine TO.passed rfl rfl ?_
    refine TO.passed rfl rfl ?_
    refine TO.passed rfl rfl ?_
    refine TO.quiet (q_pick1 rfl rfl) (TO.quiet (q_assign rfl) ?_)
    refine TO.nil (T.ret (Res.drop ?_))
    refine Res.one (.bool true) Try.results4 rfl ?_
    exact ⟨[], (Sub.pick0 [] [rowI kb kc 5 1 (byts c2.pre), rowI mb mc 5 1 (byts c2.loop), rowI lt ltc 4 1 (bools (livesB (trimB b))), oI bx6 26 [(.int .i64 (trimB b).vars), (.int .i64 (trimB b).states), (.slice sb2 ((trimB b).start.length) sc2), (.slice eb2 ((trimB b).edges.length) ec2), (.slice tb2 ((trimB b).sets.length) tc2)], rowI sb2 sc2 3 1 (ints (trimB b).start), rowI eb2 ec2 54 4 (edsC (trimB b).edges), rowI tb2 tc2 22 1 (vals qs2), rowI lv lvc 4 1 (bools (livesB b)), oI bx5 29 (laCells c wp wpc wl wlc), rowI wp wpc 5 1 (byts c.pre), rowI wl wlc 5 1 (byts c.loop), rowI (some ⟨bx4, 0, none⟩) 1 29 2 (laCells l pb pc lb lc), rowI (some ⟨bx3, 0, none⟩) 1 26 5 (buCells b sb sc eb ec tb tc), oI bx2 29 (laCells l pb pc lb lc), oI bx1 26 (buCells b sb sc eb ec tb tc)] (itms 3 qs2) rfl rfl), rfl, rfl⟩
  refine TO.quiet (QT.toB (q_move rfl) (decide_eq_false hs199)) ?_
  refine TO.guarded rfl rfl rfl (LT.of_quiet rfl rfl (q_load_boxAgg 14 Try.underlying26 rfl inf26 rfl rfl rfl) ?_)
  refine TO.guarded rfl rfl rfl (LT.of_quiet rfl rfl (q_load_boxAgg 8 Try.underlying29 rfl inf29 rfl rfl rfl) ?_)
  have hk202 := fun (w1 : World) (hI : Inv w ([rowI kb kc 5 1 (byts c2.pre), rowI mb mc 5 1 (byts c2.loop), rowI lt ltc 4 1 (bools (livesB (trimB b))), oI bx6 26 [(.int .i64 (trimB b).vars), (.int .i64 (trimB b).states), (.slice sb2 ((trimB b).start.length) sc2), (.slice eb2 ((trimB b).edges.length) ec2), (.slice tb2 ((trimB b).sets.length) tc2)], rowI sb2 sc2 3 1 (ints (trimB b).start), rowI eb2 ec2 54 4 (edsC (trimB b).edges), rowI tb2 tc2 22 1 (vals qs2), rowI lv lvc 4 1 (bools (livesB b)), oI bx5 29 (laCells c wp wpc wl wlc), rowI wp wpc 5 1 (byts c.pre), rowI wl wlc 5 1 (byts c.loop), rowI (some ⟨bx4, 0, none⟩) 1 29 2 (laCells l pb pc lb lc), rowI (some ⟨bx3, 0, none⟩) 1 26 5 (buCells b sb sc eb ec tb tc), oI bx2 29 (laCells l pb pc lb lc), oI bx1 26 (buCells b sb sc eb ec tb tc)] ++ (itms 3 qs2)) w1) => (by
    have hcc : checkLV b.vars c = 0 := WitOf.check hwo hv (by omega) (by omega)
    have h9 := acceptsL w1 b sb eb tb sc ec tc vs (hI.bu h) hB c wp wl wpc wlc (show LaAt w1 c wp wl wpc wlc from ⟨(hI.slOf (List.mem_of_getElem? (i := 9) rfl)), (hI.slOf (List.mem_of_getElem? (i := 10) rfl)), by have h9 := rowP.cap (hI.row (i := 9) rfl); simpa using h9, by have h9 := rowP.cap (hI.row (i := 10) rfl); simpa using h9⟩) hcL (by omega)
    rw [show (accV b c && decide (accE b c = 0)) = true by rw [(accV_iffV hv hcc).2 hwo.acc, accE_of hv hcc]; rfl] at h9; exact h9)
  refine TO.guarded rfl rfl rfl (l_call ent30 (CallT.of_pure hk202) rfl ?_)
  clear hk202
  rintro vr O' ⟨N, rfl, rfl, rfl⟩
  refine TO.quiet (q_pick0 rfl rfl) (TO.quiet (q_assign rfl) ?_)
  refine TO.nil (T.ret (Res.drop ?_))
  refine Res.one (.bool true) Try.results4 rfl ?_
  exact ⟨[], (Sub.pick0 [] [rowI kb kc 5 1 (byts c2.pre), rowI mb mc 5 1 (byts c2.loop), rowI lt ltc 4 1 (bools (livesB (trimB b))), oI bx6 26 [(.int .i64 (trimB b).vars), (.int .i64 (trimB b).states), (.slice sb2 ((trimB b).start.length) sc2), (.slice eb2 ((trimB b).edges.length) ec2), (.slice tb2 ((trimB b).sets.length) tc2)], rowI sb2 sc2 3 1 (ints (trimB b).start), rowI eb2 ec2 54 4 (edsC (trimB b).edges), rowI tb2 tc2 22 1 (vals qs2), rowI lv lvc 4 1 (bools (livesB b)), oI bx5 29 (laCells c wp wpc wl wlc), rowI wp wpc 5 1 (byts c.pre), rowI wl wlc 5 1 (byts c.loop), rowI (some ⟨bx4, 0, none⟩) 1 29 2 (laCells l pb pc lb lc), rowI (some ⟨bx3, 0, none⟩) 1 26 5 (buCells b sb sc eb ec tb tc), oI bx2 29 (laCells l pb pc lb lc), oI bx1 26 (buCells b sb sc eb ec tb tc)] (itms 3 qs2) rfl rfl), rfl, rfl⟩
end Go.Proofs.Ytnamoapbienooaa

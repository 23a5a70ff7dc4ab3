/- Contracts of functions of the program (BLw3): what each call answers and that it leaves memory as it was. Conditions: those each theorem names. -/
import Derived.Test.YtnamoapbienooaaEndB
import Derived.Test.YtnamoapbienooaaBChk2
import Derived.Test.YtnamoapbienooaaBSuf
import Derived.Test.YtnamoapbienooaaMon
import Derived.Test.YtnamoapbienooaaCoreP
set_option linter.unusedSectionVars false
set_option linter.unusedSimpArgs false
set_option linter.unusedVariables false
set_option linter.unnecessarySimpa false
namespace Go.Proofs.Ytnamoapbienooaa
open Go.Lx Go.RowKit
set_option linter.unusedVariables false
set_option linter.unusedSimpArgs false
def sucT (b : Bu) (x s i : Nat) : Bool := (b.edges.take i).any fun e => decide (e.to = (s : Int)) && decide (e.fr ∈ b.start) && decide (mtch e x)
theorem sucT_succ {b : Bu} {x s i : Nat} (h : i < b.edges.length) : sucT b x s (i + 1) = (sucT b x s i || (decide (b.edges[i].to = (s : Int)) && decide (b.edges[i].fr ∈ b.start) && decide (mtch b.edges[i] x))) := by
  unfold sucT; rw [List.take_succ_eq_append_getElem h, List.any_append]; simp
theorem sucT_all {b : Bu} {x s : Nat} : sucT b x s b.edges.length = succP b x s := by unfold sucT succP; rw [List.take_length]
set_option maxHeartbeats 4000000 in
set_option maxRecDepth 20000 in
theorem lawWords (w : World) (b : Bu) (sb eb tb : Option Addr) (sc ec tc : Nat) (vs : List Value) (h : BuAt w b sb eb tb vs) (hpn : ∀ e ∈ b.edges, e.pos < 256 ∧ e.neg < 256) (hse : b.sets.length < 9223372036854775807) (l : La) (pb lb : Option Addr) (pc lc : Nat) (h2 : LaAt w l pb lb pc lc) (hp8 : ∀ x ∈ l.pre, x < 256) (hl8 : ∀ x ∈ l.loop, x < 256) :
    PureT Try.prog 6 [.agg (buCells b sb sc eb ec tb tc).toArray, .agg (laCells l pb pc lb lc).toArray] w fun v N => v = .bool true ∧ N = [] := by
  refine CallT.enter Try.func6 rfl Try.ntmps6 rfl ?_
  refine T.seq (T.region ?_)
  refine TO.loud rfl (l_box (v := (.agg (buCells b sb sc eb ec tb tc).toArray)) (cs := (buCells b sb sc eb ec tb tc)) rfl rfl (fun bx1 => ?_))
  refine TO.loud rfl (l_box (v := (.agg (laCells l pb pc lb lc).toArray)) (cs := (laCells l pb pc lb lc)) rfl rfl (fun bx2 => ?_))
  refine TO.quiet (q_assign rfl) ?_
  refine TO.nil (T.seq (T.seq (T.region ?_)))
  refine TO.quiet (q_load_boxAgg 1 Try.underlying26 rfl inf26 rfl rfl rfl) ?_
  refine TO.loud rfl (l_buildSlice (m := 1) (parts := [(0, _)]) (cs := (buCells b sb sc eb ec tb tc)) Try.underlying71 inf26 (by decide) (by kernel_rfl) rfl (fun bx3 => ?_))
  have hk14 := fun (w1 : World) (hI : Inv w [rowI (some ⟨bx3, 0, none⟩) 1 26 5 (buCells b sb sc eb ec tb tc), oI bx2 29 (laCells l pb pc lb lc), oI bx1 26 (buCells b sb sc eb ec tb tc)] w1) => (by
    have h9 := longF w1 (some ⟨bx3, 0, none⟩) 1 [⟨b, sb, sc, eb, ec, tb, tc, vs⟩] (hI.slOf (List.mem_of_getElem? (i := 0) rfl)) (fun q hq => by have h8 := List.mem_singleton.1 hq; subst h8; exact hI.bu h) (by simp) (fun q hq => by have h8 := List.mem_singleton.1 hq; subst h8; exact hse)
    rw [show ([⟨b, sb, sc, eb, ec, tb, tc, vs⟩] : List BuRef).any (fun q => longB q.b) = longB b by simp] at h9; exact h9)
  refine TO.loud rfl (l_call ent11 (CallT.of_pure hk14) rfl ?_)
  clear hk14
  rintro vr O' ⟨N, rfl, rfl, rfl⟩
  by_cases hs15 : (longB b) = true
  · refine TO.quiet (QT.toB (q_move rfl) (hs15)) ?_
    refine TO.passed rfl rfl ?_
    refine TO.passed rfl rfl ?_
    refine TO.passed rfl rfl ?_
    refine TO.quiet (q_pick1 rfl rfl) (TO.quiet (q_move rfl) ?_)
    refine TO.passed rfl rfl ?_
    refine TO.passed rfl rfl ?_
    refine TO.passed rfl rfl ?_
    refine TO.quiet (q_pick1 rfl rfl) (TO.quiet (q_move rfl) ?_)
    refine TO.passed rfl rfl ?_
    refine TO.passed rfl rfl ?_
    refine TO.quiet (q_pick1 rfl rfl) ?_
    refine TO.nil ?_
    refine T.cond1 rfl ?_
    refine T.seq (T.region ?_)
    have hk29 := fun (w1 : World) (hI : Inv w [rowI (some ⟨bx3, 0, none⟩) 1 26 5 (buCells b sb sc eb ec tb tc), oI bx2 29 (laCells l pb pc lb lc), oI bx1 26 (buCells b sb sc eb ec tb tc)] w1) => awakeF w1
    refine TO.loud rfl (l_call ent14 (CallT.of_pure hk29) rfl ?_)
    clear hk29
    rintro vr O' ⟨N, rfl, rfl, rfl⟩
    refine TO.quiet (q_assign rfl) ?_
    refine TO.nil (T.ret (Res.drop ?_))
    refine Res.one (.bool true) Try.results6 rfl ?_
    exact ⟨[], (Sub.pick [] rfl), rfl, rfl⟩
  refine TO.quiet (QT.toB (q_move rfl) (Bool.eq_false_iff.2 hs15)) ?_
  refine TO.guarded rfl rfl rfl (LT.of_quiet rfl rfl (q_load_boxAgg 1 Try.underlying29 rfl inf29 rfl rfl rfl) ?_)
  refine TO.guarded rfl rfl rfl (l_buildSlice (m := 1) (parts := [(0, _)]) (cs := (laCells l pb pc lb lc)) Try.underlying72 inf29 (by decide) (by kernel_rfl) rfl (fun bx4 => ?_))
  have hk18 := fun (w1 : World) (hI : Inv w [rowI (some ⟨bx4, 0, none⟩) 1 29 2 (laCells l pb pc lb lc), rowI (some ⟨bx3, 0, none⟩) 1 26 5 (buCells b sb sc eb ec tb tc), oI bx2 29 (laCells l pb pc lb lc), oI bx1 26 (buCells b sb sc eb ec tb tc)] w1) => (by
    have h9 := longLF w1 (some ⟨bx4, 0, none⟩) 1 [⟨l, pb, pc, lb, lc⟩] (hI.slOf (List.mem_of_getElem? (i := 0) rfl)) (by simp)
    rw [show ([⟨l, pb, pc, lb, lc⟩] : List LaRef).any (fun q => longL q.l) = longL l by simp] at h9; exact h9)
  refine TO.guarded rfl rfl rfl (l_call ent12 (CallT.of_pure hk18) rfl ?_)
  clear hk18
  rintro vr O' ⟨N, rfl, rfl, rfl⟩
  refine TO.quiet (q_pick0 rfl rfl) ?_
  by_cases hs20 : (longL l) = true
  · refine TO.quiet (QT.toB (q_move rfl) (hs20)) ?_
    refine TO.passed rfl rfl ?_
    refine TO.passed rfl rfl ?_
    refine TO.passed rfl rfl ?_
    refine TO.quiet (q_pick1 rfl rfl) (TO.quiet (q_move rfl) ?_)
    refine TO.passed rfl rfl ?_
    refine TO.passed rfl rfl ?_
    refine TO.quiet (q_pick1 rfl rfl) ?_
    refine TO.nil ?_
    refine T.cond1 rfl ?_
    refine T.seq (T.region ?_)
    have hk29 := fun (w1 : World) (hI : Inv w [rowI (some ⟨bx4, 0, none⟩) 1 29 2 (laCells l pb pc lb lc), rowI (some ⟨bx3, 0, none⟩) 1 26 5 (buCells b sb sc eb ec tb tc), oI bx2 29 (laCells l pb pc lb lc), oI bx1 26 (buCells b sb sc eb ec tb tc)] w1) => awakeF w1
    refine TO.loud rfl (l_call ent14 (CallT.of_pure hk29) rfl ?_)
    clear hk29
    rintro vr O' ⟨N, rfl, rfl, rfl⟩
    refine TO.quiet (q_assign rfl) ?_
    refine TO.nil (T.ret (Res.drop ?_))
    refine Res.one (.bool true) Try.results6 rfl ?_
    exact ⟨[], (Sub.pick [] rfl), rfl, rfl⟩
  refine TO.quiet (QT.toB (q_move rfl) (Bool.eq_false_iff.2 hs20)) ?_
  refine TO.guarded rfl rfl rfl (LT.of_quiet rfl rfl (q_load_boxAgg 2 Try.underlying29 rfl inf29 rfl rfl rfl) ?_)
  have hk22 := fun (w1 : World) (hI : Inv w [rowI (some ⟨bx4, 0, none⟩) 1 29 2 (laCells l pb pc lb lc), rowI (some ⟨bx3, 0, none⟩) 1 26 5 (buCells b sb sc eb ec tb tc), oI bx2 29 (laCells l pb pc lb lc), oI bx1 26 (buCells b sb sc eb ec tb tc)] w1) => fairF w1 l pb lb pc lc (by have := longL_no hs20; omega) (by have := longL_no hs20; omega)
  refine TO.guarded rfl rfl rfl (l_call ent13 (CallT.of_pure hk22) rfl ?_)
  clear hk22
  rintro vr O' ⟨N, rfl, rfl, rfl⟩
  refine TO.guarded rfl rfl rfl (LT.of_quiet rfl rfl (q_not rfl) ?_)
  refine TO.quiet (q_pick0 rfl rfl) ?_
  by_cases hs25 : ((!(decide (l.n ≤ 16)))) = true
  · refine TO.quiet (QT.toB (q_move rfl) (hs25)) ?_
    refine TO.passed rfl rfl ?_
    refine TO.passed rfl rfl ?_
    refine TO.quiet (q_pick1 rfl rfl) ?_
    refine TO.nil ?_
    refine T.cond1 rfl ?_
    refine T.seq (T.region ?_)
    have hk29 := fun (w1 : World) (hI : Inv w [rowI (some ⟨bx4, 0, none⟩) 1 29 2 (laCells l pb pc lb lc), rowI (some ⟨bx3, 0, none⟩) 1 26 5 (buCells b sb sc eb ec tb tc), oI bx2 29 (laCells l pb pc lb lc), oI bx1 26 (buCells b sb sc eb ec tb tc)] w1) => awakeF w1
    refine TO.loud rfl (l_call ent14 (CallT.of_pure hk29) rfl ?_)
    clear hk29
    rintro vr O' ⟨N, rfl, rfl, rfl⟩
    refine TO.quiet (q_assign rfl) ?_
    refine TO.nil (T.ret (Res.drop ?_))
    refine Res.one (.bool true) Try.results6 rfl ?_
    exact ⟨[], (Sub.pick [] rfl), rfl, rfl⟩
  refine TO.quiet (QT.toB (q_move rfl) (Bool.eq_false_iff.2 hs25)) ?_
  have hk26 := fun (w1 : World) (hI : Inv w [rowI (some ⟨bx4, 0, none⟩) 1 29 2 (laCells l pb pc lb lc), rowI (some ⟨bx3, 0, none⟩) 1 26 5 (buCells b sb sc eb ec tb tc), oI bx2 29 (laCells l pb pc lb lc), oI bx1 26 (buCells b sb sc eb ec tb tc)] w1) => awakeF w1
  refine TO.guarded rfl rfl rfl (l_call ent14 (CallT.of_pure hk26) rfl ?_)
  clear hk26
  rintro vr O' ⟨N, rfl, rfl, rfl⟩
  refine TO.guarded rfl rfl rfl (LT.of_quiet rfl rfl (QT.toB (q_not rfl) rfl) ?_)
  refine TO.quiet (q_pick0 rfl rfl) ?_
  refine TO.nil ?_
  refine T.cond0 rfl ?_
  refine T.skip (T.seq ?_)
  have hB : BuB b := longB_no (by simp_all) hpn
  have hL : LaB l := longL_lab (by simp_all) hp8 hl8
  have hE : b.edges.length ≤ 60 := (longB_ed (b := b) (by simp_all)).2.1
  have hll := longL_no (l := l) (by simp_all)
  refine T.region ?_
  refine TO.quiet (q_load_boxAgg 3 Try.underlying26 rfl inf26 rfl rfl rfl) (TO.quiet (q_load_boxAgg 2 Try.underlying29 rfl inf29 rfl rfl rfl) ?_)
  have hk33 := fun (w1 : World) (hI : Inv w [rowI (some ⟨bx4, 0, none⟩) 1 29 2 (laCells l pb pc lb lc), rowI (some ⟨bx3, 0, none⟩) 1 26 5 (buCells b sb sc eb ec tb tc), oI bx2 29 (laCells l pb pc lb lc), oI bx1 26 (buCells b sb sc eb ec tb tc)] w1) => acceptsF w1 b sb eb tb sc ec tc vs (hI.bu h) hB l pb lb pc lc (hI.la h2) hL (by omega)
  refine TO.loud rfl (l_call ent17 (CallT.of_pure hk33) rfl ?_)
  clear hk33
  rintro vr O' ⟨N, rfl, rfl, rfl⟩
  refine TO.quiet (q_move rfl) (TO.quiet (q_extract (vs := _) rfl rfl) (TO.quiet (q_extract (vs := _) rfl rfl) (TO.quiet (q_assign rfl) ?_)))
  refine TO.quiet (q_assign rfl) ?_
  refine TO.nil (T.seq (T.seq (T.region ?_)))
  refine TO.quiet (q_move rfl) (TO.quiet (q_neq rfl rfl) ?_)
  refine TO.nil ?_
  refine T.condP rfl (fun hc => ?_) (fun hc => ?_)
  · have hlt37 : accE b l ≠ 0 := by omega
    refine T.seq ?_
    have hacc : accV b l = false := accV_no (by omega)
    refine T.region ?_
    refine TO.quiet (q_move rfl) (TO.quiet (QT.toB (q_not rfl) (by rw [hacc])) (TO.quiet (q_assign rfl) ?_))
    refine TO.nil (T.ret (Res.drop ?_))
    refine Res.one (.bool true) Try.results6 rfl ?_
    exact ⟨[], (Sub.pick [] rfl), rfl, rfl⟩
  have hge37 : ¬ accE b l ≠ 0 := by omega
  refine T.skip ?_
  obtain ⟨hv, hcl⟩ := accE_zero (b := b) (l := l) (by omega)
  have hv0 := hv.n0; have hv4 := hv.n4; have hm8 := hv.m8
  have hl0 := (checkL_loop hcl).1
  have htp : (twice l).pre.length = l.pre.length + l.loop.length := List.length_append
  have htl : (twice l).loop.length = l.loop.length + l.loop.length := List.length_append
  refine T.cut (fun ρ O => ∃ (ma na : Option Addr) (mac nac zM : Nat), O = [oI zM 29 [(.slice ma (l.pre.length + l.loop.length) mac), (.slice na (l.loop.length + l.loop.length) nac)], rowI ma mac 5 1 ((byts l.pre) ++ (byts l.loop)), rowI na nac 5 1 ((byts l.loop) ++ (byts l.loop)), rowI (some ⟨bx4, 0, none⟩) 1 29 2 (laCells l pb pc lb lc), rowI (some ⟨bx3, 0, none⟩) 1 26 5 (buCells b sb sc eb ec tb tc), oI bx2 29 (laCells l pb pc lb lc), oI bx1 26 (buCells b sb sc eb ec tb tc)] ∧ Heads [(0, (.agg (buCells b sb sc eb ec tb tc).toArray)), (1, (.agg (laCells l pb pc lb lc).toArray)), (2, (.pointer (some ⟨bx1, 0, none⟩))), (3, (.pointer (some ⟨bx2, 0, none⟩))), (4, .bool false), (5, .bool (accV b l)), (6, .int .i64 ((accE b l : Nat) : Int)), (7, (.pointer (some ⟨zM, 0, none⟩)))] ρ) ?_ ?_
  · refine T.tree [oI bx2 29 (laCells l pb pc lb lc)] 15 mixed rfl (Sub.pick [2] rfl) (fun _ _ _ h => h) ?_
    refine RO.quietT 0 rfl (by kernel_rfl) (q_fieldAddr Try.underlying29 rfl inf27 rfl rfl) ?_
    refine RO.quietT 1 rfl (by kernel_rfl) (q_load_box 0 Try.underlying27 rfl rfl rfl rfl) ?_
    refine RO.quietT 3 rfl (by kernel_rfl) (q_fieldAddr Try.underlying29 rfl inf27 rfl rfl) ?_
    refine RO.quietT 4 rfl (by kernel_rfl) (q_load_box 0 Try.underlying27 rfl rfl rfl rfl) ?_
    refine RO.quietT 6 rfl (by kernel_rfl) (q_fieldAddr Try.underlying29 rfl inf27 rfl rfl) ?_
    refine RO.quietT 7 rfl (by kernel_rfl) (q_load_box 0 Try.underlying27 rfl rfl rfl rfl) ?_
    refine RO.quietT 9 rfl (by kernel_rfl) (q_fieldAddr Try.underlying29 rfl inf27 rfl rfl) ?_
    refine RO.quietT 10 rfl (by kernel_rfl) (q_load_box 0 Try.underlying27 rfl rfl rfl rfl) ?_
    have hk42 := fun (w1 : World) (hI : Inv w [rowI (some ⟨bx4, 0, none⟩) 1 29 2 (laCells l pb pc lb lc), rowI (some ⟨bx3, 0, none⟩) 1 26 5 (buCells b sb sc eb ec tb tc), oI bx2 29 (laCells l pb pc lb lc), oI bx1 26 (buCells b sb sc eb ec tb tc)] w1) => copyBytes w1 pb pc l.pre (hI.sl h2.pre) (by omega)
    refine RO.fork [2, 13] (by kernel_rfl) rfl ⟨⟨_, rfl, rfl, l_call ent32 (CallT.of_pure hk42) rfl ?_⟩, ⟨_, rfl, rfl, l_alloc inf29 rfl (fun zM => ⟨Sub.pick [3] rfl, ?_⟩)⟩, trivial⟩
    · clear hk42
      rintro vr O' ⟨N, rfl, ca, cc, rfl, rfl⟩
      refine ⟨Sub.pick [3] rfl, ?_⟩
      refine RO.fork [5, 13] (by kernel_rfl) rfl ⟨⟨_, rfl, rfl, l_append 0 Try.underlying27 Try.underlying27 inf5 rfl rfl rfl rfl (by simp) (by decide) (Src.sl h2.loop (by simp)) (byts_one _) (by omega) (by decide) (by decide) (fun ma mac => ⟨Sub.pick [3] rfl, ?_⟩)⟩, ⟨_, rfl, rfl, l_alloc inf29 rfl (fun zM => ⟨Sub.pick [4] rfl, ?_⟩)⟩, trivial⟩
      · have hk48 := fun (w1 : World) (hI : Inv w [rowI ma mac 5 1 ((byts l.pre) ++ (byts l.loop)), rowI (some ⟨bx4, 0, none⟩) 1 29 2 (laCells l pb pc lb lc), rowI (some ⟨bx3, 0, none⟩) 1 26 5 (buCells b sb sc eb ec tb tc), oI bx2 29 (laCells l pb pc lb lc), oI bx1 26 (buCells b sb sc eb ec tb tc)] w1) => copyBytes w1 lb lc l.loop (hI.sl h2.loop) (by omega)
        refine RO.fork [8, 13] (by kernel_rfl) rfl ⟨⟨_, rfl, rfl, l_call ent32 (CallT.of_pure hk48) rfl ?_⟩, ⟨_, rfl, rfl, l_alloc inf29 rfl (fun zM => ⟨Sub.pick [4] rfl, ?_⟩)⟩, trivial⟩
        · clear hk48
          rintro vr O' ⟨N, rfl, da, dc, rfl, rfl⟩
          refine ⟨Sub.pick [4] rfl, ?_⟩
          refine RO.fork [11, 13] (by kernel_rfl) rfl ⟨⟨_, rfl, rfl, l_append 0 Try.underlying27 Try.underlying27 inf5 rfl rfl rfl rfl (by simp) (by decide) (Src.sl h2.loop (by simp)) (byts_one _) (by omega) (by decide) (by decide) (fun na nac => ⟨Sub.pick [4] rfl, ?_⟩)⟩, ⟨_, rfl, rfl, l_alloc inf29 rfl (fun zM => ⟨Sub.pick [5] rfl, ?_⟩)⟩, trivial⟩
          · refine RO.quietT 12 rfl (by kernel_rfl) (q_build (cs := [(.slice ma (l.pre.length + l.loop.length) mac), (.slice na (l.loop.length + l.loop.length) nac)]) plan29 inf29 (by kernel_rfl)) ?_
            refine RO.fork [13] (by kernel_rfl) rfl ⟨⟨_, rfl, rfl, l_alloc inf29 rfl (fun zM => ⟨Sub.pick [5] rfl, ?_⟩)⟩, trivial⟩
            refine RO.fork [14] (by kernel_rfl) rfl ⟨⟨_, rfl, rfl, l_store_box (v := (.agg #[(.slice ma (l.pre.length + l.loop.length) mac), (.slice na (l.loop.length + l.loop.length) nac)])) (vs := [(.slice ma (l.pre.length + l.loop.length) mac), (.slice na (l.loop.length + l.loop.length) nac)]) 0 inf29 rfl rfl rfl rfl rfl rfl (by simp [putL]) ⟨Sub.pick [5] rfl, ?_⟩⟩, trivial⟩
            exact RO.fin (by kernel_rfl) ⟨ma, na, mac, nac, zM, rfl, ⟨rfl, rfl, rfl, rfl, rfl, rfl, rfl, rfl, trivial⟩⟩ (Sub.pick [0, 1, 0, 0, 0, 0, 0] rfl)
          refine RO.fork [11] (by kernel_rfl) rfl ⟨⟨_, rfl, rfl, l_append 1 Try.underlying27 Try.underlying27 inf5 rfl rfl rfl rfl (by simp) (by decide) (Src.sl h2.loop (by simp)) (byts_one _) (by omega) (by decide) (by decide) (fun na nac => ⟨Sub.pick [5] rfl, ?_⟩)⟩, trivial⟩
          refine RO.quietT 12 rfl (by kernel_rfl) (q_build (cs := [(.slice ma (l.pre.length + l.loop.length) mac), (.slice na (l.loop.length + l.loop.length) nac)]) plan29 inf29 (by kernel_rfl)) ?_
          refine RO.fork [14] (by kernel_rfl) rfl ⟨⟨_, rfl, rfl, l_store_box (v := (.agg #[(.slice ma (l.pre.length + l.loop.length) mac), (.slice na (l.loop.length + l.loop.length) nac)])) (vs := [(.slice ma (l.pre.length + l.loop.length) mac), (.slice na (l.loop.length + l.loop.length) nac)]) 0 inf29 rfl rfl rfl rfl rfl rfl (by simp [putL]) ⟨Sub.pick [5] rfl, ?_⟩⟩, trivial⟩
          exact RO.fin (by kernel_rfl) ⟨ma, na, mac, nac, zM, rfl, ⟨rfl, rfl, rfl, rfl, rfl, rfl, rfl, rfl, trivial⟩⟩ (Sub.pick [0, 1, 0, 0, 0, 0, 0] rfl)
        have hk48 := fun (w1 : World) (hI : Inv w [oI zM 29 [(.slice none 0 0), (.slice none 0 0)], rowI ma mac 5 1 ((byts l.pre) ++ (byts l.loop)), rowI (some ⟨bx4, 0, none⟩) 1 29 2 (laCells l pb pc lb lc), rowI (some ⟨bx3, 0, none⟩) 1 26 5 (buCells b sb sc eb ec tb tc), oI bx2 29 (laCells l pb pc lb lc), oI bx1 26 (buCells b sb sc eb ec tb tc)] w1) => copyBytes w1 lb lc l.loop (hI.sl h2.loop) (by omega)
        refine RO.fork [8] (by kernel_rfl) rfl ⟨⟨_, rfl, rfl, l_call ent32 (CallT.of_pure hk48) rfl ?_⟩, trivial⟩
        clear hk48
        rintro vr O' ⟨N, rfl, da, dc, rfl, rfl⟩
        refine ⟨Sub.pick [5] rfl, ?_⟩
        refine RO.fork [11] (by kernel_rfl) rfl ⟨⟨_, rfl, rfl, l_append 0 Try.underlying27 Try.underlying27 inf5 rfl rfl rfl rfl (by simp) (by decide) (Src.sl h2.loop (by simp)) (byts_one _) (by omega) (by decide) (by decide) (fun na nac => ⟨Sub.pick [5] rfl, ?_⟩)⟩, trivial⟩
        refine RO.quietT 12 rfl (by kernel_rfl) (q_build (cs := [(.slice ma (l.pre.length + l.loop.length) mac), (.slice na (l.loop.length + l.loop.length) nac)]) plan29 inf29 (by kernel_rfl)) ?_
        refine RO.fork [14] (by kernel_rfl) rfl ⟨⟨_, rfl, rfl, l_store_box (v := (.agg #[(.slice ma (l.pre.length + l.loop.length) mac), (.slice na (l.loop.length + l.loop.length) nac)])) (vs := [(.slice ma (l.pre.length + l.loop.length) mac), (.slice na (l.loop.length + l.loop.length) nac)]) 1 inf29 rfl rfl rfl rfl rfl rfl (by simp [putL]) ⟨Sub.pick [5] rfl, ?_⟩⟩, trivial⟩
        exact RO.fin (by kernel_rfl) ⟨ma, na, mac, nac, zM, rfl, ⟨rfl, rfl, rfl, rfl, rfl, rfl, rfl, rfl, trivial⟩⟩ (Sub.pick [1, 1, 0, 0, 0, 0, 0] rfl)
      refine RO.fork [5] (by kernel_rfl) rfl ⟨⟨_, rfl, rfl, l_append 1 Try.underlying27 Try.underlying27 inf5 rfl rfl rfl rfl (by simp) (by decide) (Src.sl h2.loop (by simp)) (byts_one _) (by omega) (by decide) (by decide) (fun ma mac => ⟨Sub.pick [4] rfl, ?_⟩)⟩, trivial⟩
      have hk48 := fun (w1 : World) (hI : Inv w [oI zM 29 [(.slice none 0 0), (.slice none 0 0)], rowI ma mac 5 1 ((byts l.pre) ++ (byts l.loop)), rowI (some ⟨bx4, 0, none⟩) 1 29 2 (laCells l pb pc lb lc), rowI (some ⟨bx3, 0, none⟩) 1 26 5 (buCells b sb sc eb ec tb tc), oI bx2 29 (laCells l pb pc lb lc), oI bx1 26 (buCells b sb sc eb ec tb tc)] w1) => copyBytes w1 lb lc l.loop (hI.sl h2.loop) (by omega)
      refine RO.fork [8] (by kernel_rfl) rfl ⟨⟨_, rfl, rfl, l_call ent32 (CallT.of_pure hk48) rfl ?_⟩, trivial⟩
      clear hk48
      rintro vr O' ⟨N, rfl, da, dc, rfl, rfl⟩
      refine ⟨Sub.pick [5] rfl, ?_⟩
      refine RO.fork [11] (by kernel_rfl) rfl ⟨⟨_, rfl, rfl, l_append 0 Try.underlying27 Try.underlying27 inf5 rfl rfl rfl rfl (by simp) (by decide) (Src.sl h2.loop (by simp)) (byts_one _) (by omega) (by decide) (by decide) (fun na nac => ⟨Sub.pick [5] rfl, ?_⟩)⟩, trivial⟩
      refine RO.quietT 12 rfl (by kernel_rfl) (q_build (cs := [(.slice ma (l.pre.length + l.loop.length) mac), (.slice na (l.loop.length + l.loop.length) nac)]) plan29 inf29 (by kernel_rfl)) ?_
      refine RO.fork [14] (by kernel_rfl) rfl ⟨⟨_, rfl, rfl, l_store_box (v := (.agg #[(.slice ma (l.pre.length + l.loop.length) mac), (.slice na (l.loop.length + l.loop.length) nac)])) (vs := [(.slice ma (l.pre.length + l.loop.length) mac), (.slice na (l.loop.length + l.loop.length) nac)]) 1 inf29 rfl rfl rfl rfl rfl rfl (by simp [putL]) ⟨Sub.pick [5] rfl, ?_⟩⟩, trivial⟩
      exact RO.fin (by kernel_rfl) ⟨ma, na, mac, nac, zM, rfl, ⟨rfl, rfl, rfl, rfl, rfl, rfl, rfl, rfl, trivial⟩⟩ (Sub.pick [1, 1, 0, 0, 0, 0, 0] rfl)
    have hk42 := fun (w1 : World) (hI : Inv w [oI zM 29 [(.slice none 0 0), (.slice none 0 0)], rowI (some ⟨bx4, 0, none⟩) 1 29 2 (laCells l pb pc lb lc), rowI (some ⟨bx3, 0, none⟩) 1 26 5 (buCells b sb sc eb ec tb tc), oI bx2 29 (laCells l pb pc lb lc), oI bx1 26 (buCells b sb sc eb ec tb tc)] w1) => copyBytes w1 pb pc l.pre (hI.sl h2.pre) (by omega)
    refine RO.fork [2] (by kernel_rfl) rfl ⟨⟨_, rfl, rfl, l_call ent32 (CallT.of_pure hk42) rfl ?_⟩, trivial⟩
    clear hk42
    rintro vr O' ⟨N, rfl, ca, cc, rfl, rfl⟩
    refine ⟨Sub.pick [4] rfl, ?_⟩
    refine RO.fork [5] (by kernel_rfl) rfl ⟨⟨_, rfl, rfl, l_append 0 Try.underlying27 Try.underlying27 inf5 rfl rfl rfl rfl (by simp) (by decide) (Src.sl h2.loop (by simp)) (byts_one _) (by omega) (by decide) (by decide) (fun ma mac => ⟨Sub.pick [4] rfl, ?_⟩)⟩, trivial⟩
    have hk48 := fun (w1 : World) (hI : Inv w [rowI ma mac 5 1 ((byts l.pre) ++ (byts l.loop)), oI zM 29 [(.slice none 0 0), (.slice none 0 0)], rowI (some ⟨bx4, 0, none⟩) 1 29 2 (laCells l pb pc lb lc), rowI (some ⟨bx3, 0, none⟩) 1 26 5 (buCells b sb sc eb ec tb tc), oI bx2 29 (laCells l pb pc lb lc), oI bx1 26 (buCells b sb sc eb ec tb tc)] w1) => copyBytes w1 lb lc l.loop (hI.sl h2.loop) (by omega)
    refine RO.fork [8] (by kernel_rfl) rfl ⟨⟨_, rfl, rfl, l_call ent32 (CallT.of_pure hk48) rfl ?_⟩, trivial⟩
    clear hk48
    rintro vr O' ⟨N, rfl, da, dc, rfl, rfl⟩
    refine ⟨Sub.pick [5] rfl, ?_⟩
    refine RO.fork [11] (by kernel_rfl) rfl ⟨⟨_, rfl, rfl, l_append 0 Try.underlying27 Try.underlying27 inf5 rfl rfl rfl rfl (by simp) (by decide) (Src.sl h2.loop (by simp)) (byts_one _) (by omega) (by decide) (by decide) (fun na nac => ⟨Sub.pick [5] rfl, ?_⟩)⟩, trivial⟩
    refine RO.quietT 12 rfl (by kernel_rfl) (q_build (cs := [(.slice ma (l.pre.length + l.loop.length) mac), (.slice na (l.loop.length + l.loop.length) nac)]) plan29 inf29 (by kernel_rfl)) ?_
    refine RO.fork [14] (by kernel_rfl) rfl ⟨⟨_, rfl, rfl, l_store_box (v := (.agg #[(.slice ma (l.pre.length + l.loop.length) mac), (.slice na (l.loop.length + l.loop.length) nac)])) (vs := [(.slice ma (l.pre.length + l.loop.length) mac), (.slice na (l.loop.length + l.loop.length) nac)]) 2 inf29 rfl rfl rfl rfl rfl rfl (by simp [putL]) ⟨Sub.pick [5] rfl, ?_⟩⟩, trivial⟩
    exact RO.fin (by kernel_rfl) ⟨ma, na, mac, nac, zM, rfl, ⟨rfl, rfl, rfl, rfl, rfl, rfl, rfl, rfl, trivial⟩⟩ (Sub.pick [2, 1, 0, 0, 0, 0, 0] rfl)
  rintro ρ O ⟨ma, na, mac, nac, zM, rfl, hH⟩
  obtain ⟨ρ0, rfl⟩ := hH.elim
  clear hH
  refine T.sub (O' := [oI zM 29 [(.slice ma ((twice l).pre.length) mac), (.slice na ((twice l).loop.length) nac)], rowI ma mac 5 1 (byts (twice l).pre), rowI na nac 5 1 (byts (twice l).loop), rowI (some ⟨bx4, 0, none⟩) 1 29 2 (laCells l pb pc lb lc), rowI (some ⟨bx3, 0, none⟩) 1 26 5 (buCells b sb sc eb ec tb tc), oI bx2 29 (laCells l pb pc lb lc), oI bx1 26 (buCells b sb sc eb ec tb tc)]) (by rw [show byts (twice l).pre = byts l.pre ++ byts l.loop from List.map_append, show byts (twice l).loop = byts l.loop ++ byts l.loop from List.map_append, show (twice l).pre.length = l.pre.length + l.loop.length from List.length_append, show (twice l).loop.length = l.loop.length + l.loop.length from List.length_append]; exact Sub.of (List.Sublist.refl _)) ?_
  refine T.cut (fun ρ O => Sub [oI zM 29 [(.slice ma ((twice l).pre.length) mac), (.slice na ((twice l).loop.length) nac)], rowI ma mac 5 1 (byts (twice l).pre), rowI na nac 5 1 (byts (twice l).loop), rowI (some ⟨bx4, 0, none⟩) 1 29 2 (laCells l pb pc lb lc), rowI (some ⟨bx3, 0, none⟩) 1 26 5 (buCells b sb sc eb ec tb tc), oI bx2 29 (laCells l pb pc lb lc), oI bx1 26 (buCells b sb sc eb ec tb tc)] O ∧ Heads [(0, (.agg (buCells b sb sc eb ec tb tc).toArray)), (1, (.agg (laCells l pb pc lb lc).toArray)), (2, (.pointer (some ⟨bx1, 0, none⟩))), (3, (.pointer (some ⟨bx2, 0, none⟩))), (5, .bool (accV b l)), (6, .int .i64 ((accE b l : Nat) : Int)), (7, (.pointer (some ⟨zM, 0, none⟩)))] ρ) ?_ ?_
  · refine T.seq ?_
    refine T.draws _ [(0, 0), (1, 0), (4, 0), (2, 1), (3, 1), (5, 0), (6, 0), (7, 0), (8, 0), (9, 0), (10, 0), (11, 0), (12, 0), (13, 0), (14, 0), (15, 0), (16, 0), (17, 0), (18, 0), (19, 0), (21, 0), (20, 1), (22, 0), (23, 0), (24, 0)] mixed (by kernel_rfl) (Sub.of (List.Sublist.refl _)) (fun _ _ _ h => h) ?_
    refine DO.quiet rfl (q_load_boxAgg 6 Try.underlying26 rfl inf26 rfl rfl rfl) (DO.quiet rfl (q_load_boxAgg 5 Try.underlying29 rfl inf29 rfl rfl rfl) (DO.quiet rfl (q_move rfl) ?_))
    have hk55 := fun (w1 : World) (hI : Inv w [oI zM 29 [(.slice ma ((twice l).pre.length) mac), (.slice na ((twice l).loop.length) nac)], rowI ma mac 5 1 (byts (twice l).pre), rowI na nac 5 1 (byts (twice l).loop), rowI (some ⟨bx4, 0, none⟩) 1 29 2 (laCells l pb pc lb lc), rowI (some ⟨bx3, 0, none⟩) 1 26 5 (buCells b sb sc eb ec tb tc), oI bx2 29 (laCells l pb pc lb lc), oI bx1 26 (buCells b sb sc eb ec tb tc)] w1) => canonicalF w1 l pb lb pc lc (hI.la h2) hL hl0
    refine DO.loud rfl rfl (l_call ent29 (CallT.of_pure hk55) rfl ?_)
    clear hk55
    rintro vr O' ⟨N, rfl, c, kb, mb, kc, mc, rfl, rfl, hco⟩
    refine ⟨Sub.pick [2, 2, 2, 2, 2, 2, 2] rfl, ?_⟩
    have hk56 := fun (w1 : World) (hI : Inv w [rowI kb kc 5 1 (byts c.pre), rowI mb mc 5 1 (byts c.loop), oI zM 29 [(.slice ma ((twice l).pre.length) mac), (.slice na ((twice l).loop.length) nac)], rowI ma mac 5 1 (byts (twice l).pre), rowI na nac 5 1 (byts (twice l).loop), rowI (some ⟨bx4, 0, none⟩) 1 29 2 (laCells l pb pc lb lc), rowI (some ⟨bx3, 0, none⟩) 1 26 5 (buCells b sb sc eb ec tb tc), oI bx2 29 (laCells l pb pc lb lc), oI bx1 26 (buCells b sb sc eb ec tb tc)] w1) => (by
      have hcc : checkLV b.vars c = 0 := hco.check hcl (Nat.le_refl _) (Nat.le_refl _) (fun x hx => .inl hx) (fun x hx => .inr hx)
      have h9 := acceptsL w1 b sb eb tb sc ec tc vs (hI.bu h) hB c kb mb kc mc (show LaAt w1 c kb mb kc mc from ⟨(hI.slOf (List.mem_of_getElem? (i := 0) rfl)), (hI.slOf (List.mem_of_getElem? (i := 1) rfl)), by have h9 := rowP.cap (hI.row (i := 0) rfl); simpa using h9, by have h9 := rowP.cap (hI.row (i := 1) rfl); simpa using h9⟩) ⟨Nat.le_trans hco.pre hL.pre, Nat.le_trans hco.loop hL.loop, fun x hx => hL.p8 x (hco.mp x hx), fun x hx => hL.l8 x (hco.ml x hx)⟩ (by omega)
      rw [show (accV b c && decide (accE b c = 0)) = accV b l by rw [accV_word hv hcl hcc hco.at_, accE_of hv hcc] <;> simp] at h9; exact h9)
    refine DO.loud rfl rfl (l_call ent30 (CallT.of_pure hk56) rfl ?_)
    clear hk56
    rintro vr O' ⟨N, rfl, rfl, rfl⟩
    refine ⟨Sub.pick [2, 2, 2, 2, 2, 2, 2] rfl, ?_⟩
    refine DO.quiet rfl (QT.toB (q_bneq Try.underlying4 rfl rfl) (bne_self_eq_false _)) (DO.quiet rfl (q_move rfl) ?_)
    refine DO.guarded rfl rfl rfl (q_fieldAddr Try.underlying29 rfl inf27 rfl rfl) ?_
    refine DO.guarded rfl rfl rfl (q_load_box 0 Try.underlying27 rfl rfl rfl rfl) ?_
    refine DO.guarded rfl rfl rfl (q_len Try.underlying27 rfl) ?_
    refine DO.guarded rfl rfl rfl (q_leq rfl rfl) ?_
    by_cases hs64 : ((twice l).loop.length : Int) ≤ 64
    · refine DO.guarded rfl rfl rfl (QT.toB (q_move rfl) (decide_eq_true hs64)) ?_
      refine DO.guarded rfl rfl rfl (q_fieldAddr Try.underlying29 rfl inf27 rfl rfl) ?_
      refine DO.guarded rfl rfl rfl (q_load_box 0 Try.underlying27 rfl rfl rfl rfl) ?_
      refine DO.guarded rfl rfl rfl (q_len Try.underlying27 rfl) ?_
      refine DO.guarded rfl rfl rfl (q_leq rfl rfl) ?_
      refine DO.guarded rfl rfl rfl (q_pick1 rfl rfl) ?_
      by_cases hs70 : ((twice l).pre.length : Int) ≤ 64
      · refine DO.guarded rfl rfl rfl (QT.toB (q_move rfl) (decide_eq_true hs70)) ?_
        refine DO.guarded rfl rfl rfl (q_load_boxAgg 6 Try.underlying26 rfl inf26 rfl rfl rfl) ?_
        refine DO.guarded rfl rfl rfl (q_load_boxAgg 0 Try.underlying29 rfl inf29 rfl rfl rfl) ?_
        refine DO.guarded rfl rfl rfl (q_move rfl) ?_
        have hk73 := fun (w1 : World) (hI : Inv w [rowI kb kc 5 1 (byts c.pre), rowI mb mc 5 1 (byts c.loop), oI zM 29 [(.slice ma ((twice l).pre.length) mac), (.slice na ((twice l).loop.length) nac)], rowI ma mac 5 1 (byts (twice l).pre), rowI na nac 5 1 (byts (twice l).loop), rowI (some ⟨bx4, 0, none⟩) 1 29 2 (laCells l pb pc lb lc), rowI (some ⟨bx3, 0, none⟩) 1 26 5 (buCells b sb sc eb ec tb tc), oI bx2 29 (laCells l pb pc lb lc), oI bx1 26 (buCells b sb sc eb ec tb tc)] w1) => (by
          have hcm : checkLV b.vars (twice l) = 0 := checkLV_sub hcl (by rw [htl]; omega) (by rw [htp] at *; omega) (by rw [htl] at *; omega) (fun x hx => List.mem_append.1 hx) (fun x hx => .inr ((List.mem_append.1 hx).elim id id))
          have h9 := acceptsL w1 b sb eb tb sc ec tc vs (hI.bu h) hB (twice l) ma na mac nac (show LaAt w1 (twice l) ma na mac nac from ⟨(hI.slOf (List.mem_of_getElem? (i := 3) rfl)), (hI.slOf (List.mem_of_getElem? (i := 4) rfl)), by have h9 := rowP.cap (hI.row (i := 3) rfl); simpa using h9, by have h9 := rowP.cap (hI.row (i := 4) rfl); simpa using h9⟩) ⟨by rw [htp]; omega, by rw [htl]; omega, fun x hx => (List.mem_append.1 hx).elim (hp8 x) (hl8 x), fun x hx => (List.mem_append.1 hx).elim (hl8 x) (hl8 x)⟩ (by omega)
          rw [show (accV b (twice l) && decide (accE b (twice l) = 0)) = accV b l by rw [accV_word hv hcl hcm (twice_at hl0), accE_of hv hcm] <;> simp] at h9; exact h9)
        refine DO.loudG rfl rfl rfl rfl (l_call ent30 (CallT.of_pure hk73) rfl ?_)
        clear hk73
        rintro vr O' ⟨N, rfl, rfl, rfl⟩
        refine ⟨Sub.pick [2, 2, 2, 2, 2, 2, 2] rfl, ?_⟩
        refine DO.guarded rfl rfl rfl (QT.toB (q_bneq Try.underlying4 rfl rfl) (bne_self_eq_false _)) ?_
        refine DO.guarded rfl rfl rfl (q_pick1 rfl rfl) ?_
        refine DO.quiet rfl (q_pick0 rfl rfl) ?_
        refine DO.done ?_
        refine T.cond0 rfl ?_
        refine T.skip ?_
        exact ⟨(Sub.pick [2, 2, 2, 2, 2, 2, 2] rfl), ⟨rfl, rfl, rfl, rfl, rfl, rfl, rfl, trivial⟩⟩
      refine DO.guarded rfl rfl rfl (QT.toB (q_move rfl) (decide_eq_false hs70)) ?_
      refine DO.passed rfl rfl rfl ?_
      refine DO.passed rfl rfl rfl ?_
      refine DO.passed rfl rfl rfl ?_
      refine DO.passedL (by decide) rfl rfl rfl rfl rfl ?_
      refine DO.passed rfl rfl rfl ?_
      refine DO.guarded rfl rfl rfl (q_pick0 rfl rfl) ?_
      refine DO.quiet rfl (q_pick0 rfl rfl) ?_
      refine DO.done ?_
      refine T.cond0 rfl ?_
      refine T.skip ?_
      exact ⟨(Sub.pick [2, 2, 2, 2, 2, 2, 2] rfl), ⟨rfl, rfl, rfl, rfl, rfl, rfl, rfl, trivial⟩⟩
    refine DO.guarded rfl rfl rfl (QT.toB (q_move rfl) (decide_eq_false hs64)) ?_
    refine DO.passed rfl rfl rfl ?_
    refine DO.passed rfl rfl rfl ?_
    refine DO.passed rfl rfl rfl ?_
    refine DO.passed rfl rfl rfl ?_
    refine DO.guarded rfl rfl rfl (q_pick0 rfl rfl) ?_
    refine DO.guarded rfl rfl rfl (q_move rfl) ?_
    refine DO.passed rfl rfl rfl ?_
    refine DO.passed rfl rfl rfl ?_
    refine DO.passed rfl rfl rfl ?_
    refine DO.passedL (by decide) rfl rfl rfl rfl rfl ?_
    refine DO.passed rfl rfl rfl ?_
    refine DO.guarded rfl rfl rfl (q_pick0 rfl rfl) ?_
    refine DO.quiet rfl (q_pick0 rfl rfl) ?_
    refine DO.done ?_
    refine T.cond0 rfl ?_
    refine T.skip ?_
    exact ⟨(Sub.pick [2, 2, 2, 2, 2, 2, 2] rfl), ⟨rfl, rfl, rfl, rfl, rfl, rfl, rfl, trivial⟩⟩
  rintro ρ O ⟨hS, hH⟩
  obtain ⟨ρ0, rfl⟩ := hH.elim
  clear hH
  refine T.sub hS ?_
  refine T.seq (T.region ?_)
  refine TO.quiet (q_load_boxAgg 6 Try.underlying26 rfl inf26 rfl rfl rfl) ?_
  have hk79 := fun (w1 : World) (hI : Inv w [oI zM 29 [(.slice ma ((twice l).pre.length) mac), (.slice na ((twice l).loop.length) nac)], rowI ma mac 5 1 (byts (twice l).pre), rowI na nac 5 1 (byts (twice l).loop), rowI (some ⟨bx4, 0, none⟩) 1 29 2 (laCells l pb pc lb lc), rowI (some ⟨bx3, 0, none⟩) 1 26 5 (buCells b sb sc eb ec tb tc), oI bx2 29 (laCells l pb pc lb lc), oI bx1 26 (buCells b sb sc eb ec tb tc)] w1) => copyBuchi w1 b sb eb tb sc ec tc vs (hI.bu h) hB
  refine TO.loud rfl (l_call ent15 (CallT.of_pure hk79) rfl ?_)
  clear hk79
  rintro vr O' ⟨N, rfl, sb2, eb2, tb2, sc2, ec2, tc2, qs2, rfl, rfl, hqs2⟩
  refine TO.sub (O' := ([rowI sb2 sc2 3 1 (ints b.start), rowI eb2 ec2 54 4 (edsC b.edges), rowI tb2 tc2 22 1 (vals qs2), oI zM 29 [(.slice ma ((twice l).pre.length) mac), (.slice na ((twice l).loop.length) nac)], rowI ma mac 5 1 (byts (twice l).pre), rowI na nac 5 1 (byts (twice l).loop), rowI (some ⟨bx4, 0, none⟩) 1 29 2 (laCells l pb pc lb lc), rowI (some ⟨bx3, 0, none⟩) 1 26 5 (buCells b sb sc eb ec tb tc), oI bx2 29 (laCells l pb pc lb lc), oI bx1 26 (buCells b sb sc eb ec tb tc)] ++ (itms 3 qs2))) (Sub.cnt [] (by intro a; simp only [itms, oI, List.set_cons_zero, List.set_cons_succ, putL, List.cons_append, List.nil_append, List.append_nil, List.append_assoc, List.map_append, List.map_cons, List.map_nil, cnt_append, cnt_cons, cnt_nil, buCells, laCells] <;> omega)) ?_
  refine TO.loud rfl (l_alloc inf26 rfl (fun bx5 => ?_))
  refine TO.loud rfl (l_store_box (v := (.agg (buCells b sb2 sc2 eb2 ec2 tb2 tc2).toArray)) (vs := (buCells b sb2 sc2 eb2 ec2 tb2 tc2)) 0 inf26 rfl rfl rfl rfl rfl rfl (by simp [putL]) ?_)
  refine TO.nil (T.seq (T.region ?_))
  refine TO.quiet (q_fieldAddr Try.underlying26 rfl inf22 rfl rfl) ?_
  refine TO.loud rfl (l_store_box (v := (.slice none 0 0)) (vs := [(.slice none 0 0)]) 0 inf22 rfl rfl rfl rfl rfl rfl (by simp [putL]) ?_)
  refine TO.nil (T.seq (T.seq (T.region ?_)))
  refine TO.quiet (q_assign rfl) ?_
  refine TO.nil (T.block ?_)
  refine T.nilRow 3 1 ?_
  refine T.loopS (fun (k : Nat) ρ O => ∃ (pb1 : Option Addr) (pc1 : Nat), O = ([rowI pb1 pc1 3 1 (ints (pickI (succP b (l.at 0)) k)), oI bx5 26 [(.int .i64 b.vars), (.int .i64 b.states), (.slice pb1 ((pickI (succP b (l.at 0)) k).length) pc1), (.slice eb2 b.edges.length ec2), (.slice tb2 b.sets.length tc2)], rowI sb2 sc2 3 1 (ints b.start), rowI eb2 ec2 54 4 (edsC b.edges), rowI tb2 tc2 22 1 (vals qs2), oI zM 29 [(.slice ma ((twice l).pre.length) mac), (.slice na ((twice l).loop.length) nac)], rowI ma mac 5 1 (byts (twice l).pre), rowI na nac 5 1 (byts (twice l).loop), rowI (some ⟨bx4, 0, none⟩) 1 29 2 (laCells l pb pc lb lc), rowI (some ⟨bx3, 0, none⟩) 1 26 5 (buCells b sb sc eb ec tb tc), oI bx2 29 (laCells l pb pc lb lc), oI bx1 26 (buCells b sb sc eb ec tb tc)] ++ (itms 3 qs2)) ∧ k ≤ b.states.toNat ∧ Heads [(0, (.agg (buCells b sb sc eb ec tb tc).toArray)), (1, (.agg (laCells l pb pc lb lc).toArray)), (2, (.pointer (some ⟨bx1, 0, none⟩))), (3, (.pointer (some ⟨bx2, 0, none⟩))), (5, .bool (accV b l)), (6, .int .i64 ((accE b l : Nat) : Int)), (7, (.pointer (some ⟨zM, 0, none⟩))), (8, (.pointer (some ⟨bx5, 0, none⟩))), (9, .int .i64 (k : Int))] ρ) (fun k => b.states.toNat - k) 0 ?_ ?_
  · exact ⟨none, 0, rfl, Nat.zero_le _, ⟨rfl, rfl, rfl, rfl, rfl, rfl, rfl, rfl, rfl, trivial⟩⟩
  rintro k ρ O ⟨pb1, pc1, rfl, hk, hH⟩
  obtain ⟨ρ0, rfl⟩ := hH.elim
  clear hH
  have hkl := pickI_len (succP b (l.at 0)) k
  refine T.seq (T.seq (T.region ?_))
  refine TO.quiet (q_move rfl) (TO.quiet (q_fieldAddr Try.underlying26 rfl inf3 rfl rfl) (TO.quiet (QT.cast (q_load_box 11 Try.underlying3 rfl rfl rfl rfl) (v' := .int .i64 ((b.states.toNat : Nat) : Int)) (by show Value.int _ _ = _; rw [Int.toNat_of_nonneg hv0])) (TO.quiet (q_lss rfl rfl) ?_)))
  refine TO.nil ?_
  refine T.condP rfl (fun hc => ?_) (fun hc => ?_)
  · have hlt84 : k < b.states.toNat := by omega
    refine T.skip (T.seq (T.block (T.seq (T.region ?_))))
    refine TO.quiet (q_assign rfl) ?_
    refine TO.nil (T.seq (T.seq (T.region ?_)))
    refine TO.quiet (q_assign rfl) ?_
    refine TO.nil (T.block ?_)
    refine T.loopS (fun (i : Nat) ρ O => O = ([rowI pb1 pc1 3 1 (ints (pickI (succP b (l.at 0)) k)), oI bx5 26 [(.int .i64 b.vars), (.int .i64 b.states), (.slice pb1 ((pickI (succP b (l.at 0)) k).length) pc1), (.slice eb2 b.edges.length ec2), (.slice tb2 b.sets.length tc2)], rowI sb2 sc2 3 1 (ints b.start), rowI eb2 ec2 54 4 (edsC b.edges), rowI tb2 tc2 22 1 (vals qs2), oI zM 29 [(.slice ma ((twice l).pre.length) mac), (.slice na ((twice l).loop.length) nac)], rowI ma mac 5 1 (byts (twice l).pre), rowI na nac 5 1 (byts (twice l).loop), rowI (some ⟨bx4, 0, none⟩) 1 29 2 (laCells l pb pc lb lc), rowI (some ⟨bx3, 0, none⟩) 1 26 5 (buCells b sb sc eb ec tb tc), oI bx2 29 (laCells l pb pc lb lc), oI bx1 26 (buCells b sb sc eb ec tb tc)] ++ (itms 3 qs2)) ∧ i ≤ b.edges.length ∧ Heads [(0, (.agg (buCells b sb sc eb ec tb tc).toArray)), (1, (.agg (laCells l pb pc lb lc).toArray)), (2, (.pointer (some ⟨bx1, 0, none⟩))), (3, (.pointer (some ⟨bx2, 0, none⟩))), (5, .bool (accV b l)), (6, .int .i64 ((accE b l : Nat) : Int)), (7, (.pointer (some ⟨zM, 0, none⟩))), (8, (.pointer (some ⟨bx5, 0, none⟩))), (9, .int .i64 (k : Int)), (10, .bool (sucT b (l.at 0) k i)), (11, .int .i64 (i : Int))] ρ) (fun i => b.edges.length - i) 0 ?_ ?_
    · exact ⟨rfl, Nat.zero_le _, ⟨rfl, rfl, rfl, rfl, rfl, rfl, rfl, rfl, rfl, rfl, rfl, trivial⟩⟩
    rintro i ρ O ⟨rfl, hi, hH⟩
    obtain ⟨ρ0, rfl⟩ := hH.elim
    clear hH
    refine T.seq (T.seq (T.region ?_))
    refine TO.quiet (q_move rfl) (TO.quiet (q_fieldAddr Try.underlying26 rfl inf23 rfl rfl) (TO.quiet (q_load_box 11 Try.underlying23 rfl rfl rfl rfl) (TO.quiet (q_len Try.underlying23 rfl) ?_)))
    refine TO.quiet (q_lss rfl rfl) ?_
    refine TO.nil ?_
    refine T.condP rfl (fun hc => ?_) (fun hc => ?_)
    · have hlt91 : i < b.edges.length := by omega
      refine T.skip (T.seq (T.block ?_))
      refine T.draws _ [(0, 0), (1, 0), (2, 0), (3, 0), (4, 0), (5, 0), (6, 0), (7, 0), (8, 0), (9, 0), (10, 0), (11, 0), (12, 0), (13, 0), (14, 0), (15, 0), (16, 0), (17, 0), (18, 0), (19, 1), (20, 0), (21, 0), (22, 0), (23, 0), (24, 0), (25, 0), (26, 0), (27, 0), (28, 1), (29, 2), (30, 2), (31, 2), (32, 2)] mixed (by kernel_rfl) (Sub.of (List.Sublist.refl _)) (fun _ _ _ h => h) ?_
      refine DO.quiet rfl (q_move rfl) ?_
      by_cases hs95 : (sucT b (l.at 0) k i) = true
      · refine DO.quiet rfl (QT.toB (q_move rfl) (hs95)) ?_
        refine DO.passed rfl rfl rfl ?_
        refine DO.passed rfl rfl rfl ?_
        refine DO.passed rfl rfl rfl ?_
        refine DO.passed rfl rfl rfl ?_
        refine DO.passed rfl rfl rfl ?_
        refine DO.passed rfl rfl rfl ?_
        refine DO.passed rfl rfl rfl ?_
        refine DO.passed rfl rfl rfl ?_
        refine DO.passed rfl rfl rfl ?_
        refine DO.passed rfl rfl rfl ?_
        refine DO.passed rfl rfl rfl ?_
        refine DO.passed rfl rfl rfl ?_
        refine DO.passed rfl rfl rfl ?_
        refine DO.passed rfl rfl rfl ?_
        refine DO.passed rfl rfl rfl ?_
        refine DO.passed rfl rfl rfl ?_
        refine DO.passed rfl rfl rfl ?_
        refine DO.passedL (by decide) rfl rfl rfl rfl rfl ?_
        refine DO.passed rfl rfl rfl ?_
        refine DO.passed rfl rfl rfl ?_
        refine DO.passed rfl rfl rfl ?_
        refine DO.passed rfl rfl rfl ?_
        refine DO.passed rfl rfl rfl ?_
        refine DO.passed rfl rfl rfl ?_
        refine DO.passed rfl rfl rfl ?_
        refine DO.passed rfl rfl rfl ?_
        refine DO.passedL (by decide) rfl rfl rfl rfl rfl ?_
        refine DO.passedL (by decide) rfl rfl rfl rfl rfl ?_
        refine DO.passedL (by decide) rfl rfl rfl rfl rfl ?_
        refine DO.last rfl rfl (LT.of_quiet rfl rfl (q_pick1 rfl rfl) ?_)
        refine DO.last rfl rfl (LT.of_quiet rfl rfl (q_assign rfl) ?_)
        refine DO.done ?_
        refine T.region ?_
        refine TO.quiet (q_move rfl) (TO.quiet (q_addN (a := i) (b := 1) rfl rfl (by omega)) (TO.quiet (q_assign rfl) ?_))
        refine TO.nil ?_
        refine ⟨i + 1, by omega, ([rowI pb1 pc1 3 1 (ints (pickI (succP b (l.at 0)) k)), oI bx5 26 [(.int .i64 b.vars), (.int .i64 b.states), (.slice pb1 ((pickI (succP b (l.at 0)) k).length) pc1), (.slice eb2 b.edges.length ec2), (.slice tb2 b.sets.length tc2)], rowI sb2 sc2 3 1 (ints b.start), rowI eb2 ec2 54 4 (edsC b.edges), rowI tb2 tc2 22 1 (vals qs2), oI zM 29 [(.slice ma ((twice l).pre.length) mac), (.slice na ((twice l).loop.length) nac)], rowI ma mac 5 1 (byts (twice l).pre), rowI na nac 5 1 (byts (twice l).loop), rowI (some ⟨bx4, 0, none⟩) 1 29 2 (laCells l pb pc lb lc), rowI (some ⟨bx3, 0, none⟩) 1 26 5 (buCells b sb sc eb ec tb tc), oI bx2 29 (laCells l pb pc lb lc), oI bx1 26 (buCells b sb sc eb ec tb tc)] ++ (itms 3 qs2)), (Sub.pickR [0, 0, 0, 0, 0, 0, 0, 0, 0, 0, 0, 0] [rowI pb1 pc1 3 1 (ints (pickI (succP b (l.at 0)) k)), oI bx5 26 [(.int .i64 b.vars), (.int .i64 b.states), (.slice pb1 ((pickI (succP b (l.at 0)) k).length) pc1), (.slice eb2 b.edges.length ec2), (.slice tb2 b.sets.length tc2)], rowI sb2 sc2 3 1 (ints b.start), rowI eb2 ec2 54 4 (edsC b.edges), rowI tb2 tc2 22 1 (vals qs2), oI zM 29 [(.slice ma ((twice l).pre.length) mac), (.slice na ((twice l).loop.length) nac)], rowI ma mac 5 1 (byts (twice l).pre), rowI na nac 5 1 (byts (twice l).loop), rowI (some ⟨bx4, 0, none⟩) 1 29 2 (laCells l pb pc lb lc), rowI (some ⟨bx3, 0, none⟩) 1 26 5 (buCells b sb sc eb ec tb tc), oI bx2 29 (laCells l pb pc lb lc), oI bx1 26 (buCells b sb sc eb ec tb tc)] (itms 3 qs2) rfl rfl), rfl, by omega, ⟨rfl, rfl, rfl, rfl, rfl, rfl, rfl, rfl, rfl, (congrArg Value.bool (by rw [sucT_succ hlt91]; simp_all)), rfl, trivial⟩⟩
      refine DO.quiet rfl (QT.toB (q_move rfl) (Bool.eq_false_iff.2 hs95)) ?_
      refine DO.guarded rfl rfl rfl (q_fieldAddr Try.underlying26 rfl inf23 rfl rfl) ?_
      refine DO.guarded rfl rfl rfl (q_load_box 11 Try.underlying23 rfl rfl rfl rfl) ?_
      refine DO.guarded rfl rfl rfl (q_move rfl) ?_
      refine DO.guarded rfl rfl rfl (q_ixK (i := i) Try.underlying23 inf54 rfl rfl (Sl.o h.ed) (by first | assumption | omega | (simp; omega) | simp_all) (by first | (rw [eds_len]; omega) | (simp [eds_len]; omega) | (simp_all [eds_len]; omega))) ?_
      refine DO.guarded rfl rfl rfl (q_fieldEl Try.underlying54 rfl inf3 rfl rfl (Sl.o h.ed) (by first | (rw [eds_len]; omega) | (simp [eds_len]; omega) | (simp_all [eds_len]; omega))) ?_
      refine DO.guarded rfl rfl rfl (q_ld Try.underlying3 rfl rfl (Sl.o h.ed) (eds_get' (by first | assumption | omega | (simp; omega) | simp_all) 1 (by decide))) ?_
      refine DO.guarded rfl rfl rfl (q_move rfl) ?_
      refine DO.guarded rfl rfl rfl (q_eql rfl rfl) ?_
      by_cases hs104 : b.edges[i].to = (k : Int)
      · refine DO.guarded rfl rfl rfl (QT.toB (q_move rfl) (decide_eq_true hs104)) ?_
        refine DO.guarded rfl rfl rfl (q_fieldAddr Try.underlying26 rfl inf22 rfl rfl) ?_
        refine DO.guarded rfl rfl rfl (q_load_box 11 Try.underlying22 rfl rfl rfl rfl) ?_
        refine DO.guarded rfl rfl rfl (q_fieldAddr Try.underlying26 rfl inf23 rfl rfl) ?_
        refine DO.guarded rfl rfl rfl (q_load_box 11 Try.underlying23 rfl rfl rfl rfl) ?_
        refine DO.guarded rfl rfl rfl (q_move rfl) ?_
        refine DO.guarded rfl rfl rfl (q_ixK (i := i) Try.underlying23 inf54 rfl rfl (Sl.o h.ed) (by first | assumption | omega | (simp; omega) | simp_all) (by first | (rw [eds_len]; omega) | (simp [eds_len]; omega) | (simp_all [eds_len]; omega))) ?_
        refine DO.guarded rfl rfl rfl (q_fieldEl Try.underlying54 rfl inf3 rfl rfl (Sl.o h.ed) (by first | (rw [eds_len]; omega) | (simp [eds_len]; omega) | (simp_all [eds_len]; omega))) ?_
        refine DO.guarded rfl rfl rfl (q_ld Try.underlying3 rfl rfl (Sl.o h.ed) (eds_get' (by first | assumption | omega | (simp; omega) | simp_all) 0 (by decide))) ?_
        have hk113 := fun (w1 : World) (hI : Inv w ([rowI pb1 pc1 3 1 (ints (pickI (succP b (l.at 0)) k)), oI bx5 26 [(.int .i64 b.vars), (.int .i64 b.states), (.slice pb1 ((pickI (succP b (l.at 0)) k).length) pc1), (.slice eb2 b.edges.length ec2), (.slice tb2 b.sets.length tc2)], rowI sb2 sc2 3 1 (ints b.start), rowI eb2 ec2 54 4 (edsC b.edges), rowI tb2 tc2 22 1 (vals qs2), oI zM 29 [(.slice ma ((twice l).pre.length) mac), (.slice na ((twice l).loop.length) nac)], rowI ma mac 5 1 (byts (twice l).pre), rowI na nac 5 1 (byts (twice l).loop), rowI (some ⟨bx4, 0, none⟩) 1 29 2 (laCells l pb pc lb lc), rowI (some ⟨bx3, 0, none⟩) 1 26 5 (buCells b sb sc eb ec tb tc), oI bx2 29 (laCells l pb pc lb lc), oI bx1 26 (buCells b sb sc eb ec tb tc)] ++ (itms 3 qs2)) w1) => hasInt w1 sb sc b.start b.edges[i].fr (hI.bu h).st (by have := hB.st; omega)
        refine DO.loudG rfl rfl rfl rfl (l_call ent31 (CallT.of_pure hk113) rfl ?_)
        clear hk113
        rintro vr O' ⟨N, rfl, rfl, rfl⟩
        refine ⟨Sub.pickR [0, 0, 0, 0, 0, 0, 0, 0, 0, 0, 0, 0] [rowI pb1 pc1 3 1 (ints (pickI (succP b (l.at 0)) k)), oI bx5 26 [(.int .i64 b.vars), (.int .i64 b.states), (.slice pb1 ((pickI (succP b (l.at 0)) k).length) pc1), (.slice eb2 b.edges.length ec2), (.slice tb2 b.sets.length tc2)], rowI sb2 sc2 3 1 (ints b.start), rowI eb2 ec2 54 4 (edsC b.edges), rowI tb2 tc2 22 1 (vals qs2), oI zM 29 [(.slice ma ((twice l).pre.length) mac), (.slice na ((twice l).loop.length) nac)], rowI ma mac 5 1 (byts (twice l).pre), rowI na nac 5 1 (byts (twice l).loop), rowI (some ⟨bx4, 0, none⟩) 1 29 2 (laCells l pb pc lb lc), rowI (some ⟨bx3, 0, none⟩) 1 26 5 (buCells b sb sc eb ec tb tc), oI bx2 29 (laCells l pb pc lb lc), oI bx1 26 (buCells b sb sc eb ec tb tc)] (itms 3 qs2) rfl rfl, ?_⟩
        refine DO.guarded rfl rfl rfl (q_pick1 rfl rfl) ?_
        by_cases hs115 : b.edges[i].fr ∈ b.start
        · refine DO.guarded rfl rfl rfl (QT.toB (q_move rfl) (decide_eq_true hs115)) ?_
          refine DO.guarded rfl rfl rfl (q_fieldAddr Try.underlying26 rfl inf23 rfl rfl) ?_
          refine DO.guarded rfl rfl rfl (q_load_box 11 Try.underlying23 rfl rfl rfl rfl) ?_
          refine DO.guarded rfl rfl rfl (q_move rfl) ?_
          refine DO.guarded rfl rfl rfl (q_ixK (i := i) Try.underlying23 inf54 rfl rfl (Sl.o h.ed) (by first | assumption | omega | (simp; omega) | simp_all) (by first | (rw [eds_len]; omega) | (simp [eds_len]; omega) | (simp_all [eds_len]; omega))) ?_
          refine DO.guarded rfl rfl rfl (q_ldK (vs := [.int .i64 b.edges[i].fr, .int .i64 b.edges[i].to, .int .u8 ((b.edges[i].pos : Nat) : Int), .int .u8 ((b.edges[i].neg : Nat) : Int)]) Try.underlying54 rfl inf54 rfl rfl (Nat.succ_pos _) (Sl.o h.ed) (eds_get (by first | assumption | omega | (simp; omega) | simp_all))) ?_
          refine DO.guarded rfl rfl rfl (q_load_boxAgg 10 Try.underlying29 rfl inf29 rfl rfl rfl) ?_
          have hk122 := fun (w1 : World) (hI : Inv w ([rowI pb1 pc1 3 1 (ints (pickI (succP b (l.at 0)) k)), oI bx5 26 [(.int .i64 b.vars), (.int .i64 b.states), (.slice pb1 ((pickI (succP b (l.at 0)) k).length) pc1), (.slice eb2 b.edges.length ec2), (.slice tb2 b.sets.length tc2)], rowI sb2 sc2 3 1 (ints b.start), rowI eb2 ec2 54 4 (edsC b.edges), rowI tb2 tc2 22 1 (vals qs2), oI zM 29 [(.slice ma ((twice l).pre.length) mac), (.slice na ((twice l).loop.length) nac)], rowI ma mac 5 1 (byts (twice l).pre), rowI na nac 5 1 (byts (twice l).loop), rowI (some ⟨bx4, 0, none⟩) 1 29 2 (laCells l pb pc lb lc), rowI (some ⟨bx3, 0, none⟩) 1 26 5 (buCells b sb sc eb ec tb tc), oI bx2 29 (laCells l pb pc lb lc), oI bx1 26 (buCells b sb sc eb ec tb tc)] ++ (itms 3 qs2)) w1) => atF w1 l pb lb pc lc (hI.la h2) hL hl0 0 (by decide)
          refine DO.loudG rfl rfl rfl rfl (l_call ent34 (CallT.of_pure hk122) rfl ?_)
          clear hk122
          rintro vr O' ⟨N, rfl, rfl, rfl⟩
          refine ⟨Sub.pickR [0, 0, 0, 0, 0, 0, 0, 0, 0, 0, 0, 0] [rowI pb1 pc1 3 1 (ints (pickI (succP b (l.at 0)) k)), oI bx5 26 [(.int .i64 b.vars), (.int .i64 b.states), (.slice pb1 ((pickI (succP b (l.at 0)) k).length) pc1), (.slice eb2 b.edges.length ec2), (.slice tb2 b.sets.length tc2)], rowI sb2 sc2 3 1 (ints b.start), rowI eb2 ec2 54 4 (edsC b.edges), rowI tb2 tc2 22 1 (vals qs2), oI zM 29 [(.slice ma ((twice l).pre.length) mac), (.slice na ((twice l).loop.length) nac)], rowI ma mac 5 1 (byts (twice l).pre), rowI na nac 5 1 (byts (twice l).loop), rowI (some ⟨bx4, 0, none⟩) 1 29 2 (laCells l pb pc lb lc), rowI (some ⟨bx3, 0, none⟩) 1 26 5 (buCells b sb sc eb ec tb tc), oI bx2 29 (laCells l pb pc lb lc), oI bx1 26 (buCells b sb sc eb ec tb tc)] (itms 3 qs2) rfl rfl, ?_⟩
          have hk123 := fun (w1 : World) (hI : Inv w ([rowI pb1 pc1 3 1 (ints (pickI (succP b (l.at 0)) k)), oI bx5 26 [(.int .i64 b.vars), (.int .i64 b.states), (.slice pb1 ((pickI (succP b (l.at 0)) k).length) pc1), (.slice eb2 b.edges.length ec2), (.slice tb2 b.sets.length tc2)], rowI sb2 sc2 3 1 (ints b.start), rowI eb2 ec2 54 4 (edsC b.edges), rowI tb2 tc2 22 1 (vals qs2), oI zM 29 [(.slice ma ((twice l).pre.length) mac), (.slice na ((twice l).loop.length) nac)], rowI ma mac 5 1 (byts (twice l).pre), rowI na nac 5 1 (byts (twice l).loop), rowI (some ⟨bx4, 0, none⟩) 1 29 2 (laCells l pb pc lb lc), rowI (some ⟨bx3, 0, none⟩) 1 26 5 (buCells b sb sc eb ec tb tc), oI bx2 29 (laCells l pb pc lb lc), oI bx1 26 (buCells b sb sc eb ec tb tc)] ++ (itms 3 qs2)) w1) => matchesE w1 b.edges[i] (hB.pn _ (List.getElem_mem hlt91)).1 (hB.pn _ (List.getElem_mem hlt91)).2 (l.at 0) (La.at_lt hl0 hp8 hl8 0)
          refine DO.lastG rfl rfl rfl rfl (l_call ent33 (CallT.of_pure hk123) rfl ?_)
          clear hk123
          rintro vr O' ⟨N, rfl, rfl, rfl⟩
          refine DO.lastG rfl rfl rfl rfl (LT.of_quiet rfl rfl (q_pick1 rfl rfl) ?_)
          refine DO.last rfl rfl (LT.of_quiet rfl rfl (q_pick0 rfl rfl) ?_)
          refine DO.last rfl rfl (LT.of_quiet rfl rfl (q_assign rfl) ?_)
          refine DO.done ?_
          refine T.region ?_
          refine TO.quiet (q_move rfl) (TO.quiet (q_addN (a := i) (b := 1) rfl rfl (by omega)) (TO.quiet (q_assign rfl) ?_))
          refine TO.nil ?_
          refine ⟨i + 1, by omega, ([rowI pb1 pc1 3 1 (ints (pickI (succP b (l.at 0)) k)), oI bx5 26 [(.int .i64 b.vars), (.int .i64 b.states), (.slice pb1 ((pickI (succP b (l.at 0)) k).length) pc1), (.slice eb2 b.edges.length ec2), (.slice tb2 b.sets.length tc2)], rowI sb2 sc2 3 1 (ints b.start), rowI eb2 ec2 54 4 (edsC b.edges), rowI tb2 tc2 22 1 (vals qs2), oI zM 29 [(.slice ma ((twice l).pre.length) mac), (.slice na ((twice l).loop.length) nac)], rowI ma mac 5 1 (byts (twice l).pre), rowI na nac 5 1 (byts (twice l).loop), rowI (some ⟨bx4, 0, none⟩) 1 29 2 (laCells l pb pc lb lc), rowI (some ⟨bx3, 0, none⟩) 1 26 5 (buCells b sb sc eb ec tb tc), oI bx2 29 (laCells l pb pc lb lc), oI bx1 26 (buCells b sb sc eb ec tb tc)] ++ (itms 3 qs2)), (Sub.pickR [0, 0, 0, 0, 0, 0, 0, 0, 0, 0, 0, 0] [rowI pb1 pc1 3 1 (ints (pickI (succP b (l.at 0)) k)), oI bx5 26 [(.int .i64 b.vars), (.int .i64 b.states), (.slice pb1 ((pickI (succP b (l.at 0)) k).length) pc1), (.slice eb2 b.edges.length ec2), (.slice tb2 b.sets.length tc2)], rowI sb2 sc2 3 1 (ints b.start), rowI eb2 ec2 54 4 (edsC b.edges), rowI tb2 tc2 22 1 (vals qs2), oI zM 29 [(.slice ma ((twice l).pre.length) mac), (.slice na ((twice l).loop.length) nac)], rowI ma mac 5 1 (byts (twice l).pre), rowI na nac 5 1 (byts (twice l).loop), rowI (some ⟨bx4, 0, none⟩) 1 29 2 (laCells l pb pc lb lc), rowI (some ⟨bx3, 0, none⟩) 1 26 5 (buCells b sb sc eb ec tb tc), oI bx2 29 (laCells l pb pc lb lc), oI bx1 26 (buCells b sb sc eb ec tb tc)] (itms 3 qs2) rfl rfl), rfl, by omega, ⟨rfl, rfl, rfl, rfl, rfl, rfl, rfl, rfl, rfl, (congrArg Value.bool (by rw [sucT_succ hlt91]; simp_all)), rfl, trivial⟩⟩
        refine DO.guarded rfl rfl rfl (QT.toB (q_move rfl) (decide_eq_false hs115)) ?_
        refine DO.passed rfl rfl rfl ?_
        refine DO.passed rfl rfl rfl ?_
        refine DO.passed rfl rfl rfl ?_
        refine DO.passed rfl rfl rfl ?_
        refine DO.passed rfl rfl rfl ?_
        refine DO.passed rfl rfl rfl ?_
        refine DO.passedL (by decide) rfl rfl rfl rfl rfl ?_
        refine DO.passedL (by decide) rfl rfl rfl rfl rfl ?_
        refine DO.lastG rfl rfl rfl rfl (LT.of_quiet rfl rfl (q_pick0 rfl rfl) ?_)
        refine DO.last rfl rfl (LT.of_quiet rfl rfl (q_pick0 rfl rfl) ?_)
        refine DO.last rfl rfl (LT.of_quiet rfl rfl (q_assign rfl) ?_)
        refine DO.done ?_
        refine T.region ?_
        refine TO.quiet (q_move rfl) (TO.quiet (q_addN (a := i) (b := 1) rfl rfl (by omega)) (TO.quiet (q_assign rfl) ?_))
        refine TO.nil ?_
        refine ⟨i + 1, by omega, ([rowI pb1 pc1 3 1 (ints (pickI (succP b (l.at 0)) k)), oI bx5 26 [(.int .i64 b.vars), (.int .i64 b.states), (.slice pb1 ((pickI (succP b (l.at 0)) k).length) pc1), (.slice eb2 b.edges.length ec2), (.slice tb2 b.sets.length tc2)], rowI sb2 sc2 3 1 (ints b.start), rowI eb2 ec2 54 4 (edsC b.edges), rowI tb2 tc2 22 1 (vals qs2), oI zM 29 [(.slice ma ((twice l).pre.length) mac), (.slice na ((twice l).loop.length) nac)], rowI ma mac 5 1 (byts (twice l).pre), rowI na nac 5 1 (byts (twice l).loop), rowI (some ⟨bx4, 0, none⟩) 1 29 2 (laCells l pb pc lb lc), rowI (some ⟨bx3, 0, none⟩) 1 26 5 (buCells b sb sc eb ec tb tc), oI bx2 29 (laCells l pb pc lb lc), oI bx1 26 (buCells b sb sc eb ec tb tc)] ++ (itms 3 qs2)), (Sub.pickR [0, 0, 0, 0, 0, 0, 0, 0, 0, 0, 0, 0] [rowI pb1 pc1 3 1 (ints (pickI (succP b (l.at 0)) k)), oI bx5 26 [(.int .i64 b.vars), (.int .i64 b.states), (.slice pb1 ((pickI (succP b (l.at 0)) k).length) pc1), (.slice eb2 b.edges.length ec2), (.slice tb2 b.sets.length tc2)], rowI sb2 sc2 3 1 (ints b.start), rowI eb2 ec2 54 4 (edsC b.edges), rowI tb2 tc2 22 1 (vals qs2), oI zM 29 [(.slice ma ((twice l).pre.length) mac), (.slice na ((twice l).loop.length) nac)], rowI ma mac 5 1 (byts (twice l).pre), rowI na nac 5 1 (byts (twice l).loop), rowI (some ⟨bx4, 0, none⟩) 1 29 2 (laCells l pb pc lb lc), rowI (some ⟨bx3, 0, none⟩) 1 26 5 (buCells b sb sc eb ec tb tc), oI bx2 29 (laCells l pb pc lb lc), oI bx1 26 (buCells b sb sc eb ec tb tc)] (itms 3 qs2) rfl rfl), rfl, by omega, ⟨rfl, rfl, rfl, rfl, rfl, rfl, rfl, rfl, rfl, (congrArg Value.bool (by rw [sucT_succ hlt91]; simp_all)), rfl, trivial⟩⟩
      refine DO.guarded rfl rfl rfl (QT.toB (q_move rfl) (decide_eq_false hs104)) ?_
      refine DO.passed rfl rfl rfl ?_
      refine DO.passed rfl rfl rfl ?_
      refine DO.passed rfl rfl rfl ?_
      refine DO.passed rfl rfl rfl ?_
      refine DO.passed rfl rfl rfl ?_
      refine DO.passed rfl rfl rfl ?_
      refine DO.passed rfl rfl rfl ?_
      refine DO.passed rfl rfl rfl ?_
      refine DO.passedL (by decide) rfl rfl rfl rfl rfl ?_
      refine DO.guarded rfl rfl rfl (q_pick0 rfl rfl) ?_
      refine DO.guarded rfl rfl rfl (q_move rfl) ?_
      refine DO.passed rfl rfl rfl ?_
      refine DO.passed rfl rfl rfl ?_
      refine DO.passed rfl rfl rfl ?_
      refine DO.passed rfl rfl rfl ?_
      refine DO.passed rfl rfl rfl ?_
      refine DO.passed rfl rfl rfl ?_
      refine DO.passedL (by decide) rfl rfl rfl rfl rfl ?_
      refine DO.passedL (by decide) rfl rfl rfl rfl rfl ?_
      refine DO.lastG rfl rfl rfl rfl (LT.of_quiet rfl rfl (q_pick0 rfl rfl) ?_)
      refine DO.last rfl rfl (LT.of_quiet rfl rfl (q_pick0 rfl rfl) ?_)
      refine DO.last rfl rfl (LT.of_quiet rfl rfl (q_assign rfl) ?_)
      refine DO.done ?_
      refine T.region ?_
      refine TO.quiet (q_move rfl) (TO.quiet (q_addN (a := i) (b := 1) rfl rfl (by omega)) (TO.quiet (q_assign rfl) ?_))
      refine TO.nil ?_
      refine ⟨i + 1, by omega, ([rowI pb1 pc1 3 1 (ints (pickI (succP b (l.at 0)) k)), oI bx5 26 [(.int .i64 b.vars), (.int .i64 b.states), (.slice pb1 ((pickI (succP b (l.at 0)) k).length) pc1), (.slice eb2 b.edges.length ec2), (.slice tb2 b.sets.length tc2)], rowI sb2 sc2 3 1 (ints b.start), rowI eb2 ec2 54 4 (edsC b.edges), rowI tb2 tc2 22 1 (vals qs2), oI zM 29 [(.slice ma ((twice l).pre.length) mac), (.slice na ((twice l).loop.length) nac)], rowI ma mac 5 1 (byts (twice l).pre), rowI na nac 5 1 (byts (twice l).loop), rowI (some ⟨bx4, 0, none⟩) 1 29 2 (laCells l pb pc lb lc), rowI (some ⟨bx3, 0, none⟩) 1 26 5 (buCells b sb sc eb ec tb tc), oI bx2 29 (laCells l pb pc lb lc), oI bx1 26 (buCells b sb sc eb ec tb tc)] ++ (itms 3 qs2)), (Sub.pickR [0, 0, 0, 0, 0, 0, 0, 0, 0, 0, 0, 0] [rowI pb1 pc1 3 1 (ints (pickI (succP b (l.at 0)) k)), oI bx5 26 [(.int .i64 b.vars), (.int .i64 b.states), (.slice pb1 ((pickI (succP b (l.at 0)) k).length) pc1), (.slice eb2 b.edges.length ec2), (.slice tb2 b.sets.length tc2)], rowI sb2 sc2 3 1 (ints b.start), rowI eb2 ec2 54 4 (edsC b.edges), rowI tb2 tc2 22 1 (vals qs2), oI zM 29 [(.slice ma ((twice l).pre.length) mac), (.slice na ((twice l).loop.length) nac)], rowI ma mac 5 1 (byts (twice l).pre), rowI na nac 5 1 (byts (twice l).loop), rowI (some ⟨bx4, 0, none⟩) 1 29 2 (laCells l pb pc lb lc), rowI (some ⟨bx3, 0, none⟩) 1 26 5 (buCells b sb sc eb ec tb tc), oI bx2 29 (laCells l pb pc lb lc), oI bx1 26 (buCells b sb sc eb ec tb tc)] (itms 3 qs2) rfl rfl), rfl, by omega, ⟨rfl, rfl, rfl, rfl, rfl, rfl, rfl, rfl, rfl, (congrArg Value.bool (by rw [sucT_succ hlt91]; simp_all)), rfl, trivial⟩⟩
    have hge91 : ¬ i < b.edges.length := by omega
    refine T.exit ?_
    refine T.seq (T.region ?_)
    refine TO.quiet (q_move rfl) ?_
    refine TO.nil ?_
    refine T.cond rfl (fun hc => ?_) (fun hc => ?_)
    · refine T.region ?_
      refine TO.quiet (q_fieldAddr Try.underlying26 rfl inf22 rfl rfl) (TO.quiet (q_load_box 1 Try.underlying22 rfl rfl rfl rfl) (TO.quiet (q_move rfl) ?_))
      refine TO.loud rfl (l_build1 (v := .int .i64 (k : Int)) Try.underlying22 inf3 rfl rfl rfl (fun bx6 => ?_))
      refine TO.loud rfl (l_append 1 Try.underlying22 Try.underlying22 inf3 rfl rfl rfl rfl (by simp) (by decide) (Src.row (j := 0) rfl (by simp)) (by simp [oneB]) (by omega) (by decide) (by decide) (fun bx7 c8 => ?_))
      refine TO.quiet (q_fieldAddr Try.underlying26 rfl inf22 rfl rfl) ?_
      refine TO.loud rfl (l_store_box (v := (.slice bx7 (((pickI (succP b (l.at 0)) k).length) + 1) c8)) (vs := [(.slice bx7 (((pickI (succP b (l.at 0)) k).length) + 1) c8)]) 2 inf22 rfl rfl rfl rfl rfl rfl (by simp [putL]) ?_)
      refine TO.nil (T.region ?_)
      refine TO.quiet (q_move rfl) (TO.quiet (q_addN (a := k) (b := 1) rfl rfl (by omega)) (TO.quiet (q_assign rfl) ?_))
      refine TO.nil ?_
      have hie : i = b.edges.length := by omega
      subst hie
      rw [sucT_all] at hc
      refine ⟨k + 1, by omega, ([rowI bx7 c8 3 1 ((ints (pickI (succP b (l.at 0)) k)) ++ [.int .i64 (k : Int)]), oI bx5 26 [(.int .i64 b.vars), (.int .i64 b.states), (.slice bx7 (((pickI (succP b (l.at 0)) k).length) + 1) c8), (.slice eb2 b.edges.length ec2), (.slice tb2 b.sets.length tc2)], rowI sb2 sc2 3 1 (ints b.start), rowI eb2 ec2 54 4 (edsC b.edges), rowI tb2 tc2 22 1 (vals qs2), oI zM 29 [(.slice ma ((twice l).pre.length) mac), (.slice na ((twice l).loop.length) nac)], rowI ma mac 5 1 (byts (twice l).pre), rowI na nac 5 1 (byts (twice l).loop), rowI (some ⟨bx4, 0, none⟩) 1 29 2 (laCells l pb pc lb lc), rowI (some ⟨bx3, 0, none⟩) 1 26 5 (buCells b sb sc eb ec tb tc), oI bx2 29 (laCells l pb pc lb lc), oI bx1 26 (buCells b sb sc eb ec tb tc)] ++ (itms 3 qs2)), (Sub.pickR [1, 1, 1, 1, 1, 1, 1, 1, 1, 1, 1, 1] [rowI (some ⟨bx6, 0, none⟩) 1 3 1 [.int .i64 (k : Int)], rowI bx7 c8 3 1 ((ints (pickI (succP b (l.at 0)) k)) ++ [.int .i64 (k : Int)]), oI bx5 26 [(.int .i64 b.vars), (.int .i64 b.states), (.slice bx7 (((pickI (succP b (l.at 0)) k).length) + 1) c8), (.slice eb2 b.edges.length ec2), (.slice tb2 b.sets.length tc2)], rowI sb2 sc2 3 1 (ints b.start), rowI eb2 ec2 54 4 (edsC b.edges), rowI tb2 tc2 22 1 (vals qs2), oI zM 29 [(.slice ma ((twice l).pre.length) mac), (.slice na ((twice l).loop.length) nac)], rowI ma mac 5 1 (byts (twice l).pre), rowI na nac 5 1 (byts (twice l).loop), rowI (some ⟨bx4, 0, none⟩) 1 29 2 (laCells l pb pc lb lc), rowI (some ⟨bx3, 0, none⟩) 1 26 5 (buCells b sb sc eb ec tb tc), oI bx2 29 (laCells l pb pc lb lc), oI bx1 26 (buCells b sb sc eb ec tb tc)] (itms 3 qs2) rfl rfl), bx7, c8, ?_, by omega, ⟨rfl, rfl, rfl, rfl, rfl, rfl, rfl, rfl, rfl, trivial⟩⟩
      rw [pickI_yes (P := (succP b (l.at 0))) (k := k) hc, show ints (pickI (succP b (l.at 0)) k ++ [((k : Nat) : Int)]) = ints (pickI (succP b (l.at 0)) k) ++ [.int .i64 ((k : Nat) : Int)] from List.map_append, show (pickI (succP b (l.at 0)) k ++ [((k : Nat) : Int)]).length = (pickI (succP b (l.at 0)) k).length + 1 by simp] <;> rfl
    refine T.skip (T.region ?_)
    refine TO.quiet (q_move rfl) (TO.quiet (q_addN (a := k) (b := 1) rfl rfl (by omega)) (TO.quiet (q_assign rfl) ?_))
    refine TO.nil ?_
    have hie : i = b.edges.length := by omega
    subst hie
    rw [sucT_all] at hc
    refine ⟨k + 1, by omega, ([rowI pb1 pc1 3 1 (ints (pickI (succP b (l.at 0)) k)), oI bx5 26 [(.int .i64 b.vars), (.int .i64 b.states), (.slice pb1 ((pickI (succP b (l.at 0)) k).length) pc1), (.slice eb2 b.edges.length ec2), (.slice tb2 b.sets.length tc2)], rowI sb2 sc2 3 1 (ints b.start), rowI eb2 ec2 54 4 (edsC b.edges), rowI tb2 tc2 22 1 (vals qs2), oI zM 29 [(.slice ma ((twice l).pre.length) mac), (.slice na ((twice l).loop.length) nac)], rowI ma mac 5 1 (byts (twice l).pre), rowI na nac 5 1 (byts (twice l).loop), rowI (some ⟨bx4, 0, none⟩) 1 29 2 (laCells l pb pc lb lc), rowI (some ⟨bx3, 0, none⟩) 1 26 5 (buCells b sb sc eb ec tb tc), oI bx2 29 (laCells l pb pc lb lc), oI bx1 26 (buCells b sb sc eb ec tb tc)] ++ (itms 3 qs2)), (Sub.pickR [0, 0, 0, 0, 0, 0, 0, 0, 0, 0, 0, 0] [rowI pb1 pc1 3 1 (ints (pickI (succP b (l.at 0)) k)), oI bx5 26 [(.int .i64 b.vars), (.int .i64 b.states), (.slice pb1 ((pickI (succP b (l.at 0)) k).length) pc1), (.slice eb2 b.edges.length ec2), (.slice tb2 b.sets.length tc2)], rowI sb2 sc2 3 1 (ints b.start), rowI eb2 ec2 54 4 (edsC b.edges), rowI tb2 tc2 22 1 (vals qs2), oI zM 29 [(.slice ma ((twice l).pre.length) mac), (.slice na ((twice l).loop.length) nac)], rowI ma mac 5 1 (byts (twice l).pre), rowI na nac 5 1 (byts (twice l).loop), rowI (some ⟨bx4, 0, none⟩) 1 29 2 (laCells l pb pc lb lc), rowI (some ⟨bx3, 0, none⟩) 1 26 5 (buCells b sb sc eb ec tb tc), oI bx2 29 (laCells l pb pc lb lc), oI bx1 26 (buCells b sb sc eb ec tb tc)] (itms 3 qs2) rfl rfl), pb1, pc1, ?_, by omega, ⟨rfl, rfl, rfl, rfl, rfl, rfl, rfl, rfl, rfl, trivial⟩⟩
    rw [pickI_no (P := (succP b (l.at 0))) (k := k) (by rw [hc]; decide)]
  have hge84 : ¬ k < b.states.toNat := by omega
  refine T.exit ?_
  refine T.seq ?_
  have hke : k = b.states.toNat := by omega
  refine T.draws _ [(0, 0), (1, 0), (4, 0), (2, 1), (3, 1), (5, 0), (6, 0)] mixed (by kernel_rfl) (Sub.of (List.Sublist.refl _)) (fun _ _ _ h => h) ?_
  refine DO.quiet rfl (q_load_boxAgg 1 Try.underlying26 rfl inf26 rfl rfl rfl) (DO.quiet rfl (q_load_boxAgg 10 Try.underlying29 rfl inf29 rfl rfl rfl) (DO.quiet rfl (q_move rfl) ?_))
  have hk135 := fun (w1 : World) (hI : Inv w ([rowI pb1 pc1 3 1 (ints (pickI (succP b (l.at 0)) k)), oI bx5 26 [(.int .i64 b.vars), (.int .i64 b.states), (.slice pb1 ((pickI (succP b (l.at 0)) k).length) pc1), (.slice eb2 b.edges.length ec2), (.slice tb2 b.sets.length tc2)], rowI sb2 sc2 3 1 (ints b.start), rowI eb2 ec2 54 4 (edsC b.edges), rowI tb2 tc2 22 1 (vals qs2), oI zM 29 [(.slice ma ((twice l).pre.length) mac), (.slice na ((twice l).loop.length) nac)], rowI ma mac 5 1 (byts (twice l).pre), rowI na nac 5 1 (byts (twice l).loop), rowI (some ⟨bx4, 0, none⟩) 1 29 2 (laCells l pb pc lb lc), rowI (some ⟨bx3, 0, none⟩) 1 26 5 (buCells b sb sc eb ec tb tc), oI bx2 29 (laCells l pb pc lb lc), oI bx1 26 (buCells b sb sc eb ec tb tc)] ++ (itms 3 qs2)) w1) => suffixF w1 l pb lb pc lc (hI.la h2) hL hl0 1 (by decide)
  refine DO.loud rfl rfl (l_call ent35 (CallT.of_pure hk135) rfl ?_)
  clear hk135
  rintro vr O' ⟨N, rfl, c3, ja, jb, jac, jbc, rfl, rfl, hcs⟩
  refine ⟨Sub.pickR [2, 2, 2, 2, 2, 2, 2, 2, 2, 2, 2, 2] [rowI ja jac 5 1 (byts c3.pre), rowI jb jbc 5 1 (byts c3.loop), rowI pb1 pc1 3 1 (ints (pickI (succP b (l.at 0)) k)), oI bx5 26 [(.int .i64 b.vars), (.int .i64 b.states), (.slice pb1 ((pickI (succP b (l.at 0)) k).length) pc1), (.slice eb2 b.edges.length ec2), (.slice tb2 b.sets.length tc2)], rowI sb2 sc2 3 1 (ints b.start), rowI eb2 ec2 54 4 (edsC b.edges), rowI tb2 tc2 22 1 (vals qs2), oI zM 29 [(.slice ma ((twice l).pre.length) mac), (.slice na ((twice l).loop.length) nac)], rowI ma mac 5 1 (byts (twice l).pre), rowI na nac 5 1 (byts (twice l).loop), rowI (some ⟨bx4, 0, none⟩) 1 29 2 (laCells l pb pc lb lc), rowI (some ⟨bx3, 0, none⟩) 1 26 5 (buCells b sb sc eb ec tb tc), oI bx2 29 (laCells l pb pc lb lc), oI bx1 26 (buCells b sb sc eb ec tb tc)] (itms 3 qs2) rfl rfl, ?_⟩
  have hk136 := fun (w1 : World) (hI : Inv w ([rowI ja jac 5 1 (byts c3.pre), rowI jb jbc 5 1 (byts c3.loop), rowI pb1 pc1 3 1 (ints (pickI (succP b (l.at 0)) k)), oI bx5 26 [(.int .i64 b.vars), (.int .i64 b.states), (.slice pb1 ((pickI (succP b (l.at 0)) k).length) pc1), (.slice eb2 b.edges.length ec2), (.slice tb2 b.sets.length tc2)], rowI sb2 sc2 3 1 (ints b.start), rowI eb2 ec2 54 4 (edsC b.edges), rowI tb2 tc2 22 1 (vals qs2), oI zM 29 [(.slice ma ((twice l).pre.length) mac), (.slice na ((twice l).loop.length) nac)], rowI ma mac 5 1 (byts (twice l).pre), rowI na nac 5 1 (byts (twice l).loop), rowI (some ⟨bx4, 0, none⟩) 1 29 2 (laCells l pb pc lb lc), rowI (some ⟨bx3, 0, none⟩) 1 26 5 (buCells b sb sc eb ec tb tc), oI bx2 29 (laCells l pb pc lb lc), oI bx1 26 (buCells b sb sc eb ec tb tc)] ++ (itms 3 qs2)) w1) => (by
    have hsl := sufL_len hl0 1
    have hcc : checkLV b.vars c3 = 0 := hcs.check hcl hsl.1 (Nat.le_of_eq hsl.2) (fun x hx => .inl ((sufL_mem 1 x).1 hx)) (fun x hx => .inr ((sufL_mem 1 x).2 hx))
    have h9 := acceptsL w1 ({ b with start := pickI (succP b (l.at 0)) k }) pb1 eb2 tb2 pc1 ec2 tc2 (vals qs2) (show BuAt w1 ({ b with start := pickI (succP b (l.at 0)) k }) pb1 eb2 tb2 (vals qs2) from ⟨(hI.slOf (List.mem_of_getElem? (i := 2) rfl)), (hI.slOf (List.mem_of_getElem? (i := 5) rfl)), (hI.slOf (List.mem_of_getElem? (i := 6) rfl)), hqs2 ▸ Inv.recs (E := 3) hI (fun q hq => List.mem_append_right _ (by simp only [itms, List.mem_append, List.mem_map]; first | exact .inl ⟨q, hq, rfl⟩ | exact .inr ⟨q, hq, rfl⟩ | exact .inr (.inl ⟨q, hq, rfl⟩) | exact .inr (.inr ⟨q, hq, rfl⟩) | exact ⟨q, hq, rfl⟩))⟩) (show BuB ({ b with start := pickI (succP b (l.at 0)) k }) from ⟨(by show (pickI _ _).length ≤ _; have := pickI_len (succP b (l.at 0)) k; omega), hB.ed, hB.se, hB.sr, hB.pn⟩) c3 ja jb jac jbc (show LaAt w1 c3 ja jb jac jbc from ⟨(hI.slOf (List.mem_of_getElem? (i := 0) rfl)), (hI.slOf (List.mem_of_getElem? (i := 1) rfl)), by have h9 := rowP.cap (hI.row (i := 0) rfl); simpa using h9, by have h9 := rowP.cap (hI.row (i := 1) rfl); simpa using h9⟩) ⟨Nat.le_trans hcs.pre (Nat.le_trans hsl.1 hL.pre), by have := hcs.loop; have := hL.loop; omega, fun x hx => hp8 x ((sufL_mem 1 x).1 (hcs.mp x hx)), fun x hx => hl8 x ((sufL_mem 1 x).2 (hcs.ml x hx))⟩ (by show b.edges.length ≤ 5000; omega)
    rw [show (accV ({ b with start := pickI (succP b (l.at 0)) k }) c3 && decide (accE ({ b with start := pickI (succP b (l.at 0)) k }) c3 = 0)) = accV b l by rw [hke, show ({ b with start := pickI (succP b (l.at 0)) b.states.toNat } : Bu) = succB b (l.at 0) from rfl, accV_succ hv hcl hcc (fun i => (hcs.at_ i).trans ((sufL_at hl0 1 i).trans (by rw [Nat.add_comm]))), accE_of (show ValidB (succB b (l.at 0)) from hv.starts _) hcc] <;> simp] at h9; exact h9)
  refine DO.loud rfl rfl (l_call ent30 (CallT.of_pure hk136) rfl ?_)
  clear hk136
  rintro vr O' ⟨N, rfl, rfl, rfl⟩
  refine ⟨Sub.pickR [2, 2, 2, 2, 2, 2, 2, 2, 2, 2, 2, 2] [rowI ja jac 5 1 (byts c3.pre), rowI jb jbc 5 1 (byts c3.loop), rowI pb1 pc1 3 1 (ints (pickI (succP b (l.at 0)) k)), oI bx5 26 [(.int .i64 b.vars), (.int .i64 b.states), (.slice pb1 ((pickI (succP b (l.at 0)) k).length) pc1), (.slice eb2 b.edges.length ec2), (.slice tb2 b.sets.length tc2)], rowI sb2 sc2 3 1 (ints b.start), rowI eb2 ec2 54 4 (edsC b.edges), rowI tb2 tc2 22 1 (vals qs2), oI zM 29 [(.slice ma ((twice l).pre.length) mac), (.slice na ((twice l).loop.length) nac)], rowI ma mac 5 1 (byts (twice l).pre), rowI na nac 5 1 (byts (twice l).loop), rowI (some ⟨bx4, 0, none⟩) 1 29 2 (laCells l pb pc lb lc), rowI (some ⟨bx3, 0, none⟩) 1 26 5 (buCells b sb sc eb ec tb tc), oI bx2 29 (laCells l pb pc lb lc), oI bx1 26 (buCells b sb sc eb ec tb tc)] (itms 3 qs2) rfl rfl, ?_⟩
  refine DO.quiet rfl (QT.toB (q_beql Try.underlying4 rfl rfl) (beq_self_eq_true _)) (DO.quiet rfl (q_assign rfl) ?_)
  refine DO.done ?_
  refine T.ret (Res.drop ?_)
  refine Res.one (.bool true) Try.results6 rfl ?_
  exact ⟨[], (Sub.pick0 [] [rowI ja jac 5 1 (byts c3.pre), rowI jb jbc 5 1 (byts c3.loop), rowI pb1 pc1 3 1 (ints (pickI (succP b (l.at 0)) k)), oI bx5 26 [(.int .i64 b.vars), (.int .i64 b.states), (.slice pb1 ((pickI (succP b (l.at 0)) k).length) pc1), (.slice eb2 b.edges.length ec2), (.slice tb2 b.sets.length tc2)], rowI sb2 sc2 3 1 (ints b.start), rowI eb2 ec2 54 4 (edsC b.edges), rowI tb2 tc2 22 1 (vals qs2), oI zM 29 [(.slice ma ((twice l).pre.length) mac), (.slice na ((twice l).loop.length) nac)], rowI ma mac 5 1 (byts (twice l).pre), rowI na nac 5 1 (byts (twice l).loop), rowI (some ⟨bx4, 0, none⟩) 1 29 2 (laCells l pb pc lb lc), rowI (some ⟨bx3, 0, none⟩) 1 26 5 (buCells b sb sc eb ec tb tc), oI bx2 29 (laCells l pb pc lb lc), oI bx1 26 (buCells b sb sc eb ec tb tc)] (itms 3 qs2) rfl rfl), rfl, rfl⟩
end Go.Proofs.Ytnamoapbienooaa

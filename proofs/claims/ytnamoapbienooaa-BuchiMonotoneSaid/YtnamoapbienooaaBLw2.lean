/- Contracts of functions of the program (BLw2): what each call answers and that it leaves memory as it was. Conditions: those each theorem names. -/
import Derived.Test.YtnamoapbienooaaEndB
import Derived.Test.YtnamoapbienooaaBChk2
import Derived.Test.YtnamoapbienooaaMon
import Derived.Test.YtnamoapbienooaaCoreO
import Derived.Test.YtnamoapbienooaaCoreP
set_option linter.unusedSectionVars false
set_option linter.unusedSimpArgs false
set_option linter.unusedVariables false
set_option linter.unnecessarySimpa false
namespace Go.Proofs.Ytnamoapbienooaa
open Go.Lx Go.RowKit
set_option linter.unusedVariables false
set_option linter.unusedSimpArgs false
def moreX (n vn fr to ps ng : Nat) : Ed := ⟨((fr % n : Nat) : Int), ((to % n : Nat) : Int), ps &&& (1 * 2 ^ vn - 1), (ng &&& (1 * 2 ^ vn - 1)) &&& (255 - ps)⟩
def someP (b : Bu) (f : Int) (s : Nat) : Bool := decide ((s : Int) ∈ b.start) || decide (((s : Nat) : Int) = f)
theorem moreX_lt {n vn : Nat} (fr to ps ng : Nat) (hp : ps < 256) (hn : ng < 256) : (moreX n vn fr to ps ng).pos < 256 ∧ (moreX n vn fr to ps ng).neg < 256 :=
  ⟨Nat.lt_of_le_of_lt Nat.and_le_left hp, Nat.lt_of_le_of_lt Nat.and_le_left (Nat.lt_of_le_of_lt Nat.and_le_left hn)⟩
theorem moreX_st {b : Bu} {vn fr to ps ng : Nat} (h0 : 0 < b.states.toNat) (h1 : 0 ≤ b.states) : (0 ≤ (moreX b.states.toNat vn fr to ps ng).fr ∧ (moreX b.states.toNat vn fr to ps ng).fr < b.states) ∧ (0 ≤ (moreX b.states.toNat vn fr to ps ng).to ∧ (moreX b.states.toNat vn fr to ps ng).to < b.states) := by
  have a1 := Nat.mod_lt fr h0
  have a2 := Nat.mod_lt to h0
  show (0 ≤ ((fr % b.states.toNat : Nat) : Int) ∧ ((fr % b.states.toNat : Nat) : Int) < b.states) ∧ (0 ≤ ((to % b.states.toNat : Nat) : Int) ∧ ((to % b.states.toNat : Nat) : Int) < b.states)
  omega
theorem moreX_cu {n vn fr to ps ng : Nat} (hp : ps < 256) (hn : ng < 256) (h : vn ≤ 6) : (moreX n vn fr to ps ng).pos < 2 ^ (((vn : Nat) : Int)).toNat ∧ (moreX n vn fr to ps ng).neg < 2 ^ (((vn : Nat) : Int)).toNat ∧ (moreX n vn fr to ps ng).pos &&& (moreX n vn fr to ps ng).neg = 0 := by
  have h0 : 0 < 2 ^ vn := Nat.pow_pos (by decide)
  rw [Int.toNat_natCast]
  have a : ∀ x, x &&& (1 * 2 ^ vn - 1) < 2 ^ vn := fun x => by
    have := Nat.and_le_right (n := x) (m := 1 * 2 ^ vn - 1); omega
  exact ⟨a ps, Nat.lt_of_le_of_lt Nat.and_le_left (a ng), disj_andNot hp⟩
theorem accV_empty {b : Bu} {l : La} (h : b.states = 0) : accV b l = false := by
  by_cases h0 : accE b l = 0
  · obtain ⟨hv, hl⟩ := accE_zero h0
    rw [← Bool.not_eq_true]
    intro hc
    obtain ⟨s, hs, _⟩ := (accV_iffV hv hl).1 hc
    have := hv.st _ hs
    omega
  · exact accV_no h0
set_option maxHeartbeats 4000000 in
set_option maxRecDepth 20000 in
theorem lawMonotone (w : World) (b : Bu) (sb eb tb : Option Addr) (sc ec tc : Nat) (vs : List Value) (h : BuAt w b sb eb tb vs) (hpn : ∀ e ∈ b.edges, e.pos < 256 ∧ e.neg < 256) (hse : b.sets.length < 9223372036854775807) (l : La) (pb lb : Option Addr) (pc lc : Nat) (h2 : LaAt w l pb lb pc lc) (hp8 : ∀ x ∈ l.pre, x < 256) (hl8 : ∀ x ∈ l.loop, x < 256) (fr to ps ng st : Nat) (hfr : fr < 256) (hto : to < 256) (hps : ps < 256) (hng : ng < 256) (hst : st < 256) :
    PureT Try.prog 5 [.agg (buCells b sb sc eb ec tb tc).toArray, .agg (laCells l pb pc lb lc).toArray, .int .u8 ((fr : Nat) : Int), .int .u8 ((to : Nat) : Int), .int .u8 ((ps : Nat) : Int), .int .u8 ((ng : Nat) : Int), .int .u8 ((st : Nat) : Int)] w fun v N => v = .bool true ∧ N = [] := by
  refine CallT.enter Try.func5 rfl Try.ntmps5 rfl ?_
  refine T.seq (T.region ?_)
  refine TO.loud rfl (l_box (v := (.agg (buCells b sb sc eb ec tb tc).toArray)) (cs := (buCells b sb sc eb ec tb tc)) rfl rfl (fun bx1 => ?_))
  refine TO.loud rfl (l_box (v := (.agg (laCells l pb pc lb lc).toArray)) (cs := (laCells l pb pc lb lc)) rfl rfl (fun bx2 => ?_))
  refine TO.quiet (q_assign rfl) ?_
  refine TO.nil (T.seq (T.seq (T.region ?_)))
  refine TO.quiet (q_load_boxAgg 1 Try.underlying26 rfl inf26 rfl rfl rfl) ?_
  refine TO.loud rfl (l_buildSlice (m := 1) (parts := [(0, _)]) (cs := (buCells b sb sc eb ec tb tc)) Try.underlying71 inf26 (by decide) (by kernel_rfl) rfl (fun bx3 => ?_))
  have hk27 := fun (w1 : World) (hI : Inv w [rowI (some ⟨bx3, 0, none⟩) 1 26 5 (buCells b sb sc eb ec tb tc), oI bx2 29 (laCells l pb pc lb lc), oI bx1 26 (buCells b sb sc eb ec tb tc)] w1) => (by
    have h9 := longF w1 (some ⟨bx3, 0, none⟩) 1 [⟨b, sb, sc, eb, ec, tb, tc, vs⟩] (hI.slOf (List.mem_of_getElem? (i := 0) rfl)) (fun q hq => by have h8 := List.mem_singleton.1 hq; subst h8; exact hI.bu h) (by simp) (fun q hq => by have h8 := List.mem_singleton.1 hq; subst h8; exact hse)
    rw [show ([⟨b, sb, sc, eb, ec, tb, tc, vs⟩] : List BuRef).any (fun q => longB q.b) = longB b by simp] at h9; exact h9)
  refine TO.loud rfl (l_call ent11 (CallT.of_pure hk27) rfl ?_)
  clear hk27
  rintro vr O' ⟨N, rfl, rfl, rfl⟩
  by_cases hs28 : (longB b) = true
  · refine TO.quiet (QT.toB (q_move rfl) (hs28)) ?_
    refine TO.passed rfl rfl ?_
    refine TO.passed rfl rfl ?_
    refine TO.passed rfl rfl ?_
    refine TO.quiet (q_pick1 rfl rfl) (TO.quiet (q_move rfl) ?_)
    refine TO.passed rfl rfl ?_
    refine TO.passed rfl rfl ?_
    refine TO.passed rfl rfl ?_
    refine TO.quiet (q_pick1 rfl rfl) (TO.quiet (q_move rfl) ?_)
    refine TO.passed rfl rfl ?_
    refine TO.passed rfl rfl ?_
    refine TO.quiet (q_pick1 rfl rfl) ?_
    refine TO.nil ?_
    refine T.cond1 rfl ?_
    refine T.seq (T.region ?_)
    have hk42 := fun (w1 : World) (hI : Inv w [rowI (some ⟨bx3, 0, none⟩) 1 26 5 (buCells b sb sc eb ec tb tc), oI bx2 29 (laCells l pb pc lb lc), oI bx1 26 (buCells b sb sc eb ec tb tc)] w1) => awakeF w1
    refine TO.loud rfl (l_call ent14 (CallT.of_pure hk42) rfl ?_)
    clear hk42
    rintro vr O' ⟨N, rfl, rfl, rfl⟩
    refine TO.quiet (q_assign rfl) ?_
    refine TO.nil (T.ret (Res.drop ?_))
    refine Res.one (.bool true) Try.results5 rfl ?_
    exact ⟨[], (by exact Sub.z), rfl, rfl⟩
  refine TO.quiet (QT.toB (q_move rfl) (Bool.eq_false_iff.2 hs28)) ?_
  refine TO.guarded rfl rfl rfl (LT.of_quiet rfl rfl (q_load_boxAgg 1 Try.underlying29 rfl inf29 rfl rfl rfl) ?_)
  refine TO.guarded rfl rfl rfl (l_buildSlice (m := 1) (parts := [(0, _)]) (cs := (laCells l pb pc lb lc)) Try.underlying72 inf29 (by decide) (by kernel_rfl) rfl (fun bx4 => ?_))
  have hk31 := fun (w1 : World) (hI : Inv w [rowI (some ⟨bx4, 0, none⟩) 1 29 2 (laCells l pb pc lb lc), rowI (some ⟨bx3, 0, none⟩) 1 26 5 (buCells b sb sc eb ec tb tc), oI bx2 29 (laCells l pb pc lb lc), oI bx1 26 (buCells b sb sc eb ec tb tc)] w1) => (by
    have h9 := longLF w1 (some ⟨bx4, 0, none⟩) 1 [⟨l, pb, pc, lb, lc⟩] (hI.slOf (List.mem_of_getElem? (i := 0) rfl)) (by simp)
    rw [show ([⟨l, pb, pc, lb, lc⟩] : List LaRef).any (fun q => longL q.l) = longL l by simp] at h9; exact h9)
  refine TO.guarded rfl rfl rfl (l_call ent12 (CallT.of_pure hk31) rfl ?_)
  clear hk31
  rintro vr O' ⟨N, rfl, rfl, rfl⟩
  refine TO.quiet (q_pick0 rfl rfl) ?_
  by_cases hs33 : (longL l) = true
  · refine TO.quiet (QT.toB (q_move rfl) (hs33)) ?_
    refine TO.passed rfl rfl ?_
    refine TO.passed rfl rfl ?_
    refine TO.passed rfl rfl ?_
    refine TO.quiet (q_pick1 rfl rfl) (TO.quiet (q_move rfl) ?_)
    refine TO.passed rfl rfl ?_
    refine TO.passed rfl rfl ?_
    refine TO.quiet (q_pick1 rfl rfl) ?_
    refine TO.nil ?_
    refine T.cond1 rfl ?_
    refine T.seq (T.region ?_)
    have hk42 := fun (w1 : World) (hI : Inv w [rowI (some ⟨bx4, 0, none⟩) 1 29 2 (laCells l pb pc lb lc), rowI (some ⟨bx3, 0, none⟩) 1 26 5 (buCells b sb sc eb ec tb tc), oI bx2 29 (laCells l pb pc lb lc), oI bx1 26 (buCells b sb sc eb ec tb tc)] w1) => awakeF w1
    refine TO.loud rfl (l_call ent14 (CallT.of_pure hk42) rfl ?_)
    clear hk42
    rintro vr O' ⟨N, rfl, rfl, rfl⟩
    refine TO.quiet (q_assign rfl) ?_
    refine TO.nil (T.ret (Res.drop ?_))
    refine Res.one (.bool true) Try.results5 rfl ?_
    exact ⟨[], (by exact Sub.z), rfl, rfl⟩
  refine TO.quiet (QT.toB (q_move rfl) (Bool.eq_false_iff.2 hs33)) ?_
  refine TO.guarded rfl rfl rfl (LT.of_quiet rfl rfl (q_load_boxAgg 2 Try.underlying29 rfl inf29 rfl rfl rfl) ?_)
  have hk35 := fun (w1 : World) (hI : Inv w [rowI (some ⟨bx4, 0, none⟩) 1 29 2 (laCells l pb pc lb lc), rowI (some ⟨bx3, 0, none⟩) 1 26 5 (buCells b sb sc eb ec tb tc), oI bx2 29 (laCells l pb pc lb lc), oI bx1 26 (buCells b sb sc eb ec tb tc)] w1) => fairF w1 l pb lb pc lc (by have := longL_no hs33; omega) (by have := longL_no hs33; omega)
  refine TO.guarded rfl rfl rfl (l_call ent13 (CallT.of_pure hk35) rfl ?_)
  clear hk35
  rintro vr O' ⟨N, rfl, rfl, rfl⟩
  refine TO.guarded rfl rfl rfl (LT.of_quiet rfl rfl (q_not rfl) ?_)
  refine TO.quiet (q_pick0 rfl rfl) ?_
  by_cases hs38 : ((!(decide (l.n ≤ 16)))) = true
  · refine TO.quiet (QT.toB (q_move rfl) (hs38)) ?_
    refine TO.passed rfl rfl ?_
    refine TO.passed rfl rfl ?_
    refine TO.quiet (q_pick1 rfl rfl) ?_
    refine TO.nil ?_
    refine T.cond1 rfl ?_
    refine T.seq (T.region ?_)
    have hk42 := fun (w1 : World) (hI : Inv w [rowI (some ⟨bx4, 0, none⟩) 1 29 2 (laCells l pb pc lb lc), rowI (some ⟨bx3, 0, none⟩) 1 26 5 (buCells b sb sc eb ec tb tc), oI bx2 29 (laCells l pb pc lb lc), oI bx1 26 (buCells b sb sc eb ec tb tc)] w1) => awakeF w1
    refine TO.loud rfl (l_call ent14 (CallT.of_pure hk42) rfl ?_)
    clear hk42
    rintro vr O' ⟨N, rfl, rfl, rfl⟩
    refine TO.quiet (q_assign rfl) ?_
    refine TO.nil (T.ret (Res.drop ?_))
    refine Res.one (.bool true) Try.results5 rfl ?_
    exact ⟨[], (by exact Sub.z), rfl, rfl⟩
  refine TO.quiet (QT.toB (q_move rfl) (Bool.eq_false_iff.2 hs38)) ?_
  have hk39 := fun (w1 : World) (hI : Inv w [rowI (some ⟨bx4, 0, none⟩) 1 29 2 (laCells l pb pc lb lc), rowI (some ⟨bx3, 0, none⟩) 1 26 5 (buCells b sb sc eb ec tb tc), oI bx2 29 (laCells l pb pc lb lc), oI bx1 26 (buCells b sb sc eb ec tb tc)] w1) => awakeF w1
  refine TO.guarded rfl rfl rfl (l_call ent14 (CallT.of_pure hk39) rfl ?_)
  clear hk39
  rintro vr O' ⟨N, rfl, rfl, rfl⟩
  refine TO.guarded rfl rfl rfl (LT.of_quiet rfl rfl (QT.toB (q_not rfl) rfl) ?_)
  refine TO.quiet (q_pick0 rfl rfl) ?_
  refine TO.nil ?_
  refine T.cond0 rfl ?_
  refine T.skip (T.seq ?_)
  have hB : BuB b := longB_no (by simp_all) hpn
  have hL : LaB l := longL_lab (by simp_all) hp8 hl8
  have hE : b.edges.length ≤ 60 := (longB_ed (b := b) (by simp_all)).2.1
  refine T.region ?_
  refine TO.quiet (q_load_boxAgg 3 Try.underlying26 rfl inf26 rfl rfl rfl) (TO.quiet (q_load_boxAgg 2 Try.underlying29 rfl inf29 rfl rfl rfl) ?_)
  have hk46 := fun (w1 : World) (hI : Inv w [rowI (some ⟨bx4, 0, none⟩) 1 29 2 (laCells l pb pc lb lc), rowI (some ⟨bx3, 0, none⟩) 1 26 5 (buCells b sb sc eb ec tb tc), oI bx2 29 (laCells l pb pc lb lc), oI bx1 26 (buCells b sb sc eb ec tb tc)] w1) => acceptsF w1 b sb eb tb sc ec tc vs (hI.bu h) hB l pb lb pc lc (hI.la h2) hL (by omega)
  refine TO.loud rfl (l_call ent17 (CallT.of_pure hk46) rfl ?_)
  clear hk46
  rintro vr O' ⟨N, rfl, rfl, rfl⟩
  refine TO.quiet (q_move rfl) (TO.quiet (q_extract (vs := _) rfl rfl) (TO.quiet (q_extract (vs := _) rfl rfl) (TO.quiet (q_assign rfl) ?_)))
  refine TO.quiet (q_assign rfl) ?_
  refine TO.nil (T.seq (T.seq (T.region ?_)))
  refine TO.quiet (q_move rfl) (TO.quiet (q_neq rfl rfl) ?_)
  by_cases hs51 : ((accE b l : Nat) : Int) ≠ 0
  · refine TO.quiet (QT.toB (q_move rfl) (decide_eq_true hs51)) ?_
    refine TO.passed rfl rfl ?_
    refine TO.passed rfl rfl ?_
    refine TO.passed rfl rfl ?_
    refine TO.quiet (q_pick1 rfl rfl) ?_
    refine TO.nil ?_
    refine T.cond1 rfl ?_
    refine T.seq ?_
    have hacc : accV b l = false := by first | exact accV_no (by omega) | exact accV_empty (by omega)
    refine T.region ?_
    refine TO.quiet (q_move rfl) (TO.quiet (QT.toB (q_not rfl) (by rw [hacc])) (TO.quiet (q_assign rfl) ?_))
    refine TO.nil (T.ret (Res.drop ?_))
    refine Res.one (.bool true) Try.results5 rfl ?_
    exact ⟨[], (by exact Sub.z), rfl, rfl⟩
  refine TO.quiet (QT.toB (q_move rfl) (decide_eq_false hs51)) ?_
  refine TO.guarded rfl rfl rfl (LT.of_quiet rfl rfl (q_fieldAddr Try.underlying26 rfl inf3 rfl rfl) ?_)
  refine TO.guarded rfl rfl rfl (LT.of_quiet rfl rfl (q_load_box 3 Try.underlying3 rfl rfl rfl rfl) ?_)
  refine TO.guarded rfl rfl rfl (LT.of_quiet rfl rfl (q_eql rfl rfl) ?_)
  refine TO.quiet (q_pick0 rfl rfl) ?_
  refine TO.nil ?_
  refine T.condP rfl (fun hc => ?_) (fun hc => ?_)
  · refine T.seq ?_
    have hacc : accV b l = false := by first | exact accV_no (by omega) | exact accV_empty (by omega)
    refine T.region ?_
    refine TO.quiet (q_move rfl) (TO.quiet (QT.toB (q_not rfl) (by rw [hacc])) (TO.quiet (q_assign rfl) ?_))
    refine TO.nil (T.ret (Res.drop ?_))
    refine Res.one (.bool true) Try.results5 rfl ?_
    exact ⟨[], (by exact Sub.z), rfl, rfl⟩
  refine T.skip (T.seq ?_)
  obtain ⟨hv, hcl⟩ := accE_zero (b := b) (l := l) (by omega)
  have hv0 := hv.n0; have hv4 := hv.n4; have hm8 := hv.m8
  have hn0 : 0 < b.states.toNat := by omega
  refine T.region ?_
  refine TO.quiet (q_load_boxAgg 3 Try.underlying26 rfl inf26 rfl rfl rfl) ?_
  have hk59 := fun (w1 : World) (hI : Inv w [rowI (some ⟨bx4, 0, none⟩) 1 29 2 (laCells l pb pc lb lc), rowI (some ⟨bx3, 0, none⟩) 1 26 5 (buCells b sb sc eb ec tb tc), oI bx2 29 (laCells l pb pc lb lc), oI bx1 26 (buCells b sb sc eb ec tb tc)] w1) => copyBuchi w1 b sb eb tb sc ec tc vs (hI.bu h) hB
  refine TO.loud rfl (l_call ent15 (CallT.of_pure hk59) rfl ?_)
  clear hk59
  rintro vr O' ⟨N, rfl, sb2, eb2, tb2, sc2, ec2, tc2, qs2, rfl, rfl, hqs2⟩
  refine TO.sub (O' := ([rowI sb2 sc2 3 1 (ints b.start), rowI eb2 ec2 54 4 (edsC b.edges), rowI tb2 tc2 22 1 (vals qs2), rowI (some ⟨bx4, 0, none⟩) 1 29 2 (laCells l pb pc lb lc), rowI (some ⟨bx3, 0, none⟩) 1 26 5 (buCells b sb sc eb ec tb tc), oI bx2 29 (laCells l pb pc lb lc), oI bx1 26 (buCells b sb sc eb ec tb tc)] ++ (itms 3 qs2))) (Sub.cnt [] (by intro a; simp only [itms, oI, List.set_cons_zero, List.set_cons_succ, putL, List.cons_append, List.nil_append, List.append_nil, List.append_assoc, List.map_append, List.map_cons, List.map_nil, cnt_append, cnt_cons, cnt_nil, buCells, laCells] <;> omega)) ?_
  refine TO.loud rfl (l_alloc inf26 rfl (fun bx5 => ?_))
  refine TO.loud rfl (l_store_box (v := (.agg (buCells b sb2 sc2 eb2 ec2 tb2 tc2).toArray)) (vs := (buCells b sb2 sc2 eb2 ec2 tb2 tc2)) 0 inf26 rfl rfl rfl rfl rfl rfl (by simp [putL]) ?_)
  refine TO.nil (T.seq ?_)
  obtain ⟨vn, hvn, hv6⟩ : ∃ vn : Nat, b.vars = (vn : Int) ∧ vn ≤ 6 := ⟨b.vars.toNat, by have := hv.v0; omega, by have := hv.v6; omega⟩
  have h2v : 2 ^ vn ≤ 64 := Nat.pow_le_pow_right (by decide : 0 < 2) hv6 (n := 2)
  have h2p : 0 < 2 ^ vn := Nat.pow_pos (by decide)
  obtain ⟨x, hxe⟩ : ∃ x : Ed, x = moreX b.states.toNat vn fr to ps ng := ⟨_, rfl⟩
  have hmx : x.pos < 256 ∧ x.neg < 256 := by rw [hxe]; exact moreX_lt (n := b.states.toNat) (vn := vn) fr to ps ng hps hng
  have hvm : ValidB { b with edges := b.edges ++ [x] } := by rw [hxe]; exact hv.edge (moreX_st hn0 (by omega)) (by rw [hvn]; exact moreX_cu hps hng (by omega))
  refine T.region ?_
  refine TO.quiet (q_fieldAddr Try.underlying26 rfl inf3 rfl rfl) (TO.quiet (QT.cast (q_load_box 7 Try.underlying3 rfl rfl rfl rfl) (v' := .int .i64 ((vn : Nat) : Int)) (by show Value.int _ _ = _; rw [hvn])) (TO.quiet (q_conv_id Try.underlying3 Try.underlying52 rfl (by first | rfl | exact wrap64_id ⟨by omega, by omega⟩ | exact wrap8 (by omega) | exact wrapU64 (by omega))) (TO.quiet (q_shlU (a := 1) (b := vn) .u8 rfl rfl (by show _ ≤ 8; omega) (by show _ < 256; omega)) ?_)))
  refine TO.quiet (q_subU (a := (1 * 2 ^ vn)) (b := 1) .u8 rfl rfl (by show _ < 256; omega) (by omega)) (TO.quiet (q_assign rfl) ?_)
  refine TO.nil (T.seq ?_)
  refine T.draws _ [(0, 0), (1, 0), (2, 0), (3, 0), (4, 0), (5, 0), (6, 0), (7, 0), (8, 0), (9, 0), (10, 0), (11, 0), (12, 0), (13, 0), (14, 0), (15, 0), (16, 0), (17, 0), (18, 0), (19, 1), (20, 2)] mixed (by kernel_rfl) (Sub.of (List.Sublist.refl _)) (fun _ _ _ h => h) ?_
  refine DO.quiet rfl (q_move rfl) (DO.quiet rfl (q_conv_id Try.underlying5 Try.underlying3 rfl (by first | rfl | exact wrap64_id ⟨by omega, by omega⟩ | exact wrap8 (by omega) | exact wrapU64 (by omega))) (DO.quiet rfl (q_fieldAddr Try.underlying26 rfl inf3 rfl rfl) (DO.quiet rfl (QT.cast (q_load_box 7 Try.underlying3 rfl rfl rfl rfl) (v' := .int .i64 ((b.states.toNat : Nat) : Int)) (by show Value.int _ _ = _; rw [Int.toNat_of_nonneg hv0])) ?_)))
  refine DO.quiet rfl (q_remN (a := fr) (b := b.states.toNat) rfl rfl (by omega)) (DO.quiet rfl (q_move rfl) (DO.quiet rfl (q_conv_id Try.underlying5 Try.underlying3 rfl (by first | rfl | exact wrap64_id ⟨by omega, by omega⟩ | exact wrap8 (by omega) | exact wrapU64 (by omega))) (DO.quiet rfl (q_fieldAddr Try.underlying26 rfl inf3 rfl rfl) ?_)))
  refine DO.quiet rfl (QT.cast (q_load_box 7 Try.underlying3 rfl rfl rfl rfl) (v' := .int .i64 ((b.states.toNat : Nat) : Int)) (by show Value.int _ _ = _; rw [Int.toNat_of_nonneg hv0])) (DO.quiet rfl (q_remN (a := to) (b := b.states.toNat) rfl rfl (by omega)) (DO.quiet rfl (q_move rfl) (DO.quiet rfl (q_move rfl) ?_)))
  refine DO.quiet rfl (q_and (a := ps) (b := ((1 * 2 ^ vn) - 1)) .u8 rfl rfl (by show _ < 256; omega) (by show _ < 256; omega)) (DO.quiet rfl (q_move rfl) (DO.quiet rfl (q_move rfl) (DO.quiet rfl (q_and (a := ng) (b := ((1 * 2 ^ vn) - 1)) .u8 rfl rfl (by show _ < 256; omega) (by show _ < 256; omega)) ?_)))
  refine DO.quiet rfl (q_move rfl) (DO.quiet rfl (q_andNot8 (a := (ng &&& ((1 * 2 ^ vn) - 1))) (b := ps) rfl rfl (Nat.lt_of_le_of_lt Nat.and_le_left hng) hps) (DO.quiet rfl (q_build (cs := [.int .i64 ((fr % b.states.toNat : Nat) : Int), .int .i64 ((to % b.states.toNat : Nat) : Int), .int .u8 ((ps &&& ((1 * 2 ^ vn) - 1) : Nat) : Int), .int .u8 (((ng &&& ((1 * 2 ^ vn) - 1)) &&& (255 - ps) : Nat) : Int)]) plan54 inf54 (by kernel_rfl)) ?_))
  refine DO.loud rfl rfl (l_alloc inf54 rfl (fun bx6 => ⟨by exact Sub.d (.k (.k (.k (.k (.k (.k (.k (.k .rf)))))))), ?_⟩))
  refine DO.last rfl rfl (l_store_box (v := (.agg #[.int .i64 ((fr % b.states.toNat : Nat) : Int), .int .i64 ((to % b.states.toNat : Nat) : Int), .int .u8 ((ps &&& ((1 * 2 ^ vn) - 1) : Nat) : Int), .int .u8 (((ng &&& ((1 * 2 ^ vn) - 1)) &&& (255 - ps) : Nat) : Int)])) (vs := [.int .i64 ((fr % b.states.toNat : Nat) : Int), .int .i64 ((to % b.states.toNat : Nat) : Int), .int .u8 ((ps &&& ((1 * 2 ^ vn) - 1) : Nat) : Int), .int .u8 (((ng &&& ((1 * 2 ^ vn) - 1)) &&& (255 - ps) : Nat) : Int)]) 0 inf54 rfl rfl rfl rfl rfl rfl (by simp [putL]) ?_)
  refine DO.done ?_
  refine T.seq (T.region ?_)
  refine TO.quiet (q_fieldAddr Try.underlying26 rfl inf23 rfl rfl) (TO.quiet (q_load_box 1 Try.underlying23 rfl rfl rfl rfl) (TO.quiet (q_load_boxAgg 0 Try.underlying54 rfl inf54 rfl rfl rfl) ?_))
  refine TO.loud rfl (l_buildSlice (m := 1) (parts := [(0, _)]) (cs := [.int .i64 ((fr % b.states.toNat : Nat) : Int), .int .i64 ((to % b.states.toNat : Nat) : Int), .int .u8 ((ps &&& ((1 * 2 ^ vn) - 1) : Nat) : Int), .int .u8 (((ng &&& ((1 * 2 ^ vn) - 1)) &&& (255 - ps) : Nat) : Int)]) Try.underlying23 inf54 (by decide) (by kernel_rfl) rfl (fun bx7 => ?_))
  refine TO.loud rfl (l_append 4 Try.underlying23 Try.underlying23 inf54 rfl rfl rfl rfl (by rw [eds_len]) (by decide) (Src.row (j := 0) rfl (by simp)) (by simp [oneB]) (by omega) (by decide) (by decide) (fun bx8 c9 => ?_))
  refine TO.quiet (q_fieldAddr Try.underlying26 rfl inf23 rfl rfl) ?_
  refine TO.loud rfl (l_store_box (v := (.slice bx8 (b.edges.length + 1) c9)) (vs := [(.slice bx8 (b.edges.length + 1) c9)]) 2 inf23 rfl rfl rfl rfl rfl rfl (by simp [putL]) ?_)
  refine TO.nil (T.seq ?_)
  refine T.sub (O' := ([oI bx6 54 [.int .i64 ((fr % b.states.toNat : Nat) : Int), .int .i64 ((to % b.states.toNat : Nat) : Int), .int .u8 ((ps &&& ((1 * 2 ^ vn) - 1) : Nat) : Int), .int .u8 (((ng &&& ((1 * 2 ^ vn) - 1)) &&& (255 - ps) : Nat) : Int)], oI bx5 26 [(.int .i64 b.vars), (.int .i64 b.states), (.slice sb2 b.start.length sc2), (.slice bx8 (b.edges.length + 1) c9), (.slice tb2 b.sets.length tc2)], rowI sb2 sc2 3 1 (ints b.start), rowI bx8 c9 54 4 ((edsC b.edges) ++ [.int .i64 ((fr % b.states.toNat : Nat) : Int), .int .i64 ((to % b.states.toNat : Nat) : Int), .int .u8 ((ps &&& ((1 * 2 ^ vn) - 1) : Nat) : Int), .int .u8 (((ng &&& ((1 * 2 ^ vn) - 1)) &&& (255 - ps) : Nat) : Int)]), rowI tb2 tc2 22 1 (vals qs2), rowI (some ⟨bx4, 0, none⟩) 1 29 2 (laCells l pb pc lb lc), rowI (some ⟨bx3, 0, none⟩) 1 26 5 (buCells b sb sc eb ec tb tc), oI bx2 29 (laCells l pb pc lb lc), oI bx1 26 (buCells b sb sc eb ec tb tc)] ++ (itms 3 qs2))) (by exact Sub.d (.k (.k (.k (.k (.k (.k (.k (.k (.k .rf)))))))))) ?_
  refine T.sub (O' := ([oI bx6 54 [.int .i64 x.fr, .int .i64 x.to, .int .u8 ((x.pos : Nat) : Int), .int .u8 ((x.neg : Nat) : Int)], oI bx5 26 [(.int .i64 b.vars), (.int .i64 b.states), (.slice sb2 b.start.length sc2), (.slice bx8 ((b.edges ++ [x]).length) c9), (.slice tb2 b.sets.length tc2)], rowI sb2 sc2 3 1 (ints b.start), rowI bx8 c9 54 4 (edsC (b.edges ++ [x])), rowI tb2 tc2 22 1 (vals qs2), rowI (some ⟨bx4, 0, none⟩) 1 29 2 (laCells l pb pc lb lc), rowI (some ⟨bx3, 0, none⟩) 1 26 5 (buCells b sb sc eb ec tb tc), oI bx2 29 (laCells l pb pc lb lc), oI bx1 26 (buCells b sb sc eb ec tb tc)] ++ (itms 3 qs2))) (by rw [show edsC (b.edges ++ [x]) = edsC b.edges ++ [.int .i64 x.fr, .int .i64 x.to, .int .u8 ((x.pos : Nat) : Int), .int .u8 ((x.neg : Nat) : Int)] from (eds_append _ _).trans rfl, List.length_append]; subst hxe; exact Sub.of (List.Sublist.refl _)) ?_
  refine T.region ?_
  refine TO.quiet (q_load_boxAgg 8 Try.underlying26 rfl inf26 rfl rfl rfl) ?_
  have hk91 := fun (w1 : World) (hI : Inv w ([oI bx6 54 [.int .i64 x.fr, .int .i64 x.to, .int .u8 ((x.pos : Nat) : Int), .int .u8 ((x.neg : Nat) : Int)], oI bx5 26 [(.int .i64 b.vars), (.int .i64 b.states), (.slice sb2 b.start.length sc2), (.slice bx8 ((b.edges ++ [x]).length) c9), (.slice tb2 b.sets.length tc2)], rowI sb2 sc2 3 1 (ints b.start), rowI bx8 c9 54 4 (edsC (b.edges ++ [x])), rowI tb2 tc2 22 1 (vals qs2), rowI (some ⟨bx4, 0, none⟩) 1 29 2 (laCells l pb pc lb lc), rowI (some ⟨bx3, 0, none⟩) 1 26 5 (buCells b sb sc eb ec tb tc), oI bx2 29 (laCells l pb pc lb lc), oI bx1 26 (buCells b sb sc eb ec tb tc)] ++ (itms 3 qs2)) w1) => copyBuchi w1 b sb eb tb sc ec tc vs (hI.bu h) hB
  refine TO.loud rfl (l_call ent15 (CallT.of_pure hk91) rfl ?_)
  clear hk91
  rintro vr O' ⟨N, rfl, sb3, eb3, tb3, sc3, ec3, tc3, qs3, rfl, rfl, hqs3⟩
  refine TO.sub (O' := ([rowI sb3 sc3 3 1 (ints b.start), rowI eb3 ec3 54 4 (edsC b.edges), rowI tb3 tc3 22 1 (vals qs3), oI bx6 54 [.int .i64 x.fr, .int .i64 x.to, .int .u8 ((x.pos : Nat) : Int), .int .u8 ((x.neg : Nat) : Int)], oI bx5 26 [(.int .i64 b.vars), (.int .i64 b.states), (.slice sb2 b.start.length sc2), (.slice bx8 ((b.edges ++ [x]).length) c9), (.slice tb2 b.sets.length tc2)], rowI sb2 sc2 3 1 (ints b.start), rowI bx8 c9 54 4 (edsC (b.edges ++ [x])), rowI tb2 tc2 22 1 (vals qs2), rowI (some ⟨bx4, 0, none⟩) 1 29 2 (laCells l pb pc lb lc), rowI (some ⟨bx3, 0, none⟩) 1 26 5 (buCells b sb sc eb ec tb tc), oI bx2 29 (laCells l pb pc lb lc), oI bx1 26 (buCells b sb sc eb ec tb tc)] ++ ((itms 3 qs3) ++ (itms 3 qs2)))) (Sub.cnt [] (by intro a; simp only [itms, oI, List.set_cons_zero, List.set_cons_succ, putL, List.cons_append, List.nil_append, List.append_nil, List.append_assoc, List.map_append, List.map_cons, List.map_nil, cnt_append, cnt_cons, cnt_nil, buCells, laCells] <;> omega)) ?_
  refine TO.loud rfl (l_alloc inf26 rfl (fun bx10 => ?_))
  refine TO.loud rfl (l_store_box (v := (.agg (buCells b sb3 sc3 eb3 ec3 tb3 tc3).toArray)) (vs := (buCells b sb3 sc3 eb3 ec3 tb3 tc3)) 0 inf26 rfl rfl rfl rfl rfl rfl (by simp [putL]) ?_)
  refine TO.nil (T.seq (T.region ?_))
  refine TO.quiet (q_fieldAddr Try.underlying26 rfl inf22 rfl rfl) ?_
  refine TO.loud rfl (l_store_box (v := (.slice none 0 0)) (vs := [(.slice none 0 0)]) 0 inf22 rfl rfl rfl rfl rfl rfl (by simp [putL]) ?_)
  refine TO.nil (T.seq (T.seq (T.region ?_)))
  refine TO.quiet (q_assign rfl) ?_
  refine TO.nil (T.block ?_)
  refine T.nilRow 3 1 ?_
  refine T.loopS (fun (k : Nat) ρ O => ∃ (pb1 : Option Addr) (pc1 : Nat), O = ([rowI pb1 pc1 3 1 (ints (pickI (someP b x.fr) k)), oI bx10 26 [(.int .i64 b.vars), (.int .i64 b.states), (.slice pb1 ((pickI (someP b x.fr) k).length) pc1), (.slice eb3 b.edges.length ec3), (.slice tb3 b.sets.length tc3)], rowI sb3 sc3 3 1 (ints b.start), rowI eb3 ec3 54 4 (edsC b.edges), rowI tb3 tc3 22 1 (vals qs3), oI bx6 54 [.int .i64 x.fr, .int .i64 x.to, .int .u8 ((x.pos : Nat) : Int), .int .u8 ((x.neg : Nat) : Int)], oI bx5 26 [(.int .i64 b.vars), (.int .i64 b.states), (.slice sb2 b.start.length sc2), (.slice bx8 ((b.edges ++ [x]).length) c9), (.slice tb2 b.sets.length tc2)], rowI sb2 sc2 3 1 (ints b.start), rowI bx8 c9 54 4 (edsC (b.edges ++ [x])), rowI tb2 tc2 22 1 (vals qs2), rowI (some ⟨bx4, 0, none⟩) 1 29 2 (laCells l pb pc lb lc), rowI (some ⟨bx3, 0, none⟩) 1 26 5 (buCells b sb sc eb ec tb tc), oI bx2 29 (laCells l pb pc lb lc), oI bx1 26 (buCells b sb sc eb ec tb tc)] ++ ((itms 3 qs3) ++ (itms 3 qs2))) ∧ k ≤ b.states.toNat ∧ Heads [(0, (.agg (buCells b sb sc eb ec tb tc).toArray)), (1, (.agg (laCells l pb pc lb lc).toArray)), (2, .int .u8 ((fr : Nat) : Int)), (3, .int .u8 ((to : Nat) : Int)), (4, .int .u8 ((ps : Nat) : Int)), (5, .int .u8 ((ng : Nat) : Int)), (6, .int .u8 ((st : Nat) : Int)), (7, (.pointer (some ⟨bx1, 0, none⟩))), (8, (.pointer (some ⟨bx2, 0, none⟩))), (14, .bool false), (15, .bool (accV b l)), (16, .int .i64 ((accE b l : Nat) : Int)), (17, (.pointer (some ⟨bx5, 0, none⟩))), (18, .int .u8 (((1 * 2 ^ vn) - 1 : Nat) : Int)), (19, (.pointer (some ⟨bx6, 0, none⟩))), (20, (.pointer (some ⟨bx10, 0, none⟩))), (21, .int .i64 (k : Int))] ρ) (fun k => b.states.toNat - k) 0 ?_ ?_
  · exact ⟨none, 0, rfl, Nat.zero_le _, ⟨rfl, rfl, rfl, rfl, rfl, rfl, rfl, rfl, rfl, rfl, rfl, rfl, rfl, rfl, rfl, rfl, rfl, trivial⟩⟩
  rintro k ρ O ⟨pb1, pc1, rfl, hk, hH⟩
  obtain ⟨ρ0, rfl⟩ := hH.elim
  clear hH
  have hkl := pickI_len (someP b x.fr) k
  refine T.seq (T.seq (T.region ?_))
  refine TO.quiet (q_move rfl) (TO.quiet (q_fieldAddr Try.underlying26 rfl inf3 rfl rfl) (TO.quiet (QT.cast (q_load_box 13 Try.underlying3 rfl rfl rfl rfl) (v' := .int .i64 ((b.states.toNat : Nat) : Int)) (by show Value.int _ _ = _; rw [Int.toNat_of_nonneg hv0])) (TO.quiet (q_lss rfl rfl) ?_)))
  refine TO.nil ?_
  refine T.condP rfl (fun hc => ?_) (fun hc => ?_)
  · have hlt96 : k < b.states.toNat := by omega
    refine T.skip (T.seq (T.block (T.seq (T.region ?_))))
    refine TO.quiet (q_fieldAddr Try.underlying26 rfl inf22 rfl rfl) (TO.quiet (q_load_box 13 Try.underlying22 rfl rfl rfl rfl) (TO.quiet (q_move rfl) ?_))
    have hk102 := fun (w1 : World) (hI : Inv w ([rowI pb1 pc1 3 1 (ints (pickI (someP b x.fr) k)), oI bx10 26 [(.int .i64 b.vars), (.int .i64 b.states), (.slice pb1 ((pickI (someP b x.fr) k).length) pc1), (.slice eb3 b.edges.length ec3), (.slice tb3 b.sets.length tc3)], rowI sb3 sc3 3 1 (ints b.start), rowI eb3 ec3 54 4 (edsC b.edges), rowI tb3 tc3 22 1 (vals qs3), oI bx6 54 [.int .i64 x.fr, .int .i64 x.to, .int .u8 ((x.pos : Nat) : Int), .int .u8 ((x.neg : Nat) : Int)], oI bx5 26 [(.int .i64 b.vars), (.int .i64 b.states), (.slice sb2 b.start.length sc2), (.slice bx8 ((b.edges ++ [x]).length) c9), (.slice tb2 b.sets.length tc2)], rowI sb2 sc2 3 1 (ints b.start), rowI bx8 c9 54 4 (edsC (b.edges ++ [x])), rowI tb2 tc2 22 1 (vals qs2), rowI (some ⟨bx4, 0, none⟩) 1 29 2 (laCells l pb pc lb lc), rowI (some ⟨bx3, 0, none⟩) 1 26 5 (buCells b sb sc eb ec tb tc), oI bx2 29 (laCells l pb pc lb lc), oI bx1 26 (buCells b sb sc eb ec tb tc)] ++ ((itms 3 qs3) ++ (itms 3 qs2))) w1) => hasInt w1 sb sc b.start ((k : Nat) : Int) (hI.bu h).st (by have := hB.st; omega)
    refine TO.loud rfl (l_call ent31 (CallT.of_pure hk102) rfl ?_)
    clear hk102
    rintro vr O' ⟨N, rfl, rfl, rfl⟩
    by_cases hs103 : ((k : Nat) : Int) ∈ b.start
    · refine TO.quiet (QT.toB (q_move rfl) (decide_eq_true hs103)) ?_
      refine TO.passed rfl rfl ?_
      refine TO.passed rfl rfl ?_
      refine TO.passed rfl rfl ?_
      refine TO.passed rfl rfl ?_
      refine TO.quiet (q_pick1 rfl rfl) ?_
      refine TO.nil ?_
      refine T.cond1 rfl ?_
      refine T.region ?_
      refine TO.quiet (q_fieldAddr Try.underlying26 rfl inf22 rfl rfl) (TO.quiet (q_load_box 1 Try.underlying22 rfl rfl rfl rfl) (TO.quiet (q_move rfl) ?_))
      refine TO.loud rfl (l_build1 (v := .int .i64 (k : Int)) Try.underlying22 inf3 rfl rfl rfl (fun bx11 => ?_))
      refine TO.loud rfl (l_append 1 Try.underlying22 Try.underlying22 inf3 rfl rfl rfl rfl (by simp) (by decide) (Src.row (j := 0) rfl (by simp)) (by simp [oneB]) (by omega) (by decide) (by decide) (fun bx12 c13 => ?_))
      refine TO.quiet (q_fieldAddr Try.underlying26 rfl inf22 rfl rfl) ?_
      refine TO.loud rfl (l_store_box (v := (.slice bx12 (((pickI (someP b x.fr) k).length) + 1) c13)) (vs := [(.slice bx12 (((pickI (someP b x.fr) k).length) + 1) c13)]) 2 inf22 rfl rfl rfl rfl rfl rfl (by simp [putL]) ?_)
      refine TO.nil (T.region ?_)
      refine TO.quiet (q_move rfl) (TO.quiet (q_addN (a := k) (b := 1) rfl rfl (by omega)) (TO.quiet (q_assign rfl) ?_))
      refine TO.nil ?_
      refine ⟨k + 1, by omega, ([rowI bx12 c13 3 1 ((ints (pickI (someP b x.fr) k)) ++ [.int .i64 (k : Int)]), oI bx10 26 [(.int .i64 b.vars), (.int .i64 b.states), (.slice bx12 (((pickI (someP b x.fr) k).length) + 1) c13), (.slice eb3 b.edges.length ec3), (.slice tb3 b.sets.length tc3)], rowI sb3 sc3 3 1 (ints b.start), rowI eb3 ec3 54 4 (edsC b.edges), rowI tb3 tc3 22 1 (vals qs3), oI bx6 54 [.int .i64 x.fr, .int .i64 x.to, .int .u8 ((x.pos : Nat) : Int), .int .u8 ((x.neg : Nat) : Int)], oI bx5 26 [(.int .i64 b.vars), (.int .i64 b.states), (.slice sb2 b.start.length sc2), (.slice bx8 ((b.edges ++ [x]).length) c9), (.slice tb2 b.sets.length tc2)], rowI sb2 sc2 3 1 (ints b.start), rowI bx8 c9 54 4 (edsC (b.edges ++ [x])), rowI tb2 tc2 22 1 (vals qs2), rowI (some ⟨bx4, 0, none⟩) 1 29 2 (laCells l pb pc lb lc), rowI (some ⟨bx3, 0, none⟩) 1 26 5 (buCells b sb sc eb ec tb tc), oI bx2 29 (laCells l pb pc lb lc), oI bx1 26 (buCells b sb sc eb ec tb tc)] ++ ((itms 3 qs3) ++ (itms 3 qs2))), (by exact Sub.d (.k (.k (.k (.k (.k (.k (.k (.k (.k (.k (.k (.k (.k (.k .rf))))))))))))))), bx12, c13, ?_, by omega, ⟨rfl, rfl, rfl, rfl, rfl, rfl, rfl, rfl, rfl, rfl, rfl, rfl, rfl, rfl, rfl, rfl, rfl, trivial⟩⟩
      rw [pickI_yes (P := (someP b x.fr)) (k := k) (by unfold someP; simp_all), show ints (pickI (someP b x.fr) k ++ [((k : Nat) : Int)]) = ints (pickI (someP b x.fr) k) ++ [.int .i64 ((k : Nat) : Int)] from List.map_append, show (pickI (someP b x.fr) k ++ [((k : Nat) : Int)]).length = (pickI (someP b x.fr) k).length + 1 by simp] <;> rfl
    refine TO.quiet (QT.toB (q_move rfl) (decide_eq_false hs103)) ?_
    refine TO.guarded rfl rfl rfl (LT.of_quiet rfl rfl (q_move rfl) ?_)
    refine TO.guarded rfl rfl rfl (LT.of_quiet rfl rfl (q_fieldAddr Try.underlying54 rfl inf3 rfl rfl) ?_)
    refine TO.guarded rfl rfl rfl (LT.of_quiet rfl rfl (q_load_box 5 Try.underlying3 rfl rfl rfl rfl) ?_)
    refine TO.guarded rfl rfl rfl (LT.of_quiet rfl rfl (q_eql rfl rfl) ?_)
    refine TO.quiet (q_pick0 rfl rfl) ?_
    refine TO.nil ?_
    refine T.condP rfl (fun hc => ?_) (fun hc => ?_)
    · refine T.region ?_
      refine TO.quiet (q_fieldAddr Try.underlying26 rfl inf22 rfl rfl) (TO.quiet (q_load_box 1 Try.underlying22 rfl rfl rfl rfl) (TO.quiet (q_move rfl) ?_))
      refine TO.loud rfl (l_build1 (v := .int .i64 (k : Int)) Try.underlying22 inf3 rfl rfl rfl (fun bx14 => ?_))
      refine TO.loud rfl (l_append 1 Try.underlying22 Try.underlying22 inf3 rfl rfl rfl rfl (by simp) (by decide) (Src.row (j := 0) rfl (by simp)) (by simp [oneB]) (by omega) (by decide) (by decide) (fun bx15 c16 => ?_))
      refine TO.quiet (q_fieldAddr Try.underlying26 rfl inf22 rfl rfl) ?_
      refine TO.loud rfl (l_store_box (v := (.slice bx15 (((pickI (someP b x.fr) k).length) + 1) c16)) (vs := [(.slice bx15 (((pickI (someP b x.fr) k).length) + 1) c16)]) 2 inf22 rfl rfl rfl rfl rfl rfl (by simp [putL]) ?_)
      refine TO.nil (T.region ?_)
      refine TO.quiet (q_move rfl) (TO.quiet (q_addN (a := k) (b := 1) rfl rfl (by omega)) (TO.quiet (q_assign rfl) ?_))
      refine TO.nil ?_
      refine ⟨k + 1, by omega, ([rowI bx15 c16 3 1 ((ints (pickI (someP b x.fr) k)) ++ [.int .i64 (k : Int)]), oI bx10 26 [(.int .i64 b.vars), (.int .i64 b.states), (.slice bx15 (((pickI (someP b x.fr) k).length) + 1) c16), (.slice eb3 b.edges.length ec3), (.slice tb3 b.sets.length tc3)], rowI sb3 sc3 3 1 (ints b.start), rowI eb3 ec3 54 4 (edsC b.edges), rowI tb3 tc3 22 1 (vals qs3), oI bx6 54 [.int .i64 x.fr, .int .i64 x.to, .int .u8 ((x.pos : Nat) : Int), .int .u8 ((x.neg : Nat) : Int)], oI bx5 26 [(.int .i64 b.vars), (.int .i64 b.states), (.slice sb2 b.start.length sc2), (.slice bx8 ((b.edges ++ [x]).length) c9), (.slice tb2 b.sets.length tc2)], rowI sb2 sc2 3 1 (ints b.start), rowI bx8 c9 54 4 (edsC (b.edges ++ [x])), rowI tb2 tc2 22 1 (vals qs2), rowI (some ⟨bx4, 0, none⟩) 1 29 2 (laCells l pb pc lb lc), rowI (some ⟨bx3, 0, none⟩) 1 26 5 (buCells b sb sc eb ec tb tc), oI bx2 29 (laCells l pb pc lb lc), oI bx1 26 (buCells b sb sc eb ec tb tc)] ++ ((itms 3 qs3) ++ (itms 3 qs2))), (by exact Sub.d (.k (.k (.k (.k (.k (.k (.k (.k (.k (.k (.k (.k (.k (.k .rf))))))))))))))), bx15, c16, ?_, by omega, ⟨rfl, rfl, rfl, rfl, rfl, rfl, rfl, rfl, rfl, rfl, rfl, rfl, rfl, rfl, rfl, rfl, rfl, trivial⟩⟩
      rw [pickI_yes (P := (someP b x.fr)) (k := k) (by unfold someP; simp_all), show ints (pickI (someP b x.fr) k ++ [((k : Nat) : Int)]) = ints (pickI (someP b x.fr) k) ++ [.int .i64 ((k : Nat) : Int)] from List.map_append, show (pickI (someP b x.fr) k ++ [((k : Nat) : Int)]).length = (pickI (someP b x.fr) k).length + 1 by simp] <;> rfl
    refine T.skip (T.region ?_)
    refine TO.quiet (q_move rfl) (TO.quiet (q_addN (a := k) (b := 1) rfl rfl (by omega)) (TO.quiet (q_assign rfl) ?_))
    refine TO.nil ?_
    refine ⟨k + 1, by omega, ([rowI pb1 pc1 3 1 (ints (pickI (someP b x.fr) k)), oI bx10 26 [(.int .i64 b.vars), (.int .i64 b.states), (.slice pb1 ((pickI (someP b x.fr) k).length) pc1), (.slice eb3 b.edges.length ec3), (.slice tb3 b.sets.length tc3)], rowI sb3 sc3 3 1 (ints b.start), rowI eb3 ec3 54 4 (edsC b.edges), rowI tb3 tc3 22 1 (vals qs3), oI bx6 54 [.int .i64 x.fr, .int .i64 x.to, .int .u8 ((x.pos : Nat) : Int), .int .u8 ((x.neg : Nat) : Int)], oI bx5 26 [(.int .i64 b.vars), (.int .i64 b.states), (.slice sb2 b.start.length sc2), (.slice bx8 ((b.edges ++ [x]).length) c9), (.slice tb2 b.sets.length tc2)], rowI sb2 sc2 3 1 (ints b.start), rowI bx8 c9 54 4 (edsC (b.edges ++ [x])), rowI tb2 tc2 22 1 (vals qs2), rowI (some ⟨bx4, 0, none⟩) 1 29 2 (laCells l pb pc lb lc), rowI (some ⟨bx3, 0, none⟩) 1 26 5 (buCells b sb sc eb ec tb tc), oI bx2 29 (laCells l pb pc lb lc), oI bx1 26 (buCells b sb sc eb ec tb tc)] ++ ((itms 3 qs3) ++ (itms 3 qs2))), (by exact Sub.rf), pb1, pc1, ?_, by omega, ⟨rfl, rfl, rfl, rfl, rfl, rfl, rfl, rfl, rfl, rfl, rfl, rfl, rfl, rfl, rfl, rfl, rfl, trivial⟩⟩
    rw [pickI_no (P := (someP b x.fr)) (k := k) (by unfold someP; simp_all)]
  have hge96 : ¬ k < b.states.toNat := by omega
  refine T.exit ?_
  refine T.seq ?_
  have hke : k = b.states.toNat := by omega
  have hvs : ValidB { b with start := pickI (someP b x.fr) k } := by rw [hke]; exact hv.starts _
  have hsub : ∀ s ∈ b.start, s ∈ pickI (someP b x.fr) k := fun s hs => by
    have h9 := hv.st s hs
    exact mem_pickI.2 ⟨s.toNat, by omega, by unfold someP; rw [Int.toNat_of_nonneg h9.1, decide_eq_true hs]; rfl, by omega⟩
  refine T.region ?_
  refine TO.quiet (q_load_boxAgg 13 Try.underlying26 rfl inf26 rfl rfl rfl) ?_
  have hk116 := fun (w1 : World) (hI : Inv w ([rowI pb1 pc1 3 1 (ints (pickI (someP b x.fr) k)), oI bx10 26 [(.int .i64 b.vars), (.int .i64 b.states), (.slice pb1 ((pickI (someP b x.fr) k).length) pc1), (.slice eb3 b.edges.length ec3), (.slice tb3 b.sets.length tc3)], rowI sb3 sc3 3 1 (ints b.start), rowI eb3 ec3 54 4 (edsC b.edges), rowI tb3 tc3 22 1 (vals qs3), oI bx6 54 [.int .i64 x.fr, .int .i64 x.to, .int .u8 ((x.pos : Nat) : Int), .int .u8 ((x.neg : Nat) : Int)], oI bx5 26 [(.int .i64 b.vars), (.int .i64 b.states), (.slice sb2 b.start.length sc2), (.slice bx8 ((b.edges ++ [x]).length) c9), (.slice tb2 b.sets.length tc2)], rowI sb2 sc2 3 1 (ints b.start), rowI bx8 c9 54 4 (edsC (b.edges ++ [x])), rowI tb2 tc2 22 1 (vals qs2), rowI (some ⟨bx4, 0, none⟩) 1 29 2 (laCells l pb pc lb lc), rowI (some ⟨bx3, 0, none⟩) 1 26 5 (buCells b sb sc eb ec tb tc), oI bx2 29 (laCells l pb pc lb lc), oI bx1 26 (buCells b sb sc eb ec tb tc)] ++ ((itms 3 qs3) ++ (itms 3 qs2))) w1) => copyBuchi w1 b sb eb tb sc ec tc vs (hI.bu h) hB
  refine TO.loud rfl (l_call ent15 (CallT.of_pure hk116) rfl ?_)
  clear hk116
  rintro vr O' ⟨N, rfl, sb4, eb4, tb4, sc4, ec4, tc4, qs4, rfl, rfl, hqs4⟩
  refine TO.sub (O' := ([rowI sb4 sc4 3 1 (ints b.start), rowI eb4 ec4 54 4 (edsC b.edges), rowI tb4 tc4 22 1 (vals qs4), rowI pb1 pc1 3 1 (ints (pickI (someP b x.fr) k)), oI bx10 26 [(.int .i64 b.vars), (.int .i64 b.states), (.slice pb1 ((pickI (someP b x.fr) k).length) pc1), (.slice eb3 b.edges.length ec3), (.slice tb3 b.sets.length tc3)], rowI sb3 sc3 3 1 (ints b.start), rowI eb3 ec3 54 4 (edsC b.edges), rowI tb3 tc3 22 1 (vals qs3), oI bx6 54 [.int .i64 x.fr, .int .i64 x.to, .int .u8 ((x.pos : Nat) : Int), .int .u8 ((x.neg : Nat) : Int)], oI bx5 26 [(.int .i64 b.vars), (.int .i64 b.states), (.slice sb2 b.start.length sc2), (.slice bx8 ((b.edges ++ [x]).length) c9), (.slice tb2 b.sets.length tc2)], rowI sb2 sc2 3 1 (ints b.start), rowI bx8 c9 54 4 (edsC (b.edges ++ [x])), rowI tb2 tc2 22 1 (vals qs2), rowI (some ⟨bx4, 0, none⟩) 1 29 2 (laCells l pb pc lb lc), rowI (some ⟨bx3, 0, none⟩) 1 26 5 (buCells b sb sc eb ec tb tc), oI bx2 29 (laCells l pb pc lb lc), oI bx1 26 (buCells b sb sc eb ec tb tc)] ++ ((itms 3 qs4) ++ ((itms 3 qs3) ++ (itms 3 qs2))))) (Sub.cnt [] (by intro a; simp only [itms, oI, List.set_cons_zero, List.set_cons_succ, putL, List.cons_append, List.nil_append, List.append_nil, List.append_assoc, List.map_append, List.map_cons, List.map_nil, cnt_append, cnt_cons, cnt_nil, buCells, laCells] <;> omega)) ?_
  refine TO.loud rfl (l_alloc inf26 rfl (fun bx17 => ?_))
  refine TO.loud rfl (l_store_box (v := (.agg (buCells b sb4 sc4 eb4 ec4 tb4 tc4).toArray)) (vs := (buCells b sb4 sc4 eb4 ec4 tb4 tc4)) 0 inf26 rfl rfl rfl rfl rfl rfl (by simp [putL]) ?_)
  refine TO.nil (T.seq (T.region ?_))
  refine TO.quiet (q_assign rfl) ?_
  refine TO.nil (T.seq (T.seq (T.region ?_)))
  refine TO.quiet (q_assign rfl) ?_
  refine TO.nil (T.block ?_)
  refine T.nilRow 3 1 ?_
  refine T.loopS (fun (k5 : Nat) ρ O => ∃ (xs : List Int) (xb : Option Addr) (xc : Nat), O = ([rowI xb xc 3 1 (ints xs), oI bx17 26 (buCells b sb4 sc4 eb4 ec4 tb4 tc4), rowI sb4 sc4 3 1 (ints b.start), rowI eb4 ec4 54 4 (edsC b.edges), rowI tb4 tc4 22 1 (vals qs4), rowI pb1 pc1 3 1 (ints (pickI (someP b x.fr) k)), oI bx10 26 [(.int .i64 b.vars), (.int .i64 b.states), (.slice pb1 ((pickI (someP b x.fr) k).length) pc1), (.slice eb3 b.edges.length ec3), (.slice tb3 b.sets.length tc3)], rowI sb3 sc3 3 1 (ints b.start), rowI eb3 ec3 54 4 (edsC b.edges), rowI tb3 tc3 22 1 (vals qs3), oI bx6 54 [.int .i64 x.fr, .int .i64 x.to, .int .u8 ((x.pos : Nat) : Int), .int .u8 ((x.neg : Nat) : Int)], oI bx5 26 [(.int .i64 b.vars), (.int .i64 b.states), (.slice sb2 b.start.length sc2), (.slice bx8 ((b.edges ++ [x]).length) c9), (.slice tb2 b.sets.length tc2)], rowI sb2 sc2 3 1 (ints b.start), rowI bx8 c9 54 4 (edsC (b.edges ++ [x])), rowI tb2 tc2 22 1 (vals qs2), rowI (some ⟨bx4, 0, none⟩) 1 29 2 (laCells l pb pc lb lc), rowI (some ⟨bx3, 0, none⟩) 1 26 5 (buCells b sb sc eb ec tb tc), oI bx2 29 (laCells l pb pc lb lc), oI bx1 26 (buCells b sb sc eb ec tb tc)] ++ ((itms 3 qs4) ++ ((itms 3 qs3) ++ (itms 3 qs2)))) ∧ k5 ≤ b.states.toNat ∧ xs.length ≤ k5 ∧ Heads [(0, (.agg (buCells b sb sc eb ec tb tc).toArray)), (1, (.agg (laCells l pb pc lb lc).toArray)), (2, .int .u8 ((fr : Nat) : Int)), (3, .int .u8 ((to : Nat) : Int)), (4, .int .u8 ((ps : Nat) : Int)), (5, .int .u8 ((ng : Nat) : Int)), (6, .int .u8 ((st : Nat) : Int)), (7, (.pointer (some ⟨bx1, 0, none⟩))), (8, (.pointer (some ⟨bx2, 0, none⟩))), (14, .bool false), (15, .bool (accV b l)), (16, .int .i64 ((accE b l : Nat) : Int)), (17, (.pointer (some ⟨bx5, 0, none⟩))), (18, .int .u8 (((1 * 2 ^ vn) - 1 : Nat) : Int)), (19, (.pointer (some ⟨bx6, 0, none⟩))), (20, (.pointer (some ⟨bx10, 0, none⟩))), (21, .int .i64 (k : Int)), (22, (.pointer (some ⟨bx17, 0, none⟩))), (23, (.slice xb xs.length xc)), (24, .int .i64 (k5 : Int))] ρ) (fun k5 => b.states.toNat - k5) 0 ?_ ?_
  · exact ⟨[], none, 0, rfl, Nat.zero_le _, Nat.zero_le _, ⟨rfl, rfl, rfl, rfl, rfl, rfl, rfl, rfl, rfl, rfl, rfl, rfl, rfl, rfl, rfl, rfl, rfl, rfl, rfl, rfl, trivial⟩⟩
  rintro k5 ρ O ⟨xs, xb, xc, rfl, hk5, hxl, hH⟩
  obtain ⟨ρ0, rfl⟩ := hH.elim
  clear hH
  refine T.seq (T.seq (T.region ?_))
  refine TO.quiet (q_move rfl) (TO.quiet (q_fieldAddr Try.underlying26 rfl inf3 rfl rfl) (TO.quiet (QT.cast (q_load_box 18 Try.underlying3 rfl rfl rfl rfl) (v' := .int .i64 ((b.states.toNat : Nat) : Int)) (by show Value.int _ _ = _; rw [Int.toNat_of_nonneg hv0])) (TO.quiet (q_lss rfl rfl) ?_)))
  refine TO.nil ?_
  refine T.condP rfl (fun hc => ?_) (fun hc => ?_)
  · have hlt120 : k5 < b.states.toNat := by omega
    refine T.skip (T.seq (T.block (T.seq (T.region ?_))))
    refine TO.quiet (q_move rfl) (TO.quiet (q_move rfl) (TO.quiet (q_remN (a := k5) (b := 8) rfl rfl (by omega)) (TO.quiet (q_conv_id Try.underlying3 Try.underlying52 rfl (by first | rfl | exact wrap64_id ⟨by omega, by omega⟩ | exact wrap8 (by omega) | exact wrapU64 (by omega))) ?_)))
    refine TO.quiet (q_shr (a := st) (b := (k5 % 8)) .u8 rfl rfl (by show _ < 256; omega) (by show _ ≤ 8; omega)) (TO.quiet (q_and (a := (st >>> (k5 % 8))) (b := 1) .u8 rfl rfl (by show _ < 256; rw [Nat.shiftRight_eq_div_pow]; have := Nat.div_le_self st (2 ^ (k5 % 8)); omega) (by show _ < 256; omega)) (TO.quiet (q_eql rfl rfl) ?_))
    refine TO.nil ?_
    refine T.condP rfl (fun hc => ?_) (fun hc => ?_)
    · have hlt129 : (st >>> (k5 % 8)) &&& 1 = 1 := by omega
      refine T.region ?_
      refine TO.quiet (q_move rfl) (TO.quiet (q_move rfl) ?_)
      refine TO.loud rfl (l_build1 (v := .int .i64 (k5 : Int)) Try.underlying22 inf3 rfl rfl rfl (fun bx18 => ?_))
      refine TO.loud rfl (l_append 1 Try.underlying22 Try.underlying22 inf3 rfl rfl rfl rfl (by simp) (by decide) (Src.row (j := 0) rfl (by simp)) (by simp [oneB]) (by omega) (by decide) (by decide) (fun bx19 c20 => ?_))
      refine TO.quiet (q_assign rfl) ?_
      refine TO.nil (T.region ?_)
      refine TO.quiet (q_move rfl) (TO.quiet (q_addN (a := k5) (b := 1) rfl rfl (by omega)) (TO.quiet (q_assign rfl) ?_))
      refine TO.nil ?_
      refine ⟨k5 + 1, by omega, ([rowI bx19 c20 3 1 ((ints xs) ++ [.int .i64 (k5 : Int)]), oI bx17 26 (buCells b sb4 sc4 eb4 ec4 tb4 tc4), rowI sb4 sc4 3 1 (ints b.start), rowI eb4 ec4 54 4 (edsC b.edges), rowI tb4 tc4 22 1 (vals qs4), rowI pb1 pc1 3 1 (ints (pickI (someP b x.fr) k)), oI bx10 26 [(.int .i64 b.vars), (.int .i64 b.states), (.slice pb1 ((pickI (someP b x.fr) k).length) pc1), (.slice eb3 b.edges.length ec3), (.slice tb3 b.sets.length tc3)], rowI sb3 sc3 3 1 (ints b.start), rowI eb3 ec3 54 4 (edsC b.edges), rowI tb3 tc3 22 1 (vals qs3), oI bx6 54 [.int .i64 x.fr, .int .i64 x.to, .int .u8 ((x.pos : Nat) : Int), .int .u8 ((x.neg : Nat) : Int)], oI bx5 26 [(.int .i64 b.vars), (.int .i64 b.states), (.slice sb2 b.start.length sc2), (.slice bx8 ((b.edges ++ [x]).length) c9), (.slice tb2 b.sets.length tc2)], rowI sb2 sc2 3 1 (ints b.start), rowI bx8 c9 54 4 (edsC (b.edges ++ [x])), rowI tb2 tc2 22 1 (vals qs2), rowI (some ⟨bx4, 0, none⟩) 1 29 2 (laCells l pb pc lb lc), rowI (some ⟨bx3, 0, none⟩) 1 26 5 (buCells b sb sc eb ec tb tc), oI bx2 29 (laCells l pb pc lb lc), oI bx1 26 (buCells b sb sc eb ec tb tc)] ++ ((itms 3 qs4) ++ ((itms 3 qs3) ++ (itms 3 qs2)))), (by exact Sub.d (.k (.k (.k (.k (.k (.k (.k (.k (.k (.k (.k (.k (.k (.k (.k (.k (.k (.k (.k .rf)))))))))))))))))))), xs ++ [((k5 : Nat) : Int)], bx19, c20, ?_, by omega, by simp; omega, ⟨rfl, rfl, rfl, rfl, rfl, rfl, rfl, rfl, rfl, rfl, rfl, rfl, rfl, rfl, rfl, rfl, rfl, rfl, (by rw [List.length_append]; rfl), rfl, trivial⟩⟩
      rw [show ints (xs ++ [((k5 : Nat) : Int)]) = ints xs ++ [.int .i64 ((k5 : Nat) : Int)] from List.map_append]
    have hge129 : ¬ (st >>> (k5 % 8)) &&& 1 = 1 := by omega
    refine T.skip (T.region ?_)
    refine TO.quiet (q_move rfl) (TO.quiet (q_addN (a := k5) (b := 1) rfl rfl (by omega)) (TO.quiet (q_assign rfl) ?_))
    refine TO.nil ?_
    exact ⟨k5 + 1, by omega, ([rowI xb xc 3 1 (ints xs), oI bx17 26 (buCells b sb4 sc4 eb4 ec4 tb4 tc4), rowI sb4 sc4 3 1 (ints b.start), rowI eb4 ec4 54 4 (edsC b.edges), rowI tb4 tc4 22 1 (vals qs4), rowI pb1 pc1 3 1 (ints (pickI (someP b x.fr) k)), oI bx10 26 [(.int .i64 b.vars), (.int .i64 b.states), (.slice pb1 ((pickI (someP b x.fr) k).length) pc1), (.slice eb3 b.edges.length ec3), (.slice tb3 b.sets.length tc3)], rowI sb3 sc3 3 1 (ints b.start), rowI eb3 ec3 54 4 (edsC b.edges), rowI tb3 tc3 22 1 (vals qs3), oI bx6 54 [.int .i64 x.fr, .int .i64 x.to, .int .u8 ((x.pos : Nat) : Int), .int .u8 ((x.neg : Nat) : Int)], oI bx5 26 [(.int .i64 b.vars), (.int .i64 b.states), (.slice sb2 b.start.length sc2), (.slice bx8 ((b.edges ++ [x]).length) c9), (.slice tb2 b.sets.length tc2)], rowI sb2 sc2 3 1 (ints b.start), rowI bx8 c9 54 4 (edsC (b.edges ++ [x])), rowI tb2 tc2 22 1 (vals qs2), rowI (some ⟨bx4, 0, none⟩) 1 29 2 (laCells l pb pc lb lc), rowI (some ⟨bx3, 0, none⟩) 1 26 5 (buCells b sb sc eb ec tb tc), oI bx2 29 (laCells l pb pc lb lc), oI bx1 26 (buCells b sb sc eb ec tb tc)] ++ ((itms 3 qs4) ++ ((itms 3 qs3) ++ (itms 3 qs2)))), (by exact Sub.rf), xs, xb, xc, rfl, by omega, by omega, ⟨rfl, rfl, rfl, rfl, rfl, rfl, rfl, rfl, rfl, rfl, rfl, rfl, rfl, rfl, rfl, rfl, rfl, rfl, rfl, rfl, trivial⟩⟩
  have hge120 : ¬ k5 < b.states.toNat := by omega
  refine T.exit ?_
  refine T.seq (T.region ?_)
  refine TO.quiet (q_fieldAddr Try.underlying26 rfl inf24 rfl rfl) (TO.quiet (q_load_box 1 Try.underlying24 rfl rfl rfl rfl) (TO.quiet (q_move rfl) ?_))
  refine TO.loud rfl (l_build1 (v := (.slice xb xs.length xc)) Try.underlying24 inf22 rfl rfl rfl (fun bx21 => ?_))
  refine TO.loud rfl (l_append 5 Try.underlying24 Try.underlying24 inf22 rfl rfl rfl rfl (by have h9 := congrArg List.length hqs4; simp [nums] at h9; simp [vals]; omega) (by decide) (Src.row (j := 0) rfl (by simp)) (by simp [oneB]) (by omega) (by decide) (by decide) (fun bx22 c23 => ?_))
  refine TO.quiet (q_fieldAddr Try.underlying26 rfl inf24 rfl rfl) ?_
  refine TO.loud rfl (l_store_box (v := (.slice bx22 (b.sets.length + 1) c23)) (vs := [(.slice bx22 (b.sets.length + 1) c23)]) 2 inf24 rfl rfl rfl rfl rfl rfl (by simp [putL]) ?_)
  refine TO.nil (T.seq (T.seq ?_))
  refine T.sub (O' := ([rowI (some ⟨bx21, 0, none⟩) 1 22 1 [(.slice xb xs.length xc)], rowI xb xc 3 1 (ints xs), oI bx17 26 [(.int .i64 b.vars), (.int .i64 b.states), (.slice sb4 b.start.length sc4), (.slice eb4 b.edges.length ec4), (.slice bx22 ((b.sets ++ [xs]).length) c23)], rowI sb4 sc4 3 1 (ints b.start), rowI eb4 ec4 54 4 (edsC b.edges), rowI bx22 c23 22 1 (vals (qs4 ++ [⟨xb, xc, xs⟩])), rowI pb1 pc1 3 1 (ints (pickI (someP b x.fr) k)), oI bx10 26 [(.int .i64 b.vars), (.int .i64 b.states), (.slice pb1 ((pickI (someP b x.fr) k).length) pc1), (.slice eb3 b.edges.length ec3), (.slice tb3 b.sets.length tc3)], rowI sb3 sc3 3 1 (ints b.start), rowI eb3 ec3 54 4 (edsC b.edges), rowI tb3 tc3 22 1 (vals qs3), oI bx6 54 [.int .i64 x.fr, .int .i64 x.to, .int .u8 ((x.pos : Nat) : Int), .int .u8 ((x.neg : Nat) : Int)], oI bx5 26 [(.int .i64 b.vars), (.int .i64 b.states), (.slice sb2 b.start.length sc2), (.slice bx8 ((b.edges ++ [x]).length) c9), (.slice tb2 b.sets.length tc2)], rowI sb2 sc2 3 1 (ints b.start), rowI bx8 c9 54 4 (edsC (b.edges ++ [x])), rowI tb2 tc2 22 1 (vals qs2), rowI (some ⟨bx4, 0, none⟩) 1 29 2 (laCells l pb pc lb lc), rowI (some ⟨bx3, 0, none⟩) 1 26 5 (buCells b sb sc eb ec tb tc), oI bx2 29 (laCells l pb pc lb lc), oI bx1 26 (buCells b sb sc eb ec tb tc)] ++ ((itms 3 qs4) ++ ((itms 3 qs3) ++ (itms 3 qs2))))) (by rw [show vals (qs4 ++ [⟨xb, xc, xs⟩]) = (vals qs4) ++ [(.slice xb xs.length xc)] from (by unfold vals; rw [List.map_append]; rfl), List.length_append]; exact Sub.of (List.Sublist.refl _)) ?_
  refine T.region ?_
  refine TO.quiet (q_move rfl) ?_
  by_cases hs141 : (accV b l) = true
  · refine TO.quiet (QT.toB (q_move rfl) (hs141)) ?_
    refine TO.guarded rfl rfl rfl (LT.of_quiet rfl rfl (q_load_boxAgg 12 Try.underlying26 rfl inf26 rfl rfl rfl) ?_)
    refine TO.guarded rfl rfl rfl (LT.of_quiet rfl rfl (q_load_boxAgg 18 Try.underlying29 rfl inf29 rfl rfl rfl) ?_)
    have hk144 := fun (w1 : World) (hI : Inv w ([rowI (some ⟨bx21, 0, none⟩) 1 22 1 [(.slice xb xs.length xc)], rowI xb xc 3 1 (ints xs), oI bx17 26 [(.int .i64 b.vars), (.int .i64 b.states), (.slice sb4 b.start.length sc4), (.slice eb4 b.edges.length ec4), (.slice bx22 ((b.sets ++ [xs]).length) c23)], rowI sb4 sc4 3 1 (ints b.start), rowI eb4 ec4 54 4 (edsC b.edges), rowI bx22 c23 22 1 (vals (qs4 ++ [⟨xb, xc, xs⟩])), rowI pb1 pc1 3 1 (ints (pickI (someP b x.fr) k)), oI bx10 26 [(.int .i64 b.vars), (.int .i64 b.states), (.slice pb1 ((pickI (someP b x.fr) k).length) pc1), (.slice eb3 b.edges.length ec3), (.slice tb3 b.sets.length tc3)], rowI sb3 sc3 3 1 (ints b.start), rowI eb3 ec3 54 4 (edsC b.edges), rowI tb3 tc3 22 1 (vals qs3), oI bx6 54 [.int .i64 x.fr, .int .i64 x.to, .int .u8 ((x.pos : Nat) : Int), .int .u8 ((x.neg : Nat) : Int)], oI bx5 26 [(.int .i64 b.vars), (.int .i64 b.states), (.slice sb2 b.start.length sc2), (.slice bx8 ((b.edges ++ [x]).length) c9), (.slice tb2 b.sets.length tc2)], rowI sb2 sc2 3 1 (ints b.start), rowI bx8 c9 54 4 (edsC (b.edges ++ [x])), rowI tb2 tc2 22 1 (vals qs2), rowI (some ⟨bx4, 0, none⟩) 1 29 2 (laCells l pb pc lb lc), rowI (some ⟨bx3, 0, none⟩) 1 26 5 (buCells b sb sc eb ec tb tc), oI bx2 29 (laCells l pb pc lb lc), oI bx1 26 (buCells b sb sc eb ec tb tc)] ++ ((itms 3 qs4) ++ ((itms 3 qs3) ++ (itms 3 qs2)))) w1) => (by
      have h9 := acceptsL w1 ({ b with edges := b.edges ++ [x] }) sb2 bx8 tb2 sc2 c9 tc2 (vals qs2) (show BuAt w1 ({ b with edges := b.edges ++ [x] }) sb2 bx8 tb2 (vals qs2) from ⟨(hI.slOf (List.mem_of_getElem? (i := 13) rfl)), (hI.slOf (List.mem_of_getElem? (i := 14) rfl)), (hI.slOf (List.mem_of_getElem? (i := 15) rfl)), hqs2 ▸ Inv.recs (E := 3) hI (fun q hq => List.mem_append_right _ (by simp only [itms, List.mem_append, List.mem_map]; first | exact .inl ⟨q, hq, rfl⟩ | exact .inr ⟨q, hq, rfl⟩ | exact .inr (.inl ⟨q, hq, rfl⟩) | exact .inr (.inr ⟨q, hq, rfl⟩)))⟩) (show BuB { b with edges := b.edges ++ [x] } from ⟨hB.st, (by show (b.edges ++ [_]).length ≤ _; simp; omega), hB.se, hB.sr, (fun e he => by
        rcases List.mem_append.1 (show e ∈ b.edges ++ [_] from he) with h8 | h8
        · exact hB.pn e h8
        · rw [List.mem_singleton] at h8; subst h8; exact hmx)⟩) l pb lb pc lc (hI.la h2) hL (by simp; omega)
      rw [show (accV ({ b with edges := b.edges ++ [x] }) l && decide (accE ({ b with edges := b.edges ++ [x] }) l = 0)) = true by rw [accV_more (b := b) (c := { b with edges := b.edges ++ [x] }) rfl hvm (fun _ h => h) (fun _ h => List.mem_append_left _ h) (fun _ h => h) hs141, accE_of hvm hcl]; rfl] at h9; exact h9)
    refine TO.guarded rfl rfl rfl (l_call ent30 (CallT.of_pure hk144) rfl ?_)
    clear hk144
    rintro vr O' ⟨N, rfl, rfl, rfl⟩
    refine TO.guarded rfl rfl rfl (LT.of_quiet rfl rfl (q_not rfl) ?_)
    refine TO.guarded rfl rfl rfl (LT.of_quiet rfl rfl (q_move rfl) ?_)
    refine TO.guarded rfl rfl rfl (LT.of_quiet rfl rfl (q_load_boxAgg 7 Try.underlying26 rfl inf26 rfl rfl rfl) ?_)
    refine TO.guarded rfl rfl rfl (LT.of_quiet rfl rfl (q_load_boxAgg 18 Try.underlying29 rfl inf29 rfl rfl rfl) ?_)
    have hk149 := fun (w1 : World) (hI : Inv w ([rowI (some ⟨bx21, 0, none⟩) 1 22 1 [(.slice xb xs.length xc)], rowI xb xc 3 1 (ints xs), oI bx17 26 [(.int .i64 b.vars), (.int .i64 b.states), (.slice sb4 b.start.length sc4), (.slice eb4 b.edges.length ec4), (.slice bx22 ((b.sets ++ [xs]).length) c23)], rowI sb4 sc4 3 1 (ints b.start), rowI eb4 ec4 54 4 (edsC b.edges), rowI bx22 c23 22 1 (vals (qs4 ++ [⟨xb, xc, xs⟩])), rowI pb1 pc1 3 1 (ints (pickI (someP b x.fr) k)), oI bx10 26 [(.int .i64 b.vars), (.int .i64 b.states), (.slice pb1 ((pickI (someP b x.fr) k).length) pc1), (.slice eb3 b.edges.length ec3), (.slice tb3 b.sets.length tc3)], rowI sb3 sc3 3 1 (ints b.start), rowI eb3 ec3 54 4 (edsC b.edges), rowI tb3 tc3 22 1 (vals qs3), oI bx6 54 [.int .i64 x.fr, .int .i64 x.to, .int .u8 ((x.pos : Nat) : Int), .int .u8 ((x.neg : Nat) : Int)], oI bx5 26 [(.int .i64 b.vars), (.int .i64 b.states), (.slice sb2 b.start.length sc2), (.slice bx8 ((b.edges ++ [x]).length) c9), (.slice tb2 b.sets.length tc2)], rowI sb2 sc2 3 1 (ints b.start), rowI bx8 c9 54 4 (edsC (b.edges ++ [x])), rowI tb2 tc2 22 1 (vals qs2), rowI (some ⟨bx4, 0, none⟩) 1 29 2 (laCells l pb pc lb lc), rowI (some ⟨bx3, 0, none⟩) 1 26 5 (buCells b sb sc eb ec tb tc), oI bx2 29 (laCells l pb pc lb lc), oI bx1 26 (buCells b sb sc eb ec tb tc)] ++ ((itms 3 qs4) ++ ((itms 3 qs3) ++ (itms 3 qs2)))) w1) => (by
      have h9 := acceptsL w1 ({ b with start := pickI (someP b x.fr) k }) pb1 eb3 tb3 pc1 ec3 tc3 (vals qs3) (show BuAt w1 ({ b with start := pickI (someP b x.fr) k }) pb1 eb3 tb3 (vals qs3) from ⟨(hI.slOf (List.mem_of_getElem? (i := 6) rfl)), (hI.slOf (List.mem_of_getElem? (i := 9) rfl)), (hI.slOf (List.mem_of_getElem? (i := 10) rfl)), hqs3 ▸ Inv.recs (E := 3) hI (fun q hq => List.mem_append_right _ (by simp only [itms, List.mem_append, List.mem_map]; first | exact .inl ⟨q, hq, rfl⟩ | exact .inr ⟨q, hq, rfl⟩ | exact .inr (.inl ⟨q, hq, rfl⟩) | exact .inr (.inr ⟨q, hq, rfl⟩)))⟩) (show BuB { b with start := pickI (someP b x.fr) k } from ⟨(by show (pickI _ _).length ≤ _; have := pickI_len (someP b x.fr) k; omega), hB.ed, hB.se, hB.sr, hB.pn⟩) l pb lb pc lc (hI.la h2) hL (by show b.edges.length ≤ 5000; omega)
      rw [show (accV ({ b with start := pickI (someP b x.fr) k }) l && decide (accE ({ b with start := pickI (someP b x.fr) k }) l = 0)) = true by rw [accV_more (b := b) (c := { b with start := pickI (someP b x.fr) k }) rfl hvs hsub (fun _ h => h) (fun _ h => h) hs141, accE_of hvs hcl]; rfl] at h9; exact h9)
    refine TO.guarded rfl rfl rfl (l_call ent30 (CallT.of_pure hk149) rfl ?_)
    clear hk149
    rintro vr O' ⟨N, rfl, rfl, rfl⟩
    refine TO.guarded rfl rfl rfl (LT.of_quiet rfl rfl (q_not rfl) ?_)
    refine TO.guarded rfl rfl rfl (LT.of_quiet rfl rfl (q_pick0 rfl rfl) ?_)
    refine TO.quiet (q_pick1 rfl rfl) ?_
    refine TO.nil ?_
    refine T.cond0 rfl ?_
    refine T.skip (T.seq (T.region ?_))
    refine TO.quiet (q_move rfl) ?_
    by_cases hs154 : (accV b l) = true
    · refine TO.quiet (QT.toB (q_move rfl) (hs154)) ?_
      refine TO.passed rfl rfl ?_
      refine TO.passed rfl rfl ?_
      refine TO.passed rfl rfl ?_
      refine TO.passed rfl rfl ?_
      refine TO.quiet (q_pick1 rfl rfl) (TO.quiet (q_move rfl) ?_)
      refine TO.passed rfl rfl ?_
      refine TO.passed rfl rfl ?_
      refine TO.passed rfl rfl ?_
      refine TO.passed rfl rfl ?_
      refine TO.quiet (q_pick1 rfl rfl) (TO.quiet (q_assign rfl) ?_)
      refine TO.nil (T.ret (Res.drop ?_))
      refine Res.one (.bool true) Try.results5 rfl ?_
      exact ⟨[], (by exact Sub.z), rfl, rfl⟩
    refine TO.quiet (QT.toB (q_move rfl) (Bool.eq_false_iff.2 hs154)) ?_
    refine TO.guarded rfl rfl rfl (LT.of_quiet rfl rfl (q_fieldAddr Try.underlying26 rfl inf24 rfl rfl) ?_)
    refine TO.guarded rfl rfl rfl (LT.of_quiet rfl rfl (q_load_box 2 Try.underlying24 rfl rfl rfl rfl) ?_)
    refine TO.guarded rfl rfl rfl (LT.of_quiet rfl rfl (q_len Try.underlying24 rfl) ?_)
    refine TO.guarded rfl rfl rfl (LT.of_quiet rfl rfl (q_gtr rfl rfl) ?_)
    refine TO.quiet (q_pick0 rfl rfl) ?_
    by_cases hs160 : ((b.sets ++ [xs]).length : Int) > 8
    · refine TO.quiet (QT.toB (q_move rfl) (decide_eq_true hs160)) ?_
      refine TO.passed rfl rfl ?_
      refine TO.passed rfl rfl ?_
      refine TO.passed rfl rfl ?_
      refine TO.passed rfl rfl ?_
      refine TO.quiet (q_pick1 rfl rfl) (TO.quiet (q_assign rfl) ?_)
      refine TO.nil (T.ret (Res.drop ?_))
      refine Res.one (.bool true) Try.results5 rfl ?_
      exact ⟨[], (by exact Sub.z), rfl, rfl⟩
    refine TO.quiet (QT.toB (q_move rfl) (decide_eq_false hs160)) ?_
    refine TO.guarded rfl rfl rfl (LT.of_quiet rfl rfl (q_load_boxAgg 2 Try.underlying26 rfl inf26 rfl rfl rfl) ?_)
    refine TO.guarded rfl rfl rfl (LT.of_quiet rfl rfl (q_load_boxAgg 18 Try.underlying29 rfl inf29 rfl rfl rfl) ?_)
    have hk163 := fun (w1 : World) (hI : Inv w ([rowI (some ⟨bx21, 0, none⟩) 1 22 1 [(.slice xb xs.length xc)], rowI xb xc 3 1 (ints xs), oI bx17 26 [(.int .i64 b.vars), (.int .i64 b.states), (.slice sb4 b.start.length sc4), (.slice eb4 b.edges.length ec4), (.slice bx22 ((b.sets ++ [xs]).length) c23)], rowI sb4 sc4 3 1 (ints b.start), rowI eb4 ec4 54 4 (edsC b.edges), rowI bx22 c23 22 1 (vals (qs4 ++ [⟨xb, xc, xs⟩])), rowI pb1 pc1 3 1 (ints (pickI (someP b x.fr) k)), oI bx10 26 [(.int .i64 b.vars), (.int .i64 b.states), (.slice pb1 ((pickI (someP b x.fr) k).length) pc1), (.slice eb3 b.edges.length ec3), (.slice tb3 b.sets.length tc3)], rowI sb3 sc3 3 1 (ints b.start), rowI eb3 ec3 54 4 (edsC b.edges), rowI tb3 tc3 22 1 (vals qs3), oI bx6 54 [.int .i64 x.fr, .int .i64 x.to, .int .u8 ((x.pos : Nat) : Int), .int .u8 ((x.neg : Nat) : Int)], oI bx5 26 [(.int .i64 b.vars), (.int .i64 b.states), (.slice sb2 b.start.length sc2), (.slice bx8 ((b.edges ++ [x]).length) c9), (.slice tb2 b.sets.length tc2)], rowI sb2 sc2 3 1 (ints b.start), rowI bx8 c9 54 4 (edsC (b.edges ++ [x])), rowI tb2 tc2 22 1 (vals qs2), rowI (some ⟨bx4, 0, none⟩) 1 29 2 (laCells l pb pc lb lc), rowI (some ⟨bx3, 0, none⟩) 1 26 5 (buCells b sb sc eb ec tb tc), oI bx2 29 (laCells l pb pc lb lc), oI bx1 26 (buCells b sb sc eb ec tb tc)] ++ ((itms 3 qs4) ++ ((itms 3 qs3) ++ (itms 3 qs2)))) w1) => (by
      have h9 := acceptsL w1 ({ b with sets := b.sets ++ [xs] }) sb4 eb4 bx22 sc4 ec4 c23 (vals (qs4 ++ [⟨xb, xc, xs⟩])) (show BuAt w1 ({ b with sets := b.sets ++ [xs] }) sb4 eb4 bx22 (vals (qs4 ++ [⟨xb, xc, xs⟩])) from ⟨(hI.slOf (List.mem_of_getElem? (i := 3) rfl)), (hI.slOf (List.mem_of_getElem? (i := 4) rfl)), (hI.slOf (List.mem_of_getElem? (i := 5) rfl)), (show nums (qs4 ++ [⟨xb, xc, xs⟩]) = b.sets ++ [xs] by unfold nums at hqs4 ⊢; rw [List.map_append, hqs4]; rfl) ▸ Inv.recs (E := 3) hI (fun q hq => (by
        rcases List.mem_append.1 hq with hq | hq
        · exact List.mem_append_right _ (by simp only [itms, List.mem_append, List.mem_map]; first | exact .inl ⟨q, hq, rfl⟩ | exact .inr ⟨q, hq, rfl⟩ | exact .inr (.inl ⟨q, hq, rfl⟩) | exact .inr (.inr ⟨q, hq, rfl⟩))
        · rw [List.mem_singleton] at hq; subst hq; exact List.mem_append_left _ (List.mem_of_getElem? (i := 1) rfl)))⟩) (show BuB { b with sets := b.sets ++ [xs] } from ⟨hB.st, hB.ed, (by show (b.sets ++ [_]).length ≤ _; simp; omega), (fun r hr => by
        rcases List.mem_append.1 (show r ∈ b.sets ++ [xs] from hr) with h8 | h8
        · exact hB.sr r h8
        · rw [List.mem_singleton] at h8; subst h8; omega), hB.pn⟩) l pb lb pc lc (hI.la h2) hL (by show b.edges.length ≤ 5000; omega)
      rw [show (accV ({ b with sets := b.sets ++ [xs] }) l && decide (accE ({ b with sets := b.sets ++ [xs] }) l = 0)) = false by rw [accV_less (b := b) (c := { b with sets := b.sets ++ [xs] }) rfl hv (fun _ h => h) (fun _ h => h) (fun _ h => List.mem_append_left _ h) (by simp_all)]; rfl] at h9; exact h9)
    refine TO.guarded rfl rfl rfl (l_call ent30 (CallT.of_pure hk163) rfl ?_)
    clear hk163
    rintro vr O' ⟨N, rfl, rfl, rfl⟩
    refine TO.guarded rfl rfl rfl (LT.of_quiet rfl rfl (q_not rfl) ?_)
    refine TO.quiet (q_pick0 rfl rfl) (TO.quiet (q_assign rfl) ?_)
    refine TO.nil (T.ret (Res.drop ?_))
    refine Res.one (.bool true) Try.results5 rfl ?_
    exact ⟨[], (by exact Sub.z), rfl, rfl⟩
  refine TO.quiet (QT.toB (q_move rfl) (Bool.eq_false_iff.2 hs141)) ?_
  refine TO.passed rfl rfl ?_
  refine TO.passed rfl rfl ?_
  refine TO.passed rfl rfl ?_
  refine TO.passed rfl rfl ?_
  refine TO.passed rfl rfl ?_
  refine TO.passed rfl rfl ?_
  refine TO.passed rfl rfl ?_
  refine TO.passed rfl rfl ?_
  refine TO.passed rfl rfl ?_
  refine TO.passed rfl rfl ?_
  refine TO.quiet (q_pick0 rfl rfl) ?_
  refine TO.nil ?_
  refine T.cond0 rfl ?_
  refine T.skip (T.seq (T.region ?_))
  refine TO.quiet (q_move rfl) ?_
  by_cases hs154 : (accV b l) = true
  · refine TO.quiet (QT.toB (q_move rfl) (hs154)) ?_
    refine TO.passed rfl rfl ?_
    refine TO.passed rfl rfl ?_
    refine TO.passed rfl rfl ?_
    refine TO.passed rfl rfl ?_
    refine TO.quiet (q_pick1 rfl rfl) (TO.quiet (q_move rfl) ?_)
    refine TO.passed rfl rfl ?_
    refine TO.passed rfl rfl ?_
    refine TO.passed rfl rfl ?_
    refine TO.passed rfl rfl ?_
    refine TO.quiet (q_pick1 rfl rfl) (TO.quiet (q_assign rfl) ?_)
    refine TO.nil (T.ret (Res.drop ?_))
    refine Res.one (.bool true) Try.results5 rfl ?_
    exact ⟨[], (by exact Sub.z), rfl, rfl⟩
  refine TO.quiet (QT.toB (q_move rfl) (Bool.eq_false_iff.2 hs154)) ?_
  refine TO.guarded rfl rfl rfl (LT.of_quiet rfl rfl (q_fieldAddr Try.underlying26 rfl inf24 rfl rfl) ?_)
  refine TO.guarded rfl rfl rfl (LT.of_quiet rfl rfl (q_load_box 2 Try.underlying24 rfl rfl rfl rfl) ?_)
  refine TO.guarded rfl rfl rfl (LT.of_quiet rfl rfl (q_len Try.underlying24 rfl) ?_)
  refine TO.guarded rfl rfl rfl (LT.of_quiet rfl rfl (q_gtr rfl rfl) ?_)
  refine TO.quiet (q_pick0 rfl rfl) ?_
  by_cases hs160 : ((b.sets ++ [xs]).length : Int) > 8
  · refine TO.quiet (QT.toB (q_move rfl) (decide_eq_true hs160)) ?_
    refine TO.passed rfl rfl ?_
    refine TO.passed rfl rfl ?_
    refine TO.passed rfl rfl ?_
    refine TO.passed rfl rfl ?_
    refine TO.quiet (q_pick1 rfl rfl) (TO.quiet (q_assign rfl) ?_)
    refine TO.nil (T.ret (Res.drop ?_))
    refine Res.one (.bool true) Try.results5 rfl ?_
    exact ⟨[], (by exact Sub.z), rfl, rfl⟩
  refine TO.quiet (QT.toB (q_move rfl) (decide_eq_false hs160)) ?_
  refine TO.guarded rfl rfl rfl (LT.of_quiet rfl rfl (q_load_boxAgg 2 Try.underlying26 rfl inf26 rfl rfl rfl) ?_)
  refine TO.guarded rfl rfl rfl (LT.of_quiet rfl rfl (q_load_boxAgg 18 Try.underlying29 rfl inf29 rfl rfl rfl) ?_)
  have hk163 := fun (w1 : World) (hI : Inv w ([rowI (some ⟨bx21, 0, none⟩) 1 22 1 [(.slice xb xs.length xc)], rowI xb xc 3 1 (ints xs), oI bx17 26 [(.int .i64 b.vars), (.int .i64 b.states), (.slice sb4 b.start.length sc4), (.slice eb4 b.edges.length ec4), (.slice bx22 ((b.sets ++ [xs]).length) c23)], rowI sb4 sc4 3 1 (ints b.start), rowI eb4 ec4 54 4 (edsC b.edges), rowI bx22 c23 22 1 (vals (qs4 ++ [⟨xb, xc, xs⟩])), rowI pb1 pc1 3 1 (ints (pickI (someP b x.fr) k)), oI bx10 26 [(.int .i64 b.vars), (.int .i64 b.states), (.slice pb1 ((pickI (someP b x.fr) k).length) pc1), (.slice eb3 b.edges.length ec3), (.slice tb3 b.sets.length tc3)], rowI sb3 sc3 3 1 (ints b.start), rowI eb3 ec3 54 4 (edsC b.edges), rowI tb3 tc3 22 1 (vals qs3), oI bx6 54 [.int .i64 x.fr, .int .i64 x.to, .int .u8 ((x.pos : Nat) : Int), .int .u8 ((x.neg : Nat) : Int)], oI bx5 26 [(.int .i64 b.vars), (.int .i64 b.states), (.slice sb2 b.start.length sc2), (.slice bx8 ((b.edges ++ [x]).length) c9), (.slice tb2 b.sets.length tc2)], rowI sb2 sc2 3 1 (ints b.start), rowI bx8 c9 54 4 (edsC (b.edges ++ [x])), rowI tb2 tc2 22 1 (vals qs2), rowI (some ⟨bx4, 0, none⟩) 1 29 2 (laCells l pb pc lb lc), rowI (some ⟨bx3, 0, none⟩) 1 26 5 (buCells b sb sc eb ec tb tc), oI bx2 29 (laCells l pb pc lb lc), oI bx1 26 (buCells b sb sc eb ec tb tc)] ++ ((itms 3 qs4) ++ ((itms 3 qs3) ++ (itms 3 qs2)))) w1) => (by
    have h9 := acceptsL w1 ({ b with sets := b.sets ++ [xs] }) sb4 eb4 bx22 sc4 ec4 c23 (vals (qs4 ++ [⟨xb, xc, xs⟩])) (show BuAt w1 ({ b with sets := b.sets ++ [xs] }) sb4 eb4 bx22 (vals (qs4 ++ [⟨xb, xc, xs⟩])) from ⟨(hI.slOf (List.mem_of_getElem? (i := 3) rfl)), (hI.slOf (List.mem_of_getElem? (i := 4) rfl)), (hI.slOf (List.mem_of_getElem? (i := 5) rfl)), (show nums (qs4 ++ [⟨xb, xc, xs⟩]) = b.sets ++ [xs] by unfold nums at hqs4 ⊢; rw [List.map_append, hqs4]; rfl) ▸ Inv.recs (E := 3) hI (fun q hq => (by
      rcases List.mem_append.1 hq with hq | hq
      · exact List.mem_append_right _ (by simp only [itms, List.mem_append, List.mem_map]; first | exact .inl ⟨q, hq, rfl⟩ | exact .inr ⟨q, hq, rfl⟩ | exact .inr (.inl ⟨q, hq, rfl⟩) | exact .inr (.inr ⟨q, hq, rfl⟩))
      · rw [List.mem_singleton] at hq; subst hq; exact List.mem_append_left _ (List.mem_of_getElem? (i := 1) rfl)))⟩) (show BuB { b with sets := b.sets ++ [xs] } from ⟨hB.st, hB.ed, (by show (b.sets ++ [_]).length ≤ _; simp; omega), (fun r hr => by
      rcases List.mem_append.1 (show r ∈ b.sets ++ [xs] from hr) with h8 | h8
      · exact hB.sr r h8
      · rw [List.mem_singleton] at h8; subst h8; omega), hB.pn⟩) l pb lb pc lc (hI.la h2) hL (by show b.edges.length ≤ 5000; omega)
    rw [show (accV ({ b with sets := b.sets ++ [xs] }) l && decide (accE ({ b with sets := b.sets ++ [xs] }) l = 0)) = false by rw [accV_less (b := b) (c := { b with sets := b.sets ++ [xs] }) rfl hv (fun _ h => h) (fun _ h => h) (fun _ h => List.mem_append_left _ h) (by simp_all)]; rfl] at h9; exact h9)
  refine TO.guarded rfl rfl rfl (l_call ent30 (CallT.of_pure hk163) rfl ?_)
  clear hk163
  rintro vr O' ⟨N, rfl, rfl, rfl⟩
  refine TO.guarded rfl rfl rfl (LT.of_quiet rfl rfl (q_not rfl) ?_)
  refine TO.quiet (q_pick0 rfl rfl) (TO.quiet (q_assign rfl) ?_)
  refine TO.nil (T.ret (Res.drop ?_))
  refine Res.one (.bool true) Try.results5 rfl ?_
  exact ⟨[], (by exact Sub.z), rfl, rfl⟩
theorem lawMonotoneZ (W : World) (b : Bu) (sb eb tb : Option Addr) (sc ec tc : Nat) (vs : List Value) (h : BuAt W b sb eb tb vs) (hpn : ∀ e ∈ b.edges, e.pos < 256 ∧ e.neg < 256) (hse : b.sets.length < 9223372036854775807) (l : La) (pb lb : Option Addr) (pc lc : Nat) (h2 : LaAt W l pb lb pc lc) (hp8 : ∀ x ∈ l.pre, x < 256) (hl8 : ∀ x ∈ l.loop, x < 256) (k2 k3 k4 k5 k6 : Int) (g2 : 0 ≤ k2 ∧ k2 < 256) (g3 : 0 ≤ k3 ∧ k3 < 256) (g4 : 0 ≤ k4 ∧ k4 < 256) (g5 : 0 ≤ k5 ∧ k5 < 256) (g6 : 0 ≤ k6 ∧ k6 < 256) :
    PureT Try.prog 5 [.agg (buCells b sb sc eb ec tb tc).toArray, .agg (laCells l pb pc lb lc).toArray, .int .u8 k2, .int .u8 k3, .int .u8 k4, .int .u8 k5, .int .u8 k6] W fun v N => v = .bool true ∧ N = [] := by
  obtain ⟨n2, rfl⟩ := Int.eq_ofNat_of_zero_le g2.1
  obtain ⟨n3, rfl⟩ := Int.eq_ofNat_of_zero_le g3.1
  obtain ⟨n4, rfl⟩ := Int.eq_ofNat_of_zero_le g4.1
  obtain ⟨n5, rfl⟩ := Int.eq_ofNat_of_zero_le g5.1
  obtain ⟨n6, rfl⟩ := Int.eq_ofNat_of_zero_le g6.1
  exact lawMonotone W b sb eb tb sc ec tc vs h hpn hse l pb lb pc lc h2 hp8 hl8 n2 n3 n4 n5 n6 (by omega) (by omega) (by omega) (by omega) (by omega)
end Go.Proofs.Ytnamoapbienooaa

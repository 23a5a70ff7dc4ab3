/- Contracts of functions of the program (BLas, CoreM, BSli, TarL, Lv, BDel, BChk, BChk2): what each call answers and that it leaves memory as it was. Conditions: those each theorem names. -/
import Derived.Test.YtnamoapbienooaaBKit
set_option linter.unusedSectionVars false
set_option linter.unusedSimpArgs false
set_option linter.unusedVariables false
set_option linter.unnecessarySimpa false
namespace Go.Proofs.Ytnamoapbienooaa
open Go.Lx Go.RowKit
set_option linter.unusedVariables false
set_option linter.unusedSimpArgs false
set_option maxHeartbeats 1000000 in
set_option maxRecDepth 20000 in
theorem indexFuncB (base : World) (b : Option Addr) (c : Nat) (xs : List Nat) (OO : List Lx.Item) (hS : ∀ w, Inv base OO w → Sl w b (byts xs)) (hb : xs.length < 9223372036854775807) (fv : Value) (p : Nat → Bool) (hy : ∀ x ∈ xs, CallV Try.prog base fv [.int .u8 (x : Int)] OO (fun v O' => v = .bool (p x) ∧ O' = OO)) :
    CallT Try.prog base 112 [.slice b xs.length c, fv] OO (fun v O' => ∃ i : Int, v = .int .i64 i ∧ ((i = -1 ∧ xs.any p = false) ∨ ∃ (k : Nat) (hk : k < xs.length), i = (k : Int) ∧ p xs[k] = true ∧ (xs.take k).any p = false) ∧ O' = OO) := by
  refine CallT.enter Try.func112 rfl Try.ntmps112 rfl ?_
  refine T.seq (T.region ?_)
  refine TO.quiet (q_assign rfl) ?_
  refine TO.nil (T.seq (T.seq (T.region ?_)))
  refine TO.quiet (q_move rfl) (TO.quiet (q_len Try.underlying27 rfl) (TO.quiet (q_move rfl) ?_))
  refine TO.nil (T.block ?_)
  refine T.loop (fun (k : Nat) ρ O => O = ([] ++ OO) ∧ k ≤ xs.length ∧ (xs.take k).any p = false ∧ Heads [(0, (.slice b xs.length c)), (1, fv), (7, .int .i64 (xs.length : Int)), (8, .int .i64 (k : Int))] ρ) (fun k => xs.length - k) 0 ?_ ?_
  · exact ⟨rfl, Nat.zero_le _, rfl, ⟨rfl, rfl, rfl, rfl, trivial⟩⟩
  rintro k ρ O ⟨rfl, hk, hany, hH⟩
  obtain ⟨ρ0, rfl⟩ := hH.elim
  clear hH
  refine T.seq (T.region ?_)
  refine TO.quiet (q_lss rfl rfl) ?_
  refine TO.nil (T.seq ?_)
  refine T.condP rfl (fun hc => ?_) (fun hc => ?_)
  · have hlt9 : k < xs.length := by omega
    refine T.skip (T.seq (T.block (T.seq (T.region ?_))))
    refine TO.quiet (q_move rfl) (TO.quiet (q_assign rfl) ?_)
    refine TO.nil (T.seq (T.region ?_))
    refine TO.quiet (q_move rfl) (TO.quiet (q_move rfl) (TO.quiet (q_move rfl) (TO.quiet (q_ix (i := k) Try.underlying27 inf5 rfl rfl hS hlt9 (by rw [List.length_map]; exact hlt9)) ?_)))
    refine TO.quiet (q_ld Try.underlying5 rfl rfl hS (byts_get hlt9)) ?_
    have hk16 := hy xs[k] (List.getElem_mem hlt9)
    refine TO.loud rfl (l_callG hk16 rfl rfl ?_)
    clear hk16
    rintro vr O' ⟨rfl, rfl⟩
    refine TO.nil ?_
    refine T.cond rfl (fun hc => ?_) (fun hc => ?_)
    · refine T.seq ?_
      refine T.region ?_
      refine TO.quiet (q_move rfl) (TO.quiet (q_assign rfl) ?_)
      refine TO.nil (T.ret (Res.drop ?_))
      refine Res.one (.int .i64 (k : Int)) Try.results112 rfl ?_
      exact ⟨_, Sub.of (List.Sublist.refl _), k, rfl, .inr ⟨k, hlt9, rfl, hc, hany⟩, rfl⟩
    refine T.skip (T.region ?_)
    refine TO.quiet (q_addN (a := k) (b := 1) rfl rfl (by omega)) (TO.quiet (q_move rfl) ?_)
    refine TO.nil ?_
    exact ⟨k + 1, by omega, rfl, by omega, any_snoc hlt9 hany (by simpa using hc), ⟨rfl, rfl, rfl, rfl, trivial⟩⟩
  have hge9 : ¬ k < xs.length := by omega
  refine T.exit ?_
  refine T.seq (T.region ?_)
  refine TO.quiet (q_assign rfl) ?_
  refine TO.nil (T.ret (Res.drop ?_))
  refine Res.one (.int .i64 (-1)) Try.results112 rfl ?_
  exact ⟨_, Sub.of (List.Sublist.refl _), -1, rfl, .inl ⟨rfl, any_done (by omega) hany⟩, rfl⟩
set_option maxHeartbeats 1000000 in
set_option maxRecDepth 20000 in
theorem containsFuncB (base : World) (b : Option Addr) (c : Nat) (xs : List Nat) (OO : List Lx.Item) (hS : ∀ w, Inv base OO w → Sl w b (byts xs)) (hb : xs.length < 9223372036854775807) (fv : Value) (p : Nat → Bool) (hy : ∀ x ∈ xs, CallV Try.prog base fv [.int .u8 (x : Int)] OO (fun v O' => v = .bool (p x) ∧ O' = OO)) :
    CallT Try.prog base 98 [.slice b xs.length c, fv] OO (fun v O' => v = .bool (xs.any p) ∧ O' = OO) := by
  refine CallT.enter Try.func98 rfl Try.ntmps98 rfl ?_
  refine T.seq (T.region ?_)
  refine TO.quiet (q_assign rfl) ?_
  refine TO.nil (T.seq (T.region ?_))
  refine TO.quiet (q_move rfl) (TO.quiet (q_move rfl) ?_)
  have hk7 := indexFuncB base b c xs OO hS hb fv p hy
  refine TO.loud rfl (l_call ent112 hk7 rfl ?_)
  clear hk7
  rintro vr O' ⟨i, rfl, hi, rfl⟩
  refine TO.quiet (q_geq rfl rfl) (TO.quiet (q_assign rfl) ?_)
  refine TO.nil (T.ret (Res.drop ?_))
  refine Res.one (.bool (decide (i ≥ 0))) Try.results98 rfl ?_
  refine ⟨_, Sub.of (List.Sublist.refl _), congrArg Value.bool ?_, rfl⟩
  rcases hi with ⟨rfl, h9⟩ | ⟨k, hk, rfl, h9, _⟩
  · rw [h9]; decide
  · rw [any_hit hk h9]; exact decide_eq_true (by omega)
set_option maxHeartbeats 1000000 in
set_option maxRecDepth 20000 in
theorem indexFuncI (base : World) (b : Option Addr) (c : Nat) (xs : List Int) (OO : List Lx.Item) (hS : ∀ w, Inv base OO w → Sl w b (ints xs)) (hb : xs.length < 9223372036854775807) (fv : Value) (p : Int → Bool) (hy : ∀ x ∈ xs, CallV Try.prog base fv [.int .i64 x] OO (fun v O' => v = .bool (p x) ∧ O' = OO)) :
    CallT Try.prog base 101 [.slice b xs.length c, fv] OO (fun v O' => ∃ i : Int, v = .int .i64 i ∧ ((i = -1 ∧ xs.any p = false) ∨ ∃ (k : Nat) (hk : k < xs.length), i = (k : Int) ∧ p xs[k] = true ∧ (xs.take k).any p = false) ∧ O' = OO) := by
  refine CallT.enter Try.func101 rfl Try.ntmps101 rfl ?_
  refine T.seq (T.region ?_)
  refine TO.quiet (q_assign rfl) ?_
  refine TO.nil (T.seq (T.seq (T.region ?_)))
  refine TO.quiet (q_move rfl) (TO.quiet (q_len Try.underlying22 rfl) (TO.quiet (q_move rfl) ?_))
  refine TO.nil (T.block ?_)
  refine T.loop (fun (k : Nat) ρ O => O = ([] ++ OO) ∧ k ≤ xs.length ∧ (xs.take k).any p = false ∧ Heads [(0, (.slice b xs.length c)), (1, fv), (7, .int .i64 (xs.length : Int)), (8, .int .i64 (k : Int))] ρ) (fun k => xs.length - k) 0 ?_ ?_
  · exact ⟨rfl, Nat.zero_le _, rfl, ⟨rfl, rfl, rfl, rfl, trivial⟩⟩
  rintro k ρ O ⟨rfl, hk, hany, hH⟩
  obtain ⟨ρ0, rfl⟩ := hH.elim
  clear hH
  refine T.seq (T.region ?_)
  refine TO.quiet (q_lss rfl rfl) ?_
  refine TO.nil (T.seq ?_)
  refine T.condP rfl (fun hc => ?_) (fun hc => ?_)
  · have hlt9 : k < xs.length := by omega
    refine T.skip (T.seq (T.block (T.seq (T.region ?_))))
    refine TO.quiet (q_move rfl) (TO.quiet (q_assign rfl) ?_)
    refine TO.nil (T.seq (T.region ?_))
    refine TO.quiet (q_move rfl) (TO.quiet (q_move rfl) (TO.quiet (q_move rfl) (TO.quiet (q_ix (i := k) Try.underlying22 inf3 rfl rfl hS hlt9 (by rw [List.length_map]; exact hlt9)) ?_)))
    refine TO.quiet (q_ld Try.underlying3 rfl rfl hS (ints_get hlt9)) ?_
    have hk16 := hy xs[k] (List.getElem_mem hlt9)
    refine TO.loud rfl (l_callG hk16 rfl rfl ?_)
    clear hk16
    rintro vr O' ⟨rfl, rfl⟩
    refine TO.nil ?_
    refine T.cond rfl (fun hc => ?_) (fun hc => ?_)
    · refine T.seq ?_
      refine T.region ?_
      refine TO.quiet (q_move rfl) (TO.quiet (q_assign rfl) ?_)
      refine TO.nil (T.ret (Res.drop ?_))
      refine Res.one (.int .i64 (k : Int)) Try.results101 rfl ?_
      exact ⟨_, Sub.of (List.Sublist.refl _), k, rfl, .inr ⟨k, hlt9, rfl, hc, hany⟩, rfl⟩
    refine T.skip (T.region ?_)
    refine TO.quiet (q_addN (a := k) (b := 1) rfl rfl (by omega)) (TO.quiet (q_move rfl) ?_)
    refine TO.nil ?_
    exact ⟨k + 1, by omega, rfl, by omega, any_snoc hlt9 hany (by simpa using hc), ⟨rfl, rfl, rfl, rfl, trivial⟩⟩
  have hge9 : ¬ k < xs.length := by omega
  refine T.exit ?_
  refine T.seq (T.region ?_)
  refine TO.quiet (q_assign rfl) ?_
  refine TO.nil (T.ret (Res.drop ?_))
  refine Res.one (.int .i64 (-1)) Try.results101 rfl ?_
  exact ⟨_, Sub.of (List.Sublist.refl _), -1, rfl, .inl ⟨rfl, any_done (by omega) hany⟩, rfl⟩
set_option maxHeartbeats 1000000 in
set_option maxRecDepth 20000 in
theorem containsFuncI (base : World) (b : Option Addr) (c : Nat) (xs : List Int) (OO : List Lx.Item) (hS : ∀ w, Inv base OO w → Sl w b (ints xs)) (hb : xs.length < 9223372036854775807) (fv : Value) (p : Int → Bool) (hy : ∀ x ∈ xs, CallV Try.prog base fv [.int .i64 x] OO (fun v O' => v = .bool (p x) ∧ O' = OO)) :
    CallT Try.prog base 56 [.slice b xs.length c, fv] OO (fun v O' => v = .bool (xs.any p) ∧ O' = OO) := by
  refine CallT.enter Try.func56 rfl Try.ntmps56 rfl ?_
  refine T.seq (T.region ?_)
  refine TO.quiet (q_assign rfl) ?_
  refine TO.nil (T.seq (T.region ?_))
  refine TO.quiet (q_move rfl) (TO.quiet (q_move rfl) ?_)
  have hk7 := indexFuncI base b c xs OO hS hb fv p hy
  refine TO.loud rfl (l_call ent101 hk7 rfl ?_)
  clear hk7
  rintro vr O' ⟨i, rfl, hi, rfl⟩
  refine TO.quiet (q_geq rfl rfl) (TO.quiet (q_assign rfl) ?_)
  refine TO.nil (T.ret (Res.drop ?_))
  refine Res.one (.bool (decide (i ≥ 0))) Try.results56 rfl ?_
  refine ⟨_, Sub.of (List.Sublist.refl _), congrArg Value.bool ?_, rfl⟩
  rcases hi with ⟨rfl, h9⟩ | ⟨k, hk, rfl, h9, _⟩
  · rw [h9]; decide
  · rw [any_hit hk h9]; exact decide_eq_true (by omega)
set_option maxHeartbeats 1000000 in
set_option maxRecDepth 20000 in
theorem tooGreat (base : World) (v : Int) (h0 : 0 ≤ v) (h6 : v ≤ 6) (bx x : Nat) (hx : x < 256) :
    CallT Try.prog base 97 [.int .u8 (x : Int), .pointer (some ⟨bx, 0, none⟩)] [oI bx 3 [(.int .i64 v)]] (fun z O' => z = .bool (decide (¬ x < 2 ^ v.toNat)) ∧ O' = [oI bx 3 [(.int .i64 v)]]) := by
  refine CallT.enter Try.func97 rfl Try.ntmps97 rfl ?_
  refine T.seq (T.region ?_)
  refine TO.quiet (q_assign rfl) ?_
  refine TO.nil (T.seq (T.region ?_))
  refine TO.quiet (q_move rfl) (TO.quiet (q_conv_id Try.underlying5 Try.underlying3 rfl (wrap64_id ⟨by omega, by omega⟩)) (TO.quiet (q_load_box 0 Try.underlying3 rfl rfl rfl rfl) (TO.quiet (q_shl1 (v := v.toNat) rfl (by show Value.int _ v = _; rw [Int.toNat_of_nonneg h0]) (by omega)) ?_)))
  refine TO.quiet (q_geq rfl rfl) (TO.quiet (q_assign rfl) ?_)
  refine TO.nil (T.ret ?_)
  refine Res.one (.bool (decide ((x : Int) ≥ ((2 ^ v.toNat : Nat) : Int)))) Try.results97 rfl ?_
  exact ⟨congrArg Value.bool (decide_eq_decide.2 (by omega)), rfl⟩
set_option maxHeartbeats 1000000 in
set_option maxRecDepth 20000 in
theorem lassoCheckF (w : World) (l : La) (pb lb : Option Addr) (pc lc : Nat) (h : LaAt w l pb lb pc lc) (hL : LaB l) (v : Int) :
    PureT Try.prog 51 [.agg (laCells l pb pc lb lc).toArray, .int .i64 v] w fun z N => z = .int .i64 (checkLV v l : Int) ∧ N = [] := by
  refine CallT.enter Try.func51 rfl Try.ntmps51 rfl ?_
  have hpl := hL.pre; have hll := hL.loop
  refine T.seq (T.region ?_)
  refine TO.loud rfl (l_box (v := (.agg (laCells l pb pc lb lc).toArray)) (cs := (laCells l pb pc lb lc)) rfl rfl (fun bx1 => ?_))
  refine TO.loud rfl (l_box (v := .int .i64 v) (cs := [(.int .i64 v)]) rfl rfl (fun bx2 => ?_))
  refine TO.quiet (q_assign rfl) ?_
  refine TO.nil (T.seq (T.block (T.seq (T.region ?_))))
  refine TO.quiet (q_load_box 0 Try.underlying3 rfl rfl rfl rfl) (TO.quiet (q_lss rfl rfl) ?_)
  by_cases hs9 : v < 0
  · refine TO.quiet (QT.toB (q_move rfl) (decide_eq_true hs9)) ?_
    refine TO.passed rfl rfl ?_
    refine TO.passed rfl rfl ?_
    refine TO.quiet (q_pick1 rfl rfl) (TO.quiet (q_assign rfl) ?_)
    refine TO.nil ?_
    refine T.cond1 rfl ?_
    refine T.seq (T.region ?_)
    refine TO.quiet (q_assign rfl) ?_
    refine TO.nil (T.ret (Res.drop ?_))
    refine Res.one (.int .i64 7) Try.results51 rfl ?_
    refine ⟨[], Sub.of (List.nil_sublist _), congrArg (fun z : Nat => Value.int .i64 (z : Int)) (Eq.symm (a := checkLV v l) (b := 7) ?_), rfl⟩
    unfold checkLV; rw [if_pos (by omega)]
  refine TO.quiet (QT.toB (q_move rfl) (decide_eq_false hs9)) ?_
  refine TO.guarded rfl rfl rfl (LT.of_quiet rfl rfl (q_load_box 0 Try.underlying3 rfl rfl rfl rfl) ?_)
  refine TO.guarded rfl rfl rfl (LT.of_quiet rfl rfl (q_gtr rfl rfl) ?_)
  refine TO.quiet (q_pick0 rfl rfl) (TO.quiet (q_assign rfl) ?_)
  refine TO.nil ?_
  refine T.condP rfl (fun hc => ?_) (fun hc => ?_)
  · refine T.seq ?_
    refine T.region ?_
    refine TO.quiet (q_assign rfl) ?_
    refine TO.nil (T.ret (Res.drop ?_))
    refine Res.one (.int .i64 7) Try.results51 rfl ?_
    refine ⟨[], Sub.of (List.nil_sublist _), congrArg (fun z : Nat => Value.int .i64 (z : Int)) (Eq.symm (a := checkLV v l) (b := 7) ?_), rfl⟩
    unfold checkLV; rw [if_pos (by omega)]
  refine T.seq (T.region ?_)
  refine TO.quiet (q_fieldAddr Try.underlying29 rfl inf27 rfl rfl) (TO.quiet (q_load_box 1 Try.underlying27 rfl rfl rfl rfl) (TO.quiet (q_len Try.underlying27 rfl) (TO.quiet (q_eql rfl rfl) ?_)))
  refine TO.quiet (q_assign rfl) ?_
  refine TO.nil ?_
  refine T.condP rfl (fun hc => ?_) (fun hc => ?_)
  · have hlt13 : l.loop.length = 0 := by omega
    refine T.seq (T.region ?_)
    refine TO.quiet (q_assign rfl) ?_
    refine TO.nil (T.ret (Res.drop ?_))
    refine Res.one (.int .i64 3) Try.results51 rfl ?_
    refine ⟨[], Sub.of (List.nil_sublist _), congrArg (fun z : Nat => Value.int .i64 (z : Int)) (Eq.symm (a := checkLV v l) (b := 3) ?_), rfl⟩
    unfold checkLV checkL; rw [if_neg (by omega), if_pos (by omega)]
  have hge13 : ¬ l.loop.length = 0 := by omega
  refine T.seq (T.region ?_)
  refine TO.quiet (q_fieldAddr Try.underlying29 rfl inf27 rfl rfl) (TO.quiet (q_load_box 1 Try.underlying27 rfl rfl rfl rfl) (TO.quiet (q_len Try.underlying27 rfl) (TO.quiet (q_gtr rfl rfl) ?_)))
  by_cases hs23 : (l.pre.length : Int) > 64
  · refine TO.quiet (QT.toB (q_move rfl) (decide_eq_true hs23)) ?_
    refine TO.passed rfl rfl ?_
    refine TO.passed rfl rfl ?_
    refine TO.passed rfl rfl ?_
    refine TO.passed rfl rfl ?_
    refine TO.quiet (q_pick1 rfl rfl) (TO.quiet (q_assign rfl) ?_)
    refine TO.nil ?_
    refine T.cond1 rfl ?_
    refine T.seq (T.region ?_)
    refine TO.quiet (q_assign rfl) ?_
    refine TO.nil (T.ret (Res.drop ?_))
    refine Res.one (.int .i64 4) Try.results51 rfl ?_
    refine ⟨[], Sub.of (List.nil_sublist _), congrArg (fun z : Nat => Value.int .i64 (z : Int)) (Eq.symm (a := checkLV v l) (b := 4) ?_), rfl⟩
    unfold checkLV checkL; rw [if_neg (by omega), if_neg (by omega), if_pos (by omega)]
  refine TO.quiet (QT.toB (q_move rfl) (decide_eq_false hs23)) ?_
  refine TO.guarded rfl rfl rfl (LT.of_quiet rfl rfl (q_fieldAddr Try.underlying29 rfl inf27 rfl rfl) ?_)
  refine TO.guarded rfl rfl rfl (LT.of_quiet rfl rfl (q_load_box 1 Try.underlying27 rfl rfl rfl rfl) ?_)
  refine TO.guarded rfl rfl rfl (LT.of_quiet rfl rfl (q_len Try.underlying27 rfl) ?_)
  refine TO.guarded rfl rfl rfl (LT.of_quiet rfl rfl (q_gtr rfl rfl) ?_)
  refine TO.quiet (q_pick0 rfl rfl) (TO.quiet (q_assign rfl) ?_)
  refine TO.nil ?_
  refine T.condP rfl (fun hc => ?_) (fun hc => ?_)
  · have hlt18 : l.loop.length > 64 := by omega
    refine T.seq (T.region ?_)
    refine TO.quiet (q_assign rfl) ?_
    refine TO.nil (T.ret (Res.drop ?_))
    refine Res.one (.int .i64 4) Try.results51 rfl ?_
    refine ⟨[], Sub.of (List.nil_sublist _), congrArg (fun z : Nat => Value.int .i64 (z : Int)) (Eq.symm (a := checkLV v l) (b := 4) ?_), rfl⟩
    unfold checkLV checkL; rw [if_neg (by omega), if_neg (by omega), if_pos (by omega)]
  have hge18 : ¬ l.loop.length > 64 := by omega
  refine T.skip (T.seq (T.region ?_))
  refine TO.quiet (q_makeFunc) (TO.quiet (q_assign rfl) ?_)
  refine TO.nil (T.seq (T.seq (T.region ?_)))
  refine TO.quiet (q_fieldAddr Try.underlying29 rfl inf27 rfl rfl) (TO.quiet (q_load_box 1 Try.underlying27 rfl rfl rfl rfl) (TO.quiet (q_move rfl) ?_))
  by_cases hp : l.pre.any (fun x => decide (¬ x < 2 ^ v.toNat)) = true
  · have hk33 := (containsFuncB w pb pc l.pre [oI bx2 3 [(.int .i64 v)], oI bx1 29 (laCells l pb pc lb lc)] (Sl.o h.pre) (by have := hL.pre; have := hL.loop; omega) (.func (.func 97) #[] #[.pointer (some ⟨bx2, 0, none⟩)]) (fun x => decide (¬ x < 2 ^ v.toNat)) (fun x hx => (CallV.under (A := [oI bx2 3 [(.int .i64 v)]]) (B := [oI bx1 29 (laCells l pb pc lb lc)]) (CallV.of_fn (first := []) (args := [.int .u8 (x : Int)]) (caps := [.pointer (some ⟨bx2, 0, none⟩)]) ent97 (tooGreat w v (by omega) (by omega) bx2 x (hL.p8 x hx))) (Sub.pick [0, 0] rfl)).mono (fun z O' ⟨A', e1, e2, e3⟩ => ⟨e2, by rw [e1, e3]; rfl⟩))).mono (fun z O' hh => (⟨hh.1.trans (congrArg Value.bool ((show ∀ b : Bool, b = decide (b = true) from fun b => by cases b <;> rfl) _)), hh.2⟩ : z = .bool (decide (l.pre.any (fun x => decide (¬ x < 2 ^ v.toNat)) = true)) ∧ O' = [oI bx2 3 [(.int .i64 v)], oI bx1 29 (laCells l pb pc lb lc)]))
    refine TO.loud rfl (l_call ent98 hk33 rfl ?_)
    clear hk33
    rintro vr O' ⟨rfl, rfl⟩
    rw [decide_eq_true hp]
    refine TO.quiet (q_move rfl) ?_
    refine TO.passed rfl rfl ?_
    refine TO.passed rfl rfl ?_
    refine TO.passed rfl rfl ?_
    refine TO.passed rfl rfl ?_
    refine TO.quiet (q_pick1 rfl rfl) ?_
    refine TO.nil ?_
    refine T.cond1 rfl ?_
    refine T.seq (T.region ?_)
    refine TO.quiet (q_assign rfl) ?_
    refine TO.nil (T.ret (Res.drop ?_))
    refine Res.one (.int .i64 1) Try.results51 rfl ?_
    refine ⟨[], Sub.of (List.nil_sublist _), congrArg (fun z : Nat => Value.int .i64 (z : Int)) (Eq.symm (a := checkLV v l) (b := 1) ?_), rfl⟩
    unfold checkLV checkL; rw [if_neg (by omega), if_neg (by omega), if_neg (by omega), if_neg]
    rintro ⟨q1, q2⟩
    exact absurd hp (by rw [any_not q1]; decide)
  have hk33 := (containsFuncB w pb pc l.pre [oI bx2 3 [(.int .i64 v)], oI bx1 29 (laCells l pb pc lb lc)] (Sl.o h.pre) (by have := hL.pre; have := hL.loop; omega) (.func (.func 97) #[] #[.pointer (some ⟨bx2, 0, none⟩)]) (fun x => decide (¬ x < 2 ^ v.toNat)) (fun x hx => (CallV.under (A := [oI bx2 3 [(.int .i64 v)]]) (B := [oI bx1 29 (laCells l pb pc lb lc)]) (CallV.of_fn (first := []) (args := [.int .u8 (x : Int)]) (caps := [.pointer (some ⟨bx2, 0, none⟩)]) ent97 (tooGreat w v (by omega) (by omega) bx2 x (hL.p8 x hx))) (Sub.pick [0, 0] rfl)).mono (fun z O' ⟨A', e1, e2, e3⟩ => ⟨e2, by rw [e1, e3]; rfl⟩))).mono (fun z O' hh => (⟨hh.1.trans (congrArg Value.bool ((show ∀ b : Bool, b = decide (b = true) from fun b => by cases b <;> rfl) _)), hh.2⟩ : z = .bool (decide (l.pre.any (fun x => decide (¬ x < 2 ^ v.toNat)) = true)) ∧ O' = [oI bx2 3 [(.int .i64 v)], oI bx1 29 (laCells l pb pc lb lc)]))
  refine TO.loud rfl (l_call ent98 hk33 rfl ?_)
  clear hk33
  rintro vr O' ⟨rfl, rfl⟩
  rw [decide_eq_false hp]
  refine TO.quiet (q_move rfl) ?_
  refine TO.guarded rfl rfl rfl (LT.of_quiet rfl rfl (q_fieldAddr Try.underlying29 rfl inf27 rfl rfl) ?_)
  refine TO.guarded rfl rfl rfl (LT.of_quiet rfl rfl (q_load_box 1 Try.underlying27 rfl rfl rfl rfl) ?_)
  refine TO.guarded rfl rfl rfl (LT.of_quiet rfl rfl (q_move rfl) ?_)
  by_cases hq : l.loop.any (fun x => decide (¬ x < 2 ^ v.toNat)) = true
  · have hk38 := (containsFuncB w lb lc l.loop [oI bx2 3 [(.int .i64 v)], oI bx1 29 (laCells l pb pc lb lc)] (Sl.o h.loop) (by have := hL.pre; have := hL.loop; omega) (.func (.func 97) #[] #[.pointer (some ⟨bx2, 0, none⟩)]) (fun x => decide (¬ x < 2 ^ v.toNat)) (fun x hx => (CallV.under (A := [oI bx2 3 [(.int .i64 v)]]) (B := [oI bx1 29 (laCells l pb pc lb lc)]) (CallV.of_fn (first := []) (args := [.int .u8 (x : Int)]) (caps := [.pointer (some ⟨bx2, 0, none⟩)]) ent97 (tooGreat w v (by omega) (by omega) bx2 x (hL.l8 x hx))) (Sub.pick [0, 0] rfl)).mono (fun z O' ⟨A', e1, e2, e3⟩ => ⟨e2, by rw [e1, e3]; rfl⟩))).mono (fun z O' hh => (⟨hh.1.trans (congrArg Value.bool ((show ∀ b : Bool, b = decide (b = true) from fun b => by cases b <;> rfl) _)), hh.2⟩ : z = .bool (decide (l.loop.any (fun x => decide (¬ x < 2 ^ v.toNat)) = true)) ∧ O' = [oI bx2 3 [(.int .i64 v)], oI bx1 29 (laCells l pb pc lb lc)]))
    refine TO.guarded rfl rfl rfl (l_call ent98 hk38 rfl ?_)
    clear hk38
    rintro vr O' ⟨rfl, rfl⟩
    rw [decide_eq_true hq]
    refine TO.quiet (q_pick0 rfl rfl) ?_
    refine TO.nil ?_
    refine T.cond1 rfl ?_
    refine T.seq (T.region ?_)
    refine TO.quiet (q_assign rfl) ?_
    refine TO.nil (T.ret (Res.drop ?_))
    refine Res.one (.int .i64 1) Try.results51 rfl ?_
    refine ⟨[], Sub.of (List.nil_sublist _), congrArg (fun z : Nat => Value.int .i64 (z : Int)) (Eq.symm (a := checkLV v l) (b := 1) ?_), rfl⟩
    unfold checkLV checkL; rw [if_neg (by omega), if_neg (by omega), if_neg (by omega), if_neg]
    rintro ⟨q1, q2⟩
    exact absurd hq (by rw [any_not q2]; decide)
  have hk38 := (containsFuncB w lb lc l.loop [oI bx2 3 [(.int .i64 v)], oI bx1 29 (laCells l pb pc lb lc)] (Sl.o h.loop) (by have := hL.pre; have := hL.loop; omega) (.func (.func 97) #[] #[.pointer (some ⟨bx2, 0, none⟩)]) (fun x => decide (¬ x < 2 ^ v.toNat)) (fun x hx => (CallV.under (A := [oI bx2 3 [(.int .i64 v)]]) (B := [oI bx1 29 (laCells l pb pc lb lc)]) (CallV.of_fn (first := []) (args := [.int .u8 (x : Int)]) (caps := [.pointer (some ⟨bx2, 0, none⟩)]) ent97 (tooGreat w v (by omega) (by omega) bx2 x (hL.l8 x hx))) (Sub.pick [0, 0] rfl)).mono (fun z O' ⟨A', e1, e2, e3⟩ => ⟨e2, by rw [e1, e3]; rfl⟩))).mono (fun z O' hh => (⟨hh.1.trans (congrArg Value.bool ((show ∀ b : Bool, b = decide (b = true) from fun b => by cases b <;> rfl) _)), hh.2⟩ : z = .bool (decide (l.loop.any (fun x => decide (¬ x < 2 ^ v.toNat)) = true)) ∧ O' = [oI bx2 3 [(.int .i64 v)], oI bx1 29 (laCells l pb pc lb lc)]))
  refine TO.guarded rfl rfl rfl (l_call ent98 hk38 rfl ?_)
  clear hk38
  rintro vr O' ⟨rfl, rfl⟩
  rw [decide_eq_false hq]
  refine TO.quiet (q_pick0 rfl rfl) ?_
  refine TO.nil ?_
  refine T.cond0 rfl ?_
  refine T.skip (T.seq (T.region ?_))
  refine TO.quiet (q_assign rfl) ?_
  refine TO.nil (T.ret (Res.drop ?_))
  refine Res.one (.int .i64 0) Try.results51 rfl ?_
  refine ⟨[], Sub.of (List.nil_sublist _), congrArg (fun z : Nat => Value.int .i64 (z : Int)) (Eq.symm (a := checkLV v l) (b := 0) ?_), rfl⟩
  unfold checkLV checkL; rw [if_neg (by omega), if_neg (by omega), if_neg (by omega), if_pos ⟨all_not (Bool.eq_false_iff.2 hp), all_not (Bool.eq_false_iff.2 hq)⟩]
set_option maxHeartbeats 1000000 in
set_option maxRecDepth 20000 in
theorem refLassoCheckF (w : World) (l : La) (pb lb : Option Addr) (pc lc : Nat) (h : LaAt w l pb lb pc lc) (hL : LaB l) (v : Int) :
    PureT Try.prog 58 [.agg (laCells l pb pc lb lc).toArray, .int .i64 v] w fun z N => z = .int .i64 (checkLV v l : Int) ∧ N = [] := by
  refine CallT.enter Try.func58 rfl Try.ntmps58 rfl ?_
  have hpl := hL.pre; have hll := hL.loop
  refine T.seq (T.region ?_)
  refine TO.loud rfl (l_box (v := (.agg (laCells l pb pc lb lc).toArray)) (cs := (laCells l pb pc lb lc)) rfl rfl (fun bx1 => ?_))
  refine TO.quiet (q_assign rfl) ?_
  refine TO.nil (T.seq (T.seq (T.region ?_)))
  refine TO.quiet (q_move rfl) (TO.quiet (q_lss rfl rfl) ?_)
  by_cases hs9 : v < 0
  · refine TO.quiet (QT.toB (q_move rfl) (decide_eq_true hs9)) ?_
    refine TO.passed rfl rfl ?_
    refine TO.passed rfl rfl ?_
    refine TO.quiet (q_pick1 rfl rfl) ?_
    refine TO.nil ?_
    refine T.cond1 rfl ?_
    refine T.seq (T.region ?_)
    refine TO.quiet (q_assign rfl) ?_
    refine TO.nil (T.ret (Res.drop ?_))
    refine Res.one (.int .i64 7) Try.results58 rfl ?_
    refine ⟨[], Sub.of (List.nil_sublist _), congrArg (fun z : Nat => Value.int .i64 (z : Int)) (Eq.symm (a := checkLV v l) (b := 7) ?_), rfl⟩
    unfold checkLV; rw [if_pos (by omega)]
  refine TO.quiet (QT.toB (q_move rfl) (decide_eq_false hs9)) ?_
  refine TO.guarded rfl rfl rfl (LT.of_quiet rfl rfl (q_move rfl) ?_)
  refine TO.guarded rfl rfl rfl (LT.of_quiet rfl rfl (q_gtr rfl rfl) ?_)
  refine TO.quiet (q_pick0 rfl rfl) ?_
  refine TO.nil ?_
  refine T.condP rfl (fun hc => ?_) (fun hc => ?_)
  · refine T.seq ?_
    refine T.region ?_
    refine TO.quiet (q_assign rfl) ?_
    refine TO.nil (T.ret (Res.drop ?_))
    refine Res.one (.int .i64 7) Try.results58 rfl ?_
    refine ⟨[], Sub.of (List.nil_sublist _), congrArg (fun z : Nat => Value.int .i64 (z : Int)) (Eq.symm (a := checkLV v l) (b := 7) ?_), rfl⟩
    unfold checkLV; rw [if_pos (by omega)]
  refine T.skip (T.seq (T.seq (T.region ?_)))
  refine TO.quiet (q_fieldAddr Try.underlying29 rfl inf27 rfl rfl) (TO.quiet (q_load_box 0 Try.underlying27 rfl rfl rfl rfl) (TO.quiet (q_len Try.underlying27 rfl) (TO.quiet (q_eql rfl rfl) ?_)))
  refine TO.nil ?_
  refine T.condP rfl (fun hc => ?_) (fun hc => ?_)
  · have hlt16 : l.loop.length = 0 := by omega
    refine T.seq (T.region ?_)
    refine TO.quiet (q_assign rfl) ?_
    refine TO.nil (T.ret (Res.drop ?_))
    refine Res.one (.int .i64 3) Try.results58 rfl ?_
    refine ⟨[], Sub.of (List.nil_sublist _), congrArg (fun z : Nat => Value.int .i64 (z : Int)) (Eq.symm (a := checkLV v l) (b := 3) ?_), rfl⟩
    unfold checkLV checkL; rw [if_neg (by omega), if_pos (by omega)]
  have hge16 : ¬ l.loop.length = 0 := by omega
  refine T.skip (T.seq (T.seq (T.region ?_)))
  refine TO.quiet (q_fieldAddr Try.underlying29 rfl inf27 rfl rfl) (TO.quiet (q_load_box 0 Try.underlying27 rfl rfl rfl rfl) (TO.quiet (q_len Try.underlying27 rfl) (TO.quiet (q_gtr rfl rfl) ?_)))
  by_cases hs21 : (l.pre.length : Int) > 64
  · refine TO.quiet (QT.toB (q_move rfl) (decide_eq_true hs21)) ?_
    refine TO.passed rfl rfl ?_
    refine TO.passed rfl rfl ?_
    refine TO.passed rfl rfl ?_
    refine TO.passed rfl rfl ?_
    refine TO.quiet (q_pick1 rfl rfl) ?_
    refine TO.nil ?_
    refine T.cond1 rfl ?_
    refine T.seq (T.region ?_)
    refine TO.quiet (q_assign rfl) ?_
    refine TO.nil (T.ret (Res.drop ?_))
    refine Res.one (.int .i64 4) Try.results58 rfl ?_
    refine ⟨[], Sub.of (List.nil_sublist _), congrArg (fun z : Nat => Value.int .i64 (z : Int)) (Eq.symm (a := checkLV v l) (b := 4) ?_), rfl⟩
    unfold checkLV checkL; rw [if_neg (by omega), if_neg (by omega), if_pos (by omega)]
  refine TO.quiet (QT.toB (q_move rfl) (decide_eq_false hs21)) ?_
  refine TO.guarded rfl rfl rfl (LT.of_quiet rfl rfl (q_fieldAddr Try.underlying29 rfl inf27 rfl rfl) ?_)
  refine TO.guarded rfl rfl rfl (LT.of_quiet rfl rfl (q_load_box 0 Try.underlying27 rfl rfl rfl rfl) ?_)
  refine TO.guarded rfl rfl rfl (LT.of_quiet rfl rfl (q_len Try.underlying27 rfl) ?_)
  refine TO.guarded rfl rfl rfl (LT.of_quiet rfl rfl (q_gtr rfl rfl) ?_)
  refine TO.quiet (q_pick0 rfl rfl) ?_
  refine TO.nil ?_
  refine T.condP rfl (fun hc => ?_) (fun hc => ?_)
  · have hlt26 : l.loop.length > 64 := by omega
    refine T.seq (T.region ?_)
    refine TO.quiet (q_assign rfl) ?_
    refine TO.nil (T.ret (Res.drop ?_))
    refine Res.one (.int .i64 4) Try.results58 rfl ?_
    refine ⟨[], Sub.of (List.nil_sublist _), congrArg (fun z : Nat => Value.int .i64 (z : Int)) (Eq.symm (a := checkLV v l) (b := 4) ?_), rfl⟩
    unfold checkLV checkL; rw [if_neg (by omega), if_neg (by omega), if_pos (by omega)]
  have hge26 : ¬ l.loop.length > 64 := by omega
  refine T.skip (T.seq ?_)
  refine T.draws _ [(0, 0), (1, 0), (3, 0), (4, 0), (2, 1), (5, 2), (6, 2)] mixed (by kernel_rfl) (Sub.of (List.Sublist.refl _)) (fun _ _ _ h => h) ?_
  refine DO.quiet rfl (q_fieldAddr Try.underlying29 rfl inf27 rfl rfl) (DO.quiet rfl (q_load_box 0 Try.underlying27 rfl rfl rfl rfl) (DO.quiet rfl (q_fieldAddr Try.underlying29 rfl inf27 rfl rfl) (DO.quiet rfl (q_load_box 0 Try.underlying27 rfl rfl rfl rfl) ?_)))
  refine DO.loud rfl rfl (l_appendN (l := l.pre.length) Try.underlying27 Try.underlying27 inf5 rfl rfl rfl (by decide) (Src.sl h.pre (by simp)) (byts_one l.pre) (by omega) (by decide) (by decide) (fun bx2 c3 => ⟨Sub.pick [1] rfl, ?_⟩))
  refine DO.last rfl rfl (l_append 0 Try.underlying27 Try.underlying27 inf5 rfl rfl rfl rfl (by simp) (by decide) (Src.sl h.loop (by simp)) (byts_one l.loop) (by omega) (by decide) (by decide) (fun bx4 c5 => ?_))
  refine DO.last rfl rfl (LT.of_quiet rfl rfl (q_assign rfl) ?_)
  refine DO.done ?_
  refine T.seq (T.seq (T.region ?_))
  refine TO.quiet (q_assign rfl) ?_
  refine TO.nil (T.block ?_)
  refine T.loop (fun (k : Nat) ρ O => O = [rowI bx4 c5 5 1 ((byts l.pre) ++ (byts l.loop)), oI bx1 29 (laCells l pb pc lb lc)] ∧ k ≤ l.pre.length + l.loop.length ∧ ((l.pre ++ l.loop).take k).all (fun x => decide (x < 2 ^ v.toNat)) = true ∧ Heads [(0, (.agg (laCells l pb pc lb lc).toArray)), (1, .int .i64 v), (2, (.pointer (some ⟨bx1, 0, none⟩))), (5, (.slice bx4 (l.pre.length + l.loop.length) c5)), (6, .int .i64 (k : Int))] ρ) (fun k => (l.pre.length + l.loop.length) - k) 0 ?_ ?_
  · exact ⟨rfl, Nat.zero_le _, rfl, ⟨rfl, rfl, rfl, rfl, rfl, trivial⟩⟩
  rintro k ρ O ⟨rfl, hk, hall, hH⟩
  obtain ⟨ρ0, rfl⟩ := hH.elim
  clear hH
  refine T.seq (T.seq (T.region ?_))
  refine TO.quiet (q_move rfl) (TO.quiet (q_move rfl) (TO.quiet (q_len Try.underlying27 rfl) (TO.quiet (q_lss rfl rfl) ?_)))
  refine TO.nil ?_
  refine T.condP rfl (fun hc => ?_) (fun hc => ?_)
  · have hlt36 : k < l.pre.length + l.loop.length := by omega
    have hkl : k < (l.pre ++ l.loop).length := by simp; omega
    have hx8 : (l.pre ++ l.loop)[k] < 256 := by
      rcases List.mem_append.1 (List.getElem_mem hkl) with hm | hm
      · exact hL.p8 _ hm
      · exact hL.l8 _ hm
    refine T.skip (T.seq (T.block (T.seq (T.region ?_))))
    refine TO.quiet (q_move rfl) (TO.quiet (q_move rfl) (TO.quiet (q_ix (i := k) Try.underlying27 inf5 rfl rfl (rowO (List.mem_of_getElem? (i := 0) rfl)) (by first | assumption | omega | (simp; omega) | simp_all) (by simp; omega)) (TO.quiet (q_ld Try.underlying5 rfl rfl (rowO (List.mem_of_getElem? (i := 0) rfl)) (show (byts l.pre ++ byts l.loop)[k]? = _ by rw [← List.map_append]; exact byts_get hkl)) ?_)))
    refine TO.quiet (q_conv_id Try.underlying5 Try.underlying3 rfl (wrap64_id ⟨by omega, by omega⟩)) (TO.quiet (q_move rfl) (TO.quiet (q_conv_id Try.underlying3 Try.underlying52 rfl (show IntKind.u64.wrap v = v by unfold IntKind.wrap; simp [IntKind.bits, IntKind.signed]; omega)) (TO.quiet (q_shl1 (v := v.toNat) rfl (by show Value.int _ v = _; rw [Int.toNat_of_nonneg (by omega)]) (by omega)) ?_)))
    refine TO.quiet (q_geq rfl rfl) ?_
    refine TO.nil ?_
    refine T.condP rfl (fun hc => ?_) (fun hc => ?_)
    · have hlt47 : (l.pre ++ l.loop)[k] ≥ 2 ^ v.toNat := by omega
      refine T.seq (T.region ?_)
      refine TO.quiet (q_assign rfl) ?_
      refine TO.nil (T.ret (Res.drop ?_))
      refine Res.one (.int .i64 1) Try.results58 rfl ?_
      refine ⟨[], Sub.of (List.nil_sublist _), congrArg (fun z : Nat => Value.int .i64 (z : Int)) (Eq.symm (a := checkLV v l) (b := 1) ?_), rfl⟩
      unfold checkLV checkL; rw [if_neg (by omega), if_neg (by omega), if_neg (by omega), if_neg]
      rw [← Bool.and_eq_true, ← List.all_append, all_no hkl (decide_eq_false (by omega))]; decide
    have hge47 : ¬ (l.pre ++ l.loop)[k] ≥ 2 ^ v.toNat := by omega
    refine T.skip (T.region ?_)
    refine TO.quiet (q_move rfl) (TO.quiet (q_addN (a := k) (b := 1) rfl rfl (by omega)) (TO.quiet (q_assign rfl) ?_))
    refine TO.nil ?_
    exact ⟨k + 1, by omega, rfl, by omega, all_snoc hkl hall (decide_eq_true (by omega)), ⟨rfl, rfl, rfl, rfl, rfl, trivial⟩⟩
  have hge36 : ¬ k < l.pre.length + l.loop.length := by omega
  refine T.exit ?_
  refine T.seq (T.region ?_)
  refine TO.quiet (q_assign rfl) ?_
  refine TO.nil (T.ret (Res.drop ?_))
  refine Res.one (.int .i64 0) Try.results58 rfl ?_
  refine ⟨[], Sub.of (List.nil_sublist _), congrArg (fun z : Nat => Value.int .i64 (z : Int)) (Eq.symm (a := checkLV v l) (b := 0) ?_), rfl⟩
  have hd := all_done (by simp; omega) hall
  rw [List.all_append, Bool.and_eq_true] at hd
  unfold checkLV checkL; rw [if_neg (by omega), if_neg (by omega), if_neg (by omega), if_pos hd]
end Go.Proofs.Ytnamoapbienooaa

namespace Go.Lx
open Go.RowKit
set_option linter.unusedVariables false
section
variable {P : Program} {r : Option Nat} {base : World} {n : Nat} {ρ : Env} {O : List Item} {K : Env → List Item → Prop} {d : Nat} {t : TypeId} {p : String} {af : Array Edge} {g : Option (Nat × Bool)}
theorem q_cap {x : Operand} {T : TypeId} {E : TypeId} {b : Option Addr} {m c : Nat} {dst : Option Nat} (hu : P.underlying T = some (.slice E)) (hx : ev ρ x = .slice b m c) :
    QT P base ⟨dst, .call ⟨.builtin .cap, #[x], #[T]⟩, t, p, af, g⟩ ρ O (.int .i64 (c : Int)) := fun w _ => by
  simp [execOp, resolve, hx, invoke, builtin, Builtin.cap_, run_underlying' hu, goInt]
theorem l_appendZ {T U E : TypeId} {m by_ : Nat} {x y : Operand} {z : Value} {k : IntKind} (hu : P.underlying T = some (.slice E)) (hxu : P.underlying U = some (.int .i64)) (hi : Inf P E z 1 by_) (hz : z.cells = #[z])
    (hx : ev ρ x = .slice none 0 0) (hy : ev ρ y = .int k (m : Int)) (hm : 0 < m) (hsz : m * by_ ≤ 70368744177664) (hby : by_ ≤ 1000000) (hsz' : 0 < by_)
    (h : ∀ b' c', m ≤ c' → K (upd ρ d (.slice b' m c')) (rowI b' c' E 1 (List.replicate m z) :: O)) (hn : Nat.blt d n = true := by rfl) :
    LT P r base n ⟨some d, .call ⟨.builtin .append, #[x, y], #[T, U]⟩, t, p, af, g⟩ ρ O K :=
  LT.of_run hn fun w M hI => by
    obtain ⟨i, hi1, hi2, hi3, hi4⟩ := hi.get
    obtain ⟨cap, hcap⟩ : ∃ cap, (Question.appendCap m 0 E).cut (w.tape w.drawn (Question.appendCap m 0 E)) = cap := ⟨_, rfl⟩
    have hle : m ≤ cap := hcap ▸ cut_cap m 0 _ E
    have hforced : (Question.appendCap m 0 E).forced = false := rfl
    have hI' : Inv base (O ++ M) w.drew := hI.drew
    have hmb : m ≤ 70368744177664 := Nat.le_trans (Nat.le_mul_of_pos_right m hsz') hsz
    have hw : IntKind.i64.wrap (m : Int) = (m : Int) := wrap64_id (by omega)
    have hnext : ¬ (281474976710656 < Builtin.nextslicecap m 0 * by_) := by
      have h1 := nextcap_le (need := m) (cap := 0) hm
      have h2 : Builtin.nextslicecap m 0 * by_ ≤ (2 * m + 192) * by_ := Nat.mul_le_mul_right _ h1
      have h3 : (2 * m + 192) * by_ = 2 * (m * by_) + 192 * by_ := by rw [Nat.add_mul, Nat.mul_assoc]
      omega
    have hbig : ¬ ((281474976710656 : Int) < (m : Int) * (by_ : Int)) := by
      have : ((m * by_ : Nat) : Int) = (m : Int) * (by_ : Int) := Int.natCast_mul _ _
      rw [← this]; omega
    have hm0 : ¬ m = 0 := by omega
    have hm1 : ¬ (m : Int) < 0 := by omega
    have hmax : ¬ ((9223372036854775807 : Int) < (m : Int)) := by omega
    have hmx : max (m : Int) 0 = (m : Int) := by omega
    have hle0 : ¬ (m : Int) ≤ 0 := by omega
    have hzc : Builtin.zeroCells z.cells m = (List.replicate m z).toArray := by
      unfold Builtin.zeroCells; rw [hz]
      have := zeros_one z m
      simpa using this
    have hzr : (m * z.cells.size) = m := by rw [hz]; simp
    refine ⟨.slice (some ⟨w.heap.size, 0, none⟩) m cap, w.drew.alloc (.cells ((List.replicate m z).toArray ++ Builtin.zeroCells z.cells (cap - m)) E), _, ?_, ?_, h (some ⟨w.heap.size, 0, none⟩) cap hle⟩
    · simp [execOp, resolve, hx, hy, invoke, builtin, Builtin.append_, run_underlying' hu, run_underlying' hxu, run_sizeOf' hi, asInt, asIntOf, hw, hm1, hmx, hle0, hbig, run_typeInfo' hi1, hi4, hm0, hmax, hnext, hforced, hcap, Builtin.firstCells, run_zeroValue' hi, hzc, newRow]
    · refine Inv.new (O := O ++ M) (N := [rowI (some ⟨w.heap.size, 0, none⟩) cap E 1 (List.replicate m z)]) hI rfl rfl rfl (by simp) (fun b hb => ?_) ?_ ?_ (by simp [rowI])
      · show (w.heap.push _)[b]? = _
        rw [Array.getElem?_push, if_neg (by omega)]
      · intro x hx
        simp at hx; subst hx
        refine ⟨rfl, (List.replicate m z).toArray ++ Builtin.zeroCells z.cells (cap - m), ?_, by simp; exact hle, ?_, fun q hq => ?_⟩
        · show (w.heap.push _)[w.heap.size]? = _; simp
        · simp only [Array.size_append, List.size_toArray, List.length_replicate, zeros_any, hz, Nat.zero_add]
          simp; omega
        · simp only [List.length_replicate] at hq
          simp only [Nat.zero_add]
          rw [Array.getElem?_append_left (by simpa using hq)]
          simp [hq]
      · intro x hx b hb
        simp at hx; subst hx
        simp [rowI] at hb; subst hb
        exact ⟨Nat.le_refl _, by simp⟩
theorem LT.of_val0 {op : Op}
    (h : ∀ w M, Inv base (O ++ M) w → ∃ v w' O', (execOp (ev ρ) ⟨none, op, t, p, af, g⟩).run P w = .ok (.value v) w' ∧ Inv base (O' ++ M) w' ∧ K ρ O') : LT P r base n ⟨none, op, t, p, af, g⟩ ρ O K := by
  intro a w M ds ha hi next Qx hnext
  obtain ⟨v, w', O', hr, hI, hK⟩ := h w M hi
  rw [← ha.eval] at hr
  refine wpIn_Fr (notDefer hr (by simp)) ?_
  rw [hr]
  exact hnext _ _ _ _ ha hI hK
theorem l_clear (i : Nat) {T E : TypeId} {x : Operand} {b : Option Addr} {c lo by_ : Nat} {z : Value} {cs : List Value} (hu : P.underlying T = some (.slice E)) (hi : Inf P E z 1 by_) (hz : z.cells = #[z]) (hone : oneB z = true)
    (hx : ev ρ x = .slice (subB b c lo 1) (cs.length - lo) (c - lo)) (hO : O[i]? = some (rowI b c E 1 cs)) (hlo : lo ≤ cs.length)
    (h : K ρ (O.set i (rowI b c E 1 (cs.take lo)))) : LT P r base n ⟨none, .call ⟨.builtin .clear, #[x], #[T]⟩, t, p, af, g⟩ ρ O K :=
  LT.of_val0 fun w M hI => by
    have hrow := hI.row (at_app hO)
    have hweak : Inv base ((O.set i (rowI b c E 1 (cs.take lo))) ++ M) w := by rw [← set_app hO]; exact hI.head (at_app hO) lo
    by_cases h0 : cs.length - lo = 0
    · refine ⟨.tuple #[], w, _, ?_, hweak, h⟩
      rw [h0] at hx
      cases hb : subB b c lo 1 with
      | none => rw [hb] at hx; simp [execOp, resolve, hx, invoke, builtin, Builtin.clear_, run_underlying' hu]
      | some a => rw [hb] at hx; simp [execOp, resolve, hx, invoke, builtin, Builtin.clear_, run_underlying' hu]
    · cases b with
      | none => obtain ⟨rfl, _⟩ := hrow; simp at h0
      | some a =>
        obtain ⟨bk, o, sp⟩ := a
        obtain ⟨hsp, full, hb, h1, h2, h3⟩ := hrow
        simp only at hsp hb h1 h2 h3
        subst hsp
        have hne : c ≠ lo := by omega
        have hsub : subB (some ⟨bk, o, none⟩) c lo 1 = some ⟨bk, o + lo, none⟩ := by
          unfold subB; rw [if_neg hne]; simp [add_off]
        rw [hsub] at hx
        obtain ⟨fl, rfl⟩ : ∃ fl : List Value, full = fl.toArray := ⟨full.toList, by simp⟩
        simp only [List.size_toArray] at h2
        have hst := storeCells_run (P := P) (b := bk) (o := o + lo) (T := E) (List.replicate (cs.length - lo) z) fl 0 w hb (by simp; omega) (by simp [hone])
        have hzc : (Builtin.zeroCells z.cells (cs.length - lo)).toList = List.replicate (cs.length - lo) z := by
          have h9 := congrArg Array.toList (zeros_one z (cs.length - lo))
          unfold Builtin.zeroCells; rw [hz]
          simp at h9 ⊢
          exact h9
        refine ⟨.tuple #[], setB w bk (.cells (putL fl (o + lo + 0) (List.replicate (cs.length - lo) z)).toArray E (0, 0)), _, ?_, ?_, h⟩
        · obtain ⟨q, hq⟩ : ∃ q, cs.length - lo = q + 1 := ⟨cs.length - lo - 1, by omega⟩
          simp [execOp, resolve, hx, invoke, builtin, Builtin.clear_, run_underlying' hu, run_zeroValue' hi]
          rw [hq] at hzc hst ⊢
          simp [hzc, hst]
        · rw [← set_app hO]
          refine hI.setRow (at_app hO) (cs' := cs.take lo) (by simp; omega) (by simp [putL_length]; omega) ?_
          intro j hj
          simp only [List.length_take] at hj
          have e1 : (putL fl (o + lo + 0) (List.replicate (cs.length - lo) z)).toArray[o + j]? = (putL fl (o + lo) (List.replicate (cs.length - lo) z))[o + j]? := by simp
          rw [e1, putL_get _ fl (o + lo) (o + j) (by simp; omega), if_neg (by omega), List.getElem_take]
          have := h3 j (by omega)
          simpa using this
end
theorem NextT.reorder {P : Program} {base : World} {M : List Item} {R : Value → List Item → Prop} {x : Result Next} (h : NextT P base M (fun v O' => ∃ O2, Sub O2 O' ∧ R v O2) x) : NextT P base M R x := by
  cases x with
  | halt e w => exact h
  | ok y w =>
    cases y with
    | enter f args => exact Calls.mono h (fun e w' ⟨v, O', h1, h2, O2, hs, hr⟩ => ⟨v, O2, h1, h2.subp hs.app, hr⟩)
    | round l f tmps assign body => exact RoundIn.mono h (fun e w' ⟨v, O', h1, h2, O2, hs, hr⟩ => ⟨v, O2, h1, h2.subp hs.app, hr⟩)
    | _ => exact h
theorem CallV.reorder {P : Program} {base : World} {fv : Value} {args : List Value} {O : List Item} {R : Value → List Item → Prop} (h : CallV P base fv args O (fun v O' => ∃ O2, Sub O2 O' ∧ R v O2)) : CallV P base fv args O R := fun w M hI => (h w M hI).reorder
theorem sub_swap {A B : List Item} : Sub (A ++ B) (B ++ A) := ⟨_, List.perm_append_comm, List.Sublist.refl _⟩
theorem CallV.atR {P : Program} {base : World} {fv : Value} {args : List Value} {A : List Item} (B : List Item) {R : Value → List Item → Prop} (h : CallV P base fv args A R) : CallV P base fv args (B ++ A) (fun v O' => ∃ A', O' = B ++ A' ∧ R v A') :=
  ((h.under (B := B) sub_swap).mono (fun v O' ⟨A', e, hr⟩ => ⟨B ++ A', by rw [e]; exact sub_swap, A', rfl, hr⟩)).reorder
theorem Inv.right {base : World} {A B : List Item} {w : World} (h : Inv base (A ++ B) w) : Inv base B w := h.sub (List.sublist_append_right _ _)
def WordsR (w : World) (vs : List Value) (ws : List (List Nat)) : Prop :=
  vs.length = ws.length ∧ ∀ (i : Nat) (r : List Nat), ws[i]? = some r → ∃ b c, vs[i]? = some (Value.slice b r.length c) ∧ Sl w b (byts r)
theorem WordsR.get {w : World} {vs : List Value} {ws : List (List Nat)} (h : WordsR w vs ws) {i : Nat} (hi : i < ws.length) : ∃ b c, vs[i]? = some (Value.slice b ws[i].length c) ∧ Sl w b (byts ws[i]) :=
  h.2 i _ (List.getElem?_eq_getElem hi)
theorem WordsR.keep {w w' : World} {vs : List Value} {ws : List (List Nat)} (h : WordsR w vs ws) (hb : ∀ k, k < w.heap.size → w'.heap[k]? = w.heap[k]?) : WordsR w' vs ws :=
  ⟨h.1, fun i r hr => by obtain ⟨b, c, h1, h2⟩ := h.2 i r hr; exact ⟨b, c, h1, h2.keep hb⟩⟩
theorem flat_take {ws : List (List Nat)} {k : Nat} (hk : k < ws.length) : (ws.take (k + 1)).flatten = (ws.take k).flatten ++ ws[k] := by
  rw [List.take_succ_eq_append_getElem hk, List.flatten_append]; simp
theorem flat_le {ws : List (List Nat)} (k : Nat) : (ws.take k).flatten.length ≤ ws.flatten.length := by
  conv => rhs; rw [← List.take_append_drop k ws, List.flatten_append]
  simp
theorem WordsR.two {w : World} {b1 b2 : Option Addr} {c1 c2 n1 n2 : Nat} {r1 r2 : List Nat} (h1 : Sl w b1 (byts r1)) (h2 : Sl w b2 (byts r2)) (e1 : r1.length = n1) (e2 : r2.length = n2) : WordsR w [.slice b1 n1 c1, .slice b2 n2 c2] [r1, r2] := by
  refine ⟨rfl, fun i r hr => ?_⟩
  match i with
  | 0 => simp at hr; subst hr; exact ⟨b1, c1, by rw [e1]; rfl, h1⟩
  | 1 => simp at hr; subst hr; exact ⟨b2, c2, by rw [e2]; rfl, h2⟩
  | i + 2 => simp at hr
theorem Sl.bsub {w : World} {b : Option Addr} {xs : List Nat} (h : Sl w b (byts xs)) {c lo hi : Nat} (hc : xs.length ≤ c) (hlo : lo < hi) (hhi : hi ≤ xs.length) : Sl w (subB b c lo 1) (byts ((xs.take hi).drop lo)) := by
  have h1 := h.sub c lo 1 (hi - lo) (fun e => by omega)
  rw [Nat.mul_one, ← List.map_drop, ← List.map_take] at h1
  rwa [List.drop_take]
theorem Sl.btake {w : World} {b : Option Addr} {xs : List Nat} (h : Sl w b (byts xs)) (m : Nat) : Sl w b (byts (xs.take m)) := fun i hi => by
  have hi' : i < xs.length := by rw [List.length_map, List.length_take] at hi; omega
  obtain ⟨a, h1, h2, h3⟩ := h i (by simpa using hi')
  exact ⟨a, h1, h2, by rw [h3]; simp⟩
end Go.Lx

namespace Go.Proofs.Ytnamoapbienooaa
open Go.Lx Go.RowKit
set_option linter.unusedVariables false
set_option linter.unusedSimpArgs false
set_option maxHeartbeats 1000000 in
set_option maxRecDepth 20000 in
theorem cloneINil (w : World) (c : Nat) :
    PureT Try.prog 70 [.slice none 0 c] w fun v N => ∃ b' c', v = .slice b' 0 c' ∧ N = [rowI b' c' 3 1 []] := by
  refine CallT.enter Try.func70 rfl Try.ntmps70 rfl ?_
  refine T.seq (T.region ?_)
  refine TO.quiet (q_assign rfl) ?_
  refine TO.nil (T.seq (T.seq (T.region ?_)))
  refine TO.quiet (q_move rfl) (TO.quiet (q_eqlNil Try.underlying22 rfl rfl) ?_)
  refine TO.nil ?_
  refine T.cond1 rfl ?_
  refine T.seq ?_
  refine T.nilRow 3 1 ?_
  refine T.region ?_
  refine TO.quiet (q_assign rfl) ?_
  refine TO.nil (T.ret ?_)
  refine Res.one (.slice none 0 0) Try.results70 rfl ?_
  exact ⟨_, _, rfl, rfl⟩
set_option maxHeartbeats 1000000 in
set_option maxRecDepth 20000 in
theorem cloneISome (w : World) (a : Addr) (c : Nat) (xs : List Int) (h1 : Sl w (some a) (ints xs)) (hb : xs.length ≤ 1000000000) :
    PureT Try.prog 70 [.slice (some a) xs.length c] w fun v N => ∃ b' c', v = .slice b' xs.length c' ∧ N = [rowI b' c' 3 1 (ints xs)] := by
  refine CallT.enter Try.func70 rfl Try.ntmps70 rfl ?_
  refine T.seq (T.region ?_)
  refine TO.quiet (q_assign rfl) ?_
  refine TO.nil (T.seq (T.seq (T.region ?_)))
  refine TO.quiet (q_move rfl) (TO.quiet (q_eqlNil Try.underlying22 rfl rfl) ?_)
  refine TO.nil ?_
  refine T.cond0 rfl ?_
  refine T.skip (T.seq (T.region ?_))
  refine TO.loud rfl (l_buildSlice (m := 0) (parts := []) (cs := []) Try.underlying22 inf3 (by decide) (by simp [Instr.fill]) rfl (fun b1 => ?_))
  refine TO.quiet (q_move rfl) ?_
  refine TO.loud rfl (l_append 0 Try.underlying22 Try.underlying22 inf3 rfl rfl rfl rfl (by simp) (by decide) (Src.sl h1 (by simp)) (ints_one xs) (by omega) (by decide) (by decide) (fun bx1 c2 => ?_))
  refine TO.quiet (q_assign rfl) ?_
  refine TO.nil (T.ret ?_)
  refine Res.one (.slice bx1 (0 + xs.length) c2) Try.results70 rfl ?_
  exact ⟨_, _, by rw [Nat.zero_add], rfl⟩
theorem cloneI (w : World) (b : Option Addr) (c : Nat) (xs : List Int) (h1 : Sl w b (ints xs)) (hb : xs.length ≤ 1000000000) :
    PureT Try.prog 70 [.slice b xs.length c] w fun v N => ∃ b' c', v = .slice b' xs.length c' ∧ N = [rowI b' c' 3 1 (ints xs)] := by
  cases b with
  | none =>
    have hx : xs = [] := by
      cases xs with
      | nil => rfl
      | cons x xs => obtain ⟨_, _, e⟩ := h1.addr (i := 0) (by simp); cases e
    subst hx
    exact cloneINil w c
  | some a => exact cloneISome w a c xs h1 hb
set_option maxHeartbeats 1000000 in
set_option maxRecDepth 20000 in
theorem cloneBNil (w : World) (c : Nat) :
    PureT Try.prog 81 [.slice none 0 c] w fun v N => ∃ b' c', v = .slice b' 0 c' ∧ N = [rowI b' c' 5 1 []] := by
  refine CallT.enter Try.func81 rfl Try.ntmps81 rfl ?_
  refine T.seq (T.region ?_)
  refine TO.quiet (q_assign rfl) ?_
  refine TO.nil (T.seq (T.seq (T.region ?_)))
  refine TO.quiet (q_move rfl) (TO.quiet (q_eqlNil Try.underlying27 rfl rfl) ?_)
  refine TO.nil ?_
  refine T.cond1 rfl ?_
  refine T.seq ?_
  refine T.nilRow 5 1 ?_
  refine T.region ?_
  refine TO.quiet (q_assign rfl) ?_
  refine TO.nil (T.ret ?_)
  refine Res.one (.slice none 0 0) Try.results81 rfl ?_
  exact ⟨_, _, rfl, rfl⟩
set_option maxHeartbeats 1000000 in
set_option maxRecDepth 20000 in
theorem cloneBSome (w : World) (a : Addr) (c : Nat) (xs : List Nat) (h1 : Sl w (some a) (byts xs)) (hb : xs.length ≤ 1000000000) :
    PureT Try.prog 81 [.slice (some a) xs.length c] w fun v N => ∃ b' c', v = .slice b' xs.length c' ∧ N = [rowI b' c' 5 1 (byts xs)] := by
  refine CallT.enter Try.func81 rfl Try.ntmps81 rfl ?_
  refine T.seq (T.region ?_)
  refine TO.quiet (q_assign rfl) ?_
  refine TO.nil (T.seq (T.seq (T.region ?_)))
  refine TO.quiet (q_move rfl) (TO.quiet (q_eqlNil Try.underlying27 rfl rfl) ?_)
  refine TO.nil ?_
  refine T.cond0 rfl ?_
  refine T.skip (T.seq (T.region ?_))
  refine TO.loud rfl (l_buildSlice (m := 0) (parts := []) (cs := []) Try.underlying27 inf5 (by decide) (by simp [Instr.fill]) rfl (fun b1 => ?_))
  refine TO.quiet (q_move rfl) ?_
  refine TO.loud rfl (l_append 0 Try.underlying27 Try.underlying27 inf5 rfl rfl rfl rfl (by simp) (by decide) (Src.sl h1 (by simp)) (byts_one xs) (by omega) (by decide) (by decide) (fun bx1 c2 => ?_))
  refine TO.quiet (q_assign rfl) ?_
  refine TO.nil (T.ret ?_)
  refine Res.one (.slice bx1 (0 + xs.length) c2) Try.results81 rfl ?_
  exact ⟨_, _, by rw [Nat.zero_add], rfl⟩
theorem cloneB (w : World) (b : Option Addr) (c : Nat) (xs : List Nat) (h1 : Sl w b (byts xs)) (hb : xs.length ≤ 1000000000) :
    PureT Try.prog 81 [.slice b xs.length c] w fun v N => ∃ b' c', v = .slice b' xs.length c' ∧ N = [rowI b' c' 5 1 (byts xs)] := by
  cases b with
  | none =>
    have hx : xs = [] := by
      cases xs with
      | nil => rfl
      | cons x xs => obtain ⟨_, _, e⟩ := h1.addr (i := 0) (by simp); cases e
    subst hx
    exact cloneBNil w c
  | some a => exact cloneBSome w a c xs h1 hb
set_option maxHeartbeats 1000000 in
set_option maxRecDepth 20000 in
theorem growB (w : World) (n : Nat) (hn : n ≤ 1000000000) :
    PureT Try.prog 108 [.slice none 0 0, .int .i64 (n : Int)] w fun v N => ∃ b c, v = .slice b 0 c ∧ N = [rowI b c 5 1 []] := by
  refine CallT.enter Try.func108 rfl Try.ntmps108 rfl ?_
  refine T.seq (T.region ?_)
  refine TO.quiet (q_assign rfl) ?_
  refine TO.nil (T.seq (T.seq (T.region ?_)))
  refine TO.quiet (q_move rfl) (TO.quiet (q_lss rfl rfl) ?_)
  refine TO.nil ?_
  refine T.cond0 (congrArg Value.bool (decide_eq_false (by omega))) ?_
  refine T.skip (T.seq (T.seq (T.region ?_)))
  refine TO.quiet (q_move rfl) (TO.quiet (q_move rfl) (TO.quiet (q_cap Try.underlying27 rfl) (TO.quiet (q_move rfl) ?_)))
  refine TO.quiet (q_len Try.underlying27 rfl) (TO.quiet (q_subN (a := 0) (b := 0) rfl rfl (by omega) (by omega)) (TO.quiet (QT.cast (q_subN (a := n) (b := 0) rfl rfl (by omega) (by omega)) (v' := .int .i64 ((n : Nat) : Int)) (by rw [Nat.sub_zero])) (TO.quiet (q_assign rfl) ?_)))
  refine TO.nil (T.seq (T.region ?_))
  refine TO.quiet (q_move rfl) (TO.quiet (q_gtr rfl rfl) ?_)
  refine TO.nil ?_
  refine T.condP rfl (fun hc => ?_) (fun hc => ?_)
  · have hlt16 : n > 0 := by omega
    refine T.region ?_
    refine TO.quiet (q_move rfl) (TO.quiet (q_move rfl) (TO.quiet (q_cap Try.underlying27 rfl) (TO.quiet (q_sliceTo (hi := 0) Try.underlying27 inf5 rfl rfl (Nat.le_refl _)) ?_)))
    refine TO.quiet (q_move rfl) ?_
    refine TO.loud rfl (l_appendZ (m := n) Try.underlying27 Try.underlying3 inf5 rfl rfl rfl (by omega) (by omega) (by decide) (by decide) (fun gb gc hgc => ?_))
    refine TO.quiet (q_move rfl) (TO.quiet (q_len Try.underlying27 rfl) ?_)
    refine TO.loud rfl (l_head (m := 0) 0 Try.underlying27 inf5 rfl rfl rfl (by omega) ?_)
    refine TO.sub (O' := [rowI gb gc 5 1 []]) (by rw [show (List.replicate n (Value.int .u8 0)).take (0 * 1) = [] from (by simp)]; exact Sub.of (List.Sublist.refl _)) ?_
    refine TO.quiet (q_assign rfl) ?_
    refine TO.nil (T.seq ?_)
    
    refine T.region ?_
    refine TO.quiet (q_move rfl) (TO.quiet (q_assign rfl) ?_)
    refine TO.nil (T.ret (Res.drop ?_))
    refine Res.one (.slice gb 0 gc) Try.results108 rfl ?_
    exact ⟨_, Sub.of (List.Sublist.refl _), _, _, rfl, rfl⟩
  have hge16 : ¬ n > 0 := by omega
  refine T.skip (T.seq ?_)
  refine T.nilRow 5 1 ?_
  refine T.region ?_
  refine TO.quiet (q_move rfl) (TO.quiet (q_assign rfl) ?_)
  refine TO.nil (T.ret (Res.drop ?_))
  refine Res.one (.slice none 0 0) Try.results108 rfl ?_
  exact ⟨_, Sub.of (List.Sublist.refl _), _, _, rfl, rfl⟩
set_option maxHeartbeats 1000000 in
set_option maxRecDepth 20000 in
theorem concatB (w : World) (b : Option Addr) (c : Nat) (vs : List Value) (ws : List (List Nat)) (hS : Sl w b vs) (hW : WordsR w vs ws) (hl : ws.length ≤ 1000000) (hb : ws.flatten.length ≤ 1000000000) :
    PureT Try.prog 82 [.slice b ws.length c] w fun v N => ∃ b' c', v = .slice b' ws.flatten.length c' ∧ N = [rowI b' c' 5 1 (byts ws.flatten)] := by
  refine CallT.enter Try.func82 rfl Try.ntmps82 rfl ?_
  refine T.seq (T.region ?_)
  refine TO.quiet (q_assign rfl) ?_
  refine TO.nil (T.seq (T.region ?_))
  refine TO.quiet (q_assign rfl) ?_
  refine TO.nil (T.seq (T.seq (T.region ?_)))
  refine TO.quiet (q_move rfl) (TO.quiet (q_len Try.underlying131 rfl) (TO.quiet (q_move rfl) ?_))
  refine TO.nil (T.block ?_)
  refine T.loop (fun (k : Nat) ρ O => O = [] ∧ k ≤ ws.length ∧ Heads [(0, (.slice b ws.length c)), (2, (.slice none 0 0)), (3, .int .i64 (((ws.take k).flatten.length : Nat) : Int)), (9, (.slice b ws.length c)), (10, .int .i64 (ws.length : Int)), (11, .int .i64 (k : Int))] ρ) (fun k => ws.length - k) 0 ?_ ?_
  · exact ⟨rfl, Nat.zero_le _, ⟨rfl, rfl, rfl, rfl, rfl, rfl, trivial⟩⟩
  rintro k ρ O ⟨rfl, hk, hH⟩
  obtain ⟨ρ0, rfl⟩ := hH.elim
  clear hH
  refine T.seq (T.region ?_)
  refine TO.quiet (q_lss rfl rfl) ?_
  refine TO.nil (T.seq ?_)
  refine T.condP rfl (fun hc => ?_) (fun hc => ?_)
  · have hlt12 : k < ws.length := by omega
    obtain ⟨rb, rc, g1, s1⟩ := hW.get hlt12
    have hfl := flat_le (ws := ws) (k + 1)
    rw [flat_take hlt12, List.length_append] at hfl
    refine T.skip (T.seq (T.block (T.seq (T.region ?_))))
    refine TO.quiet (q_ix (i := k) Try.underlying131 inf27 rfl rfl (Sl.o hS) (by first | assumption | omega | (simp; omega) | simp_all) (by rw [hW.1]; exact hlt12)) (TO.quiet (q_ld Try.underlying27 rfl rfl (Sl.o hS) g1) (TO.quiet (q_assign rfl) ?_))
    refine TO.nil (T.seq (T.region ?_))
    refine TO.quiet (q_move rfl) (TO.quiet (q_move rfl) (TO.quiet (q_len Try.underlying27 rfl) (TO.quiet (q_addN (a := ((ws.take k).flatten.length)) (b := ws[k].length) rfl rfl (by omega)) ?_)))
    refine TO.quiet (q_assign rfl) ?_
    refine TO.nil (T.seq (T.region ?_))
    refine TO.quiet (q_move rfl) (TO.quiet (q_lss rfl rfl) ?_)
    refine TO.nil ?_
    refine T.cond0 (congrArg Value.bool (decide_eq_false (by omega))) ?_
    refine T.skip (T.region ?_)
    refine TO.quiet (q_addN (a := k) (b := 1) rfl rfl (by omega)) (TO.quiet (q_move rfl) ?_)
    refine TO.nil ?_
    refine ⟨k + 1, by omega, rfl, by omega, ?_⟩
    rw [flat_take hlt12, List.length_append]; exact ⟨rfl, rfl, rfl, rfl, rfl, rfl, trivial⟩
  have hge12 : ¬ k < ws.length := by omega
  refine T.exit ?_
  refine T.seq (T.region ?_)
  refine TO.quiet (q_move rfl) ?_
  have hk24 := fun (w1 : World) (hI : Inv w [] w1) => growB w1 (ws.take k).flatten.length (by have := flat_le (ws := ws) k; omega)
  refine TO.loud rfl (l_call ent108 (CallT.of_pure hk24) rfl ?_)
  clear hk24
  rintro vr O' ⟨N, rfl, gb, gc, rfl, rfl⟩
  refine TO.quiet (q_assign rfl) ?_
  refine TO.nil (T.seq (T.seq (T.region ?_)))
  refine TO.quiet (q_move rfl) (TO.quiet (q_len Try.underlying131 rfl) (TO.quiet (q_move rfl) ?_))
  refine TO.nil (T.block ?_)
  refine T.loop (fun (j : Nat) ρ O => ∃ (gb2 : Option Addr) (gc2 : Nat), O = [rowI gb2 gc2 5 1 (byts (ws.take j).flatten)] ∧ j ≤ ws.length ∧ Heads [(0, (.slice b ws.length c)), (2, (.slice none 0 0)), (3, .int .i64 (((ws.take k).flatten.length : Nat) : Int)), (6, (.slice gb2 ((ws.take j).flatten.length) gc2)), (25, (.slice b ws.length c)), (26, .int .i64 (ws.length : Int)), (27, .int .i64 (j : Int))] ρ) (fun j => ws.length - j) 0 ?_ ?_
  · exact ⟨gb, gc, rfl, Nat.zero_le _, ⟨rfl, rfl, rfl, rfl, rfl, rfl, rfl, trivial⟩⟩
  rintro j ρ O ⟨gb2, gc2, rfl, hj, hH⟩
  obtain ⟨ρ0, rfl⟩ := hH.elim
  clear hH
  refine T.seq (T.region ?_)
  refine TO.quiet (q_lss rfl rfl) ?_
  refine TO.nil (T.seq ?_)
  refine T.condP rfl (fun hc => ?_) (fun hc => ?_)
  · have hlt28 : j < ws.length := by omega
    obtain ⟨rb, rc, g1, s1⟩ := hW.get hlt28
    have hfl := flat_le (ws := ws) (j + 1)
    rw [flat_take hlt28, List.length_append] at hfl
    refine T.skip (T.seq (T.block (T.seq (T.region ?_))))
    refine TO.quiet (q_ix (i := j) Try.underlying131 inf27 rfl rfl (Sl.o hS) (by first | assumption | omega | (simp; omega) | simp_all) (by rw [hW.1]; exact hlt28)) (TO.quiet (q_ld Try.underlying27 rfl rfl (Sl.o hS) g1) (TO.quiet (q_assign rfl) ?_))
    refine TO.nil (T.region ?_)
    refine TO.quiet (q_move rfl) (TO.quiet (q_move rfl) ?_)
    refine TO.loud rfl (l_append 0 Try.underlying27 Try.underlying27 inf5 rfl rfl rfl rfl (by rw [List.length_map, Nat.mul_one]) (by decide) (Src.sl s1 (by simp)) (byts_one ws[j]) (by omega) (by decide) (by decide) (fun bx1 c2 => ?_))
    refine TO.quiet (q_assign rfl) ?_
    refine TO.nil (T.region ?_)
    refine TO.quiet (q_addN (a := j) (b := 1) rfl rfl (by omega)) (TO.quiet (q_move rfl) ?_)
    refine TO.nil ?_
    have e := flat_take hlt28
    refine ⟨j + 1, by omega, bx1, c2, ?_, by omega, ?_⟩
    · rw [e, show byts ((ws.take j).flatten ++ ws[j]) = byts (ws.take j).flatten ++ byts ws[j] from List.map_append]; rfl
    · rw [e, List.length_append]; exact ⟨rfl, rfl, rfl, rfl, rfl, rfl, rfl, trivial⟩
  have hge28 : ¬ j < ws.length := by omega
  refine T.exit ?_
  refine T.seq (T.region ?_)
  refine TO.quiet (q_move rfl) (TO.quiet (q_assign rfl) ?_)
  refine TO.nil (T.ret (Res.drop ?_))
  refine Res.one (.slice gb2 ((ws.take j).flatten.length) gc2) Try.results82 rfl ?_
  have hke : j = ws.length := by omega
  subst hke
  rw [List.take_length]
  exact ⟨_, Sub.of (List.Sublist.refl _), _, _, rfl, rfl⟩
set_option maxHeartbeats 1000000 in
set_option maxRecDepth 20000 in
theorem reverseB (base : World) (b : Option Addr) (c c' : Nat) (xs : List Nat) (hb : xs.length ≤ 1000000000) :
    CallT Try.prog base 106 [.slice b xs.length c'] [rowI b c 5 1 (byts xs)] (fun _ O' => O' = [rowI b c 5 1 (byts xs.reverse)]) := by
  refine CallT.enter Try.func106 rfl Try.ntmps106 rfl ?_
  refine T.seq (T.region ?_)
  refine TO.quiet (q_move rfl) (TO.quiet (q_len Try.underlying27 rfl) (TO.quiet (q_sub64 rfl rfl (by omega)) (TO.quiet (q_assign rfl) ?_)))
  refine TO.quiet (q_assign rfl) ?_
  refine TO.nil (T.block ?_)
  refine T.loop (fun (i : Nat) ρ O => ∃ (ys : List Nat), O = [rowI b c 5 1 (byts ys)] ∧ i ≤ xs.length ∧ ys.length = xs.length ∧ (∀ q, q < xs.length → ys[q]? = if q < i ∨ xs.length ≤ q + i then xs[xs.length - 1 - q]? else xs[q]?) ∧ Heads [(0, (.slice b xs.length c')), (2, .int .i64 (i : Int)), (3, .int .i64 ((xs.length : Int) - 1 - (i : Int)))] ρ) (fun i => xs.length - i) 0 ?_ ?_
  · exact ⟨xs, rfl, Nat.zero_le _, rfl, (fun q hq => by rw [if_neg (by omega)]), ⟨rfl, rfl, (by show Value.int .i64 ((xs.length : Int) - 1) = Value.int .i64 ((xs.length : Int) - 1 - ((0 : Nat) : Int)); congr 1; omega), trivial⟩⟩
  rintro i ρ O ⟨ys, rfl, hi, hyl, hys, hH⟩
  obtain ⟨ρ0, rfl⟩ := hH.elim
  clear hH
  refine T.seq (T.seq (T.region ?_))
  refine TO.quiet (q_move rfl) (TO.quiet (q_move rfl) (TO.quiet (q_lss rfl rfl) ?_))
  refine TO.nil ?_
  refine T.condP rfl (fun hc => ?_) (fun hc => ?_)
  · obtain ⟨j, hj⟩ : ∃ j : Nat, (xs.length : Int) - 1 - i = (j : Int) := ⟨xs.length - 1 - i, by omega⟩
    have hij : i < j := by omega
    have hjl : j < xs.length := by omega
    refine T.skip (T.seq (T.block ?_))
    refine T.draws2 [] [rowI b c 5 1 (byts ys)] [(0, 0), (1, 0), (2, 0), (3, 0), (4, 0), (5, 0), (6, 3), (7, 3), (8, 0), (9, 0), (10, 3), (11, 3), (12, 3), (13, 4), (14, 2), (15, 2)] mixed (by kernel_rfl) (Sub.of (List.nil_sublist _)) (Sub.pick [0] rfl) (fun _ _ _ h => h) ?_
    refine DO.quiet rfl (q_move rfl) (DO.quiet rfl (q_move rfl) (DO.quiet rfl (q_move rfl) (DO.quiet rfl (QT.cast (q_move rfl) (v' := .int .i64 ((j : Nat) : Int)) (by show Value.int _ _ = _; rw [← hj])) ?_)))
    refine DO.quiet rfl (q_move rfl) (DO.quiet rfl (QT.cast (q_move rfl) (v' := .int .i64 ((j : Nat) : Int)) (by show Value.int _ _ = _; rw [← hj])) ?_)
    refine DO.quiet2 rfl (q_ix (i := j) Try.underlying27 inf5 rfl rfl (rowO (List.mem_of_getElem? (i := 0) rfl))) ?_
    refine DO.quiet2 rfl (q_ld Try.underlying5 rfl rfl (rowO (List.mem_of_getElem? (i := 0) rfl)) byts_get) ?_
    refine DO.quiet rfl (q_move rfl) (DO.quiet rfl (q_move rfl) ?_)
    refine DO.quiet2 rfl (q_ix (i := i) Try.underlying27 inf5 rfl rfl (rowO (List.mem_of_getElem? (i := 0) rfl))) ?_
    refine DO.quiet2 rfl (q_ld Try.underlying5 rfl rfl (rowO (List.mem_of_getElem? (i := 0) rfl)) byts_get) ?_
    refine DO.quiet2 rfl (q_ix (i := i) Try.underlying27 inf5 rfl rfl (rowO (List.mem_of_getElem? (i := 0) rfl))) ?_
    refine DO.last2 rfl rfl (l_st (j := i) (v := .int .u8 ((ys[j] : Nat) : Int)) (vs := [(.int .u8 ((ys[j] : Nat) : Int))]) (cs := byts ys) 0 inf5 rfl rfl rfl rfl rfl (by simp) rfl (by first | (simp; omega) | (simp_all; omega)) ⟨Sub.pick [] rfl, ?_⟩)
    refine DO.sub (O' := [rowI b c 5 1 (byts (ys.set i ys[j]))]) (by rw [show putL (byts ys) i [(.int .u8 ((ys[j] : Nat) : Int))] = byts (ys.set i ys[j]) from (by simp [putL])]; exact Sub.of (List.Sublist.refl _)) ?_
    refine DO.last rfl rfl (LT.of_quiet rfl rfl (q_ix (i := j) Try.underlying27 inf5 rfl rfl (rowO (List.mem_of_getElem? (i := 0) rfl))) ?_)
    refine DO.last rfl rfl (l_st (j := j) (v := .int .u8 ((ys[i] : Nat) : Int)) (vs := [(.int .u8 ((ys[i] : Nat) : Int))]) (cs := byts (ys.set i ys[j])) 0 inf5 rfl rfl rfl rfl rfl (by simp) rfl (by first | (simp; omega) | (simp_all; omega)) ?_)
    refine DO.sub (O' := [rowI b c 5 1 (byts ((ys.set i ys[j]).set j ys[i]))]) (by rw [show putL (byts (ys.set i ys[j])) j [(.int .u8 ((ys[i] : Nat) : Int))] = byts ((ys.set i ys[j]).set j ys[i]) from (by simp [putL])]; exact Sub.of (List.Sublist.refl _)) ?_
    refine DO.done ?_
    refine T.region ?_
    refine TO.quiet (q_move rfl) (TO.quiet (q_addN (a := i) (b := 1) rfl rfl (by omega)) (TO.quiet (q_move rfl) (TO.quiet (q_sub64 rfl rfl (by omega)) ?_)))
    refine TO.quiet (q_assign rfl) (TO.quiet (q_assign rfl) ?_)
    refine TO.nil ?_
    refine ⟨i + 1, by omega, (ys.set i ys[j]).set j ys[i], rfl, by omega, by simp [hyl], fun q hq => ?_, ⟨rfl, rfl, ?_, trivial⟩⟩
    · have h1 := hys i (by omega)
      have h2 := hys j hjl
      rw [List.getElem?_eq_getElem (by omega), if_neg (by omega)] at h1 h2
      rw [List.getElem?_set, List.getElem?_set]
      by_cases e1 : j = q
      · subst e1
        rw [if_pos rfl, if_pos (by simp; omega), if_pos (by omega), h1]; congr 1; omega
      · rw [if_neg e1]
        by_cases e2 : i = q
        · subst e2
          rw [if_pos rfl, if_pos (by omega), if_pos (by omega), h2]; congr 1; omega
        · rw [if_neg e2, hys q hq]
          by_cases e3 : q < i ∨ xs.length ≤ q + i
          · rw [if_pos e3, if_pos (by omega)]
          · rw [if_neg e3, if_neg (by omega)]
    · show Value.int _ _ = Value.int _ _; congr 1; omega
  refine T.exit ?_
  refine Res.zero Try.results106 ?_
  have hyr : ys = xs.reverse := by
    apply List.ext_getElem?
    intro q
    by_cases hq : q < xs.length
    · rw [hys q hq, List.getElem?_reverse hq]
      split
      · rfl
      · congr 1; omega
    · rw [List.getElem?_eq_none (by omega), List.getElem?_eq_none (by simp; omega)]
  rw [hyr]
end Go.Proofs.Ytnamoapbienooaa

namespace Go.Lx
open Go.RowKit
set_option linter.unusedVariables false
structure TL where
  idx : List Nat
  low : List Nat
  comp : List Int
  stk : List Nat
  clk : Nat
  cnt : Nat
def TL.ts (s : TL) : TS := ⟨fn s.idx, fn s.low, fz s.comp, s.stk, s.clk, s.cnt⟩
def adjE (nx : List (List Int)) (u v : Nat) : Prop := ∃ r, nx[u]? = some r ∧ (v : Int) ∈ r
def adjN (nx : List (List Int)) (v : Nat) : List Nat := (nx.getD v []).map Int.toNat
structure TLok (n : Nat) (s : TL) : Prop where
  li : s.idx.length = n
  ll : s.low.length = n
  lc : s.comp.length = n
  ck : s.clk + s.idx.count 0 = n
  sk : s.stk.length ≤ s.clk
  ct : s.cnt + s.idx.count 0 ≤ n
structure VDone (n : Nat) (nx : List (List Int)) (gray : List Nat) (s : TL) (v : Nat) (s' : TL) (t : List Nat) : Prop where
  ok : TLok n s'
  inv : TInv n (adjE nx) gray s'.ts
  ext : TExt s.ts s'.ts t
  post : VPost (adjE nx) s.ts s'.ts t v
  ct : s'.cnt + s'.idx.count 0 ≤ s.cnt + s.idx.count 0
  lt : s'.idx.count 0 < s.idx.count 0
structure VRun (n : Nat) (nx : List (List Int)) (gray : List Nat) (s0 : TL) (v k : Nat) (s : TL) (t : List Nat) : Prop where
  ok : TLok n s
  lp : VLoop n (adjE nx) gray s0.ts v (adjN nx v) k s.ts t
  ct : s.cnt + s.idx.count 0 + 1 ≤ s0.cnt + s0.idx.count 0
  lt : s.idx.count 0 < s0.idx.count 0
theorem count_set0 {l : List Nat} {v a : Nat} (h : v < l.length) (h0 : l[v] = 0) (ha : a ≠ 0) : (l.set v a).count 0 + 1 = l.count 0 := by
  rw [List.count_set h, h0]
  have : 0 < l.count 0 := List.count_pos_iff.2 (by rw [← h0]; exact List.getElem_mem h)
  have ha' : (a == 0) = false := by simpa using ha
  simp [ha']; omega
section
variable {n : Nat} {nx : List (List Int)} {gray : List Nat} {s0 s : TL} {v k : Nat} {t : List Nat}
theorem fn_at {l : List Nat} {v : Nat} (h : v < l.length) : fn l v = l[v] := fn_get h
theorem VRun.enter (hok : TLok n s) (h : TInv n (adjE nx) gray s.ts) (hn : v < n) (hv : s.idx[v]'(by rw [hok.li]; exact hn) = 0) (hg : ∀ g ∈ gray, Rch (adjE nx) g v) :
    VRun n nx gray s v 0 { s with idx := s.idx.set v (s.clk + 1), low := s.low.set v (s.clk + 1), stk := s.stk ++ [v], clk := s.clk + 1 } [] := by
  have hvi : v < s.idx.length := by rw [hok.li]; exact hn
  have hc := count_set0 hvi hv (a := s.clk + 1) (by omega)
  have h0 : s.ts.idx v = 0 := (fn_at hvi).trans hv
  have hck := hok.ck
  have hct := hok.ct
  have hsk := hok.sk
  refine ⟨⟨by simp [hok.li], by simp [hok.ll], hok.lc, ?_, ?_, ?_⟩, ?_, ?_, ?_⟩
  · show s.clk + 1 + (s.idx.set v (s.clk + 1)).count 0 = n; omega
  · show (s.stk ++ [v]).length ≤ s.clk + 1; rw [List.length_append]; simpa using hsk
  · show s.cnt + (s.idx.set v (s.clk + 1)).count 0 ≤ n; omega
  · exact VLoop.enter h h0 hn hg (fun x => fn_set hvi x) (fun x => fn_set (by rw [hok.ll]; exact hn) x) (by
      by_cases hcn : s.ts.comp v < 0
      · exact hcn
      · exact absurd h0 (h.cmp v (by omega)).1) (fun _ => rfl)
  · show s.cnt + (s.idx.set v (s.clk + 1)).count 0 + 1 ≤ _; omega
  · show (s.idx.set v (s.clk + 1)).count 0 < _; omega
theorem adjN_get (hk : k < (nx.getD v []).length) {u : Nat} (hu : (nx.getD v [])[k] = (u : Int)) : ∃ h : k < (adjN nx v).length, (adjN nx v)[k] = u :=
  ⟨by simpa [adjN] using hk, by simp only [adjN, List.getElem_map, hu]; rfl⟩
theorem adjE_of (hv : v < nx.length) {u : Nat} (h : (u : Int) ∈ nx[v]) : adjE nx v u := ⟨_, List.getElem?_eq_getElem hv, h⟩
theorem adjN_of {u : Nat} (h : adjE nx v u) : u ∈ adjN nx v := by
  obtain ⟨r, h1, h2⟩ := h
  unfold adjN
  rw [List.getD_eq_getElem?_getD, h1]
  exact List.mem_map.2 ⟨_, h2, by simp⟩
theorem getD_at {nx : List (List Int)} {v : Nat} (hv : v < nx.length) : nx.getD v [] = nx[v] := by simp [hv]
theorem VRun.skip (h : VRun n nx gray s0 v k s t) (h0 : TInv n (adjE nx) gray s0.ts) (hv : v < nx.length) (hk : k < nx[v].length) {u : Nat} (hu : nx[v][k] = (u : Int)) (hi : s.idx.getD u 0 ≠ 0) (hc : ¬ s.comp.getD u (-1) < 0) : VRun n nx gray s0 v (k + 1) s t := by
  have hd := getD_at hv
  obtain ⟨h1, h2⟩ := adjN_get (v := v) (k := k) (nx := nx) (u := u) (by rw [hd]; exact hk) (by simp only [hd]; exact hu)
  exact ⟨h.ok, h.lp.stepSkip h1 h2 hi (show (0 : Int) ≤ s.comp.getD u (-1) by omega) h0, h.ct, h.lt⟩
theorem VRun.back (h : VRun n nx gray s0 v k s t) (h0 : TInv n (adjE nx) gray s0.ts) (hvn : v < n) (hv : v < nx.length) (hk : k < nx[v].length) {u : Nat} (hu : nx[v][k] = (u : Int)) (hi : s.idx.getD u 0 ≠ 0) (hc : s.comp.getD u (-1) < 0) {a : Nat} (ha : a = min (s.low.getD v 0) (s.idx.getD u 0)) :
    VRun n nx gray s0 v (k + 1) { s with low := s.low.set v a } t := by
  have hd := getD_at hv
  obtain ⟨h1, h2⟩ := adjN_get (v := v) (k := k) (nx := nx) (u := u) (by rw [hd]; exact hk) (by simp only [hd]; exact hu)
  refine ⟨⟨h.ok.li, by simp [h.ok.ll], h.ok.lc, h.ok.ck, h.ok.sk, h.ok.ct⟩, ?_, h.ct, h.lt⟩
  exact h.lp.stepBack h1 h2 (adjE_of hv (by rw [← hu]; exact List.getElem_mem hk)) hi hc h0 (fun x => by subst ha; exact fn_set (by rw [h.ok.ll]; exact hvn) x)
theorem VRun.tree (h : VRun n nx gray s0 v k s t) (h0 : TInv n (adjE nx) gray s0.ts) (hvn : v < n) (hv : v < nx.length) (hk : k < nx[v].length) {u : Nat} (hu : nx[v][k] = (u : Int)) (hi : s.idx.getD u 0 = 0) {s' : TL} {t2 : List Nat} (hd' : VDone n nx (gray ++ [v]) s u s' t2) {a : Nat} (ha : a = min (s'.low.getD v 0) (s'.low.getD u 0)) :
    VRun n nx gray s0 v (k + 1) { s' with low := s'.low.set v a } (t ++ t2) := by
  have hd := getD_at hv
  obtain ⟨h1, h2⟩ := adjN_get (v := v) (k := k) (nx := nx) (u := u) (by rw [hd]; exact hk) (by simp only [hd]; exact hu)
  have := h.ct; have := h.lt; have := hd'.ct; have := hd'.lt
  refine ⟨⟨hd'.ok.li, by simp [hd'.ok.ll], hd'.ok.lc, hd'.ok.ck, hd'.ok.sk, hd'.ok.ct⟩, ?_, by show s'.cnt + s'.idx.count 0 + 1 ≤ _; omega, by show s'.idx.count 0 < _; omega⟩
  exact h.lp.stepTree h1 h2 (adjE_of hv (by rw [← hu]; exact List.getElem_mem hk)) hi h0 hd'.inv hd'.ext hd'.post (fun x => by subst ha; exact fn_set (by rw [hd'.ok.ll]; exact hvn) x)
theorem VRun.child (h : VRun n nx gray s0 v k s t) (hg : ∀ g ∈ gray, Rch (adjE nx) g v) (hv : v < nx.length) (hk : k < nx[v].length) {u : Nat} (hu : nx[v][k] = (u : Int)) : ∀ g ∈ gray ++ [v], Rch (adjE nx) g u := fun g hm => by
  have hE : adjE nx v u := adjE_of hv (by rw [← hu]; exact List.getElem_mem hk)
  rcases List.mem_append.1 hm with hm | hm
  · exact (hg g hm).tail hE
  · simp at hm; subst hm; exact .one hE
theorem VRun.leave (h : VRun n nx gray s0 v k s t) (h0 : TInv n (adjE nx) gray s0.ts) (hv : v < nx.length) (hk : ¬ k < nx[v].length) (hne : s.low.getD v 0 ≠ s.idx.getD v 0) : VDone n nx gray s0 v s (v :: t) := by
  have hl : (adjN nx v).length ≤ k := by simp only [adjN, List.length_map, getD_at hv]; omega
  obtain ⟨h1, h2, h3⟩ := h.lp.leave h0 hl (fun u hu => adjN_of hu) hne
  exact ⟨h.ok, h1, h2, h3, by have := h.ct; omega, h.lt⟩
theorem VRun.pop (h : VRun n nx gray s0 v k s t) (h0 : TInv n (adjE nx) gray s0.ts) (hok0 : TLok n s0) (hv : v < nx.length) (hk : ¬ k < nx[v].length) (he : s.low.getD v 0 = s.idx.getD v 0) {comp : List Int} (hl : comp.length = n) (hc : ∀ x, comp.getD x (-1) = if x ∈ v :: t then (s.cnt : Int) else s.comp.getD x (-1)) :
    VDone n nx gray s0 v { s with comp := comp, stk := s0.stk, cnt := s.cnt + 1 } [] := by
  have hl' : (adjN nx v).length ≤ k := by simp only [adjN, List.length_map, getD_at hv]; omega
  obtain ⟨h1, h2, h3⟩ := h.lp.pop h0 hl' (fun u hu => adjN_of hu) he hc
  have := h.ct; have := h.ok.ct; have := hok0.sk; have h8 := hok0.ct
  have h9 : s0.clk ≤ s.clk := h.lp.clk
  refine ⟨⟨h.ok.li, h.ok.ll, hl, h.ok.ck, by show s0.stk.length ≤ s.clk; omega, ?_⟩, h1, h2, h3, by show s.cnt + 1 + s.idx.count 0 ≤ _; omega, h.lt⟩
  show s.cnt + 1 + s.idx.count 0 ≤ n
  omega
theorem rowP.cap {b : Option Addr} {c : Nat} {T : TypeId} {cs : List Value} {w : World} (h : rowP b c T 1 cs w) : cs.length ≤ c := by
  cases b with
  | none => obtain ⟨rfl, rfl⟩ := h; exact Nat.le_refl _
  | some a => obtain ⟨_, _, _, h3, _⟩ := h; omega
theorem gd {l : List Nat} {v : Nat} (h : v < l.length) : l.getD v 0 = l[v] := by simp [h]
theorem gz {l : List Int} {v : Nat} (h : v < l.length) : l.getD v (-1) = l[v] := by simp [h]
theorem tlok_start (n : Nat) : TLok n { idx := List.replicate n 0, low := List.replicate n 0, comp := List.replicate n (-1), stk := [], clk := 0, cnt := 0 } :=
  ⟨by simp, by simp, by simp, by simp, by simp, by simp⟩
theorem tinv_start {nx : List (List Int)} (n : Nat) : TInv n (adjE nx) [] (TL.ts { idx := List.replicate n 0, low := List.replicate n 0, comp := List.replicate n (-1), stk := [], clk := 0, cnt := 0 }) := by
  have h := TInv.start (E := adjE nx) n (fun _ => 0)
  refine TInv.ext (idx := fn (List.replicate n 0)) (low := fn (List.replicate n 0)) (comp := fz (List.replicate n (-1))) h (fun x => ?_) (fun x => ?_)
  · show (List.replicate n 0).getD x 0 = 0
    rw [List.getD_eq_getElem?_getD, List.getElem?_replicate]; split <;> rfl
  · show (List.replicate n (-1 : Int)).getD x (-1) = -1
    rw [List.getD_eq_getElem?_getD, List.getElem?_replicate]; split <;> rfl
theorem vis_snoc {l : List Nat} {k : Nat} (h : ∀ x, x < k → l.getD x 0 ≠ 0) (hk : l.getD k 0 ≠ 0) : ∀ x, x < k + 1 → l.getD x 0 ≠ 0 := fun x hx => by
  by_cases e : x = k
  · subst e; exact hk
  · exact h x (by omega)
theorem vis_step {s s2 : TL} {t : List Nat} {k : Nat} (he : TExt s.ts s2.ts t) (h : ∀ x, x < k → s.idx.getD x 0 ≠ 0) (hk : s2.ts.idx k ≠ 0) : ∀ x, x < k + 1 → s2.idx.getD x 0 ≠ 0 :=
  vis_snoc (fun x hx => by
    have := he.idx x (h x hx)
    show s2.ts.idx x ≠ 0
    rw [this]; exact h x hx) hk
theorem set_take {cp : List Int} {k : Nat} {a : Int} (h : cp.take k = List.replicate k a) (hk : k < cp.length) : (cp.set k a).take (k + 1) = List.replicate (k + 1) a := by
  rw [List.take_succ_eq_append_getElem (by simpa using hk), List.getElem_set_self, List.take_set_of_le (Nat.le_refl _), h, List.replicate_succ']
theorem pop_split {a t1 st2 : List Nat} {v u : Nat} (h : a ++ v :: t1 = st2 ++ [u]) (hne : u ≠ v) : ∃ t1b, t1 = t1b ++ [u] ∧ st2 = a ++ v :: t1b := by
  rcases List.eq_nil_or_concat t1 with rfl | ⟨t1b, x, rfl⟩
  · have := (List.append_inj' h rfl).2
    simp at this; exact absurd this.symm hne
  · have h' : (a ++ v :: t1b) ++ [x] = st2 ++ [u] := by rw [← h]; simp
    have h2 := List.append_inj' h' rfl
    simp at h2
    exact ⟨t1b, by rw [h2.2]; simp, h2.1.symm⟩
theorem pop_last {a t1 st2 : List Nat} {v u : Nat} (h : a ++ v :: t1 = st2 ++ [u]) (hu : u = v) (hv : v ∉ t1) : t1 = [] ∧ st2 = a := by
  rcases List.eq_nil_or_concat t1 with rfl | ⟨t1b, x, rfl⟩
  · exact ⟨rfl, (List.append_inj' h rfl).1.symm⟩
  · have h' : (a ++ v :: t1b) ++ [x] = st2 ++ [u] := by rw [← h]; simp
    have h2 := (List.append_inj' h' rfl).2
    simp at h2 hv
    exact absurd (h2.trans hu).symm hv.2
theorem fz_pop {cp : List Int} {u : Nat} {c : Int} {pop : List Nat} {g : Nat → Int} (hu : u < cp.length) (h : ∀ x, cp.getD x (-1) = if x ∈ pop then c else g x) (x : Nat) : (cp.set u c).getD x (-1) = if x ∈ u :: pop then c else g x := by
  have := fz_set (a := c) hu x
  rw [show (cp.set u c).getD x (-1) = fz (cp.set u c) x from rfl, this]
  by_cases e : x = u
  · simp [e]
  · rw [if_neg e, show fz cp x = cp.getD x (-1) from rfl, h x]
    simp [e]
end
end Go.Lx

namespace Go.Lx
open Go.RowKit
set_option linter.unusedVariables false
def mkM (nx : List (List Int)) (ms : List Nat) (k v : Nat) : Prop := v < nx.length ∧ (ms.getD v 0).testBit k = true
def okRows (nx : List (List Int)) : Prop := ∀ r ∈ nx, ∀ x ∈ r, 0 ≤ x ∧ x < (nx.length : Int)
theorem adjE_lt {nx : List (List Int)} (h : okRows nx) {u v : Nat} (he : adjE nx u v) : u < nx.length ∧ v < nx.length := by
  obtain ⟨r, h1, h2⟩ := he
  obtain ⟨hl, e⟩ := List.getElem?_eq_some_iff.1 h1
  have := h r (by rw [← e]; exact List.getElem_mem hl) _ h2
  exact ⟨hl, by omega⟩
section
variable {nx : List (List Int)} {ms : List Nat} {m cnt : Nat} {cn : List Nat}
abbrev CompN (nx : List (List Int)) (cn : List Nat) (cnt : Nat) : Prop := CompOk nx.length (adjE nx) (fun v => ((fn cn v : Nat) : Int)) cnt
def seen (nx : List (List Int)) (k j v u : Nat) : Prop := (v < k ∧ adjE nx v u) ∨ (v = k ∧ (u : Int) ∈ (nx.getD k []).take j)
structure CyP (nx : List (List Int)) (cn : List Nat) (cnt k j : Nat) (cy : List Bool) : Prop where
  l : cy.length = cnt
  h : ∀ c, cy.getD c false = true ↔ ∃ v u, seen nx k j v u ∧ fn cn v = c ∧ fn cn u = c
theorem CyP.start : CyP nx cn cnt 0 0 (List.replicate cnt false) := by
  refine ⟨by simp, fun c => ⟨fun h => ?_, ?_⟩⟩
  · rw [List.getD_eq_getElem?_getD, List.getElem?_replicate] at h
    split at h <;> simp at h
  · rintro ⟨v, u, h, _⟩
    rcases h with h | h
    · omega
    · simp at h
theorem seen_row {k v u : Nat} (hk : k < nx.length) : seen nx k nx[k].length v u ↔ seen nx (k + 1) 0 v u := by
  unfold seen
  have hd : nx.getD k [] = nx[k] := getD_at hk
  rw [hd, List.take_of_length_le (Nat.le_refl _)]
  constructor
  · rintro (h | ⟨rfl, h⟩)
    · exact .inl ⟨by omega, h.2⟩
    · exact .inl ⟨by omega, adjE_of hk h⟩
  · rintro (h | h)
    · by_cases e : v = k
      · subst e
        obtain ⟨r, h1, h2⟩ := h.2
        rw [List.getElem?_eq_getElem hk] at h1
        cases h1
        exact .inr ⟨rfl, h2⟩
      · exact .inl ⟨by omega, h.2⟩
    · simp at h
theorem seen_snoc {k j v u : Nat} (hk : k < nx.length) (hj : j < nx[k].length) {x : Nat} (hx : nx[k][j] = (x : Int)) : seen nx k (j + 1) v u ↔ seen nx k j v u ∨ (v = k ∧ u = x) := by
  unfold seen
  have hd : nx.getD k [] = nx[k] := getD_at hk
  rw [hd, List.take_succ_eq_append_getElem hj, List.mem_append, List.mem_singleton, hx]
  constructor
  · rintro (h | ⟨h1, h2 | h2⟩)
    · exact .inl (.inl h)
    · exact .inl (.inr ⟨h1, h2⟩)
    · exact .inr ⟨h1, by omega⟩
  · rintro ((h | h) | h)
    · exact .inl h
    · exact .inr ⟨h.1, .inl h.2⟩
    · exact .inr ⟨h.1, .inr (by omega)⟩
theorem CyP.row {cy : List Bool} {k j : Nat} (h : CyP nx cn cnt k j cy) (hk : k < nx.length) (hj : ¬ j < nx[k].length) (hj2 : j ≤ nx[k].length) : CyP nx cn cnt (k + 1) 0 cy := by
  have : j = nx[k].length := by omega
  subst this
  exact ⟨h.l, fun c => by rw [h.h]; simp only [seen_row hk]⟩
theorem CyP.step {cy : List Bool} {k j x : Nat} (h : CyP nx cn cnt k j cy) (hk : k < nx.length) (hj : j < nx[k].length) (hx : nx[k][j] = (x : Int)) (hc : fn cn k < cnt) {b : Bool} (hb : b = true ↔ cy.getD (fn cn k) false = true ∨ fn cn x = fn cn k) : CyP nx cn cnt k (j + 1) (cy.set (fn cn k) b) := by
  refine ⟨by simp [h.l], fun c => ?_⟩
  have hs := fb_set (a := b) (l := cy) (v := fn cn k) (by rw [h.l]; exact hc) c
  rw [show (cy.set (fn cn k) b).getD c false = fb (cy.set (fn cn k) b) c from rfl, hs]
  simp only [seen_snoc hk hj hx]
  by_cases e : c = fn cn k
  · subst e
    rw [if_pos rfl, hb, h.h]
    constructor
    · rintro (⟨v, u, h1, h2, h3⟩ | h1)
      · exact ⟨v, u, .inl h1, h2, h3⟩
      · exact ⟨k, x, .inr ⟨rfl, rfl⟩, rfl, h1⟩
    · rintro ⟨v, u, h1 | ⟨rfl, rfl⟩, h2, h3⟩
      · exact .inl ⟨v, u, h1, h2, h3⟩
      · exact .inr h3
  · rw [if_neg e, show fb cy c = cy.getD c false from rfl, h.h]
    constructor
    · rintro ⟨v, u, h1, h2, h3⟩
      exact ⟨v, u, .inl h1, h2, h3⟩
    · rintro ⟨v, u, h1 | ⟨rfl, rfl⟩, h2, h3⟩
      · exact ⟨v, u, h1, h2, h3⟩
      · exact absurd h2.symm e
structure HaP (nx : List (List Int)) (ms cn : List Nat) (m cnt k : Nat) (ha : List Nat) : Prop where
  l : ha.length = cnt
  b : ∀ c, ha.getD c 0 < 2 ^ m
  h : ∀ c i, (ha.getD c 0).testBit i = true ↔ ∃ v, v < k ∧ fn cn v = c ∧ (ms.getD v 0).testBit i = true
theorem HaP.start : HaP nx ms cn m cnt 0 (List.replicate cnt 0) := by
  have h0 : ∀ c, (List.replicate cnt 0).getD c 0 = 0 := fun c => by
    rw [List.getD_eq_getElem?_getD, List.getElem?_replicate]; split <;> rfl
  refine ⟨by simp, fun c => by rw [h0]; exact Nat.two_pow_pos m, fun c i => ⟨fun h => ?_, ?_⟩⟩
  · rw [h0] at h; simp at h
  · rintro ⟨v, h, _⟩; omega
theorem HaP.step {ha : List Nat} {k : Nat} (h : HaP nx ms cn m cnt k ha) (hc : fn cn k < cnt) (hm : ms.getD k 0 < 2 ^ m) {a : Nat} (hab : a = ha.getD (fn cn k) 0 ||| ms.getD k 0) : HaP nx ms cn m cnt (k + 1) (ha.set (fn cn k) a) := by
  have hs := fun c => fn_set (a := a) (l := ha) (v := fn cn k) (by rw [h.l]; exact hc) c
  have hs' : ∀ c, (ha.set (fn cn k) a).getD c 0 = if c = fn cn k then a else ha.getD c 0 := hs
  refine ⟨by simp [h.l], fun c => ?_, fun c i => ?_⟩
  · rw [hs']; split
    · subst hab; exact Nat.or_lt_two_pow (h.b _) hm
    · exact h.b c
  · rw [hs']
    by_cases e : c = fn cn k
    · subst e
      rw [if_pos rfl, hab, Nat.testBit_or, Bool.or_eq_true, h.h]
      constructor
      · rintro (⟨v, h1, h2, h3⟩ | h1)
        · exact ⟨v, by omega, h2, h3⟩
        · exact ⟨k, by omega, rfl, h1⟩
      · rintro ⟨v, h1, h2, h3⟩
        by_cases e : v = k
        · subst e; exact .inr h3
        · exact .inl ⟨v, by omega, h2, h3⟩
    · rw [if_neg e, h.h]
      constructor
      · rintro ⟨v, h1, h2, h3⟩; exact ⟨v, by omega, h2, h3⟩
      · rintro ⟨v, h1, h2, h3⟩
        by_cases e' : v = k
        · subst e'; exact absurd h2.symm e
        · exact ⟨v, by omega, h2, h3⟩
theorem full_iff {a m : Nat} (h : a < 2 ^ m) : a = 2 ^ m - 1 ↔ ∀ i, i < m → a.testBit i = true := by
  constructor
  · rintro rfl i hi; rw [Nat.testBit_two_pow_sub_one]; simpa using hi
  · intro hb
    apply Nat.eq_of_testBit_eq
    intro i
    rw [Nat.testBit_two_pow_sub_one]
    by_cases hi : i < m
    · rw [hb i hi]; simp [hi]
    · rw [Nat.testBit_lt_two_pow (Nat.lt_of_lt_of_le h (Nat.pow_le_pow_right (by omega) (by omega)))]; simp [hi]
theorem core_iff (hC : CompN nx cn cnt) (hok : okRows nx) {cy : List Bool} {ha : List Nat} (hy : CyP nx cn cnt nx.length 0 cy) (hh : HaP nx ms cn m cnt nx.length ha) {v c : Nat} (hv : v < nx.length) (hc : fn cn v = c) :
    (cy.getD c false = true ∧ ha.getD c 0 = 2 ^ m - 1) ↔ Core (adjE nx) m (mkM nx ms) v := by
  rw [core_comp hC (fun u v h => adjE_lt hok h) (fun k v h => h.1) hv, hy.h, full_iff (hh.b c)]
  constructor
  · rintro ⟨⟨a, b, h1, h2, h3⟩, h4⟩
    refine ⟨⟨a, b, ?_, by show ((fn cn a : Nat) : Int) = fn cn v; omega, by show ((fn cn b : Nat) : Int) = fn cn v; omega⟩, fun k hk => ?_⟩
    · rcases h1 with h1 | ⟨rfl, h1⟩
      · exact h1.2
      · simp at h1
    · obtain ⟨u, h5, h6, h7⟩ := (hh.h c k).1 (h4 k hk)
      exact ⟨u, ⟨h5, h7⟩, by show ((fn cn u : Nat) : Int) = fn cn v; omega⟩
  · rintro ⟨⟨a, b, h1, h2, h3⟩, h4⟩
    refine ⟨⟨a, b, .inl ⟨(adjE_lt hok h1).1, h1⟩, by have : ((fn cn a : Nat) : Int) = fn cn v := h2; omega, by have : ((fn cn b : Nat) : Int) = fn cn v := h3; omega⟩, fun k hk => ?_⟩
    obtain ⟨u, h5, h6⟩ := h4 k hk
    exact (hh.h c k).2 ⟨u, h5.1, by have : ((fn cn u : Nat) : Int) = fn cn v := h6; omega, h5.2⟩
structure OrP (nx : List (List Int)) (cn : List Nat) (cnt k : Nat) (os : List (List Int)) : Prop where
  l : os.length = cnt
  n : ∀ c, (os.getD c []).length ≤ k
  h : ∀ c x, c < cnt → (x ∈ os.getD c [] ↔ ∃ v : Nat, x = (v : Int) ∧ v < k ∧ fn cn v = c)
theorem OrP.start : OrP nx cn cnt 0 (List.replicate cnt []) := by
  have h0 : ∀ c, (List.replicate cnt ([] : List Int)).getD c [] = [] := fun c => by
    rw [List.getD_eq_getElem?_getD, List.getElem?_replicate]; split <;> rfl
  refine ⟨by simp, fun c => by rw [h0]; exact Nat.le_refl _, fun c x hc => ?_⟩
  rw [h0]
  constructor
  · intro h; cases h
  · rintro ⟨v, _, h, _⟩; omega
theorem OrP.step {os : List (List Int)} {k : Nat} (h : OrP nx cn cnt k os) (hc : fn cn k < cnt) : OrP nx cn cnt (k + 1) (os.set (fn cn k) (os.getD (fn cn k) [] ++ [(k : Int)])) := by
  have hs : ∀ c, (os.set (fn cn k) (os.getD (fn cn k) [] ++ [(k : Int)])).getD c [] = if c = fn cn k then os.getD (fn cn k) [] ++ [(k : Int)] else os.getD c [] := fun c => by
    rw [List.getD_eq_getElem?_getD, List.getElem?_set]
    by_cases e : fn cn k = c
    · subst e; rw [if_pos rfl, if_pos (by rw [h.l]; exact hc), if_pos rfl]; rfl
    · rw [if_neg e, if_neg (fun h => e h.symm)]; simp
  refine ⟨by simp [h.l], fun c => ?_, fun c x hcc => ?_⟩
  · rw [hs]; split
    · have := h.n (fn cn k); simp; exact this
    · have := h.n c; omega
  · rw [hs]
    by_cases e : c = fn cn k
    · subst e
      rw [if_pos rfl, List.mem_append, List.mem_singleton, h.h _ _ hc]
      constructor
      · rintro (⟨v, h1, h2, h3⟩ | rfl)
        · exact ⟨v, h1, by omega, h3⟩
        · exact ⟨k, rfl, by omega, rfl⟩
      · rintro ⟨v, h1, h2, h3⟩
        by_cases e : v = k
        · subst e; exact .inr h1
        · exact .inl ⟨v, h1, by omega, h3⟩
    · rw [if_neg e, h.h c x hcc]
      constructor
      · rintro ⟨v, h1, h2, h3⟩; exact ⟨v, h1, by omega, h3⟩
      · rintro ⟨v, h1, h2, h3⟩
        by_cases e' : v = k
        · subst e'; exact absurd h3.symm e
        · exact ⟨v, h1, by omega, h3⟩
def Cor (nx : List (List Int)) (ms : List Nat) (m v : Nat) : Prop := Core (adjE nx) m (mkM nx ms) v
def Liv (nx : List (List Int)) (ms : List Nat) (m v : Nat) : Prop := LiveG (adjE nx) m (mkM nx ms) v
theorem Liv.edge {u v : Nat} (h : Liv nx ms m u) (he : adjE nx v u) : Liv nx ms m v := LiveG.back h (.one he)
theorem Liv.same (hC : CompN nx cn cnt) {u v : Nat} (h : Liv nx ms m u) (hv : v < nx.length) (hu : u < nx.length) (e : fn cn v = fn cn u) : Liv nx ms m v := LiveG.back h (hC.cls v u hv hu (by show ((fn cn v : Nat) : Int) = fn cn u; omega))
theorem Cor.live {v : Nat} (h : Cor nx ms m v) : Liv nx ms m v := ⟨v, .refl _, h⟩
structure LvP (nx : List (List Int)) (ms : List Nat) (m : Nat) (cn : List Nat) (cnt c : Nat) (gs ls cs : List Bool) : Prop where
  lg : gs.length = cnt
  ll : ls.length = nx.length
  lc : cs.length = nx.length
  g : ∀ v, v < nx.length → fn cn v < c → (gs.getD (fn cn v) false = true ↔ Liv nx ms m v)
  li : ∀ v, v < nx.length → fn cn v < c → (ls.getD v false = true ↔ Liv nx ms m v)
  co : ∀ v, v < nx.length → fn cn v < c → (cs.getD v false = true ↔ Cor nx ms m v)
structure LvC (nx : List (List Int)) (ms : List Nat) (m : Nat) (cn : List Nat) (cnt c : Nat) (row : List Int) (j : Nat) (gs ls cs : List Bool) : Prop where
  lg : gs.length = cnt
  ll : ls.length = nx.length
  lc : cs.length = nx.length
  g : ∀ v, v < nx.length → fn cn v < c → (gs.getD (fn cn v) false = true ↔ Liv nx ms m v)
  li : ∀ v, v < nx.length → fn cn v < c → (ls.getD v false = true ↔ Liv nx ms m v)
  co : ∀ v, v < nx.length → (fn cn v < c ∨ (v : Int) ∈ row.take j) → (cs.getD v false = true ↔ Cor nx ms m v)
  b0 : ∀ v, v < nx.length → fn cn v = c → (gs.getD c false = true ↔ Cor nx ms m v)
theorem getB_set {l : List Bool} {v : Nat} {a : Bool} (h : v < l.length) (x : Nat) : (l.set v a).getD x false = if x = v then a else l.getD x false := fb_set h x
theorem LvP.begin {c : Nat} {gs ls cs : List Bool} (h : LvP nx ms m cn cnt c gs ls cs) (hc : c < cnt) {row : List Int} {b : Bool} (hb : ∀ v, v < nx.length → fn cn v = c → (b = true ↔ Cor nx ms m v)) : LvC nx ms m cn cnt c row 0 (gs.set c b) ls cs := by
  have hs := fun x => getB_set (a := b) (l := gs) (v := c) (by rw [h.lg]; exact hc) x
  refine ⟨by simp [h.lg], h.ll, h.lc, fun v hv hlt => ?_, h.li, fun v hv hor => ?_, fun v hv e => ?_⟩
  · rw [hs, if_neg (by omega)]; exact h.g v hv hlt
  · rcases hor with hor | hor
    · exact h.co v hv hor
    · simp at hor
  · rw [hs, if_pos rfl]; exact hb v hv e
theorem LvC.coreStep {c j : Nat} {gs ls cs : List Bool} {row : List Int} (h : LvC nx ms m cn cnt c row j gs ls cs) (hj : j < row.length) {x : Nat} (hx : row[j] = (x : Int)) (hxl : x < nx.length) (hxc : fn cn x = c) {b : Bool} (hb : b = gs.getD c false) : LvC nx ms m cn cnt c row (j + 1) gs ls (cs.set x b) := by
  have hs := fun y => getB_set (a := b) (l := cs) (v := x) (by rw [h.lc]; exact hxl) y
  refine ⟨h.lg, h.ll, by simp [h.lc], h.g, h.li, fun v hv hor => ?_, h.b0⟩
  rw [hs]
  by_cases e : v = x
  · subst e; rw [if_pos rfl, hb]; exact h.b0 v hxl hxc
  · rw [if_neg e]
    refine h.co v hv ?_
    rcases hor with hor | hor
    · exact .inl hor
    · rw [List.take_succ_eq_append_getElem hj, List.mem_append, List.mem_singleton, hx] at hor
      rcases hor with hor | hor
      · exact .inr hor
      · exact absurd (by omega) e
structure LvD (nx : List (List Int)) (ms : List Nat) (m : Nat) (cn : List Nat) (cnt c : Nat) (row : List Int) (j i : Nat) (gs ls cs : List Bool) : Prop where
  lg : gs.length = cnt
  ll : ls.length = nx.length
  lc : cs.length = nx.length
  g : ∀ v, v < nx.length → fn cn v < c → (gs.getD (fn cn v) false = true ↔ Liv nx ms m v)
  li : ∀ v, v < nx.length → fn cn v < c → (ls.getD v false = true ↔ Liv nx ms m v)
  co : ∀ v, v < nx.length → fn cn v ≤ c → (cs.getD v false = true ↔ Cor nx ms m v)
  b0 : ∀ v, v < nx.length → fn cn v = c → Cor nx ms m v → gs.getD c false = true
  sd : gs.getD c false = true → ∀ v, v < nx.length → fn cn v = c → Liv nx ms m v
  pr : ∀ v u : Nat, (((v : Int) ∈ row.take j ∧ adjE nx v u) ∨ (row[j]? = some (v : Int) ∧ (u : Int) ∈ (nx.getD v []).take i)) → fn cn u < c → Liv nx ms m u → gs.getD c false = true
theorem LvC.toD {c j : Nat} {gs ls cs : List Bool} {row : List Int} (h : LvC nx ms m cn cnt c row j gs ls cs) (hj : ¬ j < row.length) (hrow : ∀ v : Nat, v < nx.length → fn cn v = c → (v : Int) ∈ row) : LvD nx ms m cn cnt c row 0 0 gs ls cs := by
  refine ⟨h.lg, h.ll, h.lc, h.g, h.li, fun v hv hle => ?_, fun v hv e hc => (h.b0 v hv e).2 hc, fun hg v hv e => Cor.live ((h.b0 v hv e).1 hg), fun v u hor => ?_⟩
  · refine h.co v hv ?_
    by_cases e : fn cn v = c
    · right; rw [List.take_of_length_le (by omega)]; exact hrow v hv e
    · left; omega
  · rcases hor with hor | hor
    · simp at hor
    · simp at hor
theorem LvD.step {c j i : Nat} {gs ls cs : List Bool} {row : List Int} (hC : CompN nx cn cnt) (hok : okRows nx) (h : LvD nx ms m cn cnt c row j i gs ls cs) (hc : c < cnt) (hj : j < row.length) {x u : Nat} (hx : row[j] = (x : Int)) (hxl : x < nx.length) (hxc : fn cn x = c) (hi : i < nx[x].length) (hu : nx[x][i] = (u : Int)) {b : Bool} (hb : b = true ↔ gs.getD c false = true ∨ gs.getD (fn cn u) false = true) :
    LvD nx ms m cn cnt c row j (i + 1) (gs.set c b) ls cs := by
  have hs := fun y => getB_set (a := b) (l := gs) (v := c) (by rw [h.lg]; exact hc) y
  have hE : adjE nx x u := adjE_of hxl (by rw [← hu]; exact List.getElem_mem hi)
  have hul := (adjE_lt hok hE).2
  have hle : fn cn u ≤ c := by
    have := hC.clo x u hxl hE
    have : ((fn cn u : Nat) : Int) ≤ fn cn x := this
    omega
  refine ⟨by simp [h.lg], h.ll, h.lc, fun v hv hlt => ?_, h.li, h.co, fun v hv e hcv => ?_, fun hg v hv e => ?_, fun v w hor hlt hL => ?_⟩
  · rw [hs, if_neg (by omega)]; exact h.g v hv hlt
  · rw [hs, if_pos rfl, hb]; exact .inl (h.b0 v hv e hcv)
  · rw [hs, if_pos rfl, hb] at hg
    rcases hg with hg | hg
    · exact h.sd hg v hv e
    · by_cases e2 : fn cn u = c
      · rw [e2] at hg; exact h.sd hg v hv e
      · have hLu := (h.g u hul (by omega)).1 hg
        exact Liv.same hC (hLu.edge hE) hv hxl (by omega)
  · rw [hs, if_pos rfl, hb]
    rcases hor with hor | ⟨h1, h2⟩
    · exact .inl (h.pr v w (.inl hor) hlt hL)
    · rw [List.getElem?_eq_getElem hj, hx] at h1
      have hvx : v = x := by have := Option.some.inj h1; omega
      subst hvx
      rw [getD_at hxl, List.take_succ_eq_append_getElem hi, List.mem_append, List.mem_singleton, hu] at h2
      rcases h2 with h2 | h2
      · exact .inl (h.pr v w (.inr ⟨by rw [List.getElem?_eq_getElem hj, hx], by rw [getD_at hxl]; exact h2⟩) hlt hL)
      · have : w = u := by omega
        subst this
        exact .inr ((h.g w hul hlt).2 hL)
theorem LvD.next {c j i : Nat} {gs ls cs : List Bool} {row : List Int} (h : LvD nx ms m cn cnt c row j i gs ls cs) (hj : j < row.length) {x : Nat} (hx : row[j] = (x : Int)) (hxl : x < nx.length) (hi : ¬ i < nx[x].length) : LvD nx ms m cn cnt c row (j + 1) 0 gs ls cs := by
  refine { h with pr := fun v u hor hlt hL => ?_ }
  rcases hor with ⟨h1, h2⟩ | ⟨_, h2⟩
  · rw [List.take_succ_eq_append_getElem hj, List.mem_append, List.mem_singleton, hx] at h1
    rcases h1 with h1 | h1
    · exact h.pr v u (.inl ⟨h1, h2⟩) hlt hL
    · have : v = x := by omega
      subst this
      refine h.pr v u (.inr ⟨by rw [List.getElem?_eq_getElem hj, hx], ?_⟩) hlt hL
      rw [getD_at hxl, List.take_of_length_le (by omega)]
      obtain ⟨r, h3, h4⟩ := h2
      rw [List.getElem?_eq_getElem hxl] at h3; cases h3; exact h4
  · simp at h2
theorem leaves (hC : CompN nx cn cnt) (hok : okRows nx) {v w : Nat} (h : Rch (adjE nx) v w) (hv : v < nx.length) : fn cn w = fn cn v ∨ ∃ a b, fn cn a = fn cn v ∧ a < nx.length ∧ adjE nx a b ∧ fn cn b < fn cn v ∧ Rch (adjE nx) b w := by
  induction h with
  | refl => exact .inl rfl
  | @step a b w e hr ih =>
    have hb := (adjE_lt hok e).2
    have hle : fn cn b ≤ fn cn a := by
      have : ((fn cn b : Nat) : Int) ≤ fn cn a := hC.clo a b hv e
      omega
    by_cases e2 : fn cn b = fn cn a
    · rcases ih hb with h1 | ⟨p, q, h1, h2, h3, h4, h5⟩
      · exact .inl (by omega)
      · exact .inr ⟨p, q, by omega, h2, h3, by omega, h5⟩
    · exact .inr ⟨a, b, rfl, hv, e, by omega, hr⟩
theorem LvD.flag {c j i : Nat} {gs ls cs : List Bool} {row : List Int} (hC : CompN nx cn cnt) (hok : okRows nx) (h : LvD nx ms m cn cnt c row j i gs ls cs) (hj : ¬ j < row.length) (hrow : ∀ v : Nat, v < nx.length → fn cn v = c → (v : Int) ∈ row) {v : Nat} (hv : v < nx.length) (e : fn cn v = c) : gs.getD c false = true ↔ Liv nx ms m v := by
  refine ⟨fun hg => h.sd hg v hv e, ?_⟩
  rintro ⟨w, h1, h2⟩
  have hw : w < nx.length := (CompOk.rch hC (fun u v h => adjE_lt hok h) hv h1).2
  rcases leaves hC hok h1 hv with h3 | ⟨a, b, h3, h4, h5, h6, h7⟩
  · exact h.b0 w hw (by omega) h2
  · refine h.pr a b (.inl ⟨?_, h5⟩) (by omega) ⟨w, h7, h2⟩
    rw [List.take_of_length_le (by omega)]
    exact hrow a h4 (by omega)
structure LvE (nx : List (List Int)) (ms : List Nat) (m : Nat) (cn : List Nat) (cnt c : Nat) (row : List Int) (j : Nat) (gs ls cs : List Bool) : Prop where
  lg : gs.length = cnt
  ll : ls.length = nx.length
  lc : cs.length = nx.length
  g : ∀ v, v < nx.length → fn cn v ≤ c → (gs.getD (fn cn v) false = true ↔ Liv nx ms m v)
  li : ∀ v, v < nx.length → (fn cn v < c ∨ (v : Int) ∈ row.take j) → (ls.getD v false = true ↔ Liv nx ms m v)
  co : ∀ v, v < nx.length → fn cn v ≤ c → (cs.getD v false = true ↔ Cor nx ms m v)
theorem LvD.toE {c j i : Nat} {gs ls cs : List Bool} {row : List Int} (hC : CompN nx cn cnt) (hok : okRows nx) (h : LvD nx ms m cn cnt c row j i gs ls cs) (hj : ¬ j < row.length) (hrow : ∀ v : Nat, v < nx.length → fn cn v = c → (v : Int) ∈ row) : LvE nx ms m cn cnt c row 0 gs ls cs := by
  refine ⟨h.lg, h.ll, h.lc, fun v hv hle => ?_, fun v hv hor => ?_, h.co⟩
  · by_cases e : fn cn v = c
    · rw [e]; exact h.flag hC hok hj hrow hv e
    · exact h.g v hv (by omega)
  · rcases hor with hor | hor
    · exact h.li v hv hor
    · simp at hor
theorem LvE.step {c j : Nat} {gs ls cs : List Bool} {row : List Int} (h : LvE nx ms m cn cnt c row j gs ls cs) (hj : j < row.length) {x : Nat} (hx : row[j] = (x : Int)) (hxl : x < nx.length) (hxc : fn cn x = c) {b : Bool} (hb : b = gs.getD c false) : LvE nx ms m cn cnt c row (j + 1) gs (ls.set x b) cs := by
  have hs := fun y => getB_set (a := b) (l := ls) (v := x) (by rw [h.ll]; exact hxl) y
  refine ⟨h.lg, by simp [h.ll], h.lc, h.g, fun v hv hor => ?_, h.co⟩
  rw [hs]
  by_cases e : v = x
  · subst e; rw [if_pos rfl, hb, ← hxc]; exact h.g v hxl (by omega)
  · rw [if_neg e]
    refine h.li v hv ?_
    rcases hor with hor | hor
    · exact .inl hor
    · rw [List.take_succ_eq_append_getElem hj, List.mem_append, List.mem_singleton, hx] at hor
      rcases hor with hor | hor
      · exact .inr hor
      · exact absurd (by omega) e
theorem LvE.done {c j : Nat} {gs ls cs : List Bool} {row : List Int} (h : LvE nx ms m cn cnt c row j gs ls cs) (hj : ¬ j < row.length) (hrow : ∀ v : Nat, v < nx.length → fn cn v = c → (v : Int) ∈ row) : LvP nx ms m cn cnt (c + 1) gs ls cs := by
  refine ⟨h.lg, h.ll, h.lc, fun v hv hlt => h.g v hv (by omega), fun v hv hlt => ?_, fun v hv hlt => h.co v hv (by omega)⟩
  refine h.li v hv ?_
  by_cases e : fn cn v = c
  · right; rw [List.take_of_length_le (by omega)]; exact hrow v hv e
  · left; omega
theorem LvP.start {gs ls cs : List Bool} (h1 : gs.length = cnt) (h2 : ls.length = nx.length) (h3 : cs.length = nx.length) : LvP nx ms m cn cnt 0 gs ls cs :=
  ⟨h1, h2, h3, fun v _ h => by omega, fun v _ h => by omega, fun v _ h => by omega⟩
theorem ints_nats {cp : List Int} (h : ∀ v, v < cp.length → 0 ≤ fz cp v) : ints cp = nats (cp.map Int.toNat) := by
  apply List.ext_getElem
  · simp
  · intro i h1 h2
    have hi : i < cp.length := by simpa using h1
    have := h i hi
    rw [fz_get hi] at this
    simp [Int.toNat_of_nonneg this]
theorem comp_nats {cp : List Int} {cnt : Nat} (hl : cp.length = nx.length) (h : CompOk nx.length (adjE nx) (fz cp) cnt) (hok : okRows nx) : CompN nx (cp.map Int.toNat) cnt := by
  have key : ∀ v, v < nx.length → ((fn (cp.map Int.toNat) v : Nat) : Int) = fz cp v := fun v hv => by
    have h0 := (h.pos v hv).1
    rw [fn_get (by rw [List.length_map, hl]; exact hv), List.getElem_map]
    rw [fz_get (by rw [hl]; exact hv)] at h0 ⊢
    exact Int.toNat_of_nonneg h0
  refine ⟨fun v hv => by rw [key v hv]; exact h.pos v hv, fun u v hu he => ?_, fun u v hu hv e => ?_⟩
  · have h1 := adjE_lt hok he
    rw [key u h1.1, key v h1.2]; exact h.clo u v hu he
  · change ((fn (cp.map Int.toNat) u : Nat) : Int) = ((fn (cp.map Int.toNat) v : Nat) : Int) at e
    rw [key u hu, key v hv] at e; exact h.cls u v hu hv e
theorem OrP.at {qs : List Rec} (h : OrP nx cn cnt nx.length (nums qs)) {c j : Nat} (hc : c < qs.length) (hj : j < qs[c].xs.length) : ∃ x : Nat, qs[c].xs[j] = (x : Int) ∧ x < nx.length ∧ fn cn x = c := by
  have hl := h.l
  have hq : (nums qs).getD c [] = qs[c].xs := by simp [hc]
  have := (h.h c qs[c].xs[j] (by rw [← hl]; simpa using hc)).1 (by rw [hq]; exact List.getElem_mem hj)
  exact this
theorem OrP.all {qs : List Rec} (h : OrP nx cn cnt nx.length (nums qs)) {c : Nat} (hc : c < qs.length) : ∀ v : Nat, v < nx.length → fn cn v = c → (v : Int) ∈ qs[c].xs := fun v hv e => by
  have hl := h.l
  have hq : (nums qs).getD c [] = qs[c].xs := by simp [hc]
  rw [← hq]
  exact (h.h c v (by rw [← hl]; simpa using hc)).2 ⟨v, rfl, hv, e⟩
theorem OrP.ql {qs : List Rec} {k : Nat} (h : OrP nx cn cnt k (nums qs)) : qs.length = cnt := by simpa using h.l
theorem OrP.rl {qs : List Rec} {k : Nat} (h : OrP nx cn cnt k (nums qs)) {c : Nat} (hc : c < qs.length) : qs[c].xs.length ≤ k := by
  have := h.n c
  rwa [show (nums qs).getD c [] = qs[c].xs by simp [hc]] at this
theorem OrP.push {qs : List Rec} {k : Nat} (h : OrP nx cn cnt k (nums qs)) (hk : k < cn.length) (hc : cn[k] < cnt) (b : Option Addr) (c : Nat) : OrP nx cn cnt (k + 1) (nums (qs.set cn[k] ⟨b, c, (qs[cn[k]]'(by rw [h.ql]; exact hc)).xs ++ [(k : Int)]⟩)) := by
  have hf : fn cn k = cn[k] := fn_get hk
  have := h.step (by rw [hf]; exact hc)
  rw [hf] at this
  rw [nums_set]
  have hq : (nums qs).getD cn[k] [] = (qs[cn[k]]'(by rw [h.ql]; exact hc)).xs := by simp [h.ql, hc]
  rwa [hq] at this
theorem gb {l : List Bool} {v : Nat} (h : v < l.length) : l.getD v false = l[v] := by simp [h]
theorem lt64 {x m : Nat} (h : x < 2 ^ m) (hm : m ≤ 8) : x < 256 := Nat.lt_of_lt_of_le h (Nat.pow_le_pow_right (n := 2) (by omega) hm)
end
end Go.Lx

namespace Go.Proofs.Ytnamoapbienooaa
open Go.Lx Go.RowKit
set_option linter.unusedVariables false
set_option linter.unusedSimpArgs false
theorem filter_any {α : Type} {l : List α} {p : α → Bool} (h : l.any p = false) : l.filter (fun x => !p x) = l := by
  rw [List.filter_eq_self]; intro x hx
  rw [List.any_eq_false] at h
  have := h x hx
  simpa using this
set_option maxHeartbeats 1000000 in
set_option maxRecDepth 20000 in
theorem deleteI (base : World) (b : Option Addr) (c : Nat) (xs : List Int) (hb : xs.length ≤ 1000000000) (OO : List Lx.Item) (fv : Value) (p : Int → Bool) (hy : ∀ x ∈ xs, CallV Try.prog base fv [.int .i64 x] OO (fun v O' => v = .bool (p x) ∧ O' = OO)) :
    CallT Try.prog base 69 [.slice b xs.length c, fv] ([rowI b c 3 1 (ints xs)] ++ OO) (fun v O' => v = .slice b (xs.filter fun x => !p x).length c ∧ O' = [rowI b c 3 1 (ints (xs.filter fun x => !p x))] ++ OO) := by
  refine CallT.enter Try.func69 rfl Try.ntmps69 rfl ?_
  refine T.seq (T.region ?_)
  refine TO.quiet (q_assign rfl) ?_
  refine TO.nil (T.seq (T.region ?_))
  refine TO.quiet (q_move rfl) (TO.quiet (q_move rfl) ?_)
  have hk10 := indexFuncI base b c xs ([rowI b c 3 1 (ints xs)] ++ OO) (rowO List.mem_cons_self) (by omega) fv p (fun x hx => ((CallV.atR [rowI b c 3 1 (ints xs)] (hy x (hx))).mono (fun v O' ⟨A', e1, e2, e3⟩ => ⟨e2, by rw [e1, e3]⟩)))
  refine TO.loud rfl (l_call ent101 hk10 rfl ?_)
  clear hk10
  rintro vr O' ⟨i0, rfl, hi0, rfl⟩
  refine TO.quiet (q_assign rfl) ?_
  refine TO.nil (T.seq (T.seq (T.region ?_)))
  refine TO.quiet (q_move rfl) (TO.quiet (q_eql rfl rfl) ?_)
  refine TO.nil ?_
  refine T.condP rfl (fun hc => ?_) (fun hc => ?_)
  · have hany : xs.any p = false := by
      rcases hi0 with ⟨_, h⟩ | ⟨k, hk, h, _⟩
      · exact h
      · omega
    refine T.seq (T.region ?_)
    refine TO.quiet (q_move rfl) (TO.quiet (q_assign rfl) ?_)
    refine TO.nil (T.ret ?_)
    refine Res.one (.slice b xs.length c) Try.results69 rfl ?_
    have hfl : (xs.filter fun x => !p x) = xs := filter_any hany
    exact ⟨by rw [hfl], by rw [hfl]⟩
  obtain ⟨k0, hk0, hik, hpk, hpre⟩ : ∃ (k : Nat) (hk : k < xs.length), i0 = (k : Int) ∧ p xs[k] = true ∧ (xs.take k).any p = false := by
    rcases hi0 with ⟨h, _⟩ | h
    · omega
    · exact h
  refine T.skip (T.seq (T.seq (T.region ?_)))
  refine TO.quiet (QT.cast (q_move rfl) (v' := .int .i64 ((k0 : Nat) : Int)) (by show Value.int _ _ = _; rw [hik])) (TO.quiet (q_addN (a := k0) (b := 1) rfl rfl (by omega)) (TO.quiet (q_assign rfl) ?_))
  refine TO.nil (T.block ?_)
  refine T.loop (fun (j : Nat) ρ O => ∃ (ys : List Int) (i : Nat), O = ([rowI b c 3 1 (ints ys)] ++ OO) ∧ j ≤ xs.length ∧ i < j ∧ ys.length = xs.length ∧ ys.take i = (xs.take j).filter (fun x => !p x) ∧ (∀ q, j ≤ q → ys[q]? = xs[q]?) ∧ Heads [(0, (.slice b xs.length c)), (1, fv), (4, (.slice none 0 0)), (5, .int .i64 (i : Int)), (6, .int .i64 (j : Int))] ρ) (fun j => xs.length - j) (k0 + 1) ?_ ?_
  · refine ⟨xs, k0, rfl, by omega, by omega, rfl, ?_, fun q hq => rfl, ⟨rfl, rfl, rfl, by rw [← hik]; rfl, rfl, trivial⟩⟩
    rw [List.take_succ_eq_append_getElem hk0, List.filter_append, filter_any hpre]; simp [hpk]
  rintro j ρ O ⟨ys, i, rfl, hj, hij, hyl, hyt, hyr, hH⟩
  obtain ⟨ρ0, rfl⟩ := hH.elim
  clear hH
  have hgo := trivial
  refine T.have (φ := xs.length ≤ c) (fun w hI => by have := rowP.cap (hI.row (i := 0) rfl); rw [List.length_map, hyl] at this; exact this) (fun hcap => ?_)
  refine T.seq (T.seq (T.region ?_))
  refine TO.quiet (q_move rfl) (TO.quiet (q_move rfl) (TO.quiet (q_len Try.underlying22 rfl) (TO.quiet (q_lss rfl rfl) ?_)))
  refine TO.nil ?_
  refine T.condP rfl (fun hc => ?_) (fun hc => ?_)
  · have hlt19 : j < xs.length := by omega
    have hyg : ys[j]'(by omega) = xs[j] := by have h9 := hyr j (Nat.le_refl _); rw [List.getElem?_eq_getElem (by omega), List.getElem?_eq_getElem hlt19] at h9; exact Option.some.inj h9
    refine T.skip (T.seq (T.block (T.seq (T.region ?_))))
    refine TO.quiet (q_move rfl) (TO.quiet (q_move rfl) (TO.quiet (q_ix (i := j) Try.underlying22 inf3 rfl rfl (rowO (List.mem_of_getElem? (i := 0) rfl))) (TO.quiet (q_ld Try.underlying3 rfl rfl (rowO (List.mem_of_getElem? (i := 0) rfl)) (show (ints ys)[j]? = _ by rw [ints_get (by omega), hyg])) ?_)))
    refine TO.quiet (q_assign rfl) ?_
    refine TO.nil (T.seq (T.region ?_))
    refine TO.quiet (q_move rfl) (TO.quiet (q_move rfl) ?_)
    have hk28 := (show CallV Try.prog base fv [.int .i64 xs[j]] ([rowI b c 3 1 (ints ys)] ++ OO) (fun v O' => v = .bool (p xs[j]) ∧ O' = [rowI b c 3 1 (ints ys)] ++ OO) from (CallV.atR [rowI b c 3 1 (ints ys)] (hy xs[j] (List.getElem_mem hlt19))).mono (fun v O' ⟨A', e1, e2, e3⟩ => ⟨e2, by rw [e1, e3]⟩))
    refine TO.loud rfl (l_callG hk28 rfl rfl ?_)
    clear hk28
    rintro vr O' ⟨rfl, rfl⟩
    refine TO.quiet (q_not rfl) ?_
    refine TO.nil ?_
    refine T.cond rfl (fun hc => ?_) (fun hc => ?_)
    · refine T.seq ?_
      refine T.region ?_
      refine TO.quiet (q_move rfl) (TO.quiet (q_move rfl) (TO.quiet (q_move rfl) (TO.quiet (q_ix (i := i) Try.underlying22 inf3 rfl rfl (rowO (List.mem_of_getElem? (i := 0) rfl))) ?_)))
      refine TO.loud rfl (l_st (j := i) (v := .int .i64 xs[j]) (vs := [(.int .i64 xs[j])]) (cs := ints ys) 0 inf3 rfl rfl rfl rfl rfl (by simp) rfl (by first | (simp; omega) | (simp_all; omega)) ?_)
      refine TO.sub (O' := ([rowI b c 3 1 (ints (ys.set i xs[j]))] ++ OO)) (by rw [show putL (ints ys) i [(.int .i64 xs[j])] = ints (ys.set i xs[j]) from (by simp [putL])]; exact Sub.of (List.Sublist.refl _)) ?_
      refine TO.nil (T.region ?_)
      refine TO.quiet (q_move rfl) (TO.quiet (q_addN (a := i) (b := 1) rfl rfl (by omega)) (TO.quiet (q_assign rfl) ?_))
      refine TO.nil (T.region ?_)
      refine TO.quiet (q_move rfl) (TO.quiet (q_addN (a := j) (b := 1) rfl rfl (by omega)) (TO.quiet (q_assign rfl) ?_))
      refine TO.nil ?_
      refine ⟨j + 1, by omega, ys.set i xs[j], i + 1, rfl, by omega, by omega, by simp [hyl], ?_, fun q hq => by rw [List.getElem?_set_ne (by omega)]; exact hyr q (by omega), ⟨rfl, rfl, rfl, rfl, rfl, trivial⟩⟩
      rw [List.take_succ_eq_append_getElem hlt19, List.filter_append, ← hyt, List.take_succ_eq_append_getElem (by simp; omega), List.getElem_set_self, List.take_set_of_le (Nat.le_refl _)]
      have hpj : p xs[j] = false := by simpa using hc
      simp [hpj]
    refine T.skip (T.region ?_)
    refine TO.quiet (q_move rfl) (TO.quiet (q_addN (a := j) (b := 1) rfl rfl (by omega)) (TO.quiet (q_assign rfl) ?_))
    refine TO.nil ?_
    refine ⟨j + 1, by omega, ys, i, rfl, by omega, by omega, hyl, ?_, fun q hq => hyr q (by omega), ⟨rfl, rfl, rfl, rfl, rfl, trivial⟩⟩
    rw [List.take_succ_eq_append_getElem hlt19, List.filter_append, ← hyt]
    have hpj : p xs[j] = true := by simpa using hc
    simp [hpj]
  have hge19 : ¬ j < xs.length := by omega
  refine T.exit ?_
  refine T.seq ?_
  have hje : j = xs.length := by omega
  rw [hje, List.take_length] at hyt
  have hil : (xs.filter fun x => !p x).length = i := by rw [← hyt, List.length_take]; omega
  refine T.region ?_
  refine TO.quiet (q_move rfl) (TO.quiet (q_move rfl) (TO.quiet (q_sliceFrom (lo := i) Try.underlying22 inf3 rfl rfl (by omega) (by omega)) ?_))
  refine TO.loud rfl (l_clear (cs := ints ys) (lo := i) 0 Try.underlying22 inf3 rfl rfl (by rw [List.length_map, hyl]; rfl) rfl (by rw [List.length_map]; omega) ?_)
  refine TO.nil (T.seq (T.region ?_))
  refine TO.quiet (q_move rfl) (TO.quiet (q_move rfl) (TO.quiet (q_sliceTo (hi := i) Try.underlying22 inf3 rfl rfl (by omega)) (TO.quiet (q_assign rfl) ?_)))
  refine TO.nil (T.ret ?_)
  refine Res.one (.slice b i c) Try.results69 rfl ?_
  exact ⟨by rw [hil], by rw [← hyt, show ints (ys.take i) = (ints ys).take i from List.map_take]; rfl⟩
end Go.Proofs.Ytnamoapbienooaa

namespace Go.Proofs.Ytnamoapbienooaa
open Go.Lx Go.RowKit
set_option linter.unusedVariables false
set_option linter.unusedSimpArgs false
set_option maxHeartbeats 1000000 in
set_option maxRecDepth 20000 in
theorem longF (w : World) (b : Option Addr) (c : Nat) (qs : List BuRef) (hS : Sl w b (busC qs)) (hq : ∀ q ∈ qs, BuAt w q.b q.sb q.eb q.tb q.vs) (hb : qs.length < 9223372036854775807) (hb2 : ∀ q ∈ qs, q.b.sets.length < 9223372036854775807) :
    PureT Try.prog 11 [.slice b qs.length c] w fun v N => v = .bool (qs.any fun q => longB q.b) ∧ N = [] := by
  refine CallT.enter Try.func11 rfl Try.ntmps11 rfl ?_
  refine T.seq (T.region ?_)
  refine TO.quiet (q_assign rfl) ?_
  refine TO.nil (T.seq (T.seq (T.region ?_)))
  refine TO.quiet (q_assign rfl) ?_
  refine TO.nil (T.block ?_)
  refine T.loop (fun (k : Nat) ρ O => O = [] ∧ k ≤ qs.length ∧ (qs.take k).any (fun q => longB q.b) = false ∧ Heads [(0, (.slice b qs.length c)), (3, .int .i64 (k : Int))] ρ) (fun k => qs.length - k) 0 ?_ ?_
  · exact ⟨rfl, Nat.zero_le _, rfl, ⟨rfl, rfl, trivial⟩⟩
  rintro k ρ O ⟨rfl, hk, hany, hH⟩
  obtain ⟨ρ0, rfl⟩ := hH.elim
  clear hH
  refine T.seq (T.seq (T.region ?_))
  refine TO.quiet (q_move rfl) (TO.quiet (q_move rfl) (TO.quiet (q_len Try.underlying71 rfl) (TO.quiet (q_lss rfl rfl) ?_)))
  refine TO.nil ?_
  refine T.condP rfl (fun hc => ?_) (fun hc => ?_)
  · have hlt8 : k < qs.length := by omega
    have hbb := hb2 _ (List.getElem_mem hlt8)
    have hvl := (hq _ (List.getElem_mem hlt8)).rows.1
    refine T.skip (T.seq (T.block (T.seq (T.seq (T.region ?_)))))
    refine TO.quiet (q_move rfl) (TO.quiet (q_move rfl) (TO.quiet (q_ixK (i := k) Try.underlying71 inf26 rfl rfl (Sl.o hS) (by first | assumption | omega | (simp; omega) | simp_all) (by first | (rw [bus_len]; omega) | (simp [bus_len]; omega) | (simp_all [bus_len]; omega))) (TO.quiet (q_fieldEl Try.underlying26 rfl inf22 rfl rfl (Sl.o hS) (by first | (rw [bus_len]; omega) | (simp [bus_len]; omega) | (simp_all [bus_len]; omega))) ?_)))
    refine TO.quiet (q_ld Try.underlying22 rfl rfl (Sl.o hS) (bus_get (by first | assumption | omega | (simp; omega) | simp_all) 2 (by decide))) (TO.quiet (q_len Try.underlying22 rfl) (TO.quiet (q_gtr rfl rfl) ?_))
    by_cases hs18 : (qs[k].b.start.length : Int) > 40
    · refine TO.quiet (QT.toB (q_move rfl) (decide_eq_true hs18)) ?_
      refine TO.passed rfl rfl ?_
      refine TO.passed rfl rfl ?_
      refine TO.passed rfl rfl ?_
      refine TO.passed rfl rfl ?_
      refine TO.passed rfl rfl ?_
      refine TO.passed rfl rfl ?_
      refine TO.passed rfl rfl ?_
      refine TO.quiet (q_pick1 rfl rfl) (TO.quiet (q_move rfl) ?_)
      refine TO.passed rfl rfl ?_
      refine TO.passed rfl rfl ?_
      refine TO.passed rfl rfl ?_
      refine TO.passed rfl rfl ?_
      refine TO.passed rfl rfl ?_
      refine TO.passed rfl rfl ?_
      refine TO.passed rfl rfl ?_
      refine TO.quiet (q_pick1 rfl rfl) (TO.quiet (q_move rfl) ?_)
      refine TO.passed rfl rfl ?_
      refine TO.passed rfl rfl ?_
      refine TO.passed rfl rfl ?_
      refine TO.passed rfl rfl ?_
      refine TO.passed rfl rfl ?_
      refine TO.passed rfl rfl ?_
      refine TO.passed rfl rfl ?_
      refine TO.passed rfl rfl ?_
      refine TO.passed rfl rfl ?_
      refine TO.passed rfl rfl ?_
      refine TO.passed rfl rfl ?_
      refine TO.passed rfl rfl ?_
      refine TO.passed rfl rfl ?_
      refine TO.passed rfl rfl ?_
      refine TO.quiet (q_pick1 rfl rfl) ?_
      refine TO.nil ?_
      refine T.cond1 rfl ?_
      refine T.seq (T.region ?_)
      refine TO.quiet (q_assign rfl) ?_
      refine TO.nil (T.ret ?_)
      refine Res.one (.bool true) Try.results11 rfl ?_
      exact ⟨congrArg Value.bool ((any_hit hlt8 (show longB _ = true by unfold longB; rw [show longN qs[k].b = true from decide_eq_true (by omega)]; rfl)).symm), rfl⟩
    refine TO.quiet (QT.toB (q_move rfl) (decide_eq_false hs18)) ?_
    refine TO.guarded rfl rfl rfl (LT.of_quiet rfl rfl (q_move rfl) ?_)
    refine TO.guarded rfl rfl rfl (LT.of_quiet rfl rfl (q_move rfl) ?_)
    refine TO.guarded rfl rfl rfl (LT.of_quiet rfl rfl (q_ixK (i := k) Try.underlying71 inf26 rfl rfl (Sl.o hS) (by first | assumption | omega | (simp; omega) | simp_all) (by first | (rw [bus_len]; omega) | (simp [bus_len]; omega) | (simp_all [bus_len]; omega))) ?_)
    refine TO.guarded rfl rfl rfl (LT.of_quiet rfl rfl (q_fieldEl Try.underlying26 rfl inf23 rfl rfl (Sl.o hS) (by first | (rw [bus_len]; omega) | (simp [bus_len]; omega) | (simp_all [bus_len]; omega))) ?_)
    refine TO.guarded rfl rfl rfl (LT.of_quiet rfl rfl (q_ld Try.underlying23 rfl rfl (Sl.o hS) (bus_get (by first | assumption | omega | (simp; omega) | simp_all) 3 (by decide))) ?_)
    refine TO.guarded rfl rfl rfl (LT.of_quiet rfl rfl (q_len Try.underlying23 rfl) ?_)
    refine TO.guarded rfl rfl rfl (LT.of_quiet rfl rfl (q_gtr rfl rfl) ?_)
    refine TO.quiet (q_pick0 rfl rfl) ?_
    by_cases hs27 : (qs[k].b.edges.length : Int) > 60
    · refine TO.quiet (QT.toB (q_move rfl) (decide_eq_true hs27)) ?_
      refine TO.passed rfl rfl ?_
      refine TO.passed rfl rfl ?_
      refine TO.passed rfl rfl ?_
      refine TO.passed rfl rfl ?_
      refine TO.passed rfl rfl ?_
      refine TO.passed rfl rfl ?_
      refine TO.passed rfl rfl ?_
      refine TO.quiet (q_pick1 rfl rfl) (TO.quiet (q_move rfl) ?_)
      refine TO.passed rfl rfl ?_
      refine TO.passed rfl rfl ?_
      refine TO.passed rfl rfl ?_
      refine TO.passed rfl rfl ?_
      refine TO.passed rfl rfl ?_
      refine TO.passed rfl rfl ?_
      refine TO.passed rfl rfl ?_
      refine TO.passed rfl rfl ?_
      refine TO.passed rfl rfl ?_
      refine TO.passed rfl rfl ?_
      refine TO.passed rfl rfl ?_
      refine TO.passed rfl rfl ?_
      refine TO.passed rfl rfl ?_
      refine TO.passed rfl rfl ?_
      refine TO.quiet (q_pick1 rfl rfl) ?_
      refine TO.nil ?_
      refine T.cond1 rfl ?_
      refine T.seq (T.region ?_)
      refine TO.quiet (q_assign rfl) ?_
      refine TO.nil (T.ret ?_)
      refine Res.one (.bool true) Try.results11 rfl ?_
      exact ⟨congrArg Value.bool ((any_hit hlt8 (show longB _ = true by unfold longB; rw [show longN qs[k].b = true from decide_eq_true (by omega)]; rfl)).symm), rfl⟩
    refine TO.quiet (QT.toB (q_move rfl) (decide_eq_false hs27)) ?_
    refine TO.guarded rfl rfl rfl (LT.of_quiet rfl rfl (q_move rfl) ?_)
    refine TO.guarded rfl rfl rfl (LT.of_quiet rfl rfl (q_move rfl) ?_)
    refine TO.guarded rfl rfl rfl (LT.of_quiet rfl rfl (q_ixK (i := k) Try.underlying71 inf26 rfl rfl (Sl.o hS) (by first | assumption | omega | (simp; omega) | simp_all) (by first | (rw [bus_len]; omega) | (simp [bus_len]; omega) | (simp_all [bus_len]; omega))) ?_)
    refine TO.guarded rfl rfl rfl (LT.of_quiet rfl rfl (q_fieldEl Try.underlying26 rfl inf24 rfl rfl (Sl.o hS) (by first | (rw [bus_len]; omega) | (simp [bus_len]; omega) | (simp_all [bus_len]; omega))) ?_)
    refine TO.guarded rfl rfl rfl (LT.of_quiet rfl rfl (q_ld Try.underlying24 rfl rfl (Sl.o hS) (bus_get (by first | assumption | omega | (simp; omega) | simp_all) 4 (by decide))) ?_)
    refine TO.guarded rfl rfl rfl (LT.of_quiet rfl rfl (q_len Try.underlying24 rfl) ?_)
    refine TO.guarded rfl rfl rfl (LT.of_quiet rfl rfl (q_gtr rfl rfl) ?_)
    refine TO.quiet (q_pick0 rfl rfl) ?_
    by_cases hs36 : (qs[k].b.sets.length : Int) > 12
    · refine TO.quiet (QT.toB (q_move rfl) (decide_eq_true hs36)) ?_
      refine TO.passed rfl rfl ?_
      refine TO.passed rfl rfl ?_
      refine TO.passed rfl rfl ?_
      refine TO.passed rfl rfl ?_
      refine TO.passed rfl rfl ?_
      refine TO.passed rfl rfl ?_
      refine TO.passed rfl rfl ?_
      refine TO.passed rfl rfl ?_
      refine TO.passed rfl rfl ?_
      refine TO.passed rfl rfl ?_
      refine TO.passed rfl rfl ?_
      refine TO.passed rfl rfl ?_
      refine TO.passed rfl rfl ?_
      refine TO.passed rfl rfl ?_
      refine TO.quiet (q_pick1 rfl rfl) ?_
      refine TO.nil ?_
      refine T.cond1 rfl ?_
      refine T.seq (T.region ?_)
      refine TO.quiet (q_assign rfl) ?_
      refine TO.nil (T.ret ?_)
      refine Res.one (.bool true) Try.results11 rfl ?_
      exact ⟨congrArg Value.bool ((any_hit hlt8 (show longB _ = true by unfold longB; rw [show longN qs[k].b = true from decide_eq_true (by omega)]; rfl)).symm), rfl⟩
    refine TO.quiet (QT.toB (q_move rfl) (decide_eq_false hs36)) ?_
    refine TO.guarded rfl rfl rfl (LT.of_quiet rfl rfl (q_move rfl) ?_)
    refine TO.guarded rfl rfl rfl (LT.of_quiet rfl rfl (q_move rfl) ?_)
    refine TO.guarded rfl rfl rfl (LT.of_quiet rfl rfl (q_ixK (i := k) Try.underlying71 inf26 rfl rfl (Sl.o hS) (by first | assumption | omega | (simp; omega) | simp_all) (by first | (rw [bus_len]; omega) | (simp [bus_len]; omega) | (simp_all [bus_len]; omega))) ?_)
    refine TO.guarded rfl rfl rfl (LT.of_quiet rfl rfl (q_fieldEl Try.underlying26 rfl inf3 rfl rfl (Sl.o hS) (by first | (rw [bus_len]; omega) | (simp [bus_len]; omega) | (simp_all [bus_len]; omega))) ?_)
    refine TO.guarded rfl rfl rfl (LT.of_quiet rfl rfl (q_ld Try.underlying3 rfl rfl (Sl.o hS) (bus_get (by first | assumption | omega | (simp; omega) | simp_all) 1 (by decide))) ?_)
    refine TO.guarded rfl rfl rfl (LT.of_quiet rfl rfl (q_gtr rfl rfl) ?_)
    by_cases hs43 : qs[k].b.states > 20
    · refine TO.guarded rfl rfl rfl (LT.of_quiet rfl rfl (QT.toB (q_move rfl) (decide_eq_true hs43)) ?_)
      refine TO.guarded rfl rfl rfl (LT.of_quiet rfl rfl (q_move rfl) ?_)
      refine TO.guarded rfl rfl rfl (LT.of_quiet rfl rfl (q_move rfl) ?_)
      refine TO.guarded rfl rfl rfl (LT.of_quiet rfl rfl (q_ixK (i := k) Try.underlying71 inf26 rfl rfl (Sl.o hS) (by first | assumption | omega | (simp; omega) | simp_all) (by first | (rw [bus_len]; omega) | (simp [bus_len]; omega) | (simp_all [bus_len]; omega))) ?_)
      refine TO.guarded rfl rfl rfl (LT.of_quiet rfl rfl (q_fieldEl Try.underlying26 rfl inf3 rfl rfl (Sl.o hS) (by first | (rw [bus_len]; omega) | (simp [bus_len]; omega) | (simp_all [bus_len]; omega))) ?_)
      refine TO.guarded rfl rfl rfl (LT.of_quiet rfl rfl (q_ld Try.underlying3 rfl rfl (Sl.o hS) (bus_get (by first | assumption | omega | (simp; omega) | simp_all) 1 (by decide))) ?_)
      refine TO.guarded rfl rfl rfl (LT.of_quiet rfl rfl (q_leq rfl rfl) ?_)
      refine TO.guarded rfl rfl rfl (LT.of_quiet rfl rfl (q_pick1 rfl rfl) ?_)
      refine TO.quiet (q_pick0 rfl rfl) ?_
      refine TO.nil ?_
      refine T.condP rfl (fun hc => ?_) (fun hc => ?_)
      · refine T.seq ?_
        refine T.region ?_
        refine TO.quiet (q_assign rfl) ?_
        refine TO.nil (T.ret ?_)
        refine Res.one (.bool true) Try.results11 rfl ?_
        exact ⟨congrArg Value.bool ((any_hit hlt8 (show longB _ = true by unfold longB; rw [show longN qs[k].b = true from decide_eq_true (by omega)]; rfl)).symm), rfl⟩
      refine T.skip (T.seq (T.region ?_))
      refine TO.quiet (q_assign rfl) ?_
      refine TO.nil (T.block ?_)
      refine T.loop (fun (j : Nat) ρ O => O = [] ∧ j ≤ qs[k].b.sets.length ∧ longN qs[k].b = false ∧ (qs[k].b.sets.take j).any (fun r => decide (40 < r.length)) = false ∧ Heads [(0, (.slice b qs.length c)), (3, .int .i64 (k : Int)), (4, .int .i64 (j : Int))] ρ) (fun j => qs[k].b.sets.length - j) 0 ?_ ?_
      · refine ⟨rfl, Nat.zero_le _, decide_eq_false (by omega), rfl, ⟨rfl, rfl, rfl, trivial⟩⟩
      rintro j ρ O ⟨rfl, hj, hnl, hj2, hH⟩
      obtain ⟨ρ0, rfl⟩ := hH.elim
      clear hH
      refine T.seq (T.seq (T.region ?_))
      refine TO.quiet (q_move rfl) (TO.quiet (q_move rfl) (TO.quiet (q_move rfl) (TO.quiet (q_ixK (i := k) Try.underlying71 inf26 rfl rfl (Sl.o hS) (by first | assumption | omega | (simp; omega) | simp_all) (by first | (rw [bus_len]; omega) | (simp [bus_len]; omega) | (simp_all [bus_len]; omega))) ?_)))
      refine TO.quiet (q_fieldEl Try.underlying26 rfl inf24 rfl rfl (Sl.o hS) (by first | (rw [bus_len]; omega) | (simp [bus_len]; omega) | (simp_all [bus_len]; omega))) (TO.quiet (q_ld Try.underlying24 rfl rfl (Sl.o hS) (bus_get (by first | assumption | omega | (simp; omega) | simp_all) 4 (by decide))) (TO.quiet (q_len Try.underlying24 rfl) (TO.quiet (q_lss rfl rfl) ?_)))
      refine TO.nil ?_
      refine T.condP rfl (fun hc => ?_) (fun hc => ?_)
      · have hlt59 : j < qs[k].b.sets.length := by omega
        obtain ⟨vb, vc, g1, s1⟩ := (hq _ (List.getElem_mem hlt8)).rows.get hlt59
        refine T.skip (T.seq (T.block (T.seq (T.region ?_))))
        refine TO.quiet (q_move rfl) (TO.quiet (q_move rfl) (TO.quiet (q_ixK (i := k) Try.underlying71 inf26 rfl rfl (Sl.o hS) (by first | assumption | omega | (simp; omega) | simp_all) (by first | (rw [bus_len]; omega) | (simp [bus_len]; omega) | (simp_all [bus_len]; omega))) (TO.quiet (q_fieldEl Try.underlying26 rfl inf24 rfl rfl (Sl.o hS) (by first | (rw [bus_len]; omega) | (simp [bus_len]; omega) | (simp_all [bus_len]; omega))) ?_)))
        refine TO.quiet (q_ld Try.underlying24 rfl rfl (Sl.o hS) (bus_get (by first | assumption | omega | (simp; omega) | simp_all) 4 (by decide))) (TO.quiet (q_move rfl) (TO.quiet (q_ix (i := j) Try.underlying24 inf22 rfl rfl (Sl.o (hq _ (List.getElem_mem hlt8)).out) (by first | assumption | omega | (simp; omega) | simp_all) (by rw [hvl]; exact hlt59)) (TO.quiet (q_ld Try.underlying22 rfl rfl (Sl.o (hq _ (List.getElem_mem hlt8)).out) g1) ?_)))
        refine TO.quiet (q_len Try.underlying22 rfl) (TO.quiet (q_gtr rfl rfl) ?_)
        refine TO.nil ?_
        refine T.condP rfl (fun hc => ?_) (fun hc => ?_)
        · have hlt71 : qs[k].b.sets[j].length > 40 := by omega
          refine T.seq (T.region ?_)
          refine TO.quiet (q_assign rfl) ?_
          refine TO.nil (T.ret ?_)
          refine Res.one (.bool true) Try.results11 rfl ?_
          exact ⟨congrArg Value.bool ((any_hit hlt8 (show longB _ = true by unfold longB; rw [any_hit hlt59 (decide_eq_true (by omega))]; simp)).symm), rfl⟩
        have hge71 : ¬ qs[k].b.sets[j].length > 40 := by omega
        refine T.skip (T.region ?_)
        refine TO.quiet (q_move rfl) (TO.quiet (q_addN (a := j) (b := 1) rfl rfl (by omega)) (TO.quiet (q_assign rfl) ?_))
        refine TO.nil ?_
        exact ⟨j + 1, by omega, rfl, by omega, hnl, any_snoc hlt59 hj2 (decide_eq_false (by omega)), ⟨rfl, rfl, rfl, trivial⟩⟩
      have hge59 : ¬ j < qs[k].b.sets.length := by omega
      refine T.exit ?_
      refine T.region ?_
      refine TO.quiet (q_move rfl) (TO.quiet (q_addN (a := k) (b := 1) rfl rfl (by omega)) (TO.quiet (q_assign rfl) ?_))
      refine TO.nil ?_
      refine ⟨k + 1, by omega, rfl, by omega, any_snoc hlt8 hany ?_, ⟨rfl, rfl, trivial⟩⟩
      show longB _ = false
      unfold longB; rw [hnl, any_done (by omega) hj2]; rfl
    refine TO.guarded rfl rfl rfl (LT.of_quiet rfl rfl (QT.toB (q_move rfl) (decide_eq_false hs43)) ?_)
    refine TO.passed rfl rfl ?_
    refine TO.passed rfl rfl ?_
    refine TO.passed rfl rfl ?_
    refine TO.passed rfl rfl ?_
    refine TO.passed rfl rfl ?_
    refine TO.passed rfl rfl ?_
    refine TO.guarded rfl rfl rfl (LT.of_quiet rfl rfl (q_pick0 rfl rfl) ?_)
    refine TO.quiet (q_pick0 rfl rfl) ?_
    refine TO.nil ?_
    refine T.cond0 rfl ?_
    refine T.skip (T.seq (T.region ?_))
    refine TO.quiet (q_assign rfl) ?_
    refine TO.nil (T.block ?_)
    refine T.loop (fun (j : Nat) ρ O => O = [] ∧ j ≤ qs[k].b.sets.length ∧ longN qs[k].b = false ∧ (qs[k].b.sets.take j).any (fun r => decide (40 < r.length)) = false ∧ Heads [(0, (.slice b qs.length c)), (3, .int .i64 (k : Int)), (4, .int .i64 (j : Int))] ρ) (fun j => qs[k].b.sets.length - j) 0 ?_ ?_
    · refine ⟨rfl, Nat.zero_le _, decide_eq_false (by omega), rfl, ⟨rfl, rfl, rfl, trivial⟩⟩
    rintro j ρ O ⟨rfl, hj, hnl, hj2, hH⟩
    obtain ⟨ρ0, rfl⟩ := hH.elim
    clear hH
    refine T.seq (T.seq (T.region ?_))
    refine TO.quiet (q_move rfl) (TO.quiet (q_move rfl) (TO.quiet (q_move rfl) (TO.quiet (q_ixK (i := k) Try.underlying71 inf26 rfl rfl (Sl.o hS) (by first | assumption | omega | (simp; omega) | simp_all) (by first | (rw [bus_len]; omega) | (simp [bus_len]; omega) | (simp_all [bus_len]; omega))) ?_)))
    refine TO.quiet (q_fieldEl Try.underlying26 rfl inf24 rfl rfl (Sl.o hS) (by first | (rw [bus_len]; omega) | (simp [bus_len]; omega) | (simp_all [bus_len]; omega))) (TO.quiet (q_ld Try.underlying24 rfl rfl (Sl.o hS) (bus_get (by first | assumption | omega | (simp; omega) | simp_all) 4 (by decide))) (TO.quiet (q_len Try.underlying24 rfl) (TO.quiet (q_lss rfl rfl) ?_)))
    refine TO.nil ?_
    refine T.condP rfl (fun hc => ?_) (fun hc => ?_)
    · have hlt59 : j < qs[k].b.sets.length := by omega
      obtain ⟨vb, vc, g1, s1⟩ := (hq _ (List.getElem_mem hlt8)).rows.get hlt59
      refine T.skip (T.seq (T.block (T.seq (T.region ?_))))
      refine TO.quiet (q_move rfl) (TO.quiet (q_move rfl) (TO.quiet (q_ixK (i := k) Try.underlying71 inf26 rfl rfl (Sl.o hS) (by first | assumption | omega | (simp; omega) | simp_all) (by first | (rw [bus_len]; omega) | (simp [bus_len]; omega) | (simp_all [bus_len]; omega))) (TO.quiet (q_fieldEl Try.underlying26 rfl inf24 rfl rfl (Sl.o hS) (by first | (rw [bus_len]; omega) | (simp [bus_len]; omega) | (simp_all [bus_len]; omega))) ?_)))
      refine TO.quiet (q_ld Try.underlying24 rfl rfl (Sl.o hS) (bus_get (by first | assumption | omega | (simp; omega) | simp_all) 4 (by decide))) (TO.quiet (q_move rfl) (TO.quiet (q_ix (i := j) Try.underlying24 inf22 rfl rfl (Sl.o (hq _ (List.getElem_mem hlt8)).out) (by first | assumption | omega | (simp; omega) | simp_all) (by rw [hvl]; exact hlt59)) (TO.quiet (q_ld Try.underlying22 rfl rfl (Sl.o (hq _ (List.getElem_mem hlt8)).out) g1) ?_)))
      refine TO.quiet (q_len Try.underlying22 rfl) (TO.quiet (q_gtr rfl rfl) ?_)
      refine TO.nil ?_
      refine T.condP rfl (fun hc => ?_) (fun hc => ?_)
      · have hlt71 : qs[k].b.sets[j].length > 40 := by omega
        refine T.seq (T.region ?_)
        refine TO.quiet (q_assign rfl) ?_
        refine TO.nil (T.ret ?_)
        refine Res.one (.bool true) Try.results11 rfl ?_
        exact ⟨congrArg Value.bool ((any_hit hlt8 (show longB _ = true by unfold longB; rw [any_hit hlt59 (decide_eq_true (by omega))]; simp)).symm), rfl⟩
      have hge71 : ¬ qs[k].b.sets[j].length > 40 := by omega
      refine T.skip (T.region ?_)
      refine TO.quiet (q_move rfl) (TO.quiet (q_addN (a := j) (b := 1) rfl rfl (by omega)) (TO.quiet (q_assign rfl) ?_))
      refine TO.nil ?_
      exact ⟨j + 1, by omega, rfl, by omega, hnl, any_snoc hlt59 hj2 (decide_eq_false (by omega)), ⟨rfl, rfl, rfl, trivial⟩⟩
    have hge59 : ¬ j < qs[k].b.sets.length := by omega
    refine T.exit ?_
    refine T.region ?_
    refine TO.quiet (q_move rfl) (TO.quiet (q_addN (a := k) (b := 1) rfl rfl (by omega)) (TO.quiet (q_assign rfl) ?_))
    refine TO.nil ?_
    refine ⟨k + 1, by omega, rfl, by omega, any_snoc hlt8 hany ?_, ⟨rfl, rfl, trivial⟩⟩
    show longB _ = false
    unfold longB; rw [hnl, any_done (by omega) hj2]; rfl
  have hge8 : ¬ k < qs.length := by omega
  refine T.exit ?_
  refine T.seq (T.region ?_)
  refine TO.quiet (q_assign rfl) ?_
  refine TO.nil (T.ret ?_)
  refine Res.one (.bool false) Try.results11 rfl ?_
  exact ⟨congrArg Value.bool ((any_done (by omega) hany).symm), rfl⟩
set_option maxHeartbeats 1000000 in
set_option maxRecDepth 20000 in
theorem longLF (w : World) (b : Option Addr) (c : Nat) (qs : List LaRef) (hS : Sl w b (lasC qs)) (hb : qs.length < 9223372036854775807) :
    PureT Try.prog 12 [.slice b qs.length c] w fun v N => v = .bool (qs.any fun q => longL q.l) ∧ N = [] := by
  refine CallT.enter Try.func12 rfl Try.ntmps12 rfl ?_
  refine T.seq (T.region ?_)
  refine TO.quiet (q_assign rfl) ?_
  refine TO.nil (T.seq (T.seq (T.region ?_)))
  refine TO.quiet (q_assign rfl) ?_
  refine TO.nil (T.block ?_)
  refine T.loop (fun (k : Nat) ρ O => O = [] ∧ k ≤ qs.length ∧ (qs.take k).any (fun q => longL q.l) = false ∧ Heads [(0, (.slice b qs.length c)), (3, .int .i64 (k : Int))] ρ) (fun k => qs.length - k) 0 ?_ ?_
  · exact ⟨rfl, Nat.zero_le _, rfl, ⟨rfl, rfl, trivial⟩⟩
  rintro k ρ O ⟨rfl, hk, hany, hH⟩
  obtain ⟨ρ0, rfl⟩ := hH.elim
  clear hH
  refine T.seq (T.seq (T.region ?_))
  refine TO.quiet (q_move rfl) (TO.quiet (q_move rfl) (TO.quiet (q_len Try.underlying72 rfl) (TO.quiet (q_lss rfl rfl) ?_)))
  refine TO.nil ?_
  refine T.condP rfl (fun hc => ?_) (fun hc => ?_)
  · have hlt7 : k < qs.length := by omega
    refine T.skip (T.seq (T.block (T.seq (T.region ?_))))
    refine TO.quiet (q_move rfl) (TO.quiet (q_move rfl) (TO.quiet (q_ixK (i := k) Try.underlying72 inf29 rfl rfl (Sl.o hS) (by first | assumption | omega | (simp; omega) | simp_all) (by first | (rw [las_len]; omega) | (simp [las_len]; omega) | (simp_all [las_len]; omega))) (TO.quiet (q_fieldEl Try.underlying29 rfl inf27 rfl rfl (Sl.o hS) (by first | (rw [las_len]; omega) | (simp [las_len]; omega) | (simp_all [las_len]; omega))) ?_)))
    refine TO.quiet (q_ld Try.underlying27 rfl rfl (Sl.o hS) (las_get (by first | assumption | omega | (simp; omega) | simp_all) 0 (by decide))) (TO.quiet (q_len Try.underlying27 rfl) (TO.quiet (q_gtr rfl rfl) ?_))
    by_cases hs17 : (qs[k].l.pre.length : Int) > 70
    · refine TO.quiet (QT.toB (q_move rfl) (decide_eq_true hs17)) ?_
      refine TO.passed rfl rfl ?_
      refine TO.passed rfl rfl ?_
      refine TO.passed rfl rfl ?_
      refine TO.passed rfl rfl ?_
      refine TO.passed rfl rfl ?_
      refine TO.passed rfl rfl ?_
      refine TO.passed rfl rfl ?_
      refine TO.quiet (q_pick1 rfl rfl) ?_
      refine TO.nil ?_
      refine T.cond1 rfl ?_
      refine T.seq (T.region ?_)
      refine TO.quiet (q_assign rfl) ?_
      refine TO.nil (T.ret ?_)
      refine Res.one (.bool true) Try.results12 rfl ?_
      exact ⟨congrArg Value.bool ((any_hit hlt7 (show longL _ = true from decide_eq_true (by omega))).symm), rfl⟩
    refine TO.quiet (QT.toB (q_move rfl) (decide_eq_false hs17)) ?_
    refine TO.guarded rfl rfl rfl (LT.of_quiet rfl rfl (q_move rfl) ?_)
    refine TO.guarded rfl rfl rfl (LT.of_quiet rfl rfl (q_move rfl) ?_)
    refine TO.guarded rfl rfl rfl (LT.of_quiet rfl rfl (q_ixK (i := k) Try.underlying72 inf29 rfl rfl (Sl.o hS) (by first | assumption | omega | (simp; omega) | simp_all) (by first | (rw [las_len]; omega) | (simp [las_len]; omega) | (simp_all [las_len]; omega))) ?_)
    refine TO.guarded rfl rfl rfl (LT.of_quiet rfl rfl (q_fieldEl Try.underlying29 rfl inf27 rfl rfl (Sl.o hS) (by first | (rw [las_len]; omega) | (simp [las_len]; omega) | (simp_all [las_len]; omega))) ?_)
    refine TO.guarded rfl rfl rfl (LT.of_quiet rfl rfl (q_ld Try.underlying27 rfl rfl (Sl.o hS) (las_get (by first | assumption | omega | (simp; omega) | simp_all) 1 (by decide))) ?_)
    refine TO.guarded rfl rfl rfl (LT.of_quiet rfl rfl (q_len Try.underlying27 rfl) ?_)
    refine TO.guarded rfl rfl rfl (LT.of_quiet rfl rfl (q_gtr rfl rfl) ?_)
    refine TO.quiet (q_pick0 rfl rfl) ?_
    refine TO.nil ?_
    refine T.condP rfl (fun hc => ?_) (fun hc => ?_)
    · have hlt25 : qs[k].l.loop.length > 70 := by omega
      refine T.seq (T.region ?_)
      refine TO.quiet (q_assign rfl) ?_
      refine TO.nil (T.ret ?_)
      refine Res.one (.bool true) Try.results12 rfl ?_
      exact ⟨congrArg Value.bool ((any_hit hlt7 (show longL _ = true from decide_eq_true (by omega))).symm), rfl⟩
    have hge25 : ¬ qs[k].l.loop.length > 70 := by omega
    refine T.skip (T.region ?_)
    refine TO.quiet (q_move rfl) (TO.quiet (q_addN (a := k) (b := 1) rfl rfl (by omega)) (TO.quiet (q_assign rfl) ?_))
    refine TO.nil ?_
    exact ⟨k + 1, by omega, rfl, by omega, any_snoc hlt7 hany (decide_eq_false (by omega)), ⟨rfl, rfl, trivial⟩⟩
  have hge7 : ¬ k < qs.length := by omega
  refine T.exit ?_
  refine T.seq (T.region ?_)
  refine TO.quiet (q_assign rfl) ?_
  refine TO.nil (T.ret ?_)
  refine Res.one (.bool false) Try.results12 rfl ?_
  exact ⟨congrArg Value.bool ((any_done (by omega) hany).symm), rfl⟩
set_option maxHeartbeats 1000000 in
set_option maxRecDepth 20000 in
theorem fairF (w : World) (l : La) (pb lb : Option Addr) (pc lc : Nat) (hb : l.pre.length ≤ 1000000000000) (hb2 : l.loop.length ≤ 1000000000000) :
    PureT Try.prog 13 [.agg (laCells l pb pc lb lc).toArray] w fun v N => v = .bool (decide (l.n ≤ 16)) ∧ N = [] := by
  refine CallT.enter Try.func13 rfl Try.ntmps13 rfl ?_
  refine T.seq (T.region ?_)
  refine TO.loud rfl (l_box (v := (.agg (laCells l pb pc lb lc).toArray)) (cs := (laCells l pb pc lb lc)) rfl rfl (fun bx1 => ?_))
  refine TO.quiet (q_assign rfl) ?_
  refine TO.nil (T.seq (T.region ?_))
  refine TO.quiet (q_fieldAddr Try.underlying29 rfl inf27 rfl rfl) (TO.quiet (q_load_box 0 Try.underlying27 rfl rfl rfl rfl) (TO.quiet (q_len Try.underlying27 rfl) (TO.quiet (q_fieldAddr Try.underlying29 rfl inf27 rfl rfl) ?_)))
  refine TO.quiet (q_load_box 0 Try.underlying27 rfl rfl rfl rfl) (TO.quiet (q_len Try.underlying27 rfl) (TO.quiet (q_addN (a := l.pre.length) (b := l.loop.length) rfl rfl (by omega)) (TO.quiet (q_leq rfl rfl) ?_)))
  refine TO.quiet (q_assign rfl) ?_
  refine TO.nil (T.ret (Res.drop ?_))
  refine Res.one (.bool (decide (((l.pre.length + l.loop.length : Nat) : Int) ≤ 16))) Try.results13 rfl ?_
  exact ⟨[], Sub.of (List.nil_sublist _), congrArg Value.bool (decide_eq_decide.2 (by show ((l.pre.length + l.loop.length : Nat) : Int) ≤ 16 ↔ l.pre.length + l.loop.length ≤ 16; omega)), rfl⟩
set_option maxHeartbeats 1000000 in
set_option maxRecDepth 20000 in
theorem copyBuchi (w : World) (b : Bu) (sb eb tb : Option Addr) (sc ec tc : Nat) (vs : List Value) (h : BuAt w b sb eb tb vs) (hB : BuB b) :
    PureT Try.prog 15 [.agg (buCells b sb sc eb ec tb tc).toArray] w fun v N => ∃ sb2 eb2 tb2 sc2 ec2 tc2 qs, v = .agg (buCells b sb2 sc2 eb2 ec2 tb2 tc2).toArray ∧ N = [rowI sb2 sc2 3 1 (ints b.start), rowI eb2 ec2 54 4 (edsC b.edges), rowI tb2 tc2 22 1 (vals qs)] ++ itms 3 qs ∧ nums qs = b.sets := by
  refine CallT.enter Try.func15 rfl Try.ntmps15 rfl ?_
  refine T.seq (T.region ?_)
  refine TO.loud rfl (l_box (v := (.agg (buCells b sb sc eb ec tb tc).toArray)) (cs := (buCells b sb sc eb ec tb tc)) rfl rfl (fun bx1 => ?_))
  refine TO.loud rfl (l_alloc inf26 rfl (fun bx2 => ?_))
  refine TO.nil (T.seq ?_)
  refine T.draws _ [(0, 0), (1, 0), (2, 0), (3, 0), (4, 0), (5, 0), (7, 0), (8, 0), (10, 0), (11, 0), (6, 1), (9, 1), (12, 1), (13, 0), (14, 2)] mixed (by kernel_rfl) (Sub.of (List.Sublist.refl _)) (fun _ _ _ h => h) ?_
  refine DO.quiet rfl (q_fieldAddr Try.underlying26 rfl inf3 rfl rfl) (DO.quiet rfl (q_load_box 1 Try.underlying3 rfl rfl rfl rfl) (DO.quiet rfl (q_fieldAddr Try.underlying26 rfl inf3 rfl rfl) (DO.quiet rfl (q_load_box 1 Try.underlying3 rfl rfl rfl rfl) ?_)))
  refine DO.quiet rfl (q_fieldAddr Try.underlying26 rfl inf22 rfl rfl) (DO.quiet rfl (q_load_box 1 Try.underlying22 rfl rfl rfl rfl) (DO.quiet rfl (q_fieldAddr Try.underlying26 rfl inf23 rfl rfl) (DO.quiet rfl (q_load_box 1 Try.underlying23 rfl rfl rfl rfl) ?_)))
  refine DO.quiet rfl (q_fieldAddr Try.underlying26 rfl inf24 rfl rfl) (DO.quiet rfl (q_load_box 1 Try.underlying24 rfl rfl rfl rfl) ?_)
  have hk9 := fun (w1 : World) (hI : Inv w [oI bx2 26 [(.int .i64 0), (.int .i64 0), (.slice none 0 0), (.slice none 0 0), (.slice none 0 0)], oI bx1 26 (buCells b sb sc eb ec tb tc)] w1) => copyInts w1 sb sc b.start (hI.sl h.st) (by have := hB.st; omega)
  refine DO.loud rfl rfl (l_call ent48 (CallT.of_pure hk9) rfl ?_)
  clear hk9
  rintro vr O' ⟨N, rfl, sb2, sc2, rfl, rfl⟩
  refine ⟨Sub.pick [1, 1] rfl, ?_⟩
  have hk12 := fun (w1 : World) (hI : Inv w [rowI sb2 sc2 3 1 (ints b.start), oI bx2 26 [(.int .i64 0), (.int .i64 0), (.slice none 0 0), (.slice none 0 0), (.slice none 0 0)], oI bx1 26 (buCells b sb sc eb ec tb tc)] w1) => copyEdges w1 eb ec b.edges (hI.sl h.ed) hB.ed
  refine DO.loud rfl rfl (l_call ent49 (CallT.of_pure hk12) rfl ?_)
  clear hk12
  rintro vr O' ⟨N, rfl, eb2, ec2, rfl, rfl⟩
  refine ⟨Sub.pick [2, 2] rfl, ?_⟩
  have hk15 := fun (w1 : World) (hI : Inv w [rowI eb2 ec2 54 4 (edsC b.edges), rowI sb2 sc2 3 1 (ints b.start), oI bx2 26 [(.int .i64 0), (.int .i64 0), (.slice none 0 0), (.slice none 0 0), (.slice none 0 0)], oI bx1 26 (buCells b sb sc eb ec tb tc)] w1) => copyRows w1 tb tc vs b.sets (hI.sl h.out) (hI.rows h.rows) (by have := hB.se; omega) (fun r hr => by have := hB.sr r hr; omega)
  refine DO.loud rfl rfl (l_call ent50 (CallT.of_pure hk15) rfl ?_)
  clear hk15
  rintro vr O' ⟨N, rfl, tb2, tc2, qs, rfl, rfl, hqs⟩
  refine ⟨Sub.appL _ (Sub.pick [2, 2] rfl), ?_⟩
  refine DO.sub (O' := ([rowI tb2 tc2 22 1 (vals qs), rowI eb2 ec2 54 4 (edsC b.edges), rowI sb2 sc2 3 1 (ints b.start), oI bx2 26 [(.int .i64 0), (.int .i64 0), (.slice none 0 0), (.slice none 0 0), (.slice none 0 0)], oI bx1 26 (buCells b sb sc eb ec tb tc)] ++ (itms 3 qs))) (Sub.cnt [] (by intro a; simp only [itms, oI, List.set_cons_zero, List.set_cons_succ, putL, List.cons_append, List.nil_append, List.append_nil, List.append_assoc, List.map_append, List.map_cons, List.map_nil, cnt_append, cnt_cons, cnt_nil, buCells, laCells] <;> omega)) ?_
  refine DO.quiet rfl (q_build (cs := (buCells b sb2 sc2 eb2 ec2 tb2 tc2)) plan26 inf26 (by kernel_rfl)) ?_
  refine DO.last rfl rfl (l_store_box (v := (.agg (buCells b sb2 sc2 eb2 ec2 tb2 tc2).toArray)) (vs := (buCells b sb2 sc2 eb2 ec2 tb2 tc2)) 3 inf26 rfl rfl rfl rfl rfl rfl (by simp [putL]) ?_)
  refine DO.done ?_
  refine T.ret (Res.drop ?_)
  refine Res.cell1 (i := 3) Try.results15 Try.underlying26 rfl inf26 rfl rfl rfl ?_
  exact ⟨[rowI sb2 sc2 3 1 (ints b.start), rowI eb2 ec2 54 4 (edsC b.edges), rowI tb2 tc2 22 1 (vals qs)] ++ itms 3 qs, Sub.cnt [oI bx2 26 (buCells b sb2 sc2 eb2 ec2 tb2 tc2), oI bx1 26 (buCells b sb sc eb ec tb tc)] (by intro a; simp only [itms, oI, List.set_cons_zero, List.set_cons_succ, putL, List.cons_append, List.nil_append, List.append_nil, List.append_assoc, List.map_append, List.map_cons, List.map_nil, cnt_append, cnt_cons, cnt_nil, buCells, laCells] <;> omega), sb2, eb2, tb2, sc2, ec2, tc2, qs, rfl, rfl, hqs⟩
set_option maxHeartbeats 1000000 in
set_option maxRecDepth 20000 in
theorem ownLa (w : World) (l : La) (pb lb : Option Addr) (pc lc : Nat) (h : LaAt w l pb lb pc lc) (hL : LaB l) :
    PureT Try.prog 16 [.agg (laCells l pb pc lb lc).toArray] w fun v N => ∃ pb2 lb2 pc2 lc2, v = .agg (laCells l pb2 pc2 lb2 lc2).toArray ∧ N = [rowI pb2 pc2 5 1 (byts l.pre), rowI lb2 lc2 5 1 (byts l.loop)] := by
  refine CallT.enter Try.func16 rfl Try.ntmps16 rfl ?_
  refine T.seq (T.region ?_)
  refine TO.loud rfl (l_box (v := (.agg (laCells l pb pc lb lc).toArray)) (cs := (laCells l pb pc lb lc)) rfl rfl (fun nb1 => ?_))
  refine TO.loud rfl (l_alloc inf29 rfl (fun nb2 => ?_))
  refine TO.nil (T.seq ?_)
  refine T.draws _ [(0, 0), (1, 0), (3, 0), (4, 0), (2, 1), (5, 2), (6, 2), (7, 2)] mixed (by kernel_rfl) (Sub.of (List.Sublist.refl _)) (fun _ _ _ h => h) ?_
  refine DO.quiet rfl (q_fieldAddr Try.underlying29 rfl inf27 rfl rfl) (DO.quiet rfl (q_load_box 1 Try.underlying27 rfl rfl rfl rfl) (DO.quiet rfl (q_fieldAddr Try.underlying29 rfl inf27 rfl rfl) (DO.quiet rfl (q_load_box 1 Try.underlying27 rfl rfl rfl rfl) ?_)))
  refine DO.loud rfl rfl (l_appendN (l := l.pre.length) Try.underlying27 Try.underlying27 inf5 rfl rfl rfl (by decide) (Src.sl h.pre (by simp)) (byts_one l.pre) (by have := hL.pre; omega) (by decide) (by decide) (fun nb3 nc4 => ⟨Sub.pick [1, 1] rfl, ?_⟩))
  refine DO.last rfl rfl (l_appendN (l := l.loop.length) Try.underlying27 Try.underlying27 inf5 rfl rfl rfl (by decide) (Src.sl h.loop (by simp)) (byts_one l.loop) (by have := hL.loop; omega) (by decide) (by decide) (fun nb5 nc6 => ?_))
  refine DO.last rfl rfl (LT.of_quiet rfl rfl (q_build (cs := (laCells l nb3 nc4 nb5 nc6)) plan29 inf29 (by kernel_rfl)) ?_)
  refine DO.last rfl rfl (l_store_box (v := (.agg (laCells l nb3 nc4 nb5 nc6).toArray)) (vs := (laCells l nb3 nc4 nb5 nc6)) 2 inf29 rfl rfl rfl rfl rfl rfl (by simp [putL]) ?_)
  refine DO.done ?_
  refine T.ret (Res.drop ?_)
  refine Res.cell1 (i := 2) Try.results16 Try.underlying29 rfl inf29 rfl rfl rfl ?_
  exact ⟨[rowI nb3 nc4 5 1 (byts l.pre), rowI nb5 nc6 5 1 (byts l.loop)], (Sub.pick [1, 0] rfl), _, _, _, _, rfl, rfl⟩
set_option maxHeartbeats 1000000 in
set_option maxRecDepth 20000 in
theorem equalBuchi (w : World) (b : Bu) (sb eb tb : Option Addr) (sc ec tc : Nat) (vs : List Value) (h : BuAt w b sb eb tb vs) (hB : BuB b) (b2 : Bu) (sb2 eb2 tb2 : Option Addr) (sc2 ec2 tc2 : Nat) (vs2 : List Value) (h2 : BuAt w b2 sb2 eb2 tb2 vs2) :
    PureT Try.prog 25 [.agg (buCells b sb sc eb ec tb tc).toArray, .agg (buCells b2 sb2 sc2 eb2 ec2 tb2 tc2).toArray] w fun v N => v = .bool (decide (b = b2)) ∧ N = [] := by
  refine CallT.enter Try.func25 rfl Try.ntmps25 rfl ?_
  refine T.seq (T.region ?_)
  refine TO.loud rfl (l_box (v := (.agg (buCells b sb sc eb ec tb tc).toArray)) (cs := (buCells b sb sc eb ec tb tc)) rfl rfl (fun bx1 => ?_))
  refine TO.loud rfl (l_box (v := (.agg (buCells b2 sb2 sc2 eb2 ec2 tb2 tc2).toArray)) (cs := (buCells b2 sb2 sc2 eb2 ec2 tb2 tc2)) rfl rfl (fun bx2 => ?_))
  refine TO.quiet (q_assign rfl) ?_
  refine TO.nil (T.seq (T.region ?_))
  refine TO.quiet (q_fieldAddr Try.underlying26 rfl inf3 rfl rfl) (TO.quiet (q_load_box 1 Try.underlying3 rfl rfl rfl rfl) (TO.quiet (q_fieldAddr Try.underlying26 rfl inf3 rfl rfl) (TO.quiet (q_load_box 0 Try.underlying3 rfl rfl rfl rfl) ?_)))
  refine TO.quiet (q_eql rfl rfl) ?_
  by_cases hs10 : b.vars = b2.vars
  · refine TO.quiet (QT.toB (q_move rfl) (decide_eq_true hs10)) ?_
    refine TO.guarded rfl rfl rfl (LT.of_quiet rfl rfl (q_fieldAddr Try.underlying26 rfl inf3 rfl rfl) ?_)
    refine TO.guarded rfl rfl rfl (LT.of_quiet rfl rfl (q_load_box 1 Try.underlying3 rfl rfl rfl rfl) ?_)
    refine TO.guarded rfl rfl rfl (LT.of_quiet rfl rfl (q_fieldAddr Try.underlying26 rfl inf3 rfl rfl) ?_)
    refine TO.guarded rfl rfl rfl (LT.of_quiet rfl rfl (q_load_box 0 Try.underlying3 rfl rfl rfl rfl) ?_)
    refine TO.guarded rfl rfl rfl (LT.of_quiet rfl rfl (q_eql rfl rfl) ?_)
    refine TO.quiet (q_pick1 rfl rfl) ?_
    by_cases hs17 : b.states = b2.states
    · refine TO.quiet (QT.toB (q_move rfl) (decide_eq_true hs17)) ?_
      refine TO.guarded rfl rfl rfl (LT.of_quiet rfl rfl (q_fieldAddr Try.underlying26 rfl inf22 rfl rfl) ?_)
      refine TO.guarded rfl rfl rfl (LT.of_quiet rfl rfl (q_load_box 1 Try.underlying22 rfl rfl rfl rfl) ?_)
      refine TO.guarded rfl rfl rfl (LT.of_quiet rfl rfl (q_fieldAddr Try.underlying26 rfl inf22 rfl rfl) ?_)
      refine TO.guarded rfl rfl rfl (LT.of_quiet rfl rfl (q_load_box 0 Try.underlying22 rfl rfl rfl rfl) ?_)
      by_cases e3 : b.start = b2.start
      · have hk22 := fun (w1 : World) (hI : Inv w [oI bx2 26 (buCells b2 sb2 sc2 eb2 ec2 tb2 tc2), oI bx1 26 (buCells b sb sc eb ec tb tc)] w1) => equalInts w1 sb sb2 sc sc2 b.start b2.start (hI.sl h.st) (hI.sl h2.st) (by have := hB.st; omega)
        refine TO.guarded rfl rfl rfl (l_call ent47 (CallT.of_pure hk22) rfl ?_)
        clear hk22
        rintro vr O' ⟨N, rfl, rfl, rfl⟩
        rw [decide_eq_true e3]
        refine TO.quiet (q_pick1 rfl rfl) (TO.quiet (q_move rfl) ?_)
        refine TO.guarded rfl rfl rfl (LT.of_quiet rfl rfl (q_fieldAddr Try.underlying26 rfl inf23 rfl rfl) ?_)
        refine TO.guarded rfl rfl rfl (LT.of_quiet rfl rfl (q_load_box 1 Try.underlying23 rfl rfl rfl rfl) ?_)
        refine TO.guarded rfl rfl rfl (LT.of_quiet rfl rfl (q_fieldAddr Try.underlying26 rfl inf23 rfl rfl) ?_)
        refine TO.guarded rfl rfl rfl (LT.of_quiet rfl rfl (q_load_box 0 Try.underlying23 rfl rfl rfl rfl) ?_)
        by_cases e4 : b.edges = b2.edges
        · have hk29 := fun (w1 : World) (hI : Inv w [oI bx2 26 (buCells b2 sb2 sc2 eb2 ec2 tb2 tc2), oI bx1 26 (buCells b sb sc eb ec tb tc)] w1) => equalEdges w1 eb eb2 ec ec2 b.edges b2.edges (hI.sl h.ed) (hI.sl h2.ed) hB.ed
          refine TO.guarded rfl rfl rfl (l_call ent66 (CallT.of_pure hk29) rfl ?_)
          clear hk29
          rintro vr O' ⟨N, rfl, rfl, rfl⟩
          rw [decide_eq_true e4]
          refine TO.quiet (q_pick1 rfl rfl) (TO.quiet (q_move rfl) ?_)
          refine TO.guarded rfl rfl rfl (LT.of_quiet rfl rfl (q_fieldAddr Try.underlying26 rfl inf24 rfl rfl) ?_)
          refine TO.guarded rfl rfl rfl (LT.of_quiet rfl rfl (q_load_box 1 Try.underlying24 rfl rfl rfl rfl) ?_)
          refine TO.guarded rfl rfl rfl (LT.of_quiet rfl rfl (q_fieldAddr Try.underlying26 rfl inf24 rfl rfl) ?_)
          refine TO.guarded rfl rfl rfl (LT.of_quiet rfl rfl (q_load_box 0 Try.underlying24 rfl rfl rfl rfl) ?_)
          by_cases e5 : b.sets = b2.sets
          · have hk36 := fun (w1 : World) (hI : Inv w [oI bx2 26 (buCells b2 sb2 sc2 eb2 ec2 tb2 tc2), oI bx1 26 (buCells b sb sc eb ec tb tc)] w1) => equalRows w1 tb tb2 tc tc2 vs vs2 b.sets b2.sets (hI.sl h.out) (hI.rows h.rows) (hI.sl h2.out) (hI.rows h2.rows) (by have := hB.se; omega) (fun r hr => by have := hB.sr r hr; omega)
            refine TO.guarded rfl rfl rfl (l_call ent67 (CallT.of_pure hk36) rfl ?_)
            clear hk36
            rintro vr O' ⟨N, rfl, rfl, rfl⟩
            rw [decide_eq_true e5]
            refine TO.quiet (q_pick1 rfl rfl) (TO.quiet (q_assign rfl) ?_)
            refine TO.nil (T.ret (Res.drop ?_))
            refine Res.one (.bool true) Try.results25 rfl ?_
            refine ⟨[], Sub.of (List.nil_sublist _), congrArg Value.bool (decide_eq_true ?_).symm, rfl⟩
            cases b; cases b2; simp only at hs10 hs17 e3 e4 e5; rw [hs10, hs17, e3, e4, e5]
          have hk36 := fun (w1 : World) (hI : Inv w [oI bx2 26 (buCells b2 sb2 sc2 eb2 ec2 tb2 tc2), oI bx1 26 (buCells b sb sc eb ec tb tc)] w1) => equalRows w1 tb tb2 tc tc2 vs vs2 b.sets b2.sets (hI.sl h.out) (hI.rows h.rows) (hI.sl h2.out) (hI.rows h2.rows) (by have := hB.se; omega) (fun r hr => by have := hB.sr r hr; omega)
          refine TO.guarded rfl rfl rfl (l_call ent67 (CallT.of_pure hk36) rfl ?_)
          clear hk36
          rintro vr O' ⟨N, rfl, rfl, rfl⟩
          rw [decide_eq_false e5]
          refine TO.quiet (q_pick1 rfl rfl) (TO.quiet (q_assign rfl) ?_)
          refine TO.nil (T.ret (Res.drop ?_))
          refine Res.one (.bool false) Try.results25 rfl ?_
          refine ⟨[], Sub.of (List.nil_sublist _), congrArg Value.bool (decide_eq_false (fun e => ?_)).symm, rfl⟩
          subst e; first | exact hs10 rfl | exact hs17 rfl | exact e3 rfl | exact e4 rfl | exact e5 rfl
        have hk29 := fun (w1 : World) (hI : Inv w [oI bx2 26 (buCells b2 sb2 sc2 eb2 ec2 tb2 tc2), oI bx1 26 (buCells b sb sc eb ec tb tc)] w1) => equalEdges w1 eb eb2 ec ec2 b.edges b2.edges (hI.sl h.ed) (hI.sl h2.ed) hB.ed
        refine TO.guarded rfl rfl rfl (l_call ent66 (CallT.of_pure hk29) rfl ?_)
        clear hk29
        rintro vr O' ⟨N, rfl, rfl, rfl⟩
        rw [decide_eq_false e4]
        refine TO.quiet (q_pick1 rfl rfl) (TO.quiet (q_move rfl) ?_)
        refine TO.passed rfl rfl ?_
        refine TO.passed rfl rfl ?_
        refine TO.passed rfl rfl ?_
        refine TO.passed rfl rfl ?_
        refine TO.passed rfl rfl ?_
        refine TO.quiet (q_pick0 rfl rfl) (TO.quiet (q_assign rfl) ?_)
        refine TO.nil (T.ret (Res.drop ?_))
        refine Res.one (.bool false) Try.results25 rfl ?_
        refine ⟨[], Sub.of (List.nil_sublist _), congrArg Value.bool (decide_eq_false (fun e => ?_)).symm, rfl⟩
        subst e; first | exact hs10 rfl | exact hs17 rfl | exact e3 rfl | exact e4 rfl | exact e5 rfl
      have hk22 := fun (w1 : World) (hI : Inv w [oI bx2 26 (buCells b2 sb2 sc2 eb2 ec2 tb2 tc2), oI bx1 26 (buCells b sb sc eb ec tb tc)] w1) => equalInts w1 sb sb2 sc sc2 b.start b2.start (hI.sl h.st) (hI.sl h2.st) (by have := hB.st; omega)
      refine TO.guarded rfl rfl rfl (l_call ent47 (CallT.of_pure hk22) rfl ?_)
      clear hk22
      rintro vr O' ⟨N, rfl, rfl, rfl⟩
      rw [decide_eq_false e3]
      refine TO.quiet (q_pick1 rfl rfl) (TO.quiet (q_move rfl) ?_)
      refine TO.passed rfl rfl ?_
      refine TO.passed rfl rfl ?_
      refine TO.passed rfl rfl ?_
      refine TO.passed rfl rfl ?_
      refine TO.passed rfl rfl ?_
      refine TO.quiet (q_pick0 rfl rfl) (TO.quiet (q_move rfl) ?_)
      refine TO.passed rfl rfl ?_
      refine TO.passed rfl rfl ?_
      refine TO.passed rfl rfl ?_
      refine TO.passed rfl rfl ?_
      refine TO.passed rfl rfl ?_
      refine TO.quiet (q_pick0 rfl rfl) (TO.quiet (q_assign rfl) ?_)
      refine TO.nil (T.ret (Res.drop ?_))
      refine Res.one (.bool false) Try.results25 rfl ?_
      refine ⟨[], Sub.of (List.nil_sublist _), congrArg Value.bool (decide_eq_false (fun e => ?_)).symm, rfl⟩
      subst e; first | exact hs10 rfl | exact hs17 rfl | exact e3 rfl | exact e4 rfl | exact e5 rfl
    refine TO.quiet (QT.toB (q_move rfl) (decide_eq_false hs17)) ?_
    refine TO.passed rfl rfl ?_
    refine TO.passed rfl rfl ?_
    refine TO.passed rfl rfl ?_
    refine TO.passed rfl rfl ?_
    refine TO.passed rfl rfl ?_
    refine TO.quiet (q_pick0 rfl rfl) (TO.quiet (q_move rfl) ?_)
    refine TO.passed rfl rfl ?_
    refine TO.passed rfl rfl ?_
    refine TO.passed rfl rfl ?_
    refine TO.passed rfl rfl ?_
    refine TO.passed rfl rfl ?_
    refine TO.quiet (q_pick0 rfl rfl) (TO.quiet (q_move rfl) ?_)
    refine TO.passed rfl rfl ?_
    refine TO.passed rfl rfl ?_
    refine TO.passed rfl rfl ?_
    refine TO.passed rfl rfl ?_
    refine TO.passed rfl rfl ?_
    refine TO.quiet (q_pick0 rfl rfl) (TO.quiet (q_assign rfl) ?_)
    refine TO.nil (T.ret (Res.drop ?_))
    refine Res.one (.bool false) Try.results25 rfl ?_
    refine ⟨[], Sub.of (List.nil_sublist _), congrArg Value.bool (decide_eq_false (fun e => ?_)).symm, rfl⟩
    subst e; first | exact hs10 rfl | exact hs17 rfl | exact e3 rfl | exact e4 rfl | exact e5 rfl
  refine TO.quiet (QT.toB (q_move rfl) (decide_eq_false hs10)) ?_
  refine TO.passed rfl rfl ?_
  refine TO.passed rfl rfl ?_
  refine TO.passed rfl rfl ?_
  refine TO.passed rfl rfl ?_
  refine TO.passed rfl rfl ?_
  refine TO.quiet (q_pick0 rfl rfl) (TO.quiet (q_move rfl) ?_)
  refine TO.passed rfl rfl ?_
  refine TO.passed rfl rfl ?_
  refine TO.passed rfl rfl ?_
  refine TO.passed rfl rfl ?_
  refine TO.passed rfl rfl ?_
  refine TO.quiet (q_pick0 rfl rfl) (TO.quiet (q_move rfl) ?_)
  refine TO.passed rfl rfl ?_
  refine TO.passed rfl rfl ?_
  refine TO.passed rfl rfl ?_
  refine TO.passed rfl rfl ?_
  refine TO.passed rfl rfl ?_
  refine TO.quiet (q_pick0 rfl rfl) (TO.quiet (q_move rfl) ?_)
  refine TO.passed rfl rfl ?_
  refine TO.passed rfl rfl ?_
  refine TO.passed rfl rfl ?_
  refine TO.passed rfl rfl ?_
  refine TO.passed rfl rfl ?_
  refine TO.quiet (q_pick0 rfl rfl) (TO.quiet (q_assign rfl) ?_)
  refine TO.nil (T.ret (Res.drop ?_))
  refine Res.one (.bool false) Try.results25 rfl ?_
  refine ⟨[], Sub.of (List.nil_sublist _), congrArg Value.bool (decide_eq_false (fun e => ?_)).symm, rfl⟩
  subst e; first | exact hs10 rfl | exact hs17 rfl | exact e3 rfl | exact e4 rfl | exact e5 rfl
set_option maxHeartbeats 1000000 in
set_option maxRecDepth 20000 in
theorem isF (w : World) (l : La) (pb lb : Option Addr) (pc lc : Nat) (h : LaAt w l pb lb pc lc) (hb1 : l.pre.length ≤ 1000000) (hb2 : l.loop.length ≤ 1000000) (l2 : La) (pb2 lb2 : Option Addr) (pc2 lc2 : Nat) (h2 : LaAt w l2 pb2 lb2 pc2 lc2) :
    PureT Try.prog 26 [.agg (laCells l pb pc lb lc).toArray, .agg (laCells l2 pb2 pc2 lb2 lc2).toArray] w fun v N => v = .bool (decide (l = l2)) ∧ N = [] := by
  refine CallT.enter Try.func26 rfl Try.ntmps26 rfl ?_
  refine T.seq (T.region ?_)
  refine TO.loud rfl (l_box (v := (.agg (laCells l pb pc lb lc).toArray)) (cs := (laCells l pb pc lb lc)) rfl rfl (fun bx1 => ?_))
  refine TO.loud rfl (l_box (v := (.agg (laCells l2 pb2 pc2 lb2 lc2).toArray)) (cs := (laCells l2 pb2 pc2 lb2 lc2)) rfl rfl (fun bx2 => ?_))
  refine TO.quiet (q_assign rfl) ?_
  refine TO.nil (T.seq (T.region ?_))
  refine TO.quiet (q_fieldAddr Try.underlying29 rfl inf27 rfl rfl) (TO.quiet (q_load_box 1 Try.underlying27 rfl rfl rfl rfl) (TO.quiet (q_fieldAddr Try.underlying29 rfl inf27 rfl rfl) (TO.quiet (q_load_box 0 Try.underlying27 rfl rfl rfl rfl) ?_)))
  by_cases e1 : l.pre = l2.pre
  · have hk9 := fun (w1 : World) (hI : Inv w [oI bx2 29 (laCells l2 pb2 pc2 lb2 lc2), oI bx1 29 (laCells l pb pc lb lc)] w1) => letters w1 pb pb2 pc pc2 l.pre l2.pre (hI.sl h.pre) (hI.sl h2.pre) (by omega)
    refine TO.loud rfl (l_call ent68 (CallT.of_pure hk9) rfl ?_)
    clear hk9
    rintro vr O' ⟨N, rfl, rfl, rfl⟩
    rw [decide_eq_true e1]
    refine TO.quiet (q_move rfl) ?_
    refine TO.guarded rfl rfl rfl (LT.of_quiet rfl rfl (q_fieldAddr Try.underlying29 rfl inf27 rfl rfl) ?_)
    refine TO.guarded rfl rfl rfl (LT.of_quiet rfl rfl (q_load_box 1 Try.underlying27 rfl rfl rfl rfl) ?_)
    refine TO.guarded rfl rfl rfl (LT.of_quiet rfl rfl (q_fieldAddr Try.underlying29 rfl inf27 rfl rfl) ?_)
    refine TO.guarded rfl rfl rfl (LT.of_quiet rfl rfl (q_load_box 0 Try.underlying27 rfl rfl rfl rfl) ?_)
    by_cases e2 : l.loop = l2.loop
    · have hk15 := fun (w1 : World) (hI : Inv w [oI bx2 29 (laCells l2 pb2 pc2 lb2 lc2), oI bx1 29 (laCells l pb pc lb lc)] w1) => letters w1 lb lb2 lc lc2 l.loop l2.loop (hI.sl h.loop) (hI.sl h2.loop) (by omega)
      refine TO.guarded rfl rfl rfl (l_call ent68 (CallT.of_pure hk15) rfl ?_)
      clear hk15
      rintro vr O' ⟨N, rfl, rfl, rfl⟩
      rw [decide_eq_true e2]
      refine TO.quiet (q_pick1 rfl rfl) (TO.quiet (q_assign rfl) ?_)
      refine TO.nil (T.ret (Res.drop ?_))
      refine Res.one (.bool true) Try.results26 rfl ?_
      refine ⟨[], Sub.of (List.nil_sublist _), congrArg Value.bool (decide_eq_true ?_).symm, rfl⟩
      cases l; cases l2; simp only at e1 e2; rw [e1, e2]
    have hk15 := fun (w1 : World) (hI : Inv w [oI bx2 29 (laCells l2 pb2 pc2 lb2 lc2), oI bx1 29 (laCells l pb pc lb lc)] w1) => letters w1 lb lb2 lc lc2 l.loop l2.loop (hI.sl h.loop) (hI.sl h2.loop) (by omega)
    refine TO.guarded rfl rfl rfl (l_call ent68 (CallT.of_pure hk15) rfl ?_)
    clear hk15
    rintro vr O' ⟨N, rfl, rfl, rfl⟩
    rw [decide_eq_false e2]
    refine TO.quiet (q_pick1 rfl rfl) (TO.quiet (q_assign rfl) ?_)
    refine TO.nil (T.ret (Res.drop ?_))
    refine Res.one (.bool false) Try.results26 rfl ?_
    refine ⟨[], Sub.of (List.nil_sublist _), congrArg Value.bool (decide_eq_false (fun e => ?_)).symm, rfl⟩
    subst e; first | exact e1 rfl | exact e2 rfl
  have hk9 := fun (w1 : World) (hI : Inv w [oI bx2 29 (laCells l2 pb2 pc2 lb2 lc2), oI bx1 29 (laCells l pb pc lb lc)] w1) => letters w1 pb pb2 pc pc2 l.pre l2.pre (hI.sl h.pre) (hI.sl h2.pre) (by omega)
  refine TO.loud rfl (l_call ent68 (CallT.of_pure hk9) rfl ?_)
  clear hk9
  rintro vr O' ⟨N, rfl, rfl, rfl⟩
  rw [decide_eq_false e1]
  refine TO.quiet (q_move rfl) ?_
  refine TO.passed rfl rfl ?_
  refine TO.passed rfl rfl ?_
  refine TO.passed rfl rfl ?_
  refine TO.passed rfl rfl ?_
  refine TO.passed rfl rfl ?_
  refine TO.quiet (q_pick0 rfl rfl) (TO.quiet (q_assign rfl) ?_)
  refine TO.nil (T.ret (Res.drop ?_))
  refine Res.one (.bool false) Try.results26 rfl ?_
  refine ⟨[], Sub.of (List.nil_sublist _), congrArg Value.bool (decide_eq_false (fun e => ?_)).symm, rfl⟩
  subst e; first | exact e1 rfl | exact e2 rfl
set_option maxHeartbeats 1000000 in
set_option maxRecDepth 20000 in
theorem statesF (w : World) (b : Option Addr) (c : Nat) (xs : List Int) (n : Int) (h : Sl w b (ints xs)) (hb : xs.length ≤ 1000000) :
    PureT Try.prog 64 [.slice b xs.length c, .int .i64 n] w fun v N => v = .bool (rises n (-1) xs) ∧ N = [] := by
  refine CallT.enter Try.func64 rfl Try.ntmps64 rfl ?_
  refine T.seq (T.region ?_)
  refine TO.quiet (q_assign rfl) ?_
  refine TO.nil (T.seq (T.region ?_))
  refine TO.quiet (q_assign rfl) ?_
  refine TO.nil (T.seq (T.seq (T.region ?_)))
  refine TO.quiet (q_move rfl) (TO.quiet (q_len Try.underlying22 rfl) (TO.quiet (q_move rfl) ?_))
  refine TO.nil (T.block ?_)
  refine T.loop (fun (k : Nat) ρ O => ∃ (a : Int), O = [] ∧ k ≤ xs.length ∧ rises n a (xs.drop k) = rises n (-1) xs ∧ Heads [(0, (.slice b xs.length c)), (1, .int .i64 n), (5, .int .i64 a), (8, (.slice b xs.length c)), (9, .int .i64 (xs.length : Int)), (10, .int .i64 (k : Int))] ρ) (fun k => xs.length - k) 0 ?_ ?_
  · exact ⟨-1, rfl, Nat.zero_le _, rfl, ⟨rfl, rfl, rfl, rfl, rfl, rfl, trivial⟩⟩
  rintro k ρ O ⟨a, rfl, hk, hr, hH⟩
  obtain ⟨ρ0, rfl⟩ := hH.elim
  clear hH
  refine T.seq (T.region ?_)
  refine TO.quiet (q_lss rfl rfl) ?_
  refine TO.nil (T.seq ?_)
  refine T.condP rfl (fun hc => ?_) (fun hc => ?_)
  · have hlt11 : k < xs.length := by omega
    refine T.skip (T.seq (T.block (T.seq (T.region ?_))))
    refine TO.quiet (q_ix (i := k) Try.underlying22 inf3 rfl rfl (Sl.o h)) (TO.quiet (q_ld Try.underlying3 rfl rfl (Sl.o h) ints_get) (TO.quiet (q_assign rfl) ?_))
    refine TO.nil (T.seq (T.seq (T.region ?_)))
    refine TO.quiet (q_move rfl) (TO.quiet (q_move rfl) (TO.quiet (q_leq rfl rfl) ?_))
    by_cases hs17 : xs[k] ≤ a
    · refine TO.quiet (QT.toB (q_move rfl) (decide_eq_true hs17)) ?_
      refine TO.passed rfl rfl ?_
      refine TO.passed rfl rfl ?_
      refine TO.passed rfl rfl ?_
      refine TO.quiet (q_pick1 rfl rfl) ?_
      refine TO.nil ?_
      refine T.cond1 rfl ?_
      refine T.seq (T.region ?_)
      refine TO.quiet (q_assign rfl) ?_
      refine TO.nil (T.ret ?_)
      refine Res.one (.bool false) Try.results64 rfl ?_
      exact ⟨congrArg Value.bool (by rw [← hr, rises_no hlt11 (by omega)]), rfl⟩
    refine TO.quiet (QT.toB (q_move rfl) (decide_eq_false hs17)) ?_
    refine TO.guarded rfl rfl rfl (LT.of_quiet rfl rfl (q_move rfl) ?_)
    refine TO.guarded rfl rfl rfl (LT.of_quiet rfl rfl (q_move rfl) ?_)
    refine TO.guarded rfl rfl rfl (LT.of_quiet rfl rfl (q_geq rfl rfl) ?_)
    refine TO.quiet (q_pick0 rfl rfl) ?_
    refine TO.nil ?_
    refine T.condP rfl (fun hc => ?_) (fun hc => ?_)
    · refine T.seq ?_
      refine T.region ?_
      refine TO.quiet (q_assign rfl) ?_
      refine TO.nil (T.ret ?_)
      refine Res.one (.bool false) Try.results64 rfl ?_
      exact ⟨congrArg Value.bool (by rw [← hr, rises_no hlt11 (by omega)]), rfl⟩
    refine T.skip (T.region ?_)
    refine TO.quiet (q_move rfl) (TO.quiet (q_assign rfl) ?_)
    refine TO.nil (T.region ?_)
    refine TO.quiet (q_addN (a := k) (b := 1) rfl rfl (by omega)) (TO.quiet (q_move rfl) ?_)
    refine TO.nil ?_
    exact ⟨k + 1, by omega, xs[k], rfl, by omega, by rw [← hr, rises_yes hlt11 (by omega) (by omega)], ⟨rfl, rfl, rfl, rfl, rfl, rfl, trivial⟩⟩
  have hge11 : ¬ k < xs.length := by omega
  refine T.exit ?_
  refine T.seq (T.region ?_)
  refine TO.quiet (q_assign rfl) ?_
  refine TO.nil (T.ret ?_)
  refine Res.one (.bool true) Try.results64 rfl ?_
  exact ⟨congrArg Value.bool (by rw [← hr, rises_end (by omega)]), rfl⟩
set_option maxHeartbeats 1000000 in
set_option maxRecDepth 20000 in
theorem risesF (w : World) (b : Option Addr) (c : Nat) (xs : List Int) (n : Int) (h : Sl w b (ints xs)) (hb : xs.length ≤ 1000000) :
    PureT Try.prog 65 [.slice b xs.length c, .int .i64 n] w fun v N => v = .bool (rises n (-1) xs) ∧ N = [] := by
  refine CallT.enter Try.func65 rfl Try.ntmps65 rfl ?_
  refine T.seq (T.region ?_)
  refine TO.quiet (q_assign rfl) ?_
  refine TO.nil (T.seq (T.seq (T.region ?_)))
  refine TO.quiet (q_assign rfl) ?_
  refine TO.nil (T.block ?_)
  refine T.loop (fun (k : Nat) ρ O => ∃ (a : Int), O = [] ∧ k ≤ xs.length ∧ rises n a (xs.drop k) = rises n (-1) xs ∧ (k = 0 → a = -1) ∧ (0 < k → 0 ≤ a ∧ xs[k - 1]? = some a) ∧ Heads [(0, (.slice b xs.length c)), (1, .int .i64 n), (5, .int .i64 (k : Int))] ρ) (fun k => xs.length - k) 0 ?_ ?_
  · exact ⟨-1, rfl, Nat.zero_le _, rfl, fun _ => rfl, fun h => absurd h (by omega), ⟨rfl, rfl, rfl, trivial⟩⟩
  rintro k ρ O ⟨a, rfl, hk, hr, h0, h1, hH⟩
  obtain ⟨ρ0, rfl⟩ := hH.elim
  clear hH
  refine T.seq (T.seq (T.region ?_))
  refine TO.quiet (q_move rfl) (TO.quiet (q_move rfl) (TO.quiet (q_len Try.underlying22 rfl) (TO.quiet (q_lss rfl rfl) ?_)))
  refine TO.nil ?_
  refine T.condP rfl (fun hc => ?_) (fun hc => ?_)
  · have hlt9 : k < xs.length := by omega
    refine T.skip (T.seq (T.block (T.seq ?_)))
    refine T.draws _ [(0, 0), (1, 0), (2, 0), (3, 0), (4, 0), (5, 0), (6, 0), (7, 0), (8, 0), (9, 0), (10, 0), (11, 0), (12, 0), (13, 0), (14, 0), (15, 0), (16, 0), (17, 0), (18, 0), (19, 0), (20, 0), (21, 0), (22, 0), (23, 0), (24, 0), (25, 0), (26, 0), (27, 0), (28, 0)] mixed (by kernel_rfl) (Sub.of (List.Sublist.refl _)) (fun _ _ _ h => h) ?_
    refine DO.quiet rfl (q_move rfl) (DO.quiet rfl (q_move rfl) (DO.quiet rfl (q_ix (i := k) Try.underlying22 inf3 rfl rfl (Sl.o h)) (DO.quiet rfl (q_ld Try.underlying3 rfl rfl (Sl.o h) ints_get) ?_)))
    refine DO.quiet rfl (q_lss rfl rfl) ?_
    by_cases hs17 : xs[k] < 0
    · refine DO.quiet rfl (QT.toB (q_move rfl) (decide_eq_true hs17)) ?_
      refine DO.passed rfl rfl rfl ?_
      refine DO.passed rfl rfl rfl ?_
      refine DO.passed rfl rfl rfl ?_
      refine DO.passed rfl rfl rfl ?_
      refine DO.passed rfl rfl rfl ?_
      refine DO.passed rfl rfl rfl ?_
      refine DO.quiet rfl (q_pick1 rfl rfl) (DO.quiet rfl (q_move rfl) ?_)
      refine DO.passed rfl rfl rfl ?_
      refine DO.passed rfl rfl rfl ?_
      refine DO.passed rfl rfl rfl ?_
      refine DO.passed rfl rfl rfl ?_
      refine DO.passed rfl rfl rfl ?_
      refine DO.passed rfl rfl rfl ?_
      refine DO.passed rfl rfl rfl ?_
      refine DO.passed rfl rfl rfl ?_
      refine DO.passed rfl rfl rfl ?_
      refine DO.passed rfl rfl rfl ?_
      refine DO.passed rfl rfl rfl ?_
      refine DO.passed rfl rfl rfl ?_
      refine DO.passed rfl rfl rfl ?_
      refine DO.passed rfl rfl rfl ?_
      refine DO.quiet rfl (q_pick1 rfl rfl) ?_
      refine DO.done ?_
      refine T.cond1 rfl ?_
      refine T.seq (T.region ?_)
      refine TO.quiet (q_assign rfl) ?_
      refine TO.nil (T.ret ?_)
      refine Res.one (.bool false) Try.results65 rfl ?_
      have hno : xs[k] ≤ a ∨ n ≤ xs[k] := by
        by_cases e : k = 0
        · have := h0 e; omega
        · have h2 := (h1 (by omega)).2
          rw [List.getElem?_eq_getElem (by omega)] at h2
          have h3 := Option.some.inj h2
          have := (h1 (by omega)).1; omega
      exact ⟨congrArg Value.bool (by rw [← hr, rises_no hlt9 hno]), rfl⟩
    refine DO.quiet rfl (QT.toB (q_move rfl) (decide_eq_false hs17)) ?_
    refine DO.guarded rfl rfl rfl (q_move rfl) ?_
    refine DO.guarded rfl rfl rfl (q_move rfl) ?_
    refine DO.guarded rfl rfl rfl (q_ix (i := k) Try.underlying22 inf3 rfl rfl (Sl.o h)) ?_
    refine DO.guarded rfl rfl rfl (q_ld Try.underlying3 rfl rfl (Sl.o h) ints_get) ?_
    refine DO.guarded rfl rfl rfl (q_move rfl) ?_
    refine DO.guarded rfl rfl rfl (q_geq rfl rfl) ?_
    refine DO.quiet rfl (q_pick0 rfl rfl) ?_
    by_cases hs25 : xs[k] ≥ n
    · refine DO.quiet rfl (QT.toB (q_move rfl) (decide_eq_true hs25)) ?_
      refine DO.passed rfl rfl rfl ?_
      refine DO.passed rfl rfl rfl ?_
      refine DO.passed rfl rfl rfl ?_
      refine DO.passed rfl rfl rfl ?_
      refine DO.passed rfl rfl rfl ?_
      refine DO.passed rfl rfl rfl ?_
      refine DO.passed rfl rfl rfl ?_
      refine DO.passed rfl rfl rfl ?_
      refine DO.passed rfl rfl rfl ?_
      refine DO.passed rfl rfl rfl ?_
      refine DO.passed rfl rfl rfl ?_
      refine DO.passed rfl rfl rfl ?_
      refine DO.passed rfl rfl rfl ?_
      refine DO.passed rfl rfl rfl ?_
      refine DO.quiet rfl (q_pick1 rfl rfl) ?_
      refine DO.done ?_
      refine T.cond1 rfl ?_
      refine T.seq (T.region ?_)
      refine TO.quiet (q_assign rfl) ?_
      refine TO.nil (T.ret ?_)
      refine Res.one (.bool false) Try.results65 rfl ?_
      have hno : xs[k] ≤ a ∨ n ≤ xs[k] := by
        by_cases e : k = 0
        · have := h0 e; omega
        · have h2 := (h1 (by omega)).2
          rw [List.getElem?_eq_getElem (by omega)] at h2
          have h3 := Option.some.inj h2
          have := (h1 (by omega)).1; omega
      exact ⟨congrArg Value.bool (by rw [← hr, rises_no hlt9 hno]), rfl⟩
    refine DO.quiet rfl (QT.toB (q_move rfl) (decide_eq_false hs25)) ?_
    refine DO.guarded rfl rfl rfl (q_move rfl) ?_
    refine DO.guarded rfl rfl rfl (q_gtr rfl rfl) ?_
    by_cases hs28 : (k : Int) > 0
    · refine DO.guarded rfl rfl rfl (QT.toB (q_move rfl) (decide_eq_true hs28)) ?_
      refine DO.guarded rfl rfl rfl (q_move rfl) ?_
      refine DO.guarded rfl rfl rfl (q_move rfl) ?_
      refine DO.guarded rfl rfl rfl (q_ix (i := k) Try.underlying22 inf3 rfl rfl (Sl.o h)) ?_
      refine DO.guarded rfl rfl rfl (q_ld Try.underlying3 rfl rfl (Sl.o h) ints_get) ?_
      refine DO.guarded rfl rfl rfl (q_move rfl) ?_
      refine DO.guarded rfl rfl rfl (q_move rfl) ?_
      refine DO.guarded rfl rfl rfl (q_subN (a := k) (b := 1) rfl rfl (by omega) (by omega)) ?_
      refine DO.guarded rfl rfl rfl (q_ix (i := (k - 1)) Try.underlying22 inf3 rfl rfl (Sl.o h)) ?_
      refine DO.guarded rfl rfl rfl (q_ld Try.underlying3 rfl rfl (Sl.o h) ints_get) ?_
      refine DO.guarded rfl rfl rfl (q_leq rfl rfl) ?_
      refine DO.guarded rfl rfl rfl (q_pick1 rfl rfl) ?_
      refine DO.quiet rfl (q_pick0 rfl rfl) ?_
      refine DO.done ?_
      refine T.condP rfl (fun hc => ?_) (fun hc => ?_)
      · refine T.seq ?_
        refine T.region ?_
        refine TO.quiet (q_assign rfl) ?_
        refine TO.nil (T.ret ?_)
        refine Res.one (.bool false) Try.results65 rfl ?_
        have hno : xs[k] ≤ a ∨ n ≤ xs[k] := by
          by_cases e : k = 0
          · have := h0 e; omega
          · have h2 := (h1 (by omega)).2
            rw [List.getElem?_eq_getElem (by omega)] at h2
            have h3 := Option.some.inj h2
            have := (h1 (by omega)).1; omega
        exact ⟨congrArg Value.bool (by rw [← hr, rises_no hlt9 hno]), rfl⟩
      refine T.skip (T.region ?_)
      refine TO.quiet (q_move rfl) (TO.quiet (q_addN (a := k) (b := 1) rfl rfl (by omega)) (TO.quiet (q_assign rfl) ?_))
      refine TO.nil ?_
      have hxk : xs[k] < n := by omega
      have hak : a < xs[k] := by
        by_cases e : k = 0
        · have := h0 e; omega
        · have h2 := (h1 (by omega)).2
          rw [List.getElem?_eq_getElem (by omega)] at h2
          have h3 := Option.some.inj h2; omega
      exact ⟨k + 1, by omega, xs[k], rfl, by omega, by rw [← hr, rises_yes hlt9 hak hxk], fun h => absurd h (by omega), fun _ => ⟨by omega, by rw [Nat.add_sub_cancel, List.getElem?_eq_getElem hlt9]⟩, ⟨rfl, rfl, rfl, trivial⟩⟩
    refine DO.guarded rfl rfl rfl (QT.toB (q_move rfl) (decide_eq_false hs28)) ?_
    refine DO.passed rfl rfl rfl ?_
    refine DO.passed rfl rfl rfl ?_
    refine DO.passed rfl rfl rfl ?_
    refine DO.passed rfl rfl rfl ?_
    refine DO.passed rfl rfl rfl ?_
    refine DO.passed rfl rfl rfl ?_
    refine DO.passed rfl rfl rfl ?_
    refine DO.passed rfl rfl rfl ?_
    refine DO.passed rfl rfl rfl ?_
    refine DO.passed rfl rfl rfl ?_
    refine DO.guarded rfl rfl rfl (q_pick0 rfl rfl) ?_
    refine DO.quiet rfl (q_pick0 rfl rfl) ?_
    refine DO.done ?_
    refine T.cond0 rfl ?_
    refine T.skip (T.region ?_)
    refine TO.quiet (q_move rfl) (TO.quiet (q_addN (a := k) (b := 1) rfl rfl (by omega)) (TO.quiet (q_assign rfl) ?_))
    refine TO.nil ?_
    have hxk : xs[k] < n := by omega
    have hak : a < xs[k] := by
      by_cases e : k = 0
      · have := h0 e; omega
      · have h2 := (h1 (by omega)).2
        rw [List.getElem?_eq_getElem (by omega)] at h2
        have h3 := Option.some.inj h2; omega
    exact ⟨k + 1, by omega, xs[k], rfl, by omega, by rw [← hr, rises_yes hlt9 hak hxk], fun h => absurd h (by omega), fun _ => ⟨by omega, by rw [Nat.add_sub_cancel, List.getElem?_eq_getElem hlt9]⟩, ⟨rfl, rfl, rfl, trivial⟩⟩
  have hge9 : ¬ k < xs.length := by omega
  refine T.exit ?_
  refine T.seq (T.region ?_)
  refine TO.quiet (q_assign rfl) ?_
  refine TO.nil (T.ret ?_)
  refine Res.one (.bool true) Try.results65 rfl ?_
  exact ⟨congrArg Value.bool (by rw [← hr, rises_end (by omega)]), rfl⟩
end Go.Proofs.Ytnamoapbienooaa

namespace Go.Proofs.Ytnamoapbienooaa
open Go.Lx Go.RowKit
set_option linter.unusedVariables false
set_option linter.unusedSimpArgs false
set_option maxHeartbeats 1000000 in
set_option maxRecDepth 20000 in
theorem checkF (w : World) (b : Bu) (sb eb tb : Option Addr) (sc ec tc : Nat) (vs : List Value) (h : BuAt w b sb eb tb vs) (hB : BuB b) :
    PureT Try.prog 21 [.agg (buCells b sb sc eb ec tb tc).toArray] w fun v N => v = .int .i64 (checkB b : Int) ∧ N = [] := by
  refine CallT.enter Try.func21 rfl Try.ntmps21 rfl ?_
  have hst := hB.st; have hed := hB.ed; have hse := hB.se
  have hR : RowsR w (.slice sb b.start.length sc :: vs) (b.start :: b.sets) := h.rows.cons h.st
  have hvl := h.rows.1
  refine T.seq (T.region ?_)
  refine TO.loud rfl (l_box (v := (.agg (buCells b sb sc eb ec tb tc).toArray)) (cs := (buCells b sb sc eb ec tb tc)) rfl rfl (fun bx1 => ?_))
  refine TO.quiet (q_assign rfl) ?_
  refine TO.nil (T.seq (T.block (T.seq (T.region ?_))))
  refine TO.quiet (q_fieldAddr Try.underlying26 rfl inf3 rfl rfl) (TO.quiet (q_load_box 0 Try.underlying3 rfl rfl rfl rfl) (TO.quiet (q_lss rfl rfl) ?_))
  by_cases hs11 : b.vars < 0
  · refine TO.quiet (QT.toB (q_move rfl) (decide_eq_true hs11)) ?_
    refine TO.passed rfl rfl ?_
    refine TO.passed rfl rfl ?_
    refine TO.passed rfl rfl ?_
    refine TO.quiet (q_pick1 rfl rfl) (TO.quiet (q_assign rfl) ?_)
    refine TO.nil ?_
    refine T.cond1 rfl ?_
    refine T.seq (T.region ?_)
    refine TO.quiet (q_assign rfl) ?_
    refine TO.nil (T.ret (Res.drop ?_))
    refine Res.one (.int .i64 7) Try.results21 rfl ?_
    refine ⟨[], Sub.of (List.nil_sublist _), congrArg (fun z : Nat => Value.int .i64 (z : Int)) (Eq.symm (a := checkB b) (b := 7) ?_), rfl⟩
    exact checkB_7 (by omega)
  refine TO.quiet (QT.toB (q_move rfl) (decide_eq_false hs11)) ?_
  refine TO.guarded rfl rfl rfl (LT.of_quiet rfl rfl (q_fieldAddr Try.underlying26 rfl inf3 rfl rfl) ?_)
  refine TO.guarded rfl rfl rfl (LT.of_quiet rfl rfl (q_load_box 0 Try.underlying3 rfl rfl rfl rfl) ?_)
  refine TO.guarded rfl rfl rfl (LT.of_quiet rfl rfl (q_gtr rfl rfl) ?_)
  refine TO.quiet (q_pick0 rfl rfl) (TO.quiet (q_assign rfl) ?_)
  refine TO.nil ?_
  refine T.condP rfl (fun hc => ?_) (fun hc => ?_)
  · refine T.seq ?_
    refine T.region ?_
    refine TO.quiet (q_assign rfl) ?_
    refine TO.nil (T.ret (Res.drop ?_))
    refine Res.one (.int .i64 7) Try.results21 rfl ?_
    refine ⟨[], Sub.of (List.nil_sublist _), congrArg (fun z : Nat => Value.int .i64 (z : Int)) (Eq.symm (a := checkB b) (b := 7) ?_), rfl⟩
    exact checkB_7 (by omega)
  refine T.seq (T.region ?_)
  refine TO.quiet (q_fieldAddr Try.underlying26 rfl inf3 rfl rfl) (TO.quiet (q_load_box 0 Try.underlying3 rfl rfl rfl rfl) (TO.quiet (q_lss rfl rfl) (TO.quiet (q_assign rfl) ?_)))
  refine TO.nil ?_
  refine T.condP rfl (fun hc => ?_) (fun hc => ?_)
  · refine T.seq ?_
    refine T.region ?_
    refine TO.quiet (q_assign rfl) ?_
    refine TO.nil (T.ret (Res.drop ?_))
    refine Res.one (.int .i64 1) Try.results21 rfl ?_
    refine ⟨[], Sub.of (List.nil_sublist _), congrArg (fun z : Nat => Value.int .i64 (z : Int)) (Eq.symm (a := checkB b) (b := 1) ?_), rfl⟩
    exact checkB_1 (by omega) (by omega)
  refine T.seq (T.region ?_)
  refine TO.quiet (q_fieldAddr Try.underlying26 rfl inf3 rfl rfl) (TO.quiet (q_load_box 0 Try.underlying3 rfl rfl rfl rfl) (TO.quiet (q_gtr rfl rfl) (TO.quiet (q_assign rfl) ?_)))
  refine TO.nil ?_
  refine T.condP rfl (fun hc => ?_) (fun hc => ?_)
  · refine T.seq ?_
    refine T.region ?_
    refine TO.quiet (q_assign rfl) ?_
    refine TO.nil (T.ret (Res.drop ?_))
    refine Res.one (.int .i64 10) Try.results21 rfl ?_
    refine ⟨[], Sub.of (List.nil_sublist _), congrArg (fun z : Nat => Value.int .i64 (z : Int)) (Eq.symm (a := checkB b) (b := 10) ?_), rfl⟩
    exact checkB_10 (by omega) (by omega) (by omega)
  refine T.seq (T.region ?_)
  refine TO.quiet (q_fieldAddr Try.underlying26 rfl inf24 rfl rfl) (TO.quiet (q_load_box 0 Try.underlying24 rfl rfl rfl rfl) (TO.quiet (q_len Try.underlying24 rfl) (TO.quiet (q_gtr rfl rfl) ?_)))
  refine TO.quiet (q_assign rfl) ?_
  refine TO.nil ?_
  refine T.condP rfl (fun hc => ?_) (fun hc => ?_)
  · have hlt24 : b.sets.length > 8 := by omega
    refine T.seq (T.region ?_)
    refine TO.quiet (q_assign rfl) ?_
    refine TO.nil (T.ret (Res.drop ?_))
    refine Res.one (.int .i64 4) Try.results21 rfl ?_
    refine ⟨[], Sub.of (List.nil_sublist _), congrArg (fun z : Nat => Value.int .i64 (z : Int)) (Eq.symm (a := checkB b) (b := 4) ?_), rfl⟩
    exact checkB_4 (by omega) (by omega) (by omega) (by omega)
  have hge24 : ¬ b.sets.length > 8 := by omega
  refine T.skip (T.seq (T.seq (T.region ?_)))
  refine TO.quiet (q_fieldAddr Try.underlying26 rfl inf22 rfl rfl) (TO.quiet (q_load_box 0 Try.underlying22 rfl rfl rfl rfl) ?_)
  refine TO.loud rfl (l_build1 (v := (.slice sb b.start.length sc)) Try.underlying24 inf22 rfl rfl rfl (fun bx2 => ?_))
  refine TO.quiet (q_fieldAddr Try.underlying26 rfl inf24 rfl rfl) (TO.quiet (q_load_box 1 Try.underlying24 rfl rfl rfl rfl) ?_)
  refine TO.loud rfl (l_append 0 Try.underlying24 Try.underlying24 inf22 rfl rfl rfl rfl (by simp) (by decide) (Src.sl h.out (by rw [hvl]; simp)) (RowsR.one h.rows) (by omega) (by decide) (by decide) (fun bx3 c4 => ?_))
  refine TO.quiet (q_len Try.underlying24 rfl) (TO.quiet (q_move rfl) ?_)
  refine TO.nil (T.block ?_)
  have hR1 : ∀ r ∈ b.start :: b.sets, r.length ≤ 1000000 := fun r hr => by
    rcases List.mem_cons.1 hr with rfl | hr
    · exact hst
    · exact hB.sr r hr
  refine T.loop (fun (k : Nat) ρ O => O = [rowI bx3 c4 22 1 ([(.slice sb b.start.length sc)] ++ vs), oI bx1 26 (buCells b sb sc eb ec tb tc)] ∧ k ≤ 1 + b.sets.length ∧ ((b.start :: b.sets).take k).all (rises b.states (-1)) = true ∧ Heads [(0, (.agg (buCells b sb sc eb ec tb tc).toArray)), (1, (.pointer (some ⟨bx1, 0, none⟩))), (7, .bool (decide (b.vars > 6))), (16, .bool (decide (b.states < 0))), (20, .bool (decide (b.states > 4096))), (24, .bool (decide ((b.sets.length : Int) > 8))), (34, (.slice bx3 (1 + b.sets.length) c4)), (35, .int .i64 (1 + b.sets.length : Int)), (36, .int .i64 (k : Int))] ρ) (fun k => (1 + b.sets.length) - k) 0 ?_ ?_
  · exact ⟨rfl, Nat.zero_le _, rfl, ⟨rfl, rfl, rfl, rfl, rfl, rfl, rfl, rfl, rfl, trivial⟩⟩
  rintro k ρ O ⟨rfl, hk, hall, hH⟩
  obtain ⟨ρ0, rfl⟩ := hH.elim
  clear hH
  refine T.seq (T.region ?_)
  refine TO.quiet (q_lss rfl rfl) ?_
  refine TO.nil (T.seq ?_)
  refine T.condP rfl (fun hc => ?_) (fun hc => ?_)
  · have hlt37 : k < 1 + b.sets.length := by omega
    have hkl : k < (b.start :: b.sets).length := by simp; omega
    obtain ⟨rb, rc, g1, s1⟩ := hR.get hkl
    refine T.skip (T.seq (T.block (T.seq (T.region ?_))))
    refine TO.quiet (q_ix (i := k) Try.underlying24 inf22 rfl rfl (rowO (List.mem_of_getElem? (i := 0) rfl)) (by first | assumption | omega | (simp; omega) | simp_all) (by show k < (Value.slice sb b.start.length sc :: vs).length; rw [hR.1]; exact hkl)) (TO.quiet (q_ld Try.underlying22 rfl rfl (rowO (List.mem_of_getElem? (i := 0) rfl)) g1) (TO.quiet (q_assign rfl) ?_))
    refine TO.nil (T.seq (T.region ?_))
    refine TO.quiet (q_move rfl) (TO.quiet (q_fieldAddr Try.underlying26 rfl inf3 rfl rfl) (TO.quiet (q_load_box 1 Try.underlying3 rfl rfl rfl rfl) ?_))
    have hk43 := fun (w1 : World) (hI : Inv w [rowI bx3 c4 22 1 ([(.slice sb b.start.length sc)] ++ vs), oI bx1 26 (buCells b sb sc eb ec tb tc)] w1) => statesF w1 rb rc (b.start :: b.sets)[k] b.states (hI.sl s1) (hR1 _ (List.getElem_mem hkl))
    refine TO.loud rfl (l_call ent64 (CallT.of_pure hk43) rfl ?_)
    clear hk43
    rintro vr O' ⟨N, rfl, rfl, rfl⟩
    refine TO.quiet (q_not rfl) ?_
    refine TO.nil ?_
    refine T.cond rfl (fun hc => ?_) (fun hc => ?_)
    · refine T.seq ?_
      refine T.region ?_
      refine TO.quiet (q_assign rfl) ?_
      refine TO.nil (T.ret (Res.drop ?_))
      refine Res.one (.int .i64 8) Try.results21 rfl ?_
      refine ⟨[], Sub.of (List.nil_sublist _), congrArg (fun z : Nat => Value.int .i64 (z : Int)) (Eq.symm (a := checkB b) (b := 8) ?_), rfl⟩
      exact checkB_8 (by omega) (by omega) (by omega) (by omega) (all_no hkl (by simpa using hc))
    refine T.skip (T.region ?_)
    refine TO.quiet (q_addN (a := k) (b := 1) rfl rfl (by omega)) (TO.quiet (q_move rfl) ?_)
    refine TO.nil ?_
    exact ⟨k + 1, by omega, rfl, by omega, all_snoc hkl hall (by simpa using hc), ⟨rfl, rfl, rfl, rfl, rfl, rfl, rfl, rfl, rfl, trivial⟩⟩
  have hge37 : ¬ k < 1 + b.sets.length := by omega
  refine T.exit ?_
  refine T.seq (T.seq (T.region ?_))
  refine TO.quiet (q_fieldAddr Try.underlying26 rfl inf23 rfl rfl) (TO.quiet (q_load_box 1 Try.underlying23 rfl rfl rfl rfl) (TO.quiet (q_len Try.underlying23 rfl) (TO.quiet (q_move rfl) ?_)))
  refine TO.nil (T.block ?_)
  refine T.sub (O' := [oI bx1 26 (buCells b sb sc eb ec tb tc)]) (Sub.pick [1] rfl) ?_
  refine T.loopS (fun (j : Nat) ρ O => O = [oI bx1 26 (buCells b sb sc eb ec tb tc)] ∧ j ≤ b.edges.length ∧ edgesE b.states b.vars.toNat (b.edges.drop j) = checkB b ∧ Heads [(0, (.agg (buCells b sb sc eb ec tb tc).toArray)), (1, (.pointer (some ⟨bx1, 0, none⟩))), (7, .bool (decide (b.vars > 6))), (16, .bool (decide (b.states < 0))), (20, .bool (decide (b.states > 4096))), (24, .bool (decide ((b.sets.length : Int) > 8))), (47, (.slice eb b.edges.length ec)), (48, .int .i64 (b.edges.length : Int)), (49, .int .i64 (j : Int))] ρ) (fun j => b.edges.length - j) 0 ?_ ?_
  · exact ⟨rfl, Nat.zero_le _, (checkB_e (by omega) (by omega) (by omega) (by omega) (all_done (by simp; omega) hall)).symm, ⟨rfl, rfl, rfl, rfl, rfl, rfl, rfl, rfl, rfl, trivial⟩⟩
  rintro j ρ O ⟨rfl, hj, he, hH⟩
  obtain ⟨ρ0, rfl⟩ := hH.elim
  clear hH
  refine T.seq (T.region ?_)
  refine TO.quiet (q_lss rfl rfl) ?_
  refine TO.nil (T.seq ?_)
  refine T.condP rfl (fun hc => ?_) (fun hc => ?_)
  · have hlt50 : j < b.edges.length := by omega
    have hpn := hB.pn _ (List.getElem_mem hlt50)
    refine T.skip (T.seq (T.block (T.seq (T.region ?_))))
    refine TO.quiet (q_ixK (i := j) Try.underlying23 inf54 rfl rfl (Sl.o h.ed) (by first | assumption | omega | (simp; omega) | simp_all) (by first | (rw [eds_len]; omega) | (simp [eds_len]; omega) | (simp_all [eds_len]; omega))) (TO.quiet (q_ldK (vs := [.int .i64 b.edges[j].fr, .int .i64 b.edges[j].to, .int .u8 ((b.edges[j].pos : Nat) : Int), .int .u8 ((b.edges[j].neg : Nat) : Int)]) Try.underlying54 rfl inf54 rfl rfl (Nat.succ_pos _) (Sl.o h.ed) (eds_get (by first | assumption | omega | (simp; omega) | simp_all))) ?_)
    refine TO.loud rfl (l_alloc inf54 rfl (fun bx5 => ?_))
    refine TO.loud rfl (l_store_box (v := (.agg #[.int .i64 b.edges[j].fr, .int .i64 b.edges[j].to, .int .u8 ((b.edges[j].pos : Nat) : Int), .int .u8 ((b.edges[j].neg : Nat) : Int)])) (vs := [.int .i64 b.edges[j].fr, .int .i64 b.edges[j].to, .int .u8 ((b.edges[j].pos : Nat) : Int), .int .u8 ((b.edges[j].neg : Nat) : Int)]) 0 inf54 rfl rfl rfl rfl rfl rfl (by simp [putL]) ?_)
    refine TO.nil (T.block (T.seq (T.region ?_)))
    refine TO.quiet (q_fieldAddr Try.underlying54 rfl inf3 rfl rfl) (TO.quiet (q_load_box 0 Try.underlying3 rfl rfl rfl rfl) (TO.quiet (q_lss rfl rfl) ?_))
    by_cases hs57 : b.edges[j].fr < 0
    · refine TO.quiet (QT.toB (q_move rfl) (decide_eq_true hs57)) ?_
      refine TO.passed rfl rfl ?_
      refine TO.passed rfl rfl ?_
      refine TO.passed rfl rfl ?_
      refine TO.passed rfl rfl ?_
      refine TO.passed rfl rfl ?_
      refine TO.quiet (q_pick1 rfl rfl) (TO.quiet (q_move rfl) ?_)
      refine TO.passed rfl rfl ?_
      refine TO.passed rfl rfl ?_
      refine TO.passed rfl rfl ?_
      refine TO.quiet (q_pick1 rfl rfl) (TO.quiet (q_move rfl) ?_)
      refine TO.passed rfl rfl ?_
      refine TO.passed rfl rfl ?_
      refine TO.passed rfl rfl ?_
      refine TO.passed rfl rfl ?_
      refine TO.passed rfl rfl ?_
      refine TO.quiet (q_pick1 rfl rfl) (TO.quiet (q_assign rfl) ?_)
      refine TO.nil ?_
      refine T.cond1 rfl ?_
      refine T.seq (T.region ?_)
      refine TO.quiet (q_assign rfl) ?_
      refine TO.nil (T.ret (Res.drop ?_))
      refine Res.one (.int .i64 8) Try.results21 rfl ?_
      refine ⟨[], Sub.of (List.nil_sublist _), congrArg (fun z : Nat => Value.int .i64 (z : Int)) (Eq.symm (a := checkB b) (b := 8) ?_), rfl⟩
      rw [← he]; exact edges_8 hlt50 (by omega)
    refine TO.quiet (QT.toB (q_move rfl) (decide_eq_false hs57)) ?_
    refine TO.guarded rfl rfl rfl (LT.of_quiet rfl rfl (q_fieldAddr Try.underlying54 rfl inf3 rfl rfl) ?_)
    refine TO.guarded rfl rfl rfl (LT.of_quiet rfl rfl (q_load_box 0 Try.underlying3 rfl rfl rfl rfl) ?_)
    refine TO.guarded rfl rfl rfl (LT.of_quiet rfl rfl (q_fieldAddr Try.underlying26 rfl inf3 rfl rfl) ?_)
    refine TO.guarded rfl rfl rfl (LT.of_quiet rfl rfl (q_load_box 1 Try.underlying3 rfl rfl rfl rfl) ?_)
    refine TO.guarded rfl rfl rfl (LT.of_quiet rfl rfl (q_geq rfl rfl) ?_)
    refine TO.quiet (q_pick0 rfl rfl) ?_
    by_cases hs64 : b.edges[j].fr ≥ b.states
    · refine TO.quiet (QT.toB (q_move rfl) (decide_eq_true hs64)) ?_
      refine TO.passed rfl rfl ?_
      refine TO.passed rfl rfl ?_
      refine TO.passed rfl rfl ?_
      refine TO.quiet (q_pick1 rfl rfl) (TO.quiet (q_move rfl) ?_)
      refine TO.passed rfl rfl ?_
      refine TO.passed rfl rfl ?_
      refine TO.passed rfl rfl ?_
      refine TO.passed rfl rfl ?_
      refine TO.passed rfl rfl ?_
      refine TO.quiet (q_pick1 rfl rfl) (TO.quiet (q_assign rfl) ?_)
      refine TO.nil ?_
      refine T.cond1 rfl ?_
      refine T.seq (T.region ?_)
      refine TO.quiet (q_assign rfl) ?_
      refine TO.nil (T.ret (Res.drop ?_))
      refine Res.one (.int .i64 8) Try.results21 rfl ?_
      refine ⟨[], Sub.of (List.nil_sublist _), congrArg (fun z : Nat => Value.int .i64 (z : Int)) (Eq.symm (a := checkB b) (b := 8) ?_), rfl⟩
      rw [← he]; exact edges_8 hlt50 (by omega)
    refine TO.quiet (QT.toB (q_move rfl) (decide_eq_false hs64)) ?_
    refine TO.guarded rfl rfl rfl (LT.of_quiet rfl rfl (q_fieldAddr Try.underlying54 rfl inf3 rfl rfl) ?_)
    refine TO.guarded rfl rfl rfl (LT.of_quiet rfl rfl (q_load_box 0 Try.underlying3 rfl rfl rfl rfl) ?_)
    refine TO.guarded rfl rfl rfl (LT.of_quiet rfl rfl (q_lss rfl rfl) ?_)
    refine TO.quiet (q_pick0 rfl rfl) ?_
    by_cases hs69 : b.edges[j].to < 0
    · refine TO.quiet (QT.toB (q_move rfl) (decide_eq_true hs69)) ?_
      refine TO.passed rfl rfl ?_
      refine TO.passed rfl rfl ?_
      refine TO.passed rfl rfl ?_
      refine TO.passed rfl rfl ?_
      refine TO.passed rfl rfl ?_
      refine TO.quiet (q_pick1 rfl rfl) (TO.quiet (q_assign rfl) ?_)
      refine TO.nil ?_
      refine T.cond1 rfl ?_
      refine T.seq (T.region ?_)
      refine TO.quiet (q_assign rfl) ?_
      refine TO.nil (T.ret (Res.drop ?_))
      refine Res.one (.int .i64 8) Try.results21 rfl ?_
      refine ⟨[], Sub.of (List.nil_sublist _), congrArg (fun z : Nat => Value.int .i64 (z : Int)) (Eq.symm (a := checkB b) (b := 8) ?_), rfl⟩
      rw [← he]; exact edges_8 hlt50 (by omega)
    refine TO.quiet (QT.toB (q_move rfl) (decide_eq_false hs69)) ?_
    refine TO.guarded rfl rfl rfl (LT.of_quiet rfl rfl (q_fieldAddr Try.underlying54 rfl inf3 rfl rfl) ?_)
    refine TO.guarded rfl rfl rfl (LT.of_quiet rfl rfl (q_load_box 0 Try.underlying3 rfl rfl rfl rfl) ?_)
    refine TO.guarded rfl rfl rfl (LT.of_quiet rfl rfl (q_fieldAddr Try.underlying26 rfl inf3 rfl rfl) ?_)
    refine TO.guarded rfl rfl rfl (LT.of_quiet rfl rfl (q_load_box 1 Try.underlying3 rfl rfl rfl rfl) ?_)
    refine TO.guarded rfl rfl rfl (LT.of_quiet rfl rfl (q_geq rfl rfl) ?_)
    refine TO.quiet (q_pick0 rfl rfl) (TO.quiet (q_assign rfl) ?_)
    refine TO.nil ?_
    refine T.condP rfl (fun hc => ?_) (fun hc => ?_)
    · refine T.seq ?_
      refine T.region ?_
      refine TO.quiet (q_assign rfl) ?_
      refine TO.nil (T.ret (Res.drop ?_))
      refine Res.one (.int .i64 8) Try.results21 rfl ?_
      refine ⟨[], Sub.of (List.nil_sublist _), congrArg (fun z : Nat => Value.int .i64 (z : Int)) (Eq.symm (a := checkB b) (b := 8) ?_), rfl⟩
      rw [← he]; exact edges_8 hlt50 (by omega)
    refine T.seq ?_
    refine T.draws _ [(0, 0), (1, 0), (2, 0), (3, 0), (4, 0), (5, 0), (6, 0), (7, 0), (8, 0), (9, 0), (10, 0), (11, 0), (12, 0), (13, 0), (14, 0), (15, 0), (16, 0), (17, 0), (18, 0)] mixed (by kernel_rfl) (Sub.of (List.Sublist.refl _)) (fun _ _ _ h => h) ?_
    refine DO.quiet rfl (q_fieldAddr Try.underlying54 rfl inf5 rfl rfl) (DO.quiet rfl (q_load_box 0 Try.underlying5 rfl rfl rfl rfl) (DO.quiet rfl (q_fieldAddr Try.underlying54 rfl inf5 rfl rfl) (DO.quiet rfl (q_load_box 0 Try.underlying5 rfl rfl rfl rfl) ?_)))
    refine DO.quiet rfl (q_or (a := b.edges[j].pos) (b := b.edges[j].neg) .u8 rfl rfl (by show _ < 256; omega) (by show _ < 256; omega)) (DO.quiet rfl (q_conv_id Try.underlying5 Try.underlying3 rfl (wrap64_id ⟨by omega, by have := Nat.or_lt_two_pow (n := 8) hpn.1 hpn.2; omega⟩)) (DO.quiet rfl (q_fieldAddr Try.underlying26 rfl inf3 rfl rfl) (DO.quiet rfl (q_load_box 1 Try.underlying3 rfl rfl rfl rfl) ?_)))
    refine DO.quiet rfl (q_shl1 (v := b.vars.toNat) rfl (by show Value.int _ b.vars = _; rw [Int.toNat_of_nonneg (by omega)]) (by omega)) (DO.quiet rfl (q_geq rfl rfl) ?_)
    by_cases hs87 : ((b.edges[j].pos ||| b.edges[j].neg : Nat) : Int) ≥ ((2 ^ b.vars.toNat : Nat) : Int)
    · refine DO.quiet rfl (QT.toB (q_move rfl) (decide_eq_true hs87)) ?_
      refine DO.passed rfl rfl rfl ?_
      refine DO.passed rfl rfl rfl ?_
      refine DO.passed rfl rfl rfl ?_
      refine DO.passed rfl rfl rfl ?_
      refine DO.passed rfl rfl rfl ?_
      refine DO.passed rfl rfl rfl ?_
      refine DO.quiet rfl (q_pick1 rfl rfl) (DO.quiet rfl (q_assign rfl) ?_)
      refine DO.done ?_
      refine T.cond1 rfl ?_
      refine T.seq (T.region ?_)
      refine TO.quiet (q_assign rfl) ?_
      refine TO.nil (T.ret (Res.drop ?_))
      refine Res.one (.int .i64 1) Try.results21 rfl ?_
      refine ⟨[], Sub.of (List.nil_sublist _), congrArg (fun z : Nat => Value.int .i64 (z : Int)) (Eq.symm (a := checkB b) (b := 1) ?_), rfl⟩
      rw [← he]; exact edges_1 hlt50 (by omega) (fun q => by have := or_lt.2 ⟨q.1, q.2.1⟩; have := q.2.2; omega)
    refine DO.quiet rfl (QT.toB (q_move rfl) (decide_eq_false hs87)) ?_
    refine DO.guarded rfl rfl rfl (q_fieldAddr Try.underlying54 rfl inf5 rfl rfl) ?_
    refine DO.guarded rfl rfl rfl (q_load_box 0 Try.underlying5 rfl rfl rfl rfl) ?_
    refine DO.guarded rfl rfl rfl (q_fieldAddr Try.underlying54 rfl inf5 rfl rfl) ?_
    refine DO.guarded rfl rfl rfl (q_load_box 0 Try.underlying5 rfl rfl rfl rfl) ?_
    refine DO.guarded rfl rfl rfl (q_and (a := b.edges[j].pos) (b := b.edges[j].neg) .u8 rfl rfl (by show _ < 256; omega) (by show _ < 256; omega)) ?_
    refine DO.guarded rfl rfl rfl (q_neq rfl rfl) ?_
    refine DO.quiet rfl (q_pick0 rfl rfl) (DO.quiet rfl (q_assign rfl) ?_)
    refine DO.done ?_
    refine T.condP rfl (fun hc => ?_) (fun hc => ?_)
    · have hlt76 : b.edges[j].pos &&& b.edges[j].neg ≠ 0 := by omega
      refine T.seq (T.region ?_)
      refine TO.quiet (q_assign rfl) ?_
      refine TO.nil (T.ret (Res.drop ?_))
      refine Res.one (.int .i64 1) Try.results21 rfl ?_
      refine ⟨[], Sub.of (List.nil_sublist _), congrArg (fun z : Nat => Value.int .i64 (z : Int)) (Eq.symm (a := checkB b) (b := 1) ?_), rfl⟩
      rw [← he]; exact edges_1 hlt50 (by omega) (fun q => by have := or_lt.2 ⟨q.1, q.2.1⟩; have := q.2.2; omega)
    have hge76 : ¬ b.edges[j].pos &&& b.edges[j].neg ≠ 0 := by omega
    refine T.skip (T.region ?_)
    refine TO.quiet (q_addN (a := j) (b := 1) rfl rfl (by omega)) (TO.quiet (q_move rfl) ?_)
    refine TO.nil ?_
    have hpl : b.edges[j].pos ||| b.edges[j].neg < 2 ^ b.vars.toNat := by omega
    exact ⟨j + 1, by omega, [oI bx1 26 (buCells b sb sc eb ec tb tc)], (Sub.pick [1] rfl), rfl, by omega, by rw [← he, edges_0 hlt50 (by omega) ⟨(or_lt.1 hpl).1, (or_lt.1 hpl).2, by omega⟩], ⟨rfl, rfl, rfl, rfl, rfl, rfl, rfl, rfl, rfl, trivial⟩⟩
  have hge50 : ¬ j < b.edges.length := by omega
  refine T.exit ?_
  refine T.seq (T.region ?_)
  refine TO.quiet (q_assign rfl) ?_
  refine TO.nil (T.ret (Res.drop ?_))
  refine Res.one (.int .i64 0) Try.results21 rfl ?_
  refine ⟨[], Sub.of (List.nil_sublist _), congrArg (fun z : Nat => Value.int .i64 (z : Int)) (Eq.symm (a := checkB b) (b := 0) ?_), rfl⟩
  rw [← he, List.drop_eq_nil_of_le (by omega)]; rfl
end Go.Proofs.Ytnamoapbienooaa

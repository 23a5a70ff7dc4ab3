/- Contracts of functions of the program (BLas, CoreM, BSli, BDel, BChk2, BScc, BComp): what each call answers and that it leaves memory as it was. Conditions: those each theorem names. -/
import Derived.Test.YtnamoapbienooaaBLw0
import Derived.Test.YtnamoapbienooaaLiv
set_option linter.unusedSectionVars false
set_option linter.unusedSimpArgs false
set_option linter.unusedVariables false
set_option linter.unnecessarySimpa false
namespace Go.Proofs.Ytnamoapbienooaa
open Go.Lx Go.RowKit
set_option linter.unusedVariables false
set_option linter.unusedSimpArgs false
set_option maxHeartbeats 1000000 in
set_option maxRecDepth 20000 in
theorem indexFuncB (base : World) (b : Option Addr) (c : Nat) (xs : List Nat) (OO : List Lx.Item) (hS : ∀ w, Inv base OO w → Sl w b (byts xs)) (hb : xs.length < 9223372036854775807) (fv : Value) (p : Nat → Bool) (hy : ∀ x ∈ xs, CallV Try.prog base fv [.int .u8 (x : Int)] OO (fun v O' => v = .bool (p x) ∧ O' = OO)) :
    CallT Try.prog base 112 [.slice b xs.length c, fv] OO (fun v O' => ∃ i : Int, v = .int .i64 i ∧ ((i = -1 ∧ xs.any p = false) ∨ ∃ (k : Nat) (hk : k < xs.length), i = (k : Int) ∧ p xs[k] = true ∧ (xs.take k).any p = false) ∧ O' = OO) := by
  refine CallT.enter Try.func112 rfl Try.ntmps112 rfl ?_
  refine T.seq (T.region ?_)
  refine TO.quiet (q_assign rfl) ?_
  refine TO.nil (T.seq (T.seq (T.region ?_)))
  refine TO.quiet (q_move rfl) (TO.quiet (q_len Try.underlying27 rfl) (TO.quiet (q_move rfl) ?_))
  refine TO.nil (T.block ?_)
  refine T.loop (fun (k : Nat) ρ O => O = ([] ++ OO) ∧ k ≤ xs.length ∧ (xs.take k).any p = false ∧ Heads [(0, (.slice b xs.length c)), (1, fv), (7, .int .i64 (xs.length : Int)), (8, .int .i64 (k : Int))] ρ) (fun k => xs.length - k) 0 ?_ ?_
  · exact ⟨rfl, Nat.zero_le _, rfl, ⟨rfl, rfl, rfl, rfl, trivial⟩⟩
  rintro k ρ O ⟨rfl, hk, hany, hH⟩
  obtain ⟨ρ0, rfl⟩ := hH.elim
  clear hH
  refine T.seq (T.region ?_)
  refine TO.quiet (q_lss rfl rfl) ?_
  refine TO.nil (T.seq ?_)
  refine T.condP rfl (fun hc => ?_) (fun hc => ?_)
  · have hlt9 : k < xs.length := by omega
    refine T.skip (T.seq (T.block (T.seq (T.region ?_))))
    refine TO.quiet (q_move rfl) (TO.quiet (q_assign rfl) ?_)
    refine TO.nil (T.seq (T.region ?_))
    refine TO.quiet (q_move rfl) (TO.quiet (q_move rfl) (TO.quiet (q_move rfl) (TO.quiet (q_ix (i := k) Try.underlying27 inf5 rfl rfl hS hlt9 (by rw [List.length_map]; exact hlt9)) ?_)))
    refine TO.quiet (q_ld Try.underlying5 rfl rfl hS (byts_get hlt9)) ?_
    have hk16 := hy xs[k] (List.getElem_mem hlt9)
    refine TO.loud rfl (l_callG hk16 rfl rfl ?_)
    clear hk16
    rintro vr O' ⟨rfl, rfl⟩
    refine TO.nil ?_
    refine T.cond rfl (fun hc => ?_) (fun hc => ?_)
    · refine T.seq ?_
      refine T.region ?_
      refine TO.quiet (q_move rfl) (TO.quiet (q_assign rfl) ?_)
      refine TO.nil (T.ret (Res.drop ?_))
      refine Res.one (.int .i64 (k : Int)) Try.results112 rfl ?_
      exact ⟨_, Sub.of (List.Sublist.refl _), k, rfl, .inr ⟨k, hlt9, rfl, hc, hany⟩, rfl⟩
    refine T.skip (T.region ?_)
    refine TO.quiet (q_addN (a := k) (b := 1) rfl rfl (by omega)) (TO.quiet (q_move rfl) ?_)
    refine TO.nil ?_
    exact ⟨k + 1, by omega, rfl, by omega, any_snoc hlt9 hany (by simpa using hc), ⟨rfl, rfl, rfl, rfl, trivial⟩⟩
  have hge9 : ¬ k < xs.length := by omega
  refine T.exit ?_
  refine T.seq (T.region ?_)
  refine TO.quiet (q_assign rfl) ?_
  refine TO.nil (T.ret (Res.drop ?_))
  refine Res.one (.int .i64 (-1)) Try.results112 rfl ?_
  exact ⟨_, Sub.of (List.Sublist.refl _), -1, rfl, .inl ⟨rfl, any_done (by omega) hany⟩, rfl⟩
set_option maxHeartbeats 1000000 in
set_option maxRecDepth 20000 in
theorem containsFuncB (base : World) (b : Option Addr) (c : Nat) (xs : List Nat) (OO : List Lx.Item) (hS : ∀ w, Inv base OO w → Sl w b (byts xs)) (hb : xs.length < 9223372036854775807) (fv : Value) (p : Nat → Bool) (hy : ∀ x ∈ xs, CallV Try.prog base fv [.int .u8 (x : Int)] OO (fun v O' => v = .bool (p x) ∧ O' = OO)) :
    CallT Try.prog base 98 [.slice b xs.length c, fv] OO (fun v O' => v = .bool (xs.any p) ∧ O' = OO) := by
  refine CallT.enter Try.func98 rfl Try.ntmps98 rfl ?_
  refine T.seq (T.region ?_)
  refine TO.quiet (q_assign rfl) ?_
  refine TO.nil (T.seq (T.region ?_))
  refine TO.quiet (q_move rfl) (TO.quiet (q_move rfl) ?_)
  have hk7 := indexFuncB base b c xs OO hS hb fv p hy
  refine TO.loud rfl (l_call ent112 hk7 rfl ?_)
  clear hk7
  rintro vr O' ⟨i, rfl, hi, rfl⟩
  refine TO.quiet (q_geq rfl rfl) (TO.quiet (q_assign rfl) ?_)
  refine TO.nil (T.ret (Res.drop ?_))
  refine Res.one (.bool (decide (i ≥ 0))) Try.results98 rfl ?_
  refine ⟨_, Sub.of (List.Sublist.refl _), congrArg Value.bool ?_, rfl⟩
  rcases hi with ⟨rfl, h9⟩ | ⟨k, hk, rfl, h9, _⟩
  · rw [h9]; decide
  · rw [any_hit hk h9]; exact decide_eq_true (by omega)
set_option maxHeartbeats 1000000 in
set_option maxRecDepth 20000 in
theorem indexFuncI (base : World) (b : Option Addr) (c : Nat) (xs : List Int) (OO : List Lx.Item) (hS : ∀ w, Inv base OO w → Sl w b (ints xs)) (hb : xs.length < 9223372036854775807) (fv : Value) (p : Int → Bool) (hy : ∀ x ∈ xs, CallV Try.prog base fv [.int .i64 x] OO (fun v O' => v = .bool (p x) ∧ O' = OO)) :
    CallT Try.prog base 101 [.slice b xs.length c, fv] OO (fun v O' => ∃ i : Int, v = .int .i64 i ∧ ((i = -1 ∧ xs.any p = false) ∨ ∃ (k : Nat) (hk : k < xs.length), i = (k : Int) ∧ p xs[k] = true ∧ (xs.take k).any p = false) ∧ O' = OO) := by
  refine CallT.enter Try.func101 rfl Try.ntmps101 rfl ?_
  refine T.seq (T.region ?_)
  refine TO.quiet (q_assign rfl) ?_
  refine TO.nil (T.seq (T.seq (T.region ?_)))
  refine TO.quiet (q_move rfl) (TO.quiet (q_len Try.underlying22 rfl) (TO.quiet (q_move rfl) ?_))
  refine TO.nil (T.block ?_)
  refine T.loop (fun (k : Nat) ρ O => O = ([] ++ OO) ∧ k ≤ xs.length ∧ (xs.take k).any p = false ∧ Heads [(0, (.slice b xs.length c)), (1, fv), (7, .int .i64 (xs.length : Int)), (8, .int .i64 (k : Int))] ρ) (fun k => xs.length - k) 0 ?_ ?_
  · exact ⟨rfl, Nat.zero_le _, rfl, ⟨rfl, rfl, rfl, rfl, trivial⟩⟩
  rintro k ρ O ⟨rfl, hk, hany, hH⟩
  obtain ⟨ρ0, rfl⟩ := hH.elim
  clear hH
  refine T.seq (T.region ?_)
  refine TO.quiet (q_lss rfl rfl) ?_
  refine TO.nil (T.seq ?_)
  refine T.condP rfl (fun hc => ?_) (fun hc => ?_)
  · have hlt9 : k < xs.length := by omega
    refine T.skip (T.seq (T.block (T.seq (T.region ?_))))
    refine TO.quiet (q_move rfl) (TO.quiet (q_assign rfl) ?_)
    refine TO.nil (T.seq (T.region ?_))
    refine TO.quiet (q_move rfl) (TO.quiet (q_move rfl) (TO.quiet (q_move rfl) (TO.quiet (q_ix (i := k) Try.underlying22 inf3 rfl rfl hS hlt9 (by rw [List.length_map]; exact hlt9)) ?_)))
    refine TO.quiet (q_ld Try.underlying3 rfl rfl hS (ints_get hlt9)) ?_
    have hk16 := hy xs[k] (List.getElem_mem hlt9)
    refine TO.loud rfl (l_callG hk16 rfl rfl ?_)
    clear hk16
    rintro vr O' ⟨rfl, rfl⟩
    refine TO.nil ?_
    refine T.cond rfl (fun hc => ?_) (fun hc => ?_)
    · refine T.seq ?_
      refine T.region ?_
      refine TO.quiet (q_move rfl) (TO.quiet (q_assign rfl) ?_)
      refine TO.nil (T.ret (Res.drop ?_))
      refine Res.one (.int .i64 (k : Int)) Try.results101 rfl ?_
      exact ⟨_, Sub.of (List.Sublist.refl _), k, rfl, .inr ⟨k, hlt9, rfl, hc, hany⟩, rfl⟩
    refine T.skip (T.region ?_)
    refine TO.quiet (q_addN (a := k) (b := 1) rfl rfl (by omega)) (TO.quiet (q_move rfl) ?_)
    refine TO.nil ?_
    exact ⟨k + 1, by omega, rfl, by omega, any_snoc hlt9 hany (by simpa using hc), ⟨rfl, rfl, rfl, rfl, trivial⟩⟩
  have hge9 : ¬ k < xs.length := by omega
  refine T.exit ?_
  refine T.seq (T.region ?_)
  refine TO.quiet (q_assign rfl) ?_
  refine TO.nil (T.ret (Res.drop ?_))
  refine Res.one (.int .i64 (-1)) Try.results101 rfl ?_
  exact ⟨_, Sub.of (List.Sublist.refl _), -1, rfl, .inl ⟨rfl, any_done (by omega) hany⟩, rfl⟩
set_option maxHeartbeats 1000000 in
set_option maxRecDepth 20000 in
theorem containsFuncI (base : World) (b : Option Addr) (c : Nat) (xs : List Int) (OO : List Lx.Item) (hS : ∀ w, Inv base OO w → Sl w b (ints xs)) (hb : xs.length < 9223372036854775807) (fv : Value) (p : Int → Bool) (hy : ∀ x ∈ xs, CallV Try.prog base fv [.int .i64 x] OO (fun v O' => v = .bool (p x) ∧ O' = OO)) :
    CallT Try.prog base 56 [.slice b xs.length c, fv] OO (fun v O' => v = .bool (xs.any p) ∧ O' = OO) := by
  refine CallT.enter Try.func56 rfl Try.ntmps56 rfl ?_
  refine T.seq (T.region ?_)
  refine TO.quiet (q_assign rfl) ?_
  refine TO.nil (T.seq (T.region ?_))
  refine TO.quiet (q_move rfl) (TO.quiet (q_move rfl) ?_)
  have hk7 := indexFuncI base b c xs OO hS hb fv p hy
  refine TO.loud rfl (l_call ent101 hk7 rfl ?_)
  clear hk7
  rintro vr O' ⟨i, rfl, hi, rfl⟩
  refine TO.quiet (q_geq rfl rfl) (TO.quiet (q_assign rfl) ?_)
  refine TO.nil (T.ret (Res.drop ?_))
  refine Res.one (.bool (decide (i ≥ 0))) Try.results56 rfl ?_
  refine ⟨_, Sub.of (List.Sublist.refl _), congrArg Value.bool ?_, rfl⟩
  rcases hi with ⟨rfl, h9⟩ | ⟨k, hk, rfl, h9, _⟩
  · rw [h9]; decide
  · rw [any_hit hk h9]; exact decide_eq_true (by omega)
set_option maxHeartbeats 1000000 in
set_option maxRecDepth 20000 in
theorem tooGreat (base : World) (v : Int) (h0 : 0 ≤ v) (h6 : v ≤ 6) (bx x : Nat) (hx : x < 256) :
    CallT Try.prog base 97 [.int .u8 (x : Int), .pointer (some ⟨bx, 0, none⟩)] [oI bx 3 [(.int .i64 v)]] (fun z O' => z = .bool (decide (¬ x < 2 ^ v.toNat)) ∧ O' = [oI bx 3 [(.int .i64 v)]]) := by
  refine CallT.enter Try.func97 rfl Try.ntmps97 rfl ?_
  refine T.seq (T.region ?_)
  refine TO.quiet (q_assign rfl) ?_
  refine TO.nil (T.seq (T.region ?_))
  refine TO.quiet (q_move rfl) (TO.quiet (q_conv_id Try.underlying5 Try.underlying3 rfl (wrap64_id ⟨by omega, by omega⟩)) (TO.quiet (q_load_box 0 Try.underlying3 rfl rfl rfl rfl) (TO.quiet (q_shl1 (v := v.toNat) rfl (by show Value.int _ v = _; rw [Int.toNat_of_nonneg h0]) (by omega)) ?_)))
  refine TO.quiet (q_geq rfl rfl) (TO.quiet (q_assign rfl) ?_)
  refine TO.nil (T.ret ?_)
  refine Res.one (.bool (decide ((x : Int) ≥ ((2 ^ v.toNat : Nat) : Int)))) Try.results97 rfl ?_
  exact ⟨congrArg Value.bool (decide_eq_decide.2 (by omega)), rfl⟩
set_option maxHeartbeats 1000000 in
set_option maxRecDepth 20000 in
theorem lassoCheckF (w : World) (l : La) (pb lb : Option Addr) (pc lc : Nat) (h : LaAt w l pb lb pc lc) (hL : LaB l) (v : Int) :
    PureT Try.prog 51 [.agg (laCells l pb pc lb lc).toArray, .int .i64 v] w fun z N => z = .int .i64 (checkLV v l : Int) ∧ N = [] := by
  refine CallT.enter Try.func51 rfl Try.ntmps51 rfl ?_
  have hpl := hL.pre; have hll := hL.loop
  refine T.seq (T.region ?_)
  refine TO.loud rfl (l_box (v := (.agg (laCells l pb pc lb lc).toArray)) (cs := (laCells l pb pc lb lc)) rfl rfl (fun bx1 => ?_))
  refine TO.loud rfl (l_box (v := .int .i64 v) (cs := [(.int .i64 v)]) rfl rfl (fun bx2 => ?_))
  refine TO.quiet (q_assign rfl) ?_
  refine TO.nil (T.seq (T.block (T.seq (T.region ?_))))
  refine TO.quiet (q_load_box 0 Try.underlying3 rfl rfl rfl rfl) (TO.quiet (q_lss rfl rfl) ?_)
  by_cases hs9 : v < 0
  · refine TO.quiet (QT.toB (q_move rfl) (decide_eq_true hs9)) ?_
    refine TO.passed rfl rfl ?_
    refine TO.passed rfl rfl ?_
    refine TO.quiet (q_pick1 rfl rfl) (TO.quiet (q_assign rfl) ?_)
    refine TO.nil ?_
    refine T.cond1 rfl ?_
    refine T.seq (T.region ?_)
    refine TO.quiet (q_assign rfl) ?_
    refine TO.nil (T.ret (Res.drop ?_))
    refine Res.one (.int .i64 7) Try.results51 rfl ?_
    refine ⟨[], Sub.of (List.nil_sublist _), congrArg (fun z : Nat => Value.int .i64 (z : Int)) (Eq.symm (a := checkLV v l) (b := 7) ?_), rfl⟩
    unfold checkLV; rw [if_pos (by omega)]
  refine TO.quiet (QT.toB (q_move rfl) (decide_eq_false hs9)) ?_
  refine TO.guarded rfl rfl rfl (LT.of_quiet rfl rfl (q_load_box 0 Try.underlying3 rfl rfl rfl rfl) ?_)
  refine TO.guarded rfl rfl rfl (LT.of_quiet rfl rfl (q_gtr rfl rfl) ?_)
  refine TO.quiet (q_pick0 rfl rfl) (TO.quiet (q_assign rfl) ?_)
  refine TO.nil ?_
  refine T.condP rfl (fun hc => ?_) (fun hc => ?_)
  · refine T.seq ?_
    refine T.region ?_
    refine TO.quiet (q_assign rfl) ?_
    refine TO.nil (T.ret (Res.drop ?_))
    refine Res.one (.int .i64 7) Try.results51 rfl ?_
    refine ⟨[], Sub.of (List.nil_sublist _), congrArg (fun z : Nat => Value.int .i64 (z : Int)) (Eq.symm (a := checkLV v l) (b := 7) ?_), rfl⟩
    unfold checkLV; rw [if_pos (by omega)]
  refine T.seq (T.region ?_)
  refine TO.quiet (q_fieldAddr Try.underlying29 rfl inf27 rfl rfl) (TO.quiet (q_load_box 1 Try.underlying27 rfl rfl rfl rfl) (TO.quiet (q_len Try.underlying27 rfl) (TO.quiet (q_eql rfl rfl) ?_)))
  refine TO.quiet (q_assign rfl) ?_
  refine TO.nil ?_
  refine T.condP rfl (fun hc => ?_) (fun hc => ?_)
  · have hlt13 : l.loop.length = 0 := by omega
    refine T.seq (T.region ?_)
    refine TO.quiet (q_assign rfl) ?_
    refine TO.nil (T.ret (Res.drop ?_))
    refine Res.one (.int .i64 3) Try.results51 rfl ?_
    refine ⟨[], Sub.of (List.nil_sublist _), congrArg (fun z : Nat => Value.int .i64 (z : Int)) (Eq.symm (a := checkLV v l) (b := 3) ?_), rfl⟩
    unfold checkLV checkL; rw [if_neg (by omega), if_pos (by omega)]
  have hge13 : ¬ l.loop.length = 0 := by omega
  refine T.seq (T.region ?_)
  refine TO.quiet (q_fieldAddr Try.underlying29 rfl inf27 rfl rfl) (TO.quiet (q_load_box 1 Try.underlying27 rfl rfl rfl rfl) (TO.quiet (q_len Try.underlying27 rfl) (TO.quiet (q_gtr rfl rfl) ?_)))
  by_cases hs23 : (l.pre.length : Int) > 64
  · refine TO.quiet (QT.toB (q_move rfl) (decide_eq_true hs23)) ?_
    refine TO.passed rfl rfl ?_
    refine TO.passed rfl rfl ?_
    refine TO.passed rfl rfl ?_
    refine TO.passed rfl rfl ?_
    refine TO.quiet (q_pick1 rfl rfl) (TO.quiet (q_assign rfl) ?_)
    refine TO.nil ?_
    refine T.cond1 rfl ?_
    refine T.seq (T.region ?_)
    refine TO.quiet (q_assign rfl) ?_
    refine TO.nil (T.ret (Res.drop ?_))
    refine Res.one (.int .i64 4) Try.results51 rfl ?_
    refine ⟨[], Sub.of (List.nil_sublist _), congrArg (fun z : Nat => Value.int .i64 (z : Int)) (Eq.symm (a := checkLV v l) (b := 4) ?_), rfl⟩
    unfold checkLV checkL; rw [if_neg (by omega), if_neg (by omega), if_pos (by omega)]
  refine TO.quiet (QT.toB (q_move rfl) (decide_eq_false hs23)) ?_
  refine TO.guarded rfl rfl rfl (LT.of_quiet rfl rfl (q_fieldAddr Try.underlying29 rfl inf27 rfl rfl) ?_)
  refine TO.guarded rfl rfl rfl (LT.of_quiet rfl rfl (q_load_box 1 Try.underlying27 rfl rfl rfl rfl) ?_)
  refine TO.guarded rfl rfl rfl (LT.of_quiet rfl rfl (q_len Try.underlying27 rfl) ?_)
  refine TO.guarded rfl rfl rfl (LT.of_quiet rfl rfl (q_gtr rfl rfl) ?_)
  refine TO.quiet (q_pick0 rfl rfl) (TO.quiet (q_assign rfl) ?_)
  refine TO.nil ?_
  refine T.condP rfl (fun hc => ?_) (fun hc => ?_)
  · have hlt18 : l.loop.length > 64 := by omega
    refine T.seq (T.region ?_)
    refine TO.quiet (q_assign rfl) ?_
    refine TO.nil (T.ret (Res.drop ?_))
    refine Res.one (.int .i64 4) Try.results51 rfl ?_
    refine ⟨[], Sub.of (List.nil_sublist _), congrArg (fun z : Nat => Value.int .i64 (z : Int)) (Eq.symm (a := checkLV v l) (b := 4) ?_), rfl⟩
    unfold checkLV checkL; rw [if_neg (by omega), if_neg (by omega), if_pos (by omega)]
  have hge18 : ¬ l.loop.length > 64 := by omega
  refine T.skip (T.seq (T.region ?_))
  refine TO.quiet (q_makeFunc) (TO.quiet (q_assign rfl) ?_)
  refine TO.nil (T.seq (T.seq (T.region ?_)))
  refine TO.quiet (q_fieldAddr Try.underlying29 rfl inf27 rfl rfl) (TO.quiet (q_load_box 1 Try.underlying27 rfl rfl rfl rfl) (TO.quiet (q_move rfl) ?_))
  by_cases hp : l.pre.any (fun x => decide (¬ x < 2 ^ v.toNat)) = true
  · have hk33 := (containsFuncB w pb pc l.pre [oI bx2 3 [(.int .i64 v)], oI bx1 29 (laCells l pb pc lb lc)] (Sl.o h.pre) (by have := hL.pre; have := hL.loop; omega) (.func (.func 97) #[] #[.pointer (some ⟨bx2, 0, none⟩)]) (fun x => decide (¬ x < 2 ^ v.toNat)) (fun x hx => (CallV.under (A := [oI bx2 3 [(.int .i64 v)]]) (B := [oI bx1 29 (laCells l pb pc lb lc)]) (CallV.of_fn (first := []) (args := [.int .u8 (x : Int)]) (caps := [.pointer (some ⟨bx2, 0, none⟩)]) ent97 (tooGreat w v (by omega) (by omega) bx2 x (hL.p8 x hx))) (Sub.pick [0, 0] rfl)).mono (fun z O' ⟨A', e1, e2, e3⟩ => ⟨e2, by rw [e1, e3]; rfl⟩))).mono (fun z O' hh => (⟨hh.1.trans (congrArg Value.bool ((show ∀ b : Bool, b = decide (b = true) from fun b => by cases b <;> rfl) _)), hh.2⟩ : z = .bool (decide (l.pre.any (fun x => decide (¬ x < 2 ^ v.toNat)) = true)) ∧ O' = [oI bx2 3 [(.int .i64 v)], oI bx1 29 (laCells l pb pc lb lc)]))
    refine TO.loud rfl (l_call ent98 hk33 rfl ?_)
    clear hk33
    rintro vr O' ⟨rfl, rfl⟩
    rw [decide_eq_true hp]
    refine TO.quiet (q_move rfl) ?_
    refine TO.passed rfl rfl ?_
    refine TO.passed rfl rfl ?_
    refine TO.passed rfl rfl ?_
    refine TO.passed rfl rfl ?_
    refine TO.quiet (q_pick1 rfl rfl) ?_
    refine TO.nil ?_
    refine T.cond1 rfl ?_
    refine T.seq (T.region ?_)
    refine TO.quiet (q_assign rfl) ?_
    refine TO.nil (T.ret (Res.drop ?_))
    refine Res.one (.int .i64 1) Try.results51 rfl ?_
    refine ⟨[], Sub.of (List.nil_sublist _), congrArg (fun z : Nat => Value.int .i64 (z : Int)) (Eq.symm (a := checkLV v l) (b := 1) ?_), rfl⟩
    unfold checkLV checkL; rw [if_neg (by omega), if_neg (by omega), if_neg (by omega), if_neg]
    rintro ⟨q1, q2⟩
    exact absurd hp (by rw [any_not q1]; decide)
  have hk33 := (containsFuncB w pb pc l.pre [oI bx2 3 [(.int .i64 v)], oI bx1 29 (laCells l pb pc lb lc)] (Sl.o h.pre) (by have := hL.pre; have := hL.loop; omega) (.func (.func 97) #[] #[.pointer (some ⟨bx2, 0, none⟩)]) (fun x => decide (¬ x < 2 ^ v.toNat)) (fun x hx => (CallV.under (A := [oI bx2 3 [(.int .i64 v)]]) (B := [oI bx1 29 (laCells l pb pc lb lc)]) (CallV.of_fn (first := []) (args := [.int .u8 (x : Int)]) (caps := [.pointer (some ⟨bx2, 0, none⟩)]) ent97 (tooGreat w v (by omega) (by omega) bx2 x (hL.p8 x hx))) (Sub.pick [0, 0] rfl)).mono (fun z O' ⟨A', e1, e2, e3⟩ => ⟨e2, by rw [e1, e3]; rfl⟩))).mono (fun z O' hh => (⟨hh.1.trans (congrArg Value.bool ((show ∀ b : Bool, b = decide (b = true) from fun b => by cases b <;> rfl) _)), hh.2⟩ : z = .bool (decide (l.pre.any (fun x => decide (¬ x < 2 ^ v.toNat)) = true)) ∧ O' = [oI bx2 3 [(.int .i64 v)], oI bx1 29 (laCells l pb pc lb lc)]))
  refine TO.loud rfl (l_call ent98 hk33 rfl ?_)
  clear hk33
  rintro vr O' ⟨rfl, rfl⟩
  rw [decide_eq_false hp]
  refine TO.quiet (q_move rfl) ?_
  refine TO.guarded rfl rfl rfl (LT.of_quiet rfl rfl (q_fieldAddr Try.underlying29 rfl inf27 rfl rfl) ?_)
  refine TO.guarded rfl rfl rfl (LT.of_quiet rfl rfl (q_load_box 1 Try.underlying27 rfl rfl rfl rfl) ?_)
  refine TO.guarded rfl rfl rfl (LT.of_quiet rfl rfl (q_move rfl) ?_)
  by_cases hq : l.loop.any (fun x => decide (¬ x < 2 ^ v.toNat)) = true
  · have hk38 := (containsFuncB w lb lc l.loop [oI bx2 3 [(.int .i64 v)], oI bx1 29 (laCells l pb pc lb lc)] (Sl.o h.loop) (by have := hL.pre; have := hL.loop; omega) (.func (.func 97) #[] #[.pointer (some ⟨bx2, 0, none⟩)]) (fun x => decide (¬ x < 2 ^ v.toNat)) (fun x hx => (CallV.under (A := [oI bx2 3 [(.int .i64 v)]]) (B := [oI bx1 29 (laCells l pb pc lb lc)]) (CallV.of_fn (first := []) (args := [.int .u8 (x : Int)]) (caps := [.pointer (some ⟨bx2, 0, none⟩)]) ent97 (tooGreat w v (by omega) (by omega) bx2 x (hL.l8 x hx))) (Sub.pick [0, 0] rfl)).mono (fun z O' ⟨A', e1, e2, e3⟩ => ⟨e2, by rw [e1, e3]; rfl⟩))).mono (fun z O' hh => (⟨hh.1.trans (congrArg Value.bool ((show ∀ b : Bool, b = decide (b = true) from fun b => by cases b <;> rfl) _)), hh.2⟩ : z = .bool (decide (l.loop.any (fun x => decide (¬ x < 2 ^ v.toNat)) = true)) ∧ O' = [oI bx2 3 [(.int .i64 v)], oI bx1 29 (laCells l pb pc lb lc)]))
    refine TO.guarded rfl rfl rfl (l_call ent98 hk38 rfl ?_)
    clear hk38
    rintro vr O' ⟨rfl, rfl⟩
    rw [decide_eq_true hq]
    refine TO.quiet (q_pick0 rfl rfl) ?_
    refine TO.nil ?_
    refine T.cond1 rfl ?_
    refine T.seq (T.region ?_)
    refine TO.quiet (q_assign rfl) ?_
    refine TO.nil (T.ret (Res.drop ?_))
    refine Res.one (.int .i64 1) Try.results51 rfl ?_
    refine ⟨[], Sub.of (List.nil_sublist _), congrArg (fun z : Nat => Value.int .i64 (z : Int)) (Eq.symm (a := checkLV v l) (b := 1) ?_), rfl⟩
    unfold checkLV checkL; rw [if_neg (by omega), if_neg (by omega), if_neg (by omega), if_neg]
    rintro ⟨q1, q2⟩
    exact absurd hq (by rw [any_not q2]; decide)
  have hk38 := (containsFuncB w lb lc l.loop [oI bx2 3 [(.int .i64 v)], oI bx1 29 (laCells l pb pc lb lc)] (Sl.o h.loop) (by have := hL.pre; have := hL.loop; omega) (.func (.func 97) #[] #[.pointer (some ⟨bx2, 0, none⟩)]) (fun x => decide (¬ x < 2 ^ v.toNat)) (fun x hx => (CallV.under (A := [oI bx2 3 [(.int .i64 v)]]) (B := [oI bx1 29 (laCells l pb pc lb lc)]) (CallV.of_fn (first := []) (args := [.int .u8 (x : Int)]) (caps := [.pointer (some ⟨bx2, 0, none⟩)]) ent97 (tooGreat w v (by omega) (by omega) bx2 x (hL.l8 x hx))) (Sub.pick [0, 0] rfl)).mono (fun z O' ⟨A', e1, e2, e3⟩ => ⟨e2, by rw [e1, e3]; rfl⟩))).mono (fun z O' hh => (⟨hh.1.trans (congrArg Value.bool ((show ∀ b : Bool, b = decide (b = true) from fun b => by cases b <;> rfl) _)), hh.2⟩ : z = .bool (decide (l.loop.any (fun x => decide (¬ x < 2 ^ v.toNat)) = true)) ∧ O' = [oI bx2 3 [(.int .i64 v)], oI bx1 29 (laCells l pb pc lb lc)]))
  refine TO.guarded rfl rfl rfl (l_call ent98 hk38 rfl ?_)
  clear hk38
  rintro vr O' ⟨rfl, rfl⟩
  rw [decide_eq_false hq]
  refine TO.quiet (q_pick0 rfl rfl) ?_
  refine TO.nil ?_
  refine T.cond0 rfl ?_
  refine T.skip (T.seq (T.region ?_))
  refine TO.quiet (q_assign rfl) ?_
  refine TO.nil (T.ret (Res.drop ?_))
  refine Res.one (.int .i64 0) Try.results51 rfl ?_
  refine ⟨[], Sub.of (List.nil_sublist _), congrArg (fun z : Nat => Value.int .i64 (z : Int)) (Eq.symm (a := checkLV v l) (b := 0) ?_), rfl⟩
  unfold checkLV checkL; rw [if_neg (by omega), if_neg (by omega), if_neg (by omega), if_pos ⟨all_not (Bool.eq_false_iff.2 hp), all_not (Bool.eq_false_iff.2 hq)⟩]
set_option maxHeartbeats 1000000 in
set_option maxRecDepth 20000 in
theorem refLassoCheckF (w : World) (l : La) (pb lb : Option Addr) (pc lc : Nat) (h : LaAt w l pb lb pc lc) (hL : LaB l) (v : Int) :
    PureT Try.prog 58 [.agg (laCells l pb pc lb lc).toArray, .int .i64 v] w fun z N => z = .int .i64 (checkLV v l : Int) ∧ N = [] := by
  refine CallT.enter Try.func58 rfl Try.ntmps58 rfl ?_
  have hpl := hL.pre; have hll := hL.loop
  refine T.seq (T.region ?_)
  refine TO.loud rfl (l_box (v := (.agg (laCells l pb pc lb lc).toArray)) (cs := (laCells l pb pc lb lc)) rfl rfl (fun bx1 => ?_))
  refine TO.quiet (q_assign rfl) ?_
  refine TO.nil (T.seq (T.seq (T.region ?_)))
  refine TO.quiet (q_move rfl) (TO.quiet (q_lss rfl rfl) ?_)
  by_cases hs9 : v < 0
  · refine TO.quiet (QT.toB (q_move rfl) (decide_eq_true hs9)) ?_
    refine TO.passed rfl rfl ?_
    refine TO.passed rfl rfl ?_
    refine TO.quiet (q_pick1 rfl rfl) ?_
    refine TO.nil ?_
    refine T.cond1 rfl ?_
    refine T.seq (T.region ?_)
    refine TO.quiet (q_assign rfl) ?_
    refine TO.nil (T.ret (Res.drop ?_))
    refine Res.one (.int .i64 7) Try.results58 rfl ?_
    refine ⟨[], Sub.of (List.nil_sublist _), congrArg (fun z : Nat => Value.int .i64 (z : Int)) (Eq.symm (a := checkLV v l) (b := 7) ?_), rfl⟩
    unfold checkLV; rw [if_pos (by omega)]
  refine TO.quiet (QT.toB (q_move rfl) (decide_eq_false hs9)) ?_
  refine TO.guarded rfl rfl rfl (LT.of_quiet rfl rfl (q_move rfl) ?_)
  refine TO.guarded rfl rfl rfl (LT.of_quiet rfl rfl (q_gtr rfl rfl) ?_)
  refine TO.quiet (q_pick0 rfl rfl) ?_
  refine TO.nil ?_
  refine T.condP rfl (fun hc => ?_) (fun hc => ?_)
  · refine T.seq ?_
    refine T.region ?_
    refine TO.quiet (q_assign rfl) ?_
    refine TO.nil (T.ret (Res.drop ?_))
    refine Res.one (.int .i64 7) Try.results58 rfl ?_
    refine ⟨[], Sub.of (List.nil_sublist _), congrArg (fun z : Nat => Value.int .i64 (z : Int)) (Eq.symm (a := checkLV v l) (b := 7) ?_), rfl⟩
    unfold checkLV; rw [if_pos (by omega)]
  refine T.skip (T.seq (T.seq (T.region ?_)))
  refine TO.quiet (q_fieldAddr Try.underlying29 rfl inf27 rfl rfl) (TO.quiet (q_load_box 0 Try.underlying27 rfl rfl rfl rfl) (TO.quiet (q_len Try.underlying27 rfl) (TO.quiet (q_eql rfl rfl) ?_)))
  refine TO.nil ?_
  refine T.condP rfl (fun hc => ?_) (fun hc => ?_)
  · have hlt16 : l.loop.length = 0 := by omega
    refine T.seq (T.region ?_)
    refine TO.quiet (q_assign rfl) ?_
    refine TO.nil (T.ret (Res.drop ?_))
    refine Res.one (.int .i64 3) Try.results58 rfl ?_
    refine ⟨[], Sub.of (List.nil_sublist _), congrArg (fun z : Nat => Value.int .i64 (z : Int)) (Eq.symm (a := checkLV v l) (b := 3) ?_), rfl⟩
    unfold checkLV checkL; rw [if_neg (by omega), if_pos (by omega)]
  have hge16 : ¬ l.loop.length = 0 := by omega
  refine T.skip (T.seq (T.seq (T.region ?_)))
  refine TO.quiet (q_fieldAddr Try.underlying29 rfl inf27 rfl rfl) (TO.quiet (q_load_box 0 Try.underlying27 rfl rfl rfl rfl) (TO.quiet (q_len Try.underlying27 rfl) (TO.quiet (q_gtr rfl rfl) ?_)))
  by_cases hs21 : (l.pre.length : Int) > 64
  · refine TO.quiet (QT.toB (q_move rfl) (decide_eq_true hs21)) ?_
    refine TO.passed rfl rfl ?_
    refine TO.passed rfl rfl ?_
    refine TO.passed rfl rfl ?_
    refine TO.passed rfl rfl ?_
    refine TO.quiet (q_pick1 rfl rfl) ?_
    refine TO.nil ?_
    refine T.cond1 rfl ?_
    refine T.seq (T.region ?_)
    refine TO.quiet (q_assign rfl) ?_
    refine TO.nil (T.ret (Res.drop ?_))
    refine Res.one (.int .i64 4) Try.results58 rfl ?_
    refine ⟨[], Sub.of (List.nil_sublist _), congrArg (fun z : Nat => Value.int .i64 (z : Int)) (Eq.symm (a := checkLV v l) (b := 4) ?_), rfl⟩
    unfold checkLV checkL; rw [if_neg (by omega), if_neg (by omega), if_pos (by omega)]
  refine TO.quiet (QT.toB (q_move rfl) (decide_eq_false hs21)) ?_
  refine TO.guarded rfl rfl rfl (LT.of_quiet rfl rfl (q_fieldAddr Try.underlying29 rfl inf27 rfl rfl) ?_)
  refine TO.guarded rfl rfl rfl (LT.of_quiet rfl rfl (q_load_box 0 Try.underlying27 rfl rfl rfl rfl) ?_)
  refine TO.guarded rfl rfl rfl (LT.of_quiet rfl rfl (q_len Try.underlying27 rfl) ?_)
  refine TO.guarded rfl rfl rfl (LT.of_quiet rfl rfl (q_gtr rfl rfl) ?_)
  refine TO.quiet (q_pick0 rfl rfl) ?_
  refine TO.nil ?_
  refine T.condP rfl (fun hc => ?_) (fun hc => ?_)
  · have hlt26 : l.loop.length > 64 := by omega
    refine T.seq (T.region ?_)
    refine TO.quiet (q_assign rfl) ?_
    refine TO.nil (T.ret (Res.drop ?_))
    refine Res.one (.int .i64 4) Try.results58 rfl ?_
    refine ⟨[], Sub.of (List.nil_sublist _), congrArg (fun z : Nat => Value.int .i64 (z : Int)) (Eq.symm (a := checkLV v l) (b := 4) ?_), rfl⟩
    unfold checkLV checkL; rw [if_neg (by omega), if_neg (by omega), if_pos (by omega)]
  have hge26 : ¬ l.loop.length > 64 := by omega
  refine T.skip (T.seq ?_)
  refine T.draws _ [(0, 0), (1, 0), (3, 0), (4, 0), (2, 1), (5, 2), (6, 2)] mixed (by kernel_rfl) (Sub.of (List.Sublist.refl _)) (fun _ _ _ h => h) ?_
  refine DO.quiet rfl (q_fieldAddr Try.underlying29 rfl inf27 rfl rfl) (DO.quiet rfl (q_load_box 0 Try.underlying27 rfl rfl rfl rfl) (DO.quiet rfl (q_fieldAddr Try.underlying29 rfl inf27 rfl rfl) (DO.quiet rfl (q_load_box 0 Try.underlying27 rfl rfl rfl rfl) ?_)))
  refine DO.loud rfl rfl (l_appendN (l := l.pre.length) Try.underlying27 Try.underlying27 inf5 rfl rfl rfl (by decide) (Src.sl h.pre (by simp)) (byts_one l.pre) (by omega) (by decide) (by decide) (fun bx2 c3 => ⟨Sub.pick [1] rfl, ?_⟩))
  refine DO.last rfl rfl (l_append 0 Try.underlying27 Try.underlying27 inf5 rfl rfl rfl rfl (by simp) (by decide) (Src.sl h.loop (by simp)) (byts_one l.loop) (by omega) (by decide) (by decide) (fun bx4 c5 => ?_))
  refine DO.last rfl rfl (LT.of_quiet rfl rfl (q_assign rfl) ?_)
  refine DO.done ?_
  refine T.seq (T.seq (T.region ?_))
  refine TO.quiet (q_assign rfl) ?_
  refine TO.nil (T.block ?_)
  refine T.loop (fun (k : Nat) ρ O => O = [rowI bx4 c5 5 1 ((byts l.pre) ++ (byts l.loop)), oI bx1 29 (laCells l pb pc lb lc)] ∧ k ≤ l.pre.length + l.loop.length ∧ ((l.pre ++ l.loop).take k).all (fun x => decide (x < 2 ^ v.toNat)) = true ∧ Heads [(0, (.agg (laCells l pb pc lb lc).toArray)), (1, .int .i64 v), (2, (.pointer (some ⟨bx1, 0, none⟩))), (5, (.slice bx4 (l.pre.length + l.loop.length) c5)), (6, .int .i64 (k : Int))] ρ) (fun k => (l.pre.length + l.loop.length) - k) 0 ?_ ?_
  · exact ⟨rfl, Nat.zero_le _, rfl, ⟨rfl, rfl, rfl, rfl, rfl, trivial⟩⟩
  rintro k ρ O ⟨rfl, hk, hall, hH⟩
  obtain ⟨ρ0, rfl⟩ := hH.elim
  clear hH
  refine T.seq (T.seq (T.region ?_))
  refine TO.quiet (q_move rfl) (TO.quiet (q_move rfl) (TO.quiet (q_len Try.underlying27 rfl) (TO.quiet (q_lss rfl rfl) ?_)))
  refine TO.nil ?_
  refine T.condP rfl (fun hc => ?_) (fun hc => ?_)
  · have hlt36 : k < l.pre.length + l.loop.length := by omega
    have hkl : k < (l.pre ++ l.loop).length := by simp; omega
    have hx8 : (l.pre ++ l.loop)[k] < 256 := by
      rcases List.mem_append.1 (List.getElem_mem hkl) with hm | hm
      · exact hL.p8 _ hm
      · exact hL.l8 _ hm
    refine T.skip (T.seq (T.block (T.seq (T.region ?_))))
    refine TO.quiet (q_move rfl) (TO.quiet (q_move rfl) (TO.quiet (q_ix (i := k) Try.underlying27 inf5 rfl rfl (rowO (List.mem_of_getElem? (i := 0) rfl)) (by first | assumption | omega | (simp; omega) | simp_all) (by simp; omega)) (TO.quiet (q_ld Try.underlying5 rfl rfl (rowO (List.mem_of_getElem? (i := 0) rfl)) (show (byts l.pre ++ byts l.loop)[k]? = _ by rw [← List.map_append]; exact byts_get hkl)) ?_)))
    refine TO.quiet (q_conv_id Try.underlying5 Try.underlying3 rfl (wrap64_id ⟨by omega, by omega⟩)) (TO.quiet (q_move rfl) (TO.quiet (q_conv_id Try.underlying3 Try.underlying52 rfl (show IntKind.u64.wrap v = v by unfold IntKind.wrap; simp [IntKind.bits, IntKind.signed]; omega)) (TO.quiet (q_shl1 (v := v.toNat) rfl (by show Value.int _ v = _; rw [Int.toNat_of_nonneg (by omega)]) (by omega)) ?_)))
    refine TO.quiet (q_geq rfl rfl) ?_
    refine TO.nil ?_
    refine T.condP rfl (fun hc => ?_) (fun hc => ?_)
    · have hlt47 : (l.pre ++ l.loop)[k] ≥ 2 ^ v.toNat := by omega
      refine T.seq (T.region ?_)
      refine TO.quiet (q_assign rfl) ?_
      refine TO.nil (T.ret (Res.drop ?_))
      refine Res.one (.int .i64 1) Try.results58 rfl ?_
      refine ⟨[], Sub.of (List.nil_sublist _), congrArg (fun z : Nat => Value.int .i64 (z : Int)) (Eq.symm (a := checkLV v l) (b := 1) ?_), rfl⟩
      unfold checkLV checkL; rw [if_neg (by omega), if_neg (by omega), if_neg (by omega), if_neg]
      rw [← Bool.and_eq_true, ← List.all_append, all_no hkl (decide_eq_false (by omega))]; decide
    have hge47 : ¬ (l.pre ++ l.loop)[k] ≥ 2 ^ v.toNat := by omega
    refine T.skip (T.region ?_)
    refine TO.quiet (q_move rfl) (TO.quiet (q_addN (a := k) (b := 1) rfl rfl (by omega)) (TO.quiet (q_assign rfl) ?_))
    refine TO.nil ?_
    exact ⟨k + 1, by omega, rfl, by omega, all_snoc hkl hall (decide_eq_true (by omega)), ⟨rfl, rfl, rfl, rfl, rfl, trivial⟩⟩
  have hge36 : ¬ k < l.pre.length + l.loop.length := by omega
  refine T.exit ?_
  refine T.seq (T.region ?_)
  refine TO.quiet (q_assign rfl) ?_
  refine TO.nil (T.ret (Res.drop ?_))
  refine Res.one (.int .i64 0) Try.results58 rfl ?_
  refine ⟨[], Sub.of (List.nil_sublist _), congrArg (fun z : Nat => Value.int .i64 (z : Int)) (Eq.symm (a := checkLV v l) (b := 0) ?_), rfl⟩
  have hd := all_done (by simp; omega) hall
  rw [List.all_append, Bool.and_eq_true] at hd
  unfold checkLV checkL; rw [if_neg (by omega), if_neg (by omega), if_neg (by omega), if_pos hd]
end Go.Proofs.Ytnamoapbienooaa

namespace Go.Lx
open Go.RowKit
set_option linter.unusedVariables false
section
variable {P : Program} {r : Option Nat} {base : World} {n : Nat} {ρ : Env} {O : List Item} {K : Env → List Item → Prop} {d : Nat} {t : TypeId} {p : String} {af : Array Edge} {g : Option (Nat × Bool)}
theorem q_cap {x : Operand} {T : TypeId} {E : TypeId} {b : Option Addr} {m c : Nat} {dst : Option Nat} (hu : P.underlying T = some (.slice E)) (hx : ev ρ x = .slice b m c) :
    QT P base ⟨dst, .call ⟨.builtin .cap, #[x], #[T]⟩, t, p, af, g⟩ ρ O (.int .i64 (c : Int)) := fun w _ => by
  simp [execOp, resolve, hx, invoke, builtin, Builtin.cap_, run_underlying' hu, goInt]
theorem l_appendZ {T U E : TypeId} {m by_ : Nat} {x y : Operand} {z : Value} {k : IntKind} (hu : P.underlying T = some (.slice E)) (hxu : P.underlying U = some (.int .i64)) (hi : Inf P E z 1 by_) (hz : z.cells = #[z])
    (hx : ev ρ x = .slice none 0 0) (hy : ev ρ y = .int k (m : Int)) (hm : 0 < m) (hsz : m * by_ ≤ 70368744177664) (hby : by_ ≤ 1000000) (hsz' : 0 < by_)
    (h : ∀ b' c', m ≤ c' → K (upd ρ d (.slice b' m c')) (rowI b' c' E 1 (List.replicate m z) :: O)) (hn : Nat.blt d n = true := by rfl) :
    LT P r base n ⟨some d, .call ⟨.builtin .append, #[x, y], #[T, U]⟩, t, p, af, g⟩ ρ O K :=
  LT.of_run hn fun w M hI => by
    obtain ⟨i, hi1, hi2, hi3, hi4⟩ := hi.get
    obtain ⟨cap, hcap⟩ : ∃ cap, (Question.appendCap m 0 E).cut (w.tape w.drawn (Question.appendCap m 0 E)) = cap := ⟨_, rfl⟩
    have hle : m ≤ cap := hcap ▸ cut_cap m 0 _ E
    have hforced : (Question.appendCap m 0 E).forced = false := rfl
    have hI' : Inv base (O ++ M) w.drew := hI.drew
    have hmb : m ≤ 70368744177664 := Nat.le_trans (Nat.le_mul_of_pos_right m hsz') hsz
    have hw : IntKind.i64.wrap (m : Int) = (m : Int) := wrap64_id (by omega)
    have hnext : ¬ (281474976710656 < Builtin.nextslicecap m 0 * by_) := by
      have h1 := nextcap_le (need := m) (cap := 0) hm
      have h2 : Builtin.nextslicecap m 0 * by_ ≤ (2 * m + 192) * by_ := Nat.mul_le_mul_right _ h1
      have h3 : (2 * m + 192) * by_ = 2 * (m * by_) + 192 * by_ := by rw [Nat.add_mul, Nat.mul_assoc]
      omega
    have hbig : ¬ ((281474976710656 : Int) < (m : Int) * (by_ : Int)) := by
      have : ((m * by_ : Nat) : Int) = (m : Int) * (by_ : Int) := Int.natCast_mul _ _
      rw [← this]; omega
    have hm0 : ¬ m = 0 := by omega
    have hm1 : ¬ (m : Int) < 0 := by omega
    have hmax : ¬ ((9223372036854775807 : Int) < (m : Int)) := by omega
    have hmx : max (m : Int) 0 = (m : Int) := by omega
    have hle0 : ¬ (m : Int) ≤ 0 := by omega
    have hzc : Builtin.zeroCells z.cells m = (List.replicate m z).toArray := by
      unfold Builtin.zeroCells; rw [hz]
      have := zeros_one z m
      simpa using this
    have hzr : (m * z.cells.size) = m := by rw [hz]; simp
    refine ⟨.slice (some ⟨w.heap.size, 0, none⟩) m cap, w.drew.alloc (.cells ((List.replicate m z).toArray ++ Builtin.zeroCells z.cells (cap - m)) E), _, ?_, ?_, h (some ⟨w.heap.size, 0, none⟩) cap hle⟩
    · simp [execOp, resolve, hx, hy, invoke, builtin, Builtin.append_, run_underlying' hu, run_underlying' hxu, run_sizeOf' hi, asInt, asIntOf, hw, hm1, hmx, hle0, hbig, run_typeInfo' hi1, hi4, hm0, hmax, hnext, hforced, hcap, Builtin.firstCells, run_zeroValue' hi, hzc, newRow]
    · refine Inv.new (O := O ++ M) (N := [rowI (some ⟨w.heap.size, 0, none⟩) cap E 1 (List.replicate m z)]) hI rfl rfl rfl (by simp) (fun b hb => ?_) ?_ ?_ (by simp [rowI])
      · show (w.heap.push _)[b]? = _
        rw [Array.getElem?_push, if_neg (by omega)]
      · intro x hx
        simp at hx; subst hx
        refine ⟨rfl, (List.replicate m z).toArray ++ Builtin.zeroCells z.cells (cap - m), ?_, by simp; exact hle, ?_, fun q hq => ?_⟩
        · show (w.heap.push _)[w.heap.size]? = _; simp
        · simp only [Array.size_append, List.size_toArray, List.length_replicate, zeros_any, hz, Nat.zero_add]
          simp; omega
        · simp only [List.length_replicate] at hq
          simp only [Nat.zero_add]
          rw [Array.getElem?_append_left (by simpa using hq)]
          simp [hq]
      · intro x hx b hb
        simp at hx; subst hx
        simp [rowI] at hb; subst hb
        exact ⟨Nat.le_refl _, by simp⟩
theorem LT.of_val0 {op : Op}
    (h : ∀ w M, Inv base (O ++ M) w → ∃ v w' O', (execOp (ev ρ) ⟨none, op, t, p, af, g⟩).run P w = .ok (.value v) w' ∧ Inv base (O' ++ M) w' ∧ K ρ O') : LT P r base n ⟨none, op, t, p, af, g⟩ ρ O K := by
  intro a w M ds ha hi next Qx hnext
  obtain ⟨v, w', O', hr, hI, hK⟩ := h w M hi
  rw [← ha.eval] at hr
  refine wpIn_Fr (notDefer hr (by simp)) ?_
  rw [hr]
  exact hnext _ _ _ _ ha hI hK
theorem l_clear (i : Nat) {T E : TypeId} {x : Operand} {b : Option Addr} {c lo by_ : Nat} {z : Value} {cs : List Value} (hu : P.underlying T = some (.slice E)) (hi : Inf P E z 1 by_) (hz : z.cells = #[z]) (hone : oneB z = true)
    (hx : ev ρ x = .slice (subB b c lo 1) (cs.length - lo) (c - lo)) (hO : O[i]? = some (rowI b c E 1 cs)) (hlo : lo ≤ cs.length)
    (h : K ρ (O.set i (rowI b c E 1 (cs.take lo)))) : LT P r base n ⟨none, .call ⟨.builtin .clear, #[x], #[T]⟩, t, p, af, g⟩ ρ O K :=
  LT.of_val0 fun w M hI => by
    have hrow := hI.row (at_app hO)
    have hweak : Inv base ((O.set i (rowI b c E 1 (cs.take lo))) ++ M) w := by rw [← set_app hO]; exact hI.head (at_app hO) lo
    by_cases h0 : cs.length - lo = 0
    · refine ⟨.tuple #[], w, _, ?_, hweak, h⟩
      rw [h0] at hx
      cases hb : subB b c lo 1 with
      | none => rw [hb] at hx; simp [execOp, resolve, hx, invoke, builtin, Builtin.clear_, run_underlying' hu]
      | some a => rw [hb] at hx; simp [execOp, resolve, hx, invoke, builtin, Builtin.clear_, run_underlying' hu]
    · cases b with
      | none => obtain ⟨rfl, _⟩ := hrow; simp at h0
      | some a =>
        obtain ⟨bk, o, sp⟩ := a
        obtain ⟨hsp, full, hb, h1, h2, h3⟩ := hrow
        simp only at hsp hb h1 h2 h3
        subst hsp
        have hne : c ≠ lo := by omega
        have hsub : subB (some ⟨bk, o, none⟩) c lo 1 = some ⟨bk, o + lo, none⟩ := by
          unfold subB; rw [if_neg hne]; simp [add_off]
        rw [hsub] at hx
        obtain ⟨fl, rfl⟩ : ∃ fl : List Value, full = fl.toArray := ⟨full.toList, by simp⟩
        simp only [List.size_toArray] at h2
        have hst := storeCells_run (P := P) (b := bk) (o := o + lo) (T := E) (List.replicate (cs.length - lo) z) fl 0 w hb (by simp; omega) (by simp [hone])
        have hzc : (Builtin.zeroCells z.cells (cs.length - lo)).toList = List.replicate (cs.length - lo) z := by
          have h9 := congrArg Array.toList (zeros_one z (cs.length - lo))
          unfold Builtin.zeroCells; rw [hz]
          simp at h9 ⊢
          exact h9
        refine ⟨.tuple #[], setB w bk (.cells (putL fl (o + lo + 0) (List.replicate (cs.length - lo) z)).toArray E (0, 0)), _, ?_, ?_, h⟩
        · obtain ⟨q, hq⟩ : ∃ q, cs.length - lo = q + 1 := ⟨cs.length - lo - 1, by omega⟩
          simp [execOp, resolve, hx, invoke, builtin, Builtin.clear_, run_underlying' hu, run_zeroValue' hi]
          rw [hq] at hzc hst ⊢
          simp [hzc, hst]
        · rw [← set_app hO]
          refine hI.setRow (at_app hO) (cs' := cs.take lo) (by simp; omega) (by simp [putL_length]; omega) ?_
          intro j hj
          simp only [List.length_take] at hj
          have e1 : (putL fl (o + lo + 0) (List.replicate (cs.length - lo) z)).toArray[o + j]? = (putL fl (o + lo) (List.replicate (cs.length - lo) z))[o + j]? := by simp
          rw [e1, putL_get _ fl (o + lo) (o + j) (by simp; omega), if_neg (by omega), List.getElem_take]
          have := h3 j (by omega)
          simpa using this
end
theorem NextT.reorder {P : Program} {base : World} {M : List Item} {R : Value → List Item → Prop} {x : Result Next} (h : NextT P base M (fun v O' => ∃ O2, Sub O2 O' ∧ R v O2) x) : NextT P base M R x := by
  cases x with
  | halt e w => exact h
  | ok y w =>
    cases y with
    | enter f args => exact Calls.mono h (fun e w' ⟨v, O', h1, h2, O2, hs, hr⟩ => ⟨v, O2, h1, h2.subp hs.app, hr⟩)
    | round l f tmps assign body => exact RoundIn.mono h (fun e w' ⟨v, O', h1, h2, O2, hs, hr⟩ => ⟨v, O2, h1, h2.subp hs.app, hr⟩)
    | _ => exact h
theorem CallV.reorder {P : Program} {base : World} {fv : Value} {args : List Value} {O : List Item} {R : Value → List Item → Prop} (h : CallV P base fv args O (fun v O' => ∃ O2, Sub O2 O' ∧ R v O2)) : CallV P base fv args O R := fun w M hI => (h w M hI).reorder
theorem sub_swap {A B : List Item} : Sub (A ++ B) (B ++ A) := ⟨_, List.perm_append_comm, List.Sublist.refl _⟩
theorem CallV.atR {P : Program} {base : World} {fv : Value} {args : List Value} {A : List Item} (B : List Item) {R : Value → List Item → Prop} (h : CallV P base fv args A R) : CallV P base fv args (B ++ A) (fun v O' => ∃ A', O' = B ++ A' ∧ R v A') :=
  ((h.under (B := B) sub_swap).mono (fun v O' ⟨A', e, hr⟩ => ⟨B ++ A', by rw [e]; exact sub_swap, A', rfl, hr⟩)).reorder
theorem Inv.right {base : World} {A B : List Item} {w : World} (h : Inv base (A ++ B) w) : Inv base B w := h.sub (List.sublist_append_right _ _)
def WordsR (w : World) (vs : List Value) (ws : List (List Nat)) : Prop :=
  vs.length = ws.length ∧ ∀ (i : Nat) (r : List Nat), ws[i]? = some r → ∃ b c, vs[i]? = some (Value.slice b r.length c) ∧ Sl w b (byts r)
theorem WordsR.get {w : World} {vs : List Value} {ws : List (List Nat)} (h : WordsR w vs ws) {i : Nat} (hi : i < ws.length) : ∃ b c, vs[i]? = some (Value.slice b ws[i].length c) ∧ Sl w b (byts ws[i]) :=
  h.2 i _ (List.getElem?_eq_getElem hi)
theorem WordsR.keep {w w' : World} {vs : List Value} {ws : List (List Nat)} (h : WordsR w vs ws) (hb : ∀ k, k < w.heap.size → w'.heap[k]? = w.heap[k]?) : WordsR w' vs ws :=
  ⟨h.1, fun i r hr => by obtain ⟨b, c, h1, h2⟩ := h.2 i r hr; exact ⟨b, c, h1, h2.keep hb⟩⟩
theorem flat_take {ws : List (List Nat)} {k : Nat} (hk : k < ws.length) : (ws.take (k + 1)).flatten = (ws.take k).flatten ++ ws[k] := by
  rw [List.take_succ_eq_append_getElem hk, List.flatten_append]; simp
theorem flat_le {ws : List (List Nat)} (k : Nat) : (ws.take k).flatten.length ≤ ws.flatten.length := by
  conv => rhs; rw [← List.take_append_drop k ws, List.flatten_append]
  simp
theorem WordsR.two {w : World} {b1 b2 : Option Addr} {c1 c2 n1 n2 : Nat} {r1 r2 : List Nat} (h1 : Sl w b1 (byts r1)) (h2 : Sl w b2 (byts r2)) (e1 : r1.length = n1) (e2 : r2.length = n2) : WordsR w [.slice b1 n1 c1, .slice b2 n2 c2] [r1, r2] := by
  refine ⟨rfl, fun i r hr => ?_⟩
  match i with
  | 0 => simp at hr; subst hr; exact ⟨b1, c1, by rw [e1]; rfl, h1⟩
  | 1 => simp at hr; subst hr; exact ⟨b2, c2, by rw [e2]; rfl, h2⟩
  | i + 2 => simp at hr
theorem Sl.bsub {w : World} {b : Option Addr} {xs : List Nat} (h : Sl w b (byts xs)) {c lo hi : Nat} (hc : xs.length ≤ c) (hlo : lo < hi) (hhi : hi ≤ xs.length) : Sl w (subB b c lo 1) (byts ((xs.take hi).drop lo)) := by
  have h1 := h.sub c lo 1 (hi - lo) (fun e => by omega)
  rw [Nat.mul_one, ← List.map_drop, ← List.map_take] at h1
  rwa [List.drop_take]
theorem Sl.btake {w : World} {b : Option Addr} {xs : List Nat} (h : Sl w b (byts xs)) (m : Nat) : Sl w b (byts (xs.take m)) := fun i hi => by
  have hi' : i < xs.length := by rw [List.length_map, List.length_take] at hi; omega
  obtain ⟨a, h1, h2, h3⟩ := h i (by simpa using hi')
  exact ⟨a, h1, h2, by rw [h3]; simp⟩
end Go.Lx

namespace Go.Proofs.Ytnamoapbienooaa
open Go.Lx Go.RowKit
set_option linter.unusedVariables false
set_option linter.unusedSimpArgs false
set_option maxHeartbeats 1000000 in
set_option maxRecDepth 20000 in
theorem cloneINil (w : World) (c : Nat) :
    PureT Try.prog 70 [.slice none 0 c] w fun v N => ∃ b' c', v = .slice b' 0 c' ∧ N = [rowI b' c' 3 1 []] := by
  refine CallT.enter Try.func70 rfl Try.ntmps70 rfl ?_
  refine T.seq (T.region ?_)
  refine TO.quiet (q_assign rfl) ?_
  refine TO.nil (T.seq (T.seq (T.region ?_)))
  refine TO.quiet (q_move rfl) (TO.quiet (q_eqlNil Try.underlying22 rfl rfl) ?_)
  refine TO.nil ?_
  refine T.cond1 rfl ?_
  refine T.seq ?_
  refine T.nilRow 3 1 ?_
  refine T.region ?_
  refine TO.quiet (q_assign rfl) ?_
  refine TO.nil (T.ret ?_)
  refine Res.one (.slice none 0 0) Try.results70 rfl ?_
  exact ⟨_, _, rfl, rfl⟩
set_option maxHeartbeats 1000000 in
set_option maxRecDepth 20000 in
theorem cloneISome (w : World) (a : Addr) (c : Nat) (xs : List Int) (h1 : Sl w (some a) (ints xs)) (hb : xs.length ≤ 1000000000) :
    PureT Try.prog 70 [.slice (some a) xs.length c] w fun v N => ∃ b' c', v = .slice b' xs.length c' ∧ N = [rowI b' c' 3 1 (ints xs)] := by
  refine CallT.enter Try.func70 rfl Try.ntmps70 rfl ?_
  refine T.seq (T.region ?_)
  refine TO.quiet (q_assign rfl) ?_
  refine TO.nil (T.seq (T.seq (T.region ?_)))
  refine TO.quiet (q_move rfl) (TO.quiet (q_eqlNil Try.underlying22 rfl rfl) ?_)
  refine TO.nil ?_
  refine T.cond0 rfl ?_
  refine T.skip (T.seq (T.region ?_))
  refine TO.loud rfl (l_buildSlice (m := 0) (parts := []) (cs := []) Try.underlying22 inf3 (by decide) (by simp [Instr.fill]) rfl (fun b1 => ?_))
  refine TO.quiet (q_move rfl) ?_
  refine TO.loud rfl (l_append 0 Try.underlying22 Try.underlying22 inf3 rfl rfl rfl rfl (by simp) (by decide) (Src.sl h1 (by simp)) (ints_one xs) (by omega) (by decide) (by decide) (fun bx1 c2 => ?_))
  refine TO.quiet (q_assign rfl) ?_
  refine TO.nil (T.ret ?_)
  refine Res.one (.slice bx1 (0 + xs.length) c2) Try.results70 rfl ?_
  exact ⟨_, _, by rw [Nat.zero_add], rfl⟩
theorem cloneI (w : World) (b : Option Addr) (c : Nat) (xs : List Int) (h1 : Sl w b (ints xs)) (hb : xs.length ≤ 1000000000) :
    PureT Try.prog 70 [.slice b xs.length c] w fun v N => ∃ b' c', v = .slice b' xs.length c' ∧ N = [rowI b' c' 3 1 (ints xs)] := by
  cases b with
  | none =>
    have hx : xs = [] := by
      cases xs with
      | nil => rfl
      | cons x xs => obtain ⟨_, _, e⟩ := h1.addr (i := 0) (by simp); cases e
    subst hx
    exact cloneINil w c
  | some a => exact cloneISome w a c xs h1 hb
set_option maxHeartbeats 1000000 in
set_option maxRecDepth 20000 in
theorem cloneBNil (w : World) (c : Nat) :
    PureT Try.prog 81 [.slice none 0 c] w fun v N => ∃ b' c', v = .slice b' 0 c' ∧ N = [rowI b' c' 5 1 []] := by
  refine CallT.enter Try.func81 rfl Try.ntmps81 rfl ?_
  refine T.seq (T.region ?_)
  refine TO.quiet (q_assign rfl) ?_
  refine TO.nil (T.seq (T.seq (T.region ?_)))
  refine TO.quiet (q_move rfl) (TO.quiet (q_eqlNil Try.underlying27 rfl rfl) ?_)
  refine TO.nil ?_
  refine T.cond1 rfl ?_
  refine T.seq ?_
  refine T.nilRow 5 1 ?_
  refine T.region ?_
  refine TO.quiet (q_assign rfl) ?_
  refine TO.nil (T.ret ?_)
  refine Res.one (.slice none 0 0) Try.results81 rfl ?_
  exact ⟨_, _, rfl, rfl⟩
set_option maxHeartbeats 1000000 in
set_option maxRecDepth 20000 in
theorem cloneBSome (w : World) (a : Addr) (c : Nat) (xs : List Nat) (h1 : Sl w (some a) (byts xs)) (hb : xs.length ≤ 1000000000) :
    PureT Try.prog 81 [.slice (some a) xs.length c] w fun v N => ∃ b' c', v = .slice b' xs.length c' ∧ N = [rowI b' c' 5 1 (byts xs)] := by
  refine CallT.enter Try.func81 rfl Try.ntmps81 rfl ?_
  refine T.seq (T.region ?_)
  refine TO.quiet (q_assign rfl) ?_
  refine TO.nil (T.seq (T.seq (T.region ?_)))
  refine TO.quiet (q_move rfl) (TO.quiet (q_eqlNil Try.underlying27 rfl rfl) ?_)
  refine TO.nil ?_
  refine T.cond0 rfl ?_
  refine T.skip (T.seq (T.region ?_))
  refine TO.loud rfl (l_buildSlice (m := 0) (parts := []) (cs := []) Try.underlying27 inf5 (by decide) (by simp [Instr.fill]) rfl (fun b1 => ?_))
  refine TO.quiet (q_move rfl) ?_
  refine TO.loud rfl (l_append 0 Try.underlying27 Try.underlying27 inf5 rfl rfl rfl rfl (by simp) (by decide) (Src.sl h1 (by simp)) (byts_one xs) (by omega) (by decide) (by decide) (fun bx1 c2 => ?_))
  refine TO.quiet (q_assign rfl) ?_
  refine TO.nil (T.ret ?_)
  refine Res.one (.slice bx1 (0 + xs.length) c2) Try.results81 rfl ?_
  exact ⟨_, _, by rw [Nat.zero_add], rfl⟩
theorem cloneB (w : World) (b : Option Addr) (c : Nat) (xs : List Nat) (h1 : Sl w b (byts xs)) (hb : xs.length ≤ 1000000000) :
    PureT Try.prog 81 [.slice b xs.length c] w fun v N => ∃ b' c', v = .slice b' xs.length c' ∧ N = [rowI b' c' 5 1 (byts xs)] := by
  cases b with
  | none =>
    have hx : xs = [] := by
      cases xs with
      | nil => rfl
      | cons x xs => obtain ⟨_, _, e⟩ := h1.addr (i := 0) (by simp); cases e
    subst hx
    exact cloneBNil w c
  | some a => exact cloneBSome w a c xs h1 hb
set_option maxHeartbeats 1000000 in
set_option maxRecDepth 20000 in
theorem growB (w : World) (n : Nat) (hn : n ≤ 1000000000) :
    PureT Try.prog 108 [.slice none 0 0, .int .i64 (n : Int)] w fun v N => ∃ b c, v = .slice b 0 c ∧ N = [rowI b c 5 1 []] := by
  refine CallT.enter Try.func108 rfl Try.ntmps108 rfl ?_
  refine T.seq (T.region ?_)
  refine TO.quiet (q_assign rfl) ?_
  refine TO.nil (T.seq (T.seq (T.region ?_)))
  refine TO.quiet (q_move rfl) (TO.quiet (q_lss rfl rfl) ?_)
  refine TO.nil ?_
  refine T.cond0 (congrArg Value.bool (decide_eq_false (by omega))) ?_
  refine T.skip (T.seq (T.seq (T.region ?_)))
  refine TO.quiet (q_move rfl) (TO.quiet (q_move rfl) (TO.quiet (q_cap Try.underlying27 rfl) (TO.quiet (q_move rfl) ?_)))
  refine TO.quiet (q_len Try.underlying27 rfl) (TO.quiet (q_subN (a := 0) (b := 0) rfl rfl (by omega) (by omega)) (TO.quiet (QT.cast (q_subN (a := n) (b := 0) rfl rfl (by omega) (by omega)) (v' := .int .i64 ((n : Nat) : Int)) (by rw [Nat.sub_zero])) (TO.quiet (q_assign rfl) ?_)))
  refine TO.nil (T.seq (T.region ?_))
  refine TO.quiet (q_move rfl) (TO.quiet (q_gtr rfl rfl) ?_)
  refine TO.nil ?_
  refine T.condP rfl (fun hc => ?_) (fun hc => ?_)
  · have hlt16 : n > 0 := by omega
    refine T.region ?_
    refine TO.quiet (q_move rfl) (TO.quiet (q_move rfl) (TO.quiet (q_cap Try.underlying27 rfl) (TO.quiet (q_sliceTo (hi := 0) Try.underlying27 inf5 rfl rfl (Nat.le_refl _)) ?_)))
    refine TO.quiet (q_move rfl) ?_
    refine TO.loud rfl (l_appendZ (m := n) Try.underlying27 Try.underlying3 inf5 rfl rfl rfl (by omega) (by omega) (by decide) (by decide) (fun gb gc hgc => ?_))
    refine TO.quiet (q_move rfl) (TO.quiet (q_len Try.underlying27 rfl) ?_)
    refine TO.loud rfl (l_head (m := 0) 0 Try.underlying27 inf5 rfl rfl rfl (by omega) ?_)
    refine TO.sub (O' := [rowI gb gc 5 1 []]) (by rw [show (List.replicate n (Value.int .u8 0)).take (0 * 1) = [] from (by simp)]; exact Sub.of (List.Sublist.refl _)) ?_
    refine TO.quiet (q_assign rfl) ?_
    refine TO.nil (T.seq ?_)
    
    refine T.region ?_
    refine TO.quiet (q_move rfl) (TO.quiet (q_assign rfl) ?_)
    refine TO.nil (T.ret (Res.drop ?_))
    refine Res.one (.slice gb 0 gc) Try.results108 rfl ?_
    exact ⟨_, Sub.of (List.Sublist.refl _), _, _, rfl, rfl⟩
  have hge16 : ¬ n > 0 := by omega
  refine T.skip (T.seq ?_)
  refine T.nilRow 5 1 ?_
  refine T.region ?_
  refine TO.quiet (q_move rfl) (TO.quiet (q_assign rfl) ?_)
  refine TO.nil (T.ret (Res.drop ?_))
  refine Res.one (.slice none 0 0) Try.results108 rfl ?_
  exact ⟨_, Sub.of (List.Sublist.refl _), _, _, rfl, rfl⟩
set_option maxHeartbeats 1000000 in
set_option maxRecDepth 20000 in
theorem concatB (w : World) (b : Option Addr) (c : Nat) (vs : List Value) (ws : List (List Nat)) (hS : Sl w b vs) (hW : WordsR w vs ws) (hl : ws.length ≤ 1000000) (hb : ws.flatten.length ≤ 1000000000) :
    PureT Try.prog 82 [.slice b ws.length c] w fun v N => ∃ b' c', v = .slice b' ws.flatten.length c' ∧ N = [rowI b' c' 5 1 (byts ws.flatten)] := by
  refine CallT.enter Try.func82 rfl Try.ntmps82 rfl ?_
  refine T.seq (T.region ?_)
  refine TO.quiet (q_assign rfl) ?_
  refine TO.nil (T.seq (T.region ?_))
  refine TO.quiet (q_assign rfl) ?_
  refine TO.nil (T.seq (T.seq (T.region ?_)))
  refine TO.quiet (q_move rfl) (TO.quiet (q_len Try.underlying131 rfl) (TO.quiet (q_move rfl) ?_))
  refine TO.nil (T.block ?_)
  refine T.loop (fun (k : Nat) ρ O => O = [] ∧ k ≤ ws.length ∧ Heads [(0, (.slice b ws.length c)), (2, (.slice none 0 0)), (3, .int .i64 (((ws.take k).flatten.length : Nat) : Int)), (9, (.slice b ws.length c)), (10, .int .i64 (ws.length : Int)), (11, .int .i64 (k : Int))] ρ) (fun k => ws.length - k) 0 ?_ ?_
  · exact ⟨rfl, Nat.zero_le _, ⟨rfl, rfl, rfl, rfl, rfl, rfl, trivial⟩⟩
  rintro k ρ O ⟨rfl, hk, hH⟩
  obtain ⟨ρ0, rfl⟩ := hH.elim
  clear hH
  refine T.seq (T.region ?_)
  refine TO.quiet (q_lss rfl rfl) ?_
  refine TO.nil (T.seq ?_)
  refine T.condP rfl (fun hc => ?_) (fun hc => ?_)
  · have hlt12 : k < ws.length := by omega
    obtain ⟨rb, rc, g1, s1⟩ := hW.get hlt12
    have hfl := flat_le (ws := ws) (k + 1)
    rw [flat_take hlt12, List.length_append] at hfl
    refine T.skip (T.seq (T.block (T.seq (T.region ?_))))
    refine TO.quiet (q_ix (i := k) Try.underlying131 inf27 rfl rfl (Sl.o hS) (by first | assumption | omega | (simp; omega) | simp_all) (by rw [hW.1]; exact hlt12)) (TO.quiet (q_ld Try.underlying27 rfl rfl (Sl.o hS) g1) (TO.quiet (q_assign rfl) ?_))
    refine TO.nil (T.seq (T.region ?_))
    refine TO.quiet (q_move rfl) (TO.quiet (q_move rfl) (TO.quiet (q_len Try.underlying27 rfl) (TO.quiet (q_addN (a := ((ws.take k).flatten.length)) (b := ws[k].length) rfl rfl (by omega)) ?_)))
    refine TO.quiet (q_assign rfl) ?_
    refine TO.nil (T.seq (T.region ?_))
    refine TO.quiet (q_move rfl) (TO.quiet (q_lss rfl rfl) ?_)
    refine TO.nil ?_
    refine T.cond0 (congrArg Value.bool (decide_eq_false (by omega))) ?_
    refine T.skip (T.region ?_)
    refine TO.quiet (q_addN (a := k) (b := 1) rfl rfl (by omega)) (TO.quiet (q_move rfl) ?_)
    refine TO.nil ?_
    refine ⟨k + 1, by omega, rfl, by omega, ?_⟩
    rw [flat_take hlt12, List.length_append]; exact ⟨rfl, rfl, rfl, rfl, rfl, rfl, trivial⟩
  have hge12 : ¬ k < ws.length := by omega
  refine T.exit ?_
  refine T.seq (T.region ?_)
  refine TO.quiet (q_move rfl) ?_
  have hk24 := fun (w1 : World) (hI : Inv w [] w1) => growB w1 (ws.take k).flatten.length (by have := flat_le (ws := ws) k; omega)
  refine TO.loud rfl (l_call ent108 (CallT.of_pure hk24) rfl ?_)
  clear hk24
  rintro vr O' ⟨N, rfl, gb, gc, rfl, rfl⟩
  refine TO.quiet (q_assign rfl) ?_
  refine TO.nil (T.seq (T.seq (T.region ?_)))
  refine TO.quiet (q_move rfl) (TO.quiet (q_len Try.underlying131 rfl) (TO.quiet (q_move rfl) ?_))
  refine TO.nil (T.block ?_)
  refine T.loop (fun (j : Nat) ρ O => ∃ (gb2 : Option Addr) (gc2 : Nat), O = [rowI gb2 gc2 5 1 (byts (ws.take j).flatten)] ∧ j ≤ ws.length ∧ Heads [(0, (.slice b ws.length c)), (2, (.slice none 0 0)), (3, .int .i64 (((ws.take k).flatten.length : Nat) : Int)), (6, (.slice gb2 ((ws.take j).flatten.length) gc2)), (25, (.slice b ws.length c)), (26, .int .i64 (ws.length : Int)), (27, .int .i64 (j : Int))] ρ) (fun j => ws.length - j) 0 ?_ ?_
  · exact ⟨gb, gc, rfl, Nat.zero_le _, ⟨rfl, rfl, rfl, rfl, rfl, rfl, rfl, trivial⟩⟩
  rintro j ρ O ⟨gb2, gc2, rfl, hj, hH⟩
  obtain ⟨ρ0, rfl⟩ := hH.elim
  clear hH
  refine T.seq (T.region ?_)
  refine TO.quiet (q_lss rfl rfl) ?_
  refine TO.nil (T.seq ?_)
  refine T.condP rfl (fun hc => ?_) (fun hc => ?_)
  · have hlt28 : j < ws.length := by omega
    obtain ⟨rb, rc, g1, s1⟩ := hW.get hlt28
    have hfl := flat_le (ws := ws) (j + 1)
    rw [flat_take hlt28, List.length_append] at hfl
    refine T.skip (T.seq (T.block (T.seq (T.region ?_))))
    refine TO.quiet (q_ix (i := j) Try.underlying131 inf27 rfl rfl (Sl.o hS) (by first | assumption | omega | (simp; omega) | simp_all) (by rw [hW.1]; exact hlt28)) (TO.quiet (q_ld Try.underlying27 rfl rfl (Sl.o hS) g1) (TO.quiet (q_assign rfl) ?_))
    refine TO.nil (T.region ?_)
    refine TO.quiet (q_move rfl) (TO.quiet (q_move rfl) ?_)
    refine TO.loud rfl (l_append 0 Try.underlying27 Try.underlying27 inf5 rfl rfl rfl rfl (by rw [List.length_map, Nat.mul_one]) (by decide) (Src.sl s1 (by simp)) (byts_one ws[j]) (by omega) (by decide) (by decide) (fun bx1 c2 => ?_))
    refine TO.quiet (q_assign rfl) ?_
    refine TO.nil (T.region ?_)
    refine TO.quiet (q_addN (a := j) (b := 1) rfl rfl (by omega)) (TO.quiet (q_move rfl) ?_)
    refine TO.nil ?_
    have e := flat_take hlt28
    refine ⟨j + 1, by omega, bx1, c2, ?_, by omega, ?_⟩
    · rw [e, show byts ((ws.take j).flatten ++ ws[j]) = byts (ws.take j).flatten ++ byts ws[j] from List.map_append]; rfl
    · rw [e, List.length_append]; exact ⟨rfl, rfl, rfl, rfl, rfl, rfl, rfl, trivial⟩
  have hge28 : ¬ j < ws.length := by omega
  refine T.exit ?_
  refine T.seq (T.region ?_)
  refine TO.quiet (q_move rfl) (TO.quiet (q_assign rfl) ?_)
  refine TO.nil (T.ret (Res.drop ?_))
  refine Res.one (.slice gb2 ((ws.take j).flatten.length) gc2) Try.results82 rfl ?_
  have hke : j = ws.length := by omega
  subst hke
  rw [List.take_length]
  exact ⟨_, Sub.of (List.Sublist.refl _), _, _, rfl, rfl⟩
set_option maxHeartbeats 1000000 in
set_option maxRecDepth 20000 in
theorem reverseB (base : World) (b : Option Addr) (c c' : Nat) (xs : List Nat) (hb : xs.length ≤ 1000000000) :
    CallT Try.prog base 106 [.slice b xs.length c'] [rowI b c 5 1 (byts xs)] (fun _ O' => O' = [rowI b c 5 1 (byts xs.reverse)]) := by
  refine CallT.enter Try.func106 rfl Try.ntmps106 rfl ?_
  refine T.seq (T.region ?_)
  refine TO.quiet (q_move rfl) (TO.quiet (q_len Try.underlying27 rfl) (TO.quiet (q_sub64 rfl rfl (by omega)) (TO.quiet (q_assign rfl) ?_)))
  refine TO.quiet (q_assign rfl) ?_
  refine TO.nil (T.block ?_)
  refine T.loop (fun (i : Nat) ρ O => ∃ (ys : List Nat), O = [rowI b c 5 1 (byts ys)] ∧ i ≤ xs.length ∧ ys.length = xs.length ∧ (∀ q, q < xs.length → ys[q]? = if q < i ∨ xs.length ≤ q + i then xs[xs.length - 1 - q]? else xs[q]?) ∧ Heads [(0, (.slice b xs.length c')), (2, .int .i64 (i : Int)), (3, .int .i64 ((xs.length : Int) - 1 - (i : Int)))] ρ) (fun i => xs.length - i) 0 ?_ ?_
  · exact ⟨xs, rfl, Nat.zero_le _, rfl, (fun q hq => by rw [if_neg (by omega)]), ⟨rfl, rfl, (by show Value.int .i64 ((xs.length : Int) - 1) = Value.int .i64 ((xs.length : Int) - 1 - ((0 : Nat) : Int)); congr 1; omega), trivial⟩⟩
  rintro i ρ O ⟨ys, rfl, hi, hyl, hys, hH⟩
  obtain ⟨ρ0, rfl⟩ := hH.elim
  clear hH
  refine T.seq (T.seq (T.region ?_))
  refine TO.quiet (q_move rfl) (TO.quiet (q_move rfl) (TO.quiet (q_lss rfl rfl) ?_))
  refine TO.nil ?_
  refine T.condP rfl (fun hc => ?_) (fun hc => ?_)
  · obtain ⟨j, hj⟩ : ∃ j : Nat, (xs.length : Int) - 1 - i = (j : Int) := ⟨xs.length - 1 - i, by omega⟩
    have hij : i < j := by omega
    have hjl : j < xs.length := by omega
    refine T.skip (T.seq (T.block ?_))
    refine T.draws2 [] [rowI b c 5 1 (byts ys)] [(0, 0), (1, 0), (2, 0), (3, 0), (4, 0), (5, 0), (6, 3), (7, 3), (8, 0), (9, 0), (10, 3), (11, 3), (12, 3), (13, 4), (14, 2), (15, 2)] mixed (by kernel_rfl) (Sub.of (List.nil_sublist _)) (Sub.pick [0] rfl) (fun _ _ _ h => h) ?_
    refine DO.quiet rfl (q_move rfl) (DO.quiet rfl (q_move rfl) (DO.quiet rfl (q_move rfl) (DO.quiet rfl (QT.cast (q_move rfl) (v' := .int .i64 ((j : Nat) : Int)) (by show Value.int _ _ = _; rw [← hj])) ?_)))
    refine DO.quiet rfl (q_move rfl) (DO.quiet rfl (QT.cast (q_move rfl) (v' := .int .i64 ((j : Nat) : Int)) (by show Value.int _ _ = _; rw [← hj])) ?_)
    refine DO.quiet2 rfl (q_ix (i := j) Try.underlying27 inf5 rfl rfl (rowO (List.mem_of_getElem? (i := 0) rfl))) ?_
    refine DO.quiet2 rfl (q_ld Try.underlying5 rfl rfl (rowO (List.mem_of_getElem? (i := 0) rfl)) byts_get) ?_
    refine DO.quiet rfl (q_move rfl) (DO.quiet rfl (q_move rfl) ?_)
    refine DO.quiet2 rfl (q_ix (i := i) Try.underlying27 inf5 rfl rfl (rowO (List.mem_of_getElem? (i := 0) rfl))) ?_
    refine DO.quiet2 rfl (q_ld Try.underlying5 rfl rfl (rowO (List.mem_of_getElem? (i := 0) rfl)) byts_get) ?_
    refine DO.quiet2 rfl (q_ix (i := i) Try.underlying27 inf5 rfl rfl (rowO (List.mem_of_getElem? (i := 0) rfl))) ?_
    refine DO.last2 rfl rfl (l_st (j := i) (v := .int .u8 ((ys[j] : Nat) : Int)) (vs := [(.int .u8 ((ys[j] : Nat) : Int))]) (cs := byts ys) 0 inf5 rfl rfl rfl rfl rfl (by simp) rfl (by first | (simp; omega) | (simp_all; omega)) ⟨Sub.pick [] rfl, ?_⟩)
    refine DO.sub (O' := [rowI b c 5 1 (byts (ys.set i ys[j]))]) (by rw [show putL (byts ys) i [(.int .u8 ((ys[j] : Nat) : Int))] = byts (ys.set i ys[j]) from (by simp [putL])]; exact Sub.of (List.Sublist.refl _)) ?_
    refine DO.last rfl rfl (LT.of_quiet rfl rfl (q_ix (i := j) Try.underlying27 inf5 rfl rfl (rowO (List.mem_of_getElem? (i := 0) rfl))) ?_)
    refine DO.last rfl rfl (l_st (j := j) (v := .int .u8 ((ys[i] : Nat) : Int)) (vs := [(.int .u8 ((ys[i] : Nat) : Int))]) (cs := byts (ys.set i ys[j])) 0 inf5 rfl rfl rfl rfl rfl (by simp) rfl (by first | (simp; omega) | (simp_all; omega)) ?_)
    refine DO.sub (O' := [rowI b c 5 1 (byts ((ys.set i ys[j]).set j ys[i]))]) (by rw [show putL (byts (ys.set i ys[j])) j [(.int .u8 ((ys[i] : Nat) : Int))] = byts ((ys.set i ys[j]).set j ys[i]) from (by simp [putL])]; exact Sub.of (List.Sublist.refl _)) ?_
    refine DO.done ?_
    refine T.region ?_
    refine TO.quiet (q_move rfl) (TO.quiet (q_addN (a := i) (b := 1) rfl rfl (by omega)) (TO.quiet (q_move rfl) (TO.quiet (q_sub64 rfl rfl (by omega)) ?_)))
    refine TO.quiet (q_assign rfl) (TO.quiet (q_assign rfl) ?_)
    refine TO.nil ?_
    refine ⟨i + 1, by omega, (ys.set i ys[j]).set j ys[i], rfl, by omega, by simp [hyl], fun q hq => ?_, ⟨rfl, rfl, ?_, trivial⟩⟩
    · have h1 := hys i (by omega)
      have h2 := hys j hjl
      rw [List.getElem?_eq_getElem (by omega), if_neg (by omega)] at h1 h2
      rw [List.getElem?_set, List.getElem?_set]
      by_cases e1 : j = q
      · subst e1
        rw [if_pos rfl, if_pos (by simp; omega), if_pos (by omega), h1]; congr 1; omega
      · rw [if_neg e1]
        by_cases e2 : i = q
        · subst e2
          rw [if_pos rfl, if_pos (by omega), if_pos (by omega), h2]; congr 1; omega
        · rw [if_neg e2, hys q hq]
          by_cases e3 : q < i ∨ xs.length ≤ q + i
          · rw [if_pos e3, if_pos (by omega)]
          · rw [if_neg e3, if_neg (by omega)]
    · show Value.int _ _ = Value.int _ _; congr 1; omega
  refine T.exit ?_
  refine Res.zero Try.results106 ?_
  have hyr : ys = xs.reverse := by
    apply List.ext_getElem?
    intro q
    by_cases hq : q < xs.length
    · rw [hys q hq, List.getElem?_reverse hq]
      split
      · rfl
      · congr 1; omega
    · rw [List.getElem?_eq_none (by omega), List.getElem?_eq_none (by simp; omega)]
  rw [hyr]
end Go.Proofs.Ytnamoapbienooaa

namespace Go.Proofs.Ytnamoapbienooaa
open Go.Lx Go.RowKit
set_option linter.unusedVariables false
set_option linter.unusedSimpArgs false
theorem filter_any {α : Type} {l : List α} {p : α → Bool} (h : l.any p = false) : l.filter (fun x => !p x) = l := by
  rw [List.filter_eq_self]; intro x hx
  rw [List.any_eq_false] at h
  have := h x hx
  simpa using this
set_option maxHeartbeats 1000000 in
set_option maxRecDepth 20000 in
theorem deleteI (base : World) (b : Option Addr) (c : Nat) (xs : List Int) (hb : xs.length ≤ 1000000000) (OO : List Lx.Item) (fv : Value) (p : Int → Bool) (hy : ∀ x ∈ xs, CallV Try.prog base fv [.int .i64 x] OO (fun v O' => v = .bool (p x) ∧ O' = OO)) :
    CallT Try.prog base 69 [.slice b xs.length c, fv] ([rowI b c 3 1 (ints xs)] ++ OO) (fun v O' => v = .slice b (xs.filter fun x => !p x).length c ∧ O' = [rowI b c 3 1 (ints (xs.filter fun x => !p x))] ++ OO) := by
  refine CallT.enter Try.func69 rfl Try.ntmps69 rfl ?_
  refine T.seq (T.region ?_)
  refine TO.quiet (q_assign rfl) ?_
  refine TO.nil (T.seq (T.region ?_))
  refine TO.quiet (q_move rfl) (TO.quiet (q_move rfl) ?_)
  have hk10 := indexFuncI base b c xs ([rowI b c 3 1 (ints xs)] ++ OO) (rowO List.mem_cons_self) (by omega) fv p (fun x hx => ((CallV.atR [rowI b c 3 1 (ints xs)] (hy x (hx))).mono (fun v O' ⟨A', e1, e2, e3⟩ => ⟨e2, by rw [e1, e3]⟩)))
  refine TO.loud rfl (l_call ent101 hk10 rfl ?_)
  clear hk10
  rintro vr O' ⟨i0, rfl, hi0, rfl⟩
  refine TO.quiet (q_assign rfl) ?_
  refine TO.nil (T.seq (T.seq (T.region ?_)))
  refine TO.quiet (q_move rfl) (TO.quiet (q_eql rfl rfl) ?_)
  refine TO.nil ?_
  refine T.condP rfl (fun hc => ?_) (fun hc => ?_)
  · have hany : xs.any p = false := by
      rcases hi0 with ⟨_, h⟩ | ⟨k, hk, h, _⟩
      · exact h
      · omega
    refine T.seq (T.region ?_)
    refine TO.quiet (q_move rfl) (TO.quiet (q_assign rfl) ?_)
    refine TO.nil (T.ret ?_)
    refine Res.one (.slice b xs.length c) Try.results69 rfl ?_
    have hfl : (xs.filter fun x => !p x) = xs := filter_any hany
    exact ⟨by rw [hfl], by rw [hfl]⟩
  obtain ⟨k0, hk0, hik, hpk, hpre⟩ : ∃ (k : Nat) (hk : k < xs.length), i0 = (k : Int) ∧ p xs[k] = true ∧ (xs.take k).any p = false := by
    rcases hi0 with ⟨h, _⟩ | h
    · omega
    · exact h
  refine T.skip (T.seq (T.seq (T.region ?_)))
  refine TO.quiet (QT.cast (q_move rfl) (v' := .int .i64 ((k0 : Nat) : Int)) (by show Value.int _ _ = _; rw [hik])) (TO.quiet (q_addN (a := k0) (b := 1) rfl rfl (by omega)) (TO.quiet (q_assign rfl) ?_))
  refine TO.nil (T.block ?_)
  refine T.loop (fun (j : Nat) ρ O => ∃ (ys : List Int) (i : Nat), O = ([rowI b c 3 1 (ints ys)] ++ OO) ∧ j ≤ xs.length ∧ i < j ∧ ys.length = xs.length ∧ ys.take i = (xs.take j).filter (fun x => !p x) ∧ (∀ q, j ≤ q → ys[q]? = xs[q]?) ∧ Heads [(0, (.slice b xs.length c)), (1, fv), (4, (.slice none 0 0)), (5, .int .i64 (i : Int)), (6, .int .i64 (j : Int))] ρ) (fun j => xs.length - j) (k0 + 1) ?_ ?_
  · refine ⟨xs, k0, rfl, by omega, by omega, rfl, ?_, fun q hq => rfl, ⟨rfl, rfl, rfl, by rw [← hik]; rfl, rfl, trivial⟩⟩
    rw [List.take_succ_eq_append_getElem hk0, List.filter_append, filter_any hpre]; simp [hpk]
  rintro j ρ O ⟨ys, i, rfl, hj, hij, hyl, hyt, hyr, hH⟩
  obtain ⟨ρ0, rfl⟩ := hH.elim
  clear hH
  have hgo := trivial
  refine T.have (φ := xs.length ≤ c) (fun w hI => by have := rowP.cap (hI.row (i := 0) rfl); rw [List.length_map, hyl] at this; exact this) (fun hcap => ?_)
  refine T.seq (T.seq (T.region ?_))
  refine TO.quiet (q_move rfl) (TO.quiet (q_move rfl) (TO.quiet (q_len Try.underlying22 rfl) (TO.quiet (q_lss rfl rfl) ?_)))
  refine TO.nil ?_
  refine T.condP rfl (fun hc => ?_) (fun hc => ?_)
  · have hlt19 : j < xs.length := by omega
    have hyg : ys[j]'(by omega) = xs[j] := by have h9 := hyr j (Nat.le_refl _); rw [List.getElem?_eq_getElem (by omega), List.getElem?_eq_getElem hlt19] at h9; exact Option.some.inj h9
    refine T.skip (T.seq (T.block (T.seq (T.region ?_))))
    refine TO.quiet (q_move rfl) (TO.quiet (q_move rfl) (TO.quiet (q_ix (i := j) Try.underlying22 inf3 rfl rfl (rowO (List.mem_of_getElem? (i := 0) rfl))) (TO.quiet (q_ld Try.underlying3 rfl rfl (rowO (List.mem_of_getElem? (i := 0) rfl)) (show (ints ys)[j]? = _ by rw [ints_get (by omega), hyg])) ?_)))
    refine TO.quiet (q_assign rfl) ?_
    refine TO.nil (T.seq (T.region ?_))
    refine TO.quiet (q_move rfl) (TO.quiet (q_move rfl) ?_)
    have hk28 := (show CallV Try.prog base fv [.int .i64 xs[j]] ([rowI b c 3 1 (ints ys)] ++ OO) (fun v O' => v = .bool (p xs[j]) ∧ O' = [rowI b c 3 1 (ints ys)] ++ OO) from (CallV.atR [rowI b c 3 1 (ints ys)] (hy xs[j] (List.getElem_mem hlt19))).mono (fun v O' ⟨A', e1, e2, e3⟩ => ⟨e2, by rw [e1, e3]⟩))
    refine TO.loud rfl (l_callG hk28 rfl rfl ?_)
    clear hk28
    rintro vr O' ⟨rfl, rfl⟩
    refine TO.quiet (q_not rfl) ?_
    refine TO.nil ?_
    refine T.cond rfl (fun hc => ?_) (fun hc => ?_)
    · refine T.seq ?_
      refine T.region ?_
      refine TO.quiet (q_move rfl) (TO.quiet (q_move rfl) (TO.quiet (q_move rfl) (TO.quiet (q_ix (i := i) Try.underlying22 inf3 rfl rfl (rowO (List.mem_of_getElem? (i := 0) rfl))) ?_)))
      refine TO.loud rfl (l_st (j := i) (v := .int .i64 xs[j]) (vs := [(.int .i64 xs[j])]) (cs := ints ys) 0 inf3 rfl rfl rfl rfl rfl (by simp) rfl (by first | (simp; omega) | (simp_all; omega)) ?_)
      refine TO.sub (O' := ([rowI b c 3 1 (ints (ys.set i xs[j]))] ++ OO)) (by rw [show putL (ints ys) i [(.int .i64 xs[j])] = ints (ys.set i xs[j]) from (by simp [putL])]; exact Sub.of (List.Sublist.refl _)) ?_
      refine TO.nil (T.region ?_)
      refine TO.quiet (q_move rfl) (TO.quiet (q_addN (a := i) (b := 1) rfl rfl (by omega)) (TO.quiet (q_assign rfl) ?_))
      refine TO.nil (T.region ?_)
      refine TO.quiet (q_move rfl) (TO.quiet (q_addN (a := j) (b := 1) rfl rfl (by omega)) (TO.quiet (q_assign rfl) ?_))
      refine TO.nil ?_
      refine ⟨j + 1, by omega, ys.set i xs[j], i + 1, rfl, by omega, by omega, by simp [hyl], ?_, fun q hq => by rw [List.getElem?_set_ne (by omega)]; exact hyr q (by omega), ⟨rfl, rfl, rfl, rfl, rfl, trivial⟩⟩
      rw [List.take_succ_eq_append_getElem hlt19, List.filter_append, ← hyt, List.take_succ_eq_append_getElem (by simp; omega), List.getElem_set_self, List.take_set_of_le (Nat.le_refl _)]
      have hpj : p xs[j] = false := by simpa using hc
      simp [hpj]
    refine T.skip (T.region ?_)
    refine TO.quiet (q_move rfl) (TO.quiet (q_addN (a := j) (b := 1) rfl rfl (by omega)) (TO.quiet (q_assign rfl) ?_))
    refine TO.nil ?_
    refine ⟨j + 1, by omega, ys, i, rfl, by omega, by omega, hyl, ?_, fun q hq => hyr q (by omega), ⟨rfl, rfl, rfl, rfl, rfl, trivial⟩⟩
    rw [List.take_succ_eq_append_getElem hlt19, List.filter_append, ← hyt]
    have hpj : p xs[j] = true := by simpa using hc
    simp [hpj]
  have hge19 : ¬ j < xs.length := by omega
  refine T.exit ?_
  refine T.seq ?_
  have hje : j = xs.length := by omega
  rw [hje, List.take_length] at hyt
  have hil : (xs.filter fun x => !p x).length = i := by rw [← hyt, List.length_take]; omega
  refine T.region ?_
  refine TO.quiet (q_move rfl) (TO.quiet (q_move rfl) (TO.quiet (q_sliceFrom (lo := i) Try.underlying22 inf3 rfl rfl (by omega) (by omega)) ?_))
  refine TO.loud rfl (l_clear (cs := ints ys) (lo := i) 0 Try.underlying22 inf3 rfl rfl (by rw [List.length_map, hyl]; rfl) rfl (by rw [List.length_map]; omega) ?_)
  refine TO.nil (T.seq (T.region ?_))
  refine TO.quiet (q_move rfl) (TO.quiet (q_move rfl) (TO.quiet (q_sliceTo (hi := i) Try.underlying22 inf3 rfl rfl (by omega)) (TO.quiet (q_assign rfl) ?_)))
  refine TO.nil (T.ret ?_)
  refine Res.one (.slice b i c) Try.results69 rfl ?_
  exact ⟨by rw [hil], by rw [← hyt, show ints (ys.take i) = (ints ys).take i from List.map_take]; rfl⟩
end Go.Proofs.Ytnamoapbienooaa

namespace Go.Proofs.Ytnamoapbienooaa
open Go.Lx Go.RowKit
set_option linter.unusedVariables false
set_option linter.unusedSimpArgs false
set_option maxHeartbeats 1000000 in
set_option maxRecDepth 20000 in
theorem checkF (w : World) (b : Bu) (sb eb tb : Option Addr) (sc ec tc : Nat) (vs : List Value) (h : BuAt w b sb eb tb vs) (hB : BuB b) :
    PureT Try.prog 21 [.agg (buCells b sb sc eb ec tb tc).toArray] w fun v N => v = .int .i64 (checkB b : Int) ∧ N = [] := by
  refine CallT.enter Try.func21 rfl Try.ntmps21 rfl ?_
  have hst := hB.st; have hed := hB.ed; have hse := hB.se
  have hR : RowsR w (.slice sb b.start.length sc :: vs) (b.start :: b.sets) := h.rows.cons h.st
  have hvl := h.rows.1
  refine T.seq (T.region ?_)
  refine TO.loud rfl (l_box (v := (.agg (buCells b sb sc eb ec tb tc).toArray)) (cs := (buCells b sb sc eb ec tb tc)) rfl rfl (fun bx1 => ?_))
  refine TO.quiet (q_assign rfl) ?_
  refine TO.nil (T.seq (T.block (T.seq (T.region ?_))))
  refine TO.quiet (q_fieldAddr Try.underlying26 rfl inf3 rfl rfl) (TO.quiet (q_load_box 0 Try.underlying3 rfl rfl rfl rfl) (TO.quiet (q_lss rfl rfl) ?_))
  by_cases hs11 : b.vars < 0
  · refine TO.quiet (QT.toB (q_move rfl) (decide_eq_true hs11)) ?_
    refine TO.passed rfl rfl ?_
    refine TO.passed rfl rfl ?_
    refine TO.passed rfl rfl ?_
    refine TO.quiet (q_pick1 rfl rfl) (TO.quiet (q_assign rfl) ?_)
    refine TO.nil ?_
    refine T.cond1 rfl ?_
    refine T.seq (T.region ?_)
    refine TO.quiet (q_assign rfl) ?_
    refine TO.nil (T.ret (Res.drop ?_))
    refine Res.one (.int .i64 7) Try.results21 rfl ?_
    refine ⟨[], Sub.of (List.nil_sublist _), congrArg (fun z : Nat => Value.int .i64 (z : Int)) (Eq.symm (a := checkB b) (b := 7) ?_), rfl⟩
    exact checkB_7 (by omega)
  refine TO.quiet (QT.toB (q_move rfl) (decide_eq_false hs11)) ?_
  refine TO.guarded rfl rfl rfl (LT.of_quiet rfl rfl (q_fieldAddr Try.underlying26 rfl inf3 rfl rfl) ?_)
  refine TO.guarded rfl rfl rfl (LT.of_quiet rfl rfl (q_load_box 0 Try.underlying3 rfl rfl rfl rfl) ?_)
  refine TO.guarded rfl rfl rfl (LT.of_quiet rfl rfl (q_gtr rfl rfl) ?_)
  refine TO.quiet (q_pick0 rfl rfl) (TO.quiet (q_assign rfl) ?_)
  refine TO.nil ?_
  refine T.condP rfl (fun hc => ?_) (fun hc => ?_)
  · refine T.seq ?_
    refine T.region ?_
    refine TO.quiet (q_assign rfl) ?_
    refine TO.nil (T.ret (Res.drop ?_))
    refine Res.one (.int .i64 7) Try.results21 rfl ?_
    refine ⟨[], Sub.of (List.nil_sublist _), congrArg (fun z : Nat => Value.int .i64 (z : Int)) (Eq.symm (a := checkB b) (b := 7) ?_), rfl⟩
    exact checkB_7 (by omega)
  refine T.seq (T.region ?_)
  refine TO.quiet (q_fieldAddr Try.underlying26 rfl inf3 rfl rfl) (TO.quiet (q_load_box 0 Try.underlying3 rfl rfl rfl rfl) (TO.quiet (q_lss rfl rfl) (TO.quiet (q_assign rfl) ?_)))
  refine TO.nil ?_
  refine T.condP rfl (fun hc => ?_) (fun hc => ?_)
  · refine T.seq ?_
    refine T.region ?_
    refine TO.quiet (q_assign rfl) ?_
    refine TO.nil (T.ret (Res.drop ?_))
    refine Res.one (.int .i64 1) Try.results21 rfl ?_
    refine ⟨[], Sub.of (List.nil_sublist _), congrArg (fun z : Nat => Value.int .i64 (z : Int)) (Eq.symm (a := checkB b) (b := 1) ?_), rfl⟩
    exact checkB_1 (by omega) (by omega)
  refine T.seq (T.region ?_)
  refine TO.quiet (q_fieldAddr Try.underlying26 rfl inf3 rfl rfl) (TO.quiet (q_load_box 0 Try.underlying3 rfl rfl rfl rfl) (TO.quiet (q_gtr rfl rfl) (TO.quiet (q_assign rfl) ?_)))
  refine TO.nil ?_
  refine T.condP rfl (fun hc => ?_) (fun hc => ?_)
  · refine T.seq ?_
    refine T.region ?_
    refine TO.quiet (q_assign rfl) ?_
    refine TO.nil (T.ret (Res.drop ?_))
    refine Res.one (.int .i64 10) Try.results21 rfl ?_
    refine ⟨[], Sub.of (List.nil_sublist _), congrArg (fun z : Nat => Value.int .i64 (z : Int)) (Eq.symm (a := checkB b) (b := 10) ?_), rfl⟩
    exact checkB_10 (by omega) (by omega) (by omega)
  refine T.seq (T.region ?_)
  refine TO.quiet (q_fieldAddr Try.underlying26 rfl inf24 rfl rfl) (TO.quiet (q_load_box 0 Try.underlying24 rfl rfl rfl rfl) (TO.quiet (q_len Try.underlying24 rfl) (TO.quiet (q_gtr rfl rfl) ?_)))
  refine TO.quiet (q_assign rfl) ?_
  refine TO.nil ?_
  refine T.condP rfl (fun hc => ?_) (fun hc => ?_)
  · have hlt24 : b.sets.length > 8 := by omega
    refine T.seq (T.region ?_)
    refine TO.quiet (q_assign rfl) ?_
    refine TO.nil (T.ret (Res.drop ?_))
    refine Res.one (.int .i64 4) Try.results21 rfl ?_
    refine ⟨[], Sub.of (List.nil_sublist _), congrArg (fun z : Nat => Value.int .i64 (z : Int)) (Eq.symm (a := checkB b) (b := 4) ?_), rfl⟩
    exact checkB_4 (by omega) (by omega) (by omega) (by omega)
  have hge24 : ¬ b.sets.length > 8 := by omega
  refine T.skip (T.seq (T.seq (T.region ?_)))
  refine TO.quiet (q_fieldAddr Try.underlying26 rfl inf22 rfl rfl) (TO.quiet (q_load_box 0 Try.underlying22 rfl rfl rfl rfl) ?_)
  refine TO.loud rfl (l_build1 (v := (.slice sb b.start.length sc)) Try.underlying24 inf22 rfl rfl rfl (fun bx2 => ?_))
  refine TO.quiet (q_fieldAddr Try.underlying26 rfl inf24 rfl rfl) (TO.quiet (q_load_box 1 Try.underlying24 rfl rfl rfl rfl) ?_)
  refine TO.loud rfl (l_append 0 Try.underlying24 Try.underlying24 inf22 rfl rfl rfl rfl (by simp) (by decide) (Src.sl h.out (by rw [hvl]; simp)) (RowsR.one h.rows) (by omega) (by decide) (by decide) (fun bx3 c4 => ?_))
  refine TO.quiet (q_len Try.underlying24 rfl) (TO.quiet (q_move rfl) ?_)
  refine TO.nil (T.block ?_)
  have hR1 : ∀ r ∈ b.start :: b.sets, r.length ≤ 1000000 := fun r hr => by
    rcases List.mem_cons.1 hr with rfl | hr
    · exact hst
    · exact hB.sr r hr
  refine T.loop (fun (k : Nat) ρ O => O = [rowI bx3 c4 22 1 ([(.slice sb b.start.length sc)] ++ vs), oI bx1 26 (buCells b sb sc eb ec tb tc)] ∧ k ≤ 1 + b.sets.length ∧ ((b.start :: b.sets).take k).all (rises b.states (-1)) = true ∧ Heads [(0, (.agg (buCells b sb sc eb ec tb tc).toArray)), (1, (.pointer (some ⟨bx1, 0, none⟩))), (7, .bool (decide (b.vars > 6))), (16, .bool (decide (b.states < 0))), (20, .bool (decide (b.states > 4096))), (24, .bool (decide ((b.sets.length : Int) > 8))), (34, (.slice bx3 (1 + b.sets.length) c4)), (35, .int .i64 (1 + b.sets.length : Int)), (36, .int .i64 (k : Int))] ρ) (fun k => (1 + b.sets.length) - k) 0 ?_ ?_
  · exact ⟨rfl, Nat.zero_le _, rfl, ⟨rfl, rfl, rfl, rfl, rfl, rfl, rfl, rfl, rfl, trivial⟩⟩
  rintro k ρ O ⟨rfl, hk, hall, hH⟩
  obtain ⟨ρ0, rfl⟩ := hH.elim
  clear hH
  refine T.seq (T.region ?_)
  refine TO.quiet (q_lss rfl rfl) ?_
  refine TO.nil (T.seq ?_)
  refine T.condP rfl (fun hc => ?_) (fun hc => ?_)
  · have hlt37 : k < 1 + b.sets.length := by omega
    have hkl : k < (b.start :: b.sets).length := by simp; omega
    obtain ⟨rb, rc, g1, s1⟩ := hR.get hkl
    refine T.skip (T.seq (T.block (T.seq (T.region ?_))))
    refine TO.quiet (q_ix (i := k) Try.underlying24 inf22 rfl rfl (rowO (List.mem_of_getElem? (i := 0) rfl)) (by first | assumption | omega | (simp; omega) | simp_all) (by show k < (Value.slice sb b.start.length sc :: vs).length; rw [hR.1]; exact hkl)) (TO.quiet (q_ld Try.underlying22 rfl rfl (rowO (List.mem_of_getElem? (i := 0) rfl)) g1) (TO.quiet (q_assign rfl) ?_))
    refine TO.nil (T.seq (T.region ?_))
    refine TO.quiet (q_move rfl) (TO.quiet (q_fieldAddr Try.underlying26 rfl inf3 rfl rfl) (TO.quiet (q_load_box 1 Try.underlying3 rfl rfl rfl rfl) ?_))
    have hk43 := fun (w1 : World) (hI : Inv w [rowI bx3 c4 22 1 ([(.slice sb b.start.length sc)] ++ vs), oI bx1 26 (buCells b sb sc eb ec tb tc)] w1) => statesF w1 rb rc (b.start :: b.sets)[k] b.states (hI.sl s1) (hR1 _ (List.getElem_mem hkl))
    refine TO.loud rfl (l_call ent64 (CallT.of_pure hk43) rfl ?_)
    clear hk43
    rintro vr O' ⟨N, rfl, rfl, rfl⟩
    refine TO.quiet (q_not rfl) ?_
    refine TO.nil ?_
    refine T.cond rfl (fun hc => ?_) (fun hc => ?_)
    · refine T.seq ?_
      refine T.region ?_
      refine TO.quiet (q_assign rfl) ?_
      refine TO.nil (T.ret (Res.drop ?_))
      refine Res.one (.int .i64 8) Try.results21 rfl ?_
      refine ⟨[], Sub.of (List.nil_sublist _), congrArg (fun z : Nat => Value.int .i64 (z : Int)) (Eq.symm (a := checkB b) (b := 8) ?_), rfl⟩
      exact checkB_8 (by omega) (by omega) (by omega) (by omega) (all_no hkl (by simpa using hc))
    refine T.skip (T.region ?_)
    refine TO.quiet (q_addN (a := k) (b := 1) rfl rfl (by omega)) (TO.quiet (q_move rfl) ?_)
    refine TO.nil ?_
    exact ⟨k + 1, by omega, rfl, by omega, all_snoc hkl hall (by simpa using hc), ⟨rfl, rfl, rfl, rfl, rfl, rfl, rfl, rfl, rfl, trivial⟩⟩
  have hge37 : ¬ k < 1 + b.sets.length := by omega
  refine T.exit ?_
  refine T.seq (T.seq (T.region ?_))
  refine TO.quiet (q_fieldAddr Try.underlying26 rfl inf23 rfl rfl) (TO.quiet (q_load_box 1 Try.underlying23 rfl rfl rfl rfl) (TO.quiet (q_len Try.underlying23 rfl) (TO.quiet (q_move rfl) ?_)))
  refine TO.nil (T.block ?_)
  refine T.sub (O' := [oI bx1 26 (buCells b sb sc eb ec tb tc)]) (Sub.pick [1] rfl) ?_
  refine T.loopS (fun (j : Nat) ρ O => O = [oI bx1 26 (buCells b sb sc eb ec tb tc)] ∧ j ≤ b.edges.length ∧ edgesE b.states b.vars.toNat (b.edges.drop j) = checkB b ∧ Heads [(0, (.agg (buCells b sb sc eb ec tb tc).toArray)), (1, (.pointer (some ⟨bx1, 0, none⟩))), (7, .bool (decide (b.vars > 6))), (16, .bool (decide (b.states < 0))), (20, .bool (decide (b.states > 4096))), (24, .bool (decide ((b.sets.length : Int) > 8))), (47, (.slice eb b.edges.length ec)), (48, .int .i64 (b.edges.length : Int)), (49, .int .i64 (j : Int))] ρ) (fun j => b.edges.length - j) 0 ?_ ?_
  · exact ⟨rfl, Nat.zero_le _, (checkB_e (by omega) (by omega) (by omega) (by omega) (all_done (by simp; omega) hall)).symm, ⟨rfl, rfl, rfl, rfl, rfl, rfl, rfl, rfl, rfl, trivial⟩⟩
  rintro j ρ O ⟨rfl, hj, he, hH⟩
  obtain ⟨ρ0, rfl⟩ := hH.elim
  clear hH
  refine T.seq (T.region ?_)
  refine TO.quiet (q_lss rfl rfl) ?_
  refine TO.nil (T.seq ?_)
  refine T.condP rfl (fun hc => ?_) (fun hc => ?_)
  · have hlt50 : j < b.edges.length := by omega
    have hpn := hB.pn _ (List.getElem_mem hlt50)
    refine T.skip (T.seq (T.block (T.seq (T.region ?_))))
    refine TO.quiet (q_ixK (i := j) Try.underlying23 inf54 rfl rfl (Sl.o h.ed) (by first | assumption | omega | (simp; omega) | simp_all) (by first | (rw [eds_len]; omega) | (simp [eds_len]; omega) | (simp_all [eds_len]; omega))) (TO.quiet (q_ldK (vs := [.int .i64 b.edges[j].fr, .int .i64 b.edges[j].to, .int .u8 ((b.edges[j].pos : Nat) : Int), .int .u8 ((b.edges[j].neg : Nat) : Int)]) Try.underlying54 rfl inf54 rfl rfl (Nat.succ_pos _) (Sl.o h.ed) (eds_get (by first | assumption | omega | (simp; omega) | simp_all))) ?_)
    refine TO.loud rfl (l_alloc inf54 rfl (fun bx5 => ?_))
    refine TO.loud rfl (l_store_box (v := (.agg #[.int .i64 b.edges[j].fr, .int .i64 b.edges[j].to, .int .u8 ((b.edges[j].pos : Nat) : Int), .int .u8 ((b.edges[j].neg : Nat) : Int)])) (vs := [.int .i64 b.edges[j].fr, .int .i64 b.edges[j].to, .int .u8 ((b.edges[j].pos : Nat) : Int), .int .u8 ((b.edges[j].neg : Nat) : Int)]) 0 inf54 rfl rfl rfl rfl rfl rfl (by simp [putL]) ?_)
    refine TO.nil (T.block (T.seq (T.region ?_)))
    refine TO.quiet (q_fieldAddr Try.underlying54 rfl inf3 rfl rfl) (TO.quiet (q_load_box 0 Try.underlying3 rfl rfl rfl rfl) (TO.quiet (q_lss rfl rfl) ?_))
    by_cases hs57 : b.edges[j].fr < 0
    · refine TO.quiet (QT.toB (q_move rfl) (decide_eq_true hs57)) ?_
      refine TO.passed rfl rfl ?_
      refine TO.passed rfl rfl ?_
      refine TO.passed rfl rfl ?_
      refine TO.passed rfl rfl ?_
      refine TO.passed rfl rfl ?_
      refine TO.quiet (q_pick1 rfl rfl) (TO.quiet (q_move rfl) ?_)
      refine TO.passed rfl rfl ?_
      refine TO.passed rfl rfl ?_
      refine TO.passed rfl rfl ?_
      refine TO.quiet (q_pick1 rfl rfl) (TO.quiet (q_move rfl) ?_)
      refine TO.passed rfl rfl ?_
      refine TO.passed rfl rfl ?_
      refine TO.passed rfl rfl ?_
      refine TO.passed rfl rfl ?_
      refine TO.passed rfl rfl ?_
      refine TO.quiet (q_pick1 rfl rfl) (TO.quiet (q_assign rfl) ?_)
      refine TO.nil ?_
      refine T.cond1 rfl ?_
      refine T.seq (T.region ?_)
      refine TO.quiet (q_assign rfl) ?_
      refine TO.nil (T.ret (Res.drop ?_))
      refine Res.one (.int .i64 8) Try.results21 rfl ?_
      refine ⟨[], Sub.of (List.nil_sublist _), congrArg (fun z : Nat => Value.int .i64 (z : Int)) (Eq.symm (a := checkB b) (b := 8) ?_), rfl⟩
      rw [← he]; exact edges_8 hlt50 (by omega)
    refine TO.quiet (QT.toB (q_move rfl) (decide_eq_false hs57)) ?_
    refine TO.guarded rfl rfl rfl (LT.of_quiet rfl rfl (q_fieldAddr Try.underlying54 rfl inf3 rfl rfl) ?_)
    refine TO.guarded rfl rfl rfl (LT.of_quiet rfl rfl (q_load_box 0 Try.underlying3 rfl rfl rfl rfl) ?_)
    refine TO.guarded rfl rfl rfl (LT.of_quiet rfl rfl (q_fieldAddr Try.underlying26 rfl inf3 rfl rfl) ?_)
    refine TO.guarded rfl rfl rfl (LT.of_quiet rfl rfl (q_load_box 1 Try.underlying3 rfl rfl rfl rfl) ?_)
    refine TO.guarded rfl rfl rfl (LT.of_quiet rfl rfl (q_geq rfl rfl) ?_)
    refine TO.quiet (q_pick0 rfl rfl) ?_
    by_cases hs64 : b.edges[j].fr ≥ b.states
    · refine TO.quiet (QT.toB (q_move rfl) (decide_eq_true hs64)) ?_
      refine TO.passed rfl rfl ?_
      refine TO.passed rfl rfl ?_
      refine TO.passed rfl rfl ?_
      refine TO.quiet (q_pick1 rfl rfl) (TO.quiet (q_move rfl) ?_)
      refine TO.passed rfl rfl ?_
      refine TO.passed rfl rfl ?_
      refine TO.passed rfl rfl ?_
      refine TO.passed rfl rfl ?_
      refine TO.passed rfl rfl ?_
      refine TO.quiet (q_pick1 rfl rfl) (TO.quiet (q_assign rfl) ?_)
      refine TO.nil ?_
      refine T.cond1 rfl ?_
      refine T.seq (T.region ?_)
      refine TO.quiet (q_assign rfl) ?_
      refine TO.nil (T.ret (Res.drop ?_))
      refine Res.one (.int .i64 8) Try.results21 rfl ?_
      refine ⟨[], Sub.of (List.nil_sublist _), congrArg (fun z : Nat => Value.int .i64 (z : Int)) (Eq.symm (a := checkB b) (b := 8) ?_), rfl⟩
      rw [← he]; exact edges_8 hlt50 (by omega)
    refine TO.quiet (QT.toB (q_move rfl) (decide_eq_false hs64)) ?_
    refine TO.guarded rfl rfl rfl (LT.of_quiet rfl rfl (q_fieldAddr Try.underlying54 rfl inf3 rfl rfl) ?_)
    refine TO.guarded rfl rfl rfl (LT.of_quiet rfl rfl (q_load_box 0 Try.underlying3 rfl rfl rfl rfl) ?_)
    refine TO.guarded rfl rfl rfl (LT.of_quiet rfl rfl (q_lss rfl rfl) ?_)
    refine TO.quiet (q_pick0 rfl rfl) ?_
    by_cases hs69 : b.edges[j].to < 0
    · refine TO.quiet (QT.toB (q_move rfl) (decide_eq_true hs69)) ?_
      refine TO.passed rfl rfl ?_
      refine TO.passed rfl rfl ?_
      refine TO.passed rfl rfl ?_
      refine TO.passed rfl rfl ?_
      refine TO.passed rfl rfl ?_
      refine TO.quiet (q_pick1 rfl rfl) (TO.quiet (q_assign rfl) ?_)
      refine TO.nil ?_
      refine T.cond1 rfl ?_
      refine T.seq (T.region ?_)
      refine TO.quiet (q_assign rfl) ?_
      refine TO.nil (T.ret (Res.drop ?_))
      refine Res.one (.int .i64 8) Try.results21 rfl ?_
      refine ⟨[], Sub.of (List.nil_sublist _), congrArg (fun z : Nat => Value.int .i64 (z : Int)) (Eq.symm (a := checkB b) (b := 8) ?_), rfl⟩
      rw [← he]; exact edges_8 hlt50 (by omega)
    refine TO.quiet (QT.toB (q_move rfl) (decide_eq_false hs69)) ?_
    refine TO.guarded rfl rfl rfl (LT.of_quiet rfl rfl (q_fieldAddr Try.underlying54 rfl inf3 rfl rfl) ?_)
    refine TO.guarded rfl rfl rfl (LT.of_quiet rfl rfl (q_load_box 0 Try.underlying3 rfl rfl rfl rfl) ?_)
    refine TO.guarded rfl rfl rfl (LT.of_quiet rfl rfl (q_fieldAddr Try.underlying26 rfl inf3 rfl rfl) ?_)
    refine TO.guarded rfl rfl rfl (LT.of_quiet rfl rfl (q_load_box 1 Try.underlying3 rfl rfl rfl rfl) ?_)
    refine TO.guarded rfl rfl rfl (LT.of_quiet rfl rfl (q_geq rfl rfl) ?_)
    refine TO.quiet (q_pick0 rfl rfl) (TO.quiet (q_assign rfl) ?_)
    refine TO.nil ?_
    refine T.condP rfl (fun hc => ?_) (fun hc => ?_)
    · refine T.seq ?_
      refine T.region ?_
      refine TO.quiet (q_assign rfl) ?_
      refine TO.nil (T.ret (Res.drop ?_))
      refine Res.one (.int .i64 8) Try.results21 rfl ?_
      refine ⟨[], Sub.of (List.nil_sublist _), congrArg (fun z : Nat => Value.int .i64 (z : Int)) (Eq.symm (a := checkB b) (b := 8) ?_), rfl⟩
      rw [← he]; exact edges_8 hlt50 (by omega)
    refine T.seq ?_
    refine T.draws _ [(0, 0), (1, 0), (2, 0), (3, 0), (4, 0), (5, 0), (6, 0), (7, 0), (8, 0), (9, 0), (10, 0), (11, 0), (12, 0), (13, 0), (14, 0), (15, 0), (16, 0), (17, 0), (18, 0)] mixed (by kernel_rfl) (Sub.of (List.Sublist.refl _)) (fun _ _ _ h => h) ?_
    refine DO.quiet rfl (q_fieldAddr Try.underlying54 rfl inf5 rfl rfl) (DO.quiet rfl (q_load_box 0 Try.underlying5 rfl rfl rfl rfl) (DO.quiet rfl (q_fieldAddr Try.underlying54 rfl inf5 rfl rfl) (DO.quiet rfl (q_load_box 0 Try.underlying5 rfl rfl rfl rfl) ?_)))
    refine DO.quiet rfl (q_or (a := b.edges[j].pos) (b := b.edges[j].neg) .u8 rfl rfl (by show _ < 256; omega) (by show _ < 256; omega)) (DO.quiet rfl (q_conv_id Try.underlying5 Try.underlying3 rfl (wrap64_id ⟨by omega, by have := Nat.or_lt_two_pow (n := 8) hpn.1 hpn.2; omega⟩)) (DO.quiet rfl (q_fieldAddr Try.underlying26 rfl inf3 rfl rfl) (DO.quiet rfl (q_load_box 1 Try.underlying3 rfl rfl rfl rfl) ?_)))
    refine DO.quiet rfl (q_shl1 (v := b.vars.toNat) rfl (by show Value.int _ b.vars = _; rw [Int.toNat_of_nonneg (by omega)]) (by omega)) (DO.quiet rfl (q_geq rfl rfl) ?_)
    by_cases hs87 : ((b.edges[j].pos ||| b.edges[j].neg : Nat) : Int) ≥ ((2 ^ b.vars.toNat : Nat) : Int)
    · refine DO.quiet rfl (QT.toB (q_move rfl) (decide_eq_true hs87)) ?_
      refine DO.passed rfl rfl rfl ?_
      refine DO.passed rfl rfl rfl ?_
      refine DO.passed rfl rfl rfl ?_
      refine DO.passed rfl rfl rfl ?_
      refine DO.passed rfl rfl rfl ?_
      refine DO.passed rfl rfl rfl ?_
      refine DO.quiet rfl (q_pick1 rfl rfl) (DO.quiet rfl (q_assign rfl) ?_)
      refine DO.done ?_
      refine T.cond1 rfl ?_
      refine T.seq (T.region ?_)
      refine TO.quiet (q_assign rfl) ?_
      refine TO.nil (T.ret (Res.drop ?_))
      refine Res.one (.int .i64 1) Try.results21 rfl ?_
      refine ⟨[], Sub.of (List.nil_sublist _), congrArg (fun z : Nat => Value.int .i64 (z : Int)) (Eq.symm (a := checkB b) (b := 1) ?_), rfl⟩
      rw [← he]; exact edges_1 hlt50 (by omega) (fun q => by have := or_lt.2 ⟨q.1, q.2.1⟩; have := q.2.2; omega)
    refine DO.quiet rfl (QT.toB (q_move rfl) (decide_eq_false hs87)) ?_
    refine DO.guarded rfl rfl rfl (q_fieldAddr Try.underlying54 rfl inf5 rfl rfl) ?_
    refine DO.guarded rfl rfl rfl (q_load_box 0 Try.underlying5 rfl rfl rfl rfl) ?_
    refine DO.guarded rfl rfl rfl (q_fieldAddr Try.underlying54 rfl inf5 rfl rfl) ?_
    refine DO.guarded rfl rfl rfl (q_load_box 0 Try.underlying5 rfl rfl rfl rfl) ?_
    refine DO.guarded rfl rfl rfl (q_and (a := b.edges[j].pos) (b := b.edges[j].neg) .u8 rfl rfl (by show _ < 256; omega) (by show _ < 256; omega)) ?_
    refine DO.guarded rfl rfl rfl (q_neq rfl rfl) ?_
    refine DO.quiet rfl (q_pick0 rfl rfl) (DO.quiet rfl (q_assign rfl) ?_)
    refine DO.done ?_
    refine T.condP rfl (fun hc => ?_) (fun hc => ?_)
    · have hlt76 : b.edges[j].pos &&& b.edges[j].neg ≠ 0 := by omega
      refine T.seq (T.region ?_)
      refine TO.quiet (q_assign rfl) ?_
      refine TO.nil (T.ret (Res.drop ?_))
      refine Res.one (.int .i64 1) Try.results21 rfl ?_
      refine ⟨[], Sub.of (List.nil_sublist _), congrArg (fun z : Nat => Value.int .i64 (z : Int)) (Eq.symm (a := checkB b) (b := 1) ?_), rfl⟩
      rw [← he]; exact edges_1 hlt50 (by omega) (fun q => by have := or_lt.2 ⟨q.1, q.2.1⟩; have := q.2.2; omega)
    have hge76 : ¬ b.edges[j].pos &&& b.edges[j].neg ≠ 0 := by omega
    refine T.skip (T.region ?_)
    refine TO.quiet (q_addN (a := j) (b := 1) rfl rfl (by omega)) (TO.quiet (q_move rfl) ?_)
    refine TO.nil ?_
    have hpl : b.edges[j].pos ||| b.edges[j].neg < 2 ^ b.vars.toNat := by omega
    exact ⟨j + 1, by omega, [oI bx1 26 (buCells b sb sc eb ec tb tc)], (Sub.pick [1] rfl), rfl, by omega, by rw [← he, edges_0 hlt50 (by omega) ⟨(or_lt.1 hpl).1, (or_lt.1 hpl).2, by omega⟩], ⟨rfl, rfl, rfl, rfl, rfl, rfl, rfl, rfl, rfl, trivial⟩⟩
  have hge50 : ¬ j < b.edges.length := by omega
  refine T.exit ?_
  refine T.seq (T.region ?_)
  refine TO.quiet (q_assign rfl) ?_
  refine TO.nil (T.ret (Res.drop ?_))
  refine Res.one (.int .i64 0) Try.results21 rfl ?_
  refine ⟨[], Sub.of (List.nil_sublist _), congrArg (fun z : Nat => Value.int .i64 (z : Int)) (Eq.symm (a := checkB b) (b := 0) ?_), rfl⟩
  rw [← he, List.drop_eq_nil_of_le (by omega)]; rfl
end Go.Proofs.Ytnamoapbienooaa

namespace Go.Proofs.Ytnamoapbienooaa
open Go.Lx Go.RowKit
set_option linter.unusedVariables false
set_option linter.unusedSimpArgs false
abbrev tarO (nb mb : Option Addr) (nc mn mc : Nat) (full : Int) (nx : List (List Int)) (xc xi xl xs xg xv xp xn : Nat) (ib lb pb : Option Addr) (ic lc pc : Nat) (s : TL) (sb : Option Addr) (sc : Nat) : List Lx.Item := [objI xc (.cells (List.toArray [(.int .i64 (s.clk : Int))]) 3 (0, 0)), objI xi (.cells (List.toArray [(.slice ib nx.length ic)]) 22 (0, 0)), objI xl (.cells (List.toArray [(.slice lb nx.length lc)]) 22 (0, 0)), objI xs (.cells (List.toArray [(.slice sb s.stk.length sc)]) 22 (0, 0)), objI xg (.cells (List.toArray [(.slice nb nx.length nc), (.slice mb mn mc), .int .u64 full]) 79 (0, 0)), objI xv (.cells (List.toArray [(.func (.func 107) #[] #[(.pointer (some ⟨xc, 0, none⟩)), (.pointer (some ⟨xi, 0, none⟩)), (.pointer (some ⟨xl, 0, none⟩)), (.pointer (some ⟨xs, 0, none⟩)), (.pointer (some ⟨xg, 0, none⟩)), (.pointer (some ⟨xv, 0, none⟩)), (.pointer (some ⟨xp, 0, none⟩)), (.pointer (some ⟨xn, 0, none⟩))])]) 104 (0, 0)), objI xp (.cells (List.toArray [(.slice pb nx.length pc)]) 22 (0, 0)), objI xn (.cells (List.toArray [(.int .i64 (s.cnt : Int))]) 3 (0, 0)), rowI ib ic 3 1 (nats s.idx), rowI lb lc 3 1 (nats s.low), rowI sb sc 3 1 (nats s.stk), rowI pb pc 3 1 (ints s.comp)]
set_option maxHeartbeats 1000000 in
set_option maxRecDepth 20000 in
theorem visitF (base : World) (nb mb : Option Addr) (nc mn mc : Nat) (full : Int) (vs : List Value) (nx : List (List Int)) (hS : Sl base nb vs) (hR : RowsR base vs nx) (hn : nx.length ≤ 1000000) (hrl : ∀ r ∈ nx, r.length ≤ 1000000) (hval : ∀ r ∈ nx, ∀ x ∈ r, 0 ≤ x ∧ x < (nx.length : Int)) (xc xi xl xs xg xv xp xn : Nat) (ib lb pb : Option Addr) (ic lc pc : Nat) :
    ∀ (m : Nat) (s : TL) (sb : Option Addr) (sc : Nat) (gray : List Nat) (v : Nat) (hm : s.idx.count 0 = m) (hok : TLok nx.length s) (h0 : TInv nx.length (adjE nx) gray s.ts) (hv : v < nx.length) (hv0 : s.idx[v]'(by rw [hok.li]; exact hv) = 0) (hg : ∀ g ∈ gray, Rch (adjE nx) g v),
    CallT Try.prog base 107 [.int .i64 (v : Int), (.pointer (some ⟨xc, 0, none⟩)), (.pointer (some ⟨xi, 0, none⟩)), (.pointer (some ⟨xl, 0, none⟩)), (.pointer (some ⟨xs, 0, none⟩)), (.pointer (some ⟨xg, 0, none⟩)), (.pointer (some ⟨xv, 0, none⟩)), (.pointer (some ⟨xp, 0, none⟩)), (.pointer (some ⟨xn, 0, none⟩))] (tarO nb mb nc mn mc full nx xc xi xl xs xg xv xp xn ib lb pb ic lc pc s sb sc) (fun _ O' => ∃ s' sb' sc' t, O' = tarO nb mb nc mn mc full nx xc xi xl xs xg xv xp xn ib lb pb ic lc pc s' sb' sc' ∧ VDone nx.length nx gray s v s' t) := by
  intro m
  induction m using Nat.strongRecOn with
  | _ m ih => ?_
  intro s sb sc gray v hm hok h0 hv hv0 hg
  refine CallT.enter Try.func107 rfl Try.ntmps107 rfl ?_
  have hli := hok.li; have hll := hok.ll; have hlc := hok.lc; have hck := hok.ck; have hsk := hok.sk
  obtain ⟨rb, rc, g1, s1⟩ := hR.get hv
  have hrv := hrl _ (List.getElem_mem hv)
  refine T.seq (T.region ?_)
  refine TO.quiet (q_load_box 0 Try.underlying3 rfl rfl rfl rfl) (TO.quiet (q_addN (a := s.clk) (b := 1) rfl rfl (by omega)) ?_)
  refine TO.loud rfl (l_store_box (v := .int .i64 ((s.clk + 1 : Nat) : Int)) (vs := [(.int .i64 ((s.clk + 1 : Nat) : Int))]) 0 inf3 rfl rfl rfl rfl rfl rfl (by simp [putL]) ?_)
  refine TO.nil (T.seq ?_)
  refine T.draws2 [oI xc 3 [(.int .i64 ((s.clk + 1 : Nat) : Int))], oI xi 22 [(.slice ib nx.length ic)], oI xl 22 [(.slice lb nx.length lc)], oI xs 22 [(.slice sb s.stk.length sc)], oI xg 79 [(.slice nb nx.length nc), (.slice mb mn mc), .int .u64 full], oI xv 104 [(.func (.func 107) #[] #[(.pointer (some ⟨xc, 0, none⟩)), (.pointer (some ⟨xi, 0, none⟩)), (.pointer (some ⟨xl, 0, none⟩)), (.pointer (some ⟨xs, 0, none⟩)), (.pointer (some ⟨xg, 0, none⟩)), (.pointer (some ⟨xv, 0, none⟩)), (.pointer (some ⟨xp, 0, none⟩)), (.pointer (some ⟨xn, 0, none⟩))])], oI xp 22 [(.slice pb nx.length pc)], oI xn 3 [(.int .i64 (s.cnt : Int))], rowI lb lc 3 1 (nats s.low), rowI sb sc 3 1 (nats s.stk), rowI pb pc 3 1 (ints s.comp)] [oI xc 3 [(.int .i64 ((s.clk + 1 : Nat) : Int))], oI xi 22 [(.slice ib nx.length ic)], oI xl 22 [(.slice lb nx.length lc)], oI xs 22 [(.slice sb s.stk.length sc)], oI xg 79 [(.slice nb nx.length nc), (.slice mb mn mc), .int .u64 full], oI xv 104 [(.func (.func 107) #[] #[(.pointer (some ⟨xc, 0, none⟩)), (.pointer (some ⟨xi, 0, none⟩)), (.pointer (some ⟨xl, 0, none⟩)), (.pointer (some ⟨xs, 0, none⟩)), (.pointer (some ⟨xg, 0, none⟩)), (.pointer (some ⟨xv, 0, none⟩)), (.pointer (some ⟨xp, 0, none⟩)), (.pointer (some ⟨xn, 0, none⟩))])], oI xp 22 [(.slice pb nx.length pc)], oI xn 3 [(.int .i64 (s.cnt : Int))], rowI ib ic 3 1 (nats s.idx), rowI lb lc 3 1 (nats s.low), rowI sb sc 3 1 (nats s.stk), rowI pb pc 3 1 (ints s.comp)] [(0, 0), (1, 0), (2, 0), (3, 0), (4, 0), (5, 0), (6, 3), (7, 4), (8, 0), (9, 2)] mixed (by kernel_rfl) (Sub.pick [0, 0, 0, 0, 0, 0, 0, 0, 1, 1, 1] rfl) (Sub.pick [0, 0, 0, 0, 0, 0, 0, 0, 0, 0, 0, 0] rfl) (fun _ _ _ h => h) ?_
  refine DO.quiet rfl (q_load_box 1 Try.underlying22 rfl rfl rfl rfl) (DO.quiet rfl (q_move rfl) (DO.quiet rfl (q_load_box 2 Try.underlying22 rfl rfl rfl rfl) (DO.quiet rfl (q_move rfl) ?_)))
  refine DO.quiet rfl (q_load_box 0 Try.underlying3 rfl rfl rfl rfl) (DO.quiet rfl (q_load_box 0 Try.underlying3 rfl rfl rfl rfl) ?_)
  refine DO.quiet2 rfl (q_ix (i := v) Try.underlying22 inf3 rfl rfl (rowO (List.mem_of_getElem? (i := 8) rfl))) ?_
  refine DO.last2 rfl rfl (l_st (j := v) (v := (.int .i64 ((s.clk + 1 : Nat) : Int))) (vs := [(.int .i64 ((s.clk + 1 : Nat) : Int))]) (cs := nats s.idx) 8 inf3 rfl rfl rfl rfl rfl (by simp) rfl (by first | (simp; omega) | (simp_all; omega)) ⟨Sub.pick [0, 0, 0, 0, 0, 0, 0, 0, 1, 1, 1] rfl, ?_⟩)
  refine DO.sub (O' := [oI xc 3 [(.int .i64 ((s.clk + 1 : Nat) : Int))], oI xi 22 [(.slice ib nx.length ic)], oI xl 22 [(.slice lb nx.length lc)], oI xs 22 [(.slice sb s.stk.length sc)], oI xg 79 [(.slice nb nx.length nc), (.slice mb mn mc), .int .u64 full], oI xv 104 [(.func (.func 107) #[] #[(.pointer (some ⟨xc, 0, none⟩)), (.pointer (some ⟨xi, 0, none⟩)), (.pointer (some ⟨xl, 0, none⟩)), (.pointer (some ⟨xs, 0, none⟩)), (.pointer (some ⟨xg, 0, none⟩)), (.pointer (some ⟨xv, 0, none⟩)), (.pointer (some ⟨xp, 0, none⟩)), (.pointer (some ⟨xn, 0, none⟩))])], oI xp 22 [(.slice pb nx.length pc)], oI xn 3 [(.int .i64 (s.cnt : Int))], rowI ib ic 3 1 (nats (s.idx.set v (s.clk + 1))), rowI lb lc 3 1 (nats s.low), rowI sb sc 3 1 (nats s.stk), rowI pb pc 3 1 (ints s.comp)]) (by rw [show putL (nats s.idx) v [(.int .i64 ((s.clk + 1 : Nat) : Int))] = nats (s.idx.set v (s.clk + 1)) from (by simp [putL])]; exact Sub.of (List.Sublist.refl _)) ?_
  refine DO.quiet rfl (q_ix (i := v) Try.underlying22 inf3 rfl rfl (rowO (List.mem_of_getElem? (i := 8) rfl))) ?_
  refine DO.last rfl rfl (l_st (j := v) (v := (.int .i64 ((s.clk + 1 : Nat) : Int))) (vs := [(.int .i64 ((s.clk + 1 : Nat) : Int))]) (cs := nats s.low) 9 inf3 rfl rfl rfl rfl rfl (by simp) rfl (by first | (simp; omega) | (simp_all; omega)) ?_)
  refine DO.sub (O' := [oI xc 3 [(.int .i64 ((s.clk + 1 : Nat) : Int))], oI xi 22 [(.slice ib nx.length ic)], oI xl 22 [(.slice lb nx.length lc)], oI xs 22 [(.slice sb s.stk.length sc)], oI xg 79 [(.slice nb nx.length nc), (.slice mb mn mc), .int .u64 full], oI xv 104 [(.func (.func 107) #[] #[(.pointer (some ⟨xc, 0, none⟩)), (.pointer (some ⟨xi, 0, none⟩)), (.pointer (some ⟨xl, 0, none⟩)), (.pointer (some ⟨xs, 0, none⟩)), (.pointer (some ⟨xg, 0, none⟩)), (.pointer (some ⟨xv, 0, none⟩)), (.pointer (some ⟨xp, 0, none⟩)), (.pointer (some ⟨xn, 0, none⟩))])], oI xp 22 [(.slice pb nx.length pc)], oI xn 3 [(.int .i64 (s.cnt : Int))], rowI ib ic 3 1 (nats (s.idx.set v (s.clk + 1))), rowI lb lc 3 1 (nats (s.low.set v (s.clk + 1))), rowI sb sc 3 1 (nats s.stk), rowI pb pc 3 1 (ints s.comp)]) (by rw [show putL (nats s.low) v [(.int .i64 ((s.clk + 1 : Nat) : Int))] = nats (s.low.set v (s.clk + 1)) from (by simp [putL])]; exact Sub.of (List.Sublist.refl _)) ?_
  refine DO.done ?_
  refine T.seq (T.region ?_)
  refine TO.quiet (q_load_box 3 Try.underlying22 rfl rfl rfl rfl) (TO.quiet (q_move rfl) ?_)
  refine TO.loud rfl (l_build1 (v := .int .i64 (v : Int)) Try.underlying22 inf3 rfl rfl rfl (fun bx1 => ?_))
  refine TO.loud rfl (l_append 11 Try.underlying22 Try.underlying22 inf3 rfl rfl rfl rfl (by simp) (by decide) (Src.row (j := 0) rfl (by simp)) (by simp [oneB]) (by omega) (by decide) (by decide) (fun bx2 c3 => ?_))
  refine TO.loud rfl (l_store_box (v := (.slice bx2 (s.stk.length + 1) c3)) (vs := [(.slice bx2 (s.stk.length + 1) c3)]) 4 inf22 rfl rfl rfl rfl rfl rfl (by simp [putL]) ?_)
  refine TO.sub (O' := [oI xc 3 [(.int .i64 ((s.clk + 1 : Nat) : Int))], oI xi 22 [(.slice ib nx.length ic)], oI xl 22 [(.slice lb nx.length lc)], oI xs 22 [(.slice bx2 (s.stk.length + 1) c3)], oI xg 79 [(.slice nb nx.length nc), (.slice mb mn mc), .int .u64 full], oI xv 104 [(.func (.func 107) #[] #[(.pointer (some ⟨xc, 0, none⟩)), (.pointer (some ⟨xi, 0, none⟩)), (.pointer (some ⟨xl, 0, none⟩)), (.pointer (some ⟨xs, 0, none⟩)), (.pointer (some ⟨xg, 0, none⟩)), (.pointer (some ⟨xv, 0, none⟩)), (.pointer (some ⟨xp, 0, none⟩)), (.pointer (some ⟨xn, 0, none⟩))])], oI xp 22 [(.slice pb nx.length pc)], oI xn 3 [(.int .i64 (s.cnt : Int))], rowI ib ic 3 1 (nats (s.idx.set v (s.clk + 1))), rowI lb lc 3 1 (nats (s.low.set v (s.clk + 1))), rowI bx2 c3 3 1 ((nats s.stk) ++ [.int .i64 (v : Int)]), rowI pb pc 3 1 (ints s.comp)]) (Sub.pick [1, 1, 1, 1, 1, 1, 1, 1, 1, 1, 1, 1] rfl) ?_
  refine TO.nil (T.seq (T.seq (T.region ?_)))
  refine TO.quiet (q_fieldAddr Try.underlying79 rfl inf24 rfl rfl) (TO.quiet (q_load_box 4 Try.underlying24 rfl rfl rfl rfl) (TO.quiet (q_move rfl) (TO.quiet (q_ix (i := v) Try.underlying24 inf22 rfl rfl (Sl.o hS) (by first | assumption | omega | (simp; omega) | simp_all) (by rw [hR.1]; exact hv)) ?_)))
  refine TO.quiet (q_ld Try.underlying22 rfl rfl (Sl.o hS) g1) (TO.quiet (q_len Try.underlying22 rfl) (TO.quiet (q_move rfl) ?_))
  refine TO.nil (T.block ?_)
  refine T.loop (fun (k : Nat) ρ O => ∃ (z : TL) (zb : Option Addr) (zc : Nat) (t : List Nat), O = [oI xc 3 [(.int .i64 (z.clk : Int))], oI xi 22 [(.slice ib nx.length ic)], oI xl 22 [(.slice lb nx.length lc)], oI xs 22 [(.slice zb z.stk.length zc)], oI xg 79 [(.slice nb nx.length nc), (.slice mb mn mc), .int .u64 full], oI xv 104 [(.func (.func 107) #[] #[(.pointer (some ⟨xc, 0, none⟩)), (.pointer (some ⟨xi, 0, none⟩)), (.pointer (some ⟨xl, 0, none⟩)), (.pointer (some ⟨xs, 0, none⟩)), (.pointer (some ⟨xg, 0, none⟩)), (.pointer (some ⟨xv, 0, none⟩)), (.pointer (some ⟨xp, 0, none⟩)), (.pointer (some ⟨xn, 0, none⟩))])], oI xp 22 [(.slice pb nx.length pc)], oI xn 3 [(.int .i64 (z.cnt : Int))], rowI ib ic 3 1 (nats z.idx), rowI lb lc 3 1 (nats z.low), rowI zb zc 3 1 (nats z.stk), rowI pb pc 3 1 (ints z.comp)] ∧ k ≤ nx[v].length ∧ VRun nx.length nx gray s v k z t ∧ Heads [(0, .int .i64 (v : Int)), (1, (.pointer (some ⟨xc, 0, none⟩))), (2, (.pointer (some ⟨xi, 0, none⟩))), (3, (.pointer (some ⟨xl, 0, none⟩))), (4, (.pointer (some ⟨xs, 0, none⟩))), (5, (.pointer (some ⟨xg, 0, none⟩))), (6, (.pointer (some ⟨xv, 0, none⟩))), (7, (.pointer (some ⟨xp, 0, none⟩))), (8, (.pointer (some ⟨xn, 0, none⟩))), (31, (.slice rb nx[v].length rc)), (32, .int .i64 (nx[v].length : Int)), (33, .int .i64 (k : Int))] ρ) (fun k => nx[v].length - k) 0 ?_ ?_
  · exact ⟨{ s with idx := s.idx.set v (s.clk + 1), low := s.low.set v (s.clk + 1), stk := s.stk ++ [v], clk := s.clk + 1 }, bx2, c3, [], (by simp only [List.length_append, List.length_cons, List.length_nil, List.map_append, List.map_cons, List.map_nil]), Nat.zero_le _, VRun.enter hok h0 hv hv0 hg, ⟨rfl, rfl, rfl, rfl, rfl, rfl, rfl, rfl, rfl, rfl, rfl, rfl, trivial⟩⟩
  rintro k ρ O ⟨z, zb, zc, t, rfl, hk, hr, hH⟩
  obtain ⟨ρ0, rfl⟩ := hH.elim
  clear hH
  have hli := hr.ok.li; have hll := hr.ok.ll; have hlc := hr.ok.lc; have hzc := hr.ok.ct
  refine T.seq (T.region ?_)
  refine TO.quiet (q_lss rfl rfl) ?_
  refine TO.nil (T.seq ?_)
  refine T.condP rfl (fun hc => ?_) (fun hc => ?_)
  · have hlt34 : k < nx[v].length := by omega
    obtain ⟨u, hu, hul⟩ : ∃ u : Nat, nx[v][k] = (u : Int) ∧ u < nx.length := by
      have := hval _ (List.getElem_mem hv) _ (List.getElem_mem hlt34)
      exact ⟨nx[v][k].toNat, by omega, by omega⟩
    refine T.skip (T.seq (T.block (T.seq (T.region ?_))))
    refine TO.quiet (q_ix (i := k) Try.underlying22 inf3 rfl rfl (Sl.o s1)) (TO.quiet (q_ld Try.underlying3 rfl rfl (Sl.o s1) (show (ints nx[v])[k]? = _ by rw [ints_get hlt34, hu])) (TO.quiet (q_assign rfl) ?_))
    refine TO.nil (T.seq (T.region ?_))
    refine TO.quiet (q_load_box 1 Try.underlying22 rfl rfl rfl rfl) (TO.quiet (q_move rfl) (TO.quiet (q_ix (i := u) Try.underlying22 inf3 rfl rfl (rowO (List.mem_of_getElem? (i := 8) rfl))) (TO.quiet (q_ld Try.underlying3 rfl rfl (rowO (List.mem_of_getElem? (i := 8) rfl)) nats_get) ?_)))
    refine TO.quiet (q_eql rfl rfl) ?_
    refine TO.nil ?_
    refine T.condP rfl (fun hc => ?_) (fun hc => ?_)
    · have hlt41 : z.idx[u] = 0 := by omega
      refine T.seq (T.region ?_)
      refine TO.quiet (q_load_box 5 Try.underlying104 rfl rfl rfl rfl) (TO.quiet (q_move rfl) ?_)
      have hk44 := CallV.of_fn (first := []) (args := [.int .i64 (u : Int)]) (caps := [(.pointer (some ⟨xc, 0, none⟩)), (.pointer (some ⟨xi, 0, none⟩)), (.pointer (some ⟨xl, 0, none⟩)), (.pointer (some ⟨xs, 0, none⟩)), (.pointer (some ⟨xg, 0, none⟩)), (.pointer (some ⟨xv, 0, none⟩)), (.pointer (some ⟨xp, 0, none⟩)), (.pointer (some ⟨xn, 0, none⟩))]) ent107 (ih _ (by have := hr.lt; omega) z zb zc (gray ++ [v]) u rfl hr.ok hr.lp.inv hul (by omega) (hr.child hg hv hlt34 hu))
      refine TO.loud rfl (l_callG hk44 rfl rfl ?_)
      clear hk44
      rintro vr O' ⟨z2, zb2, zc2, t2, rfl, hd2⟩
      have hli2 := hd2.ok.li; have hll2 := hd2.ok.ll; have hlc2 := hd2.ok.lc
      refine TO.nil ?_
      refine T.draws _ [(0, 0), (1, 0), (2, 0), (3, 0), (4, 0), (5, 0), (6, 0), (7, 0), (8, 0), (9, 0), (10, 0), (11, 0), (12, 2)] mixed (by kernel_rfl) (Sub.of (List.Sublist.refl _)) (fun _ _ _ h => h) ?_
      refine DO.quiet rfl (q_load_box 2 Try.underlying22 rfl rfl rfl rfl) (DO.quiet rfl (q_move rfl) (DO.quiet rfl (q_load_box 2 Try.underlying22 rfl rfl rfl rfl) (DO.quiet rfl (q_move rfl) ?_)))
      refine DO.quiet rfl (q_ix (i := v) Try.underlying22 inf3 rfl rfl (rowO (List.mem_of_getElem? (i := 9) rfl))) (DO.quiet rfl (q_ld Try.underlying3 rfl rfl (rowO (List.mem_of_getElem? (i := 9) rfl)) nats_get) (DO.quiet rfl (q_load_box 2 Try.underlying22 rfl rfl rfl rfl) (DO.quiet rfl (q_move rfl) ?_)))
      refine DO.quiet rfl (q_ix (i := u) Try.underlying22 inf3 rfl rfl (rowO (List.mem_of_getElem? (i := 9) rfl))) (DO.quiet rfl (q_ld Try.underlying3 rfl rfl (rowO (List.mem_of_getElem? (i := 9) rfl)) nats_get) (DO.quiet rfl (q_minN (a := z2.low[v]) (b := z2.low[u]) rfl rfl) (DO.quiet rfl (q_ix (i := v) Try.underlying22 inf3 rfl rfl (rowO (List.mem_of_getElem? (i := 9) rfl))) ?_)))
      refine DO.last rfl rfl (l_st (j := v) (v := .int .i64 ((min z2.low[v] z2.low[u] : Nat) : Int)) (vs := [(.int .i64 ((min z2.low[v] z2.low[u] : Nat) : Int))]) (cs := nats z2.low) 9 inf3 rfl rfl rfl rfl rfl (by simp) rfl (by first | (simp; omega) | (simp_all; omega)) ?_)
      refine DO.sub (O' := [oI xc 3 [(.int .i64 (z2.clk : Int))], oI xi 22 [(.slice ib nx.length ic)], oI xl 22 [(.slice lb nx.length lc)], oI xs 22 [(.slice zb2 z2.stk.length zc2)], oI xg 79 [(.slice nb nx.length nc), (.slice mb mn mc), .int .u64 full], oI xv 104 [(.func (.func 107) #[] #[(.pointer (some ⟨xc, 0, none⟩)), (.pointer (some ⟨xi, 0, none⟩)), (.pointer (some ⟨xl, 0, none⟩)), (.pointer (some ⟨xs, 0, none⟩)), (.pointer (some ⟨xg, 0, none⟩)), (.pointer (some ⟨xv, 0, none⟩)), (.pointer (some ⟨xp, 0, none⟩)), (.pointer (some ⟨xn, 0, none⟩))])], oI xp 22 [(.slice pb nx.length pc)], oI xn 3 [(.int .i64 (z2.cnt : Int))], rowI ib ic 3 1 (nats z2.idx), rowI lb lc 3 1 (nats (z2.low.set v (min z2.low[v] z2.low[u]))), rowI zb2 zc2 3 1 (nats z2.stk), rowI pb pc 3 1 (ints z2.comp)]) (by rw [show putL (nats z2.low) v [(.int .i64 ((min z2.low[v] z2.low[u] : Nat) : Int))] = nats (z2.low.set v (min z2.low[v] z2.low[u])) from (by simp [putL])]; exact Sub.of (List.Sublist.refl _)) ?_
      refine DO.done ?_
      refine T.region ?_
      refine TO.quiet (q_addN (a := k) (b := 1) rfl rfl (by omega)) (TO.quiet (q_move rfl) ?_)
      refine TO.nil ?_
      exact ⟨k + 1, by omega, { z2 with low := z2.low.set v (min z2.low[v] z2.low[u]) }, zb2, zc2, t ++ t2, rfl, by omega, hr.tree h0 hv hv hlt34 hu (by rw [gd (by omega)]; omega) hd2 (by rw [gd (by omega), gd (by omega)]), ⟨rfl, rfl, rfl, rfl, rfl, rfl, rfl, rfl, rfl, rfl, rfl, rfl, trivial⟩⟩
    have hge41 : ¬ z.idx[u] = 0 := by omega
    refine T.seq (T.region ?_)
    refine TO.quiet (q_load_box 6 Try.underlying22 rfl rfl rfl rfl) (TO.quiet (q_move rfl) (TO.quiet (q_ix (i := u) Try.underlying22 inf3 rfl rfl (rowO (List.mem_of_getElem? (i := 11) rfl))) (TO.quiet (q_ld Try.underlying3 rfl rfl (rowO (List.mem_of_getElem? (i := 11) rfl)) ints_get) ?_)))
    refine TO.quiet (q_lss rfl rfl) ?_
    refine TO.nil ?_
    refine T.condP rfl (fun hc => ?_) (fun hc => ?_)
    · refine T.draws _ [(0, 0), (1, 0), (2, 0), (3, 0), (4, 0), (5, 0), (6, 0), (7, 0), (8, 0), (9, 0), (10, 0), (11, 0), (12, 2)] mixed (by kernel_rfl) (Sub.of (List.Sublist.refl _)) (fun _ _ _ h => h) ?_
      refine DO.quiet rfl (q_load_box 2 Try.underlying22 rfl rfl rfl rfl) (DO.quiet rfl (q_move rfl) (DO.quiet rfl (q_load_box 2 Try.underlying22 rfl rfl rfl rfl) (DO.quiet rfl (q_move rfl) ?_)))
      refine DO.quiet rfl (q_ix (i := v) Try.underlying22 inf3 rfl rfl (rowO (List.mem_of_getElem? (i := 9) rfl))) (DO.quiet rfl (q_ld Try.underlying3 rfl rfl (rowO (List.mem_of_getElem? (i := 9) rfl)) nats_get) (DO.quiet rfl (q_load_box 1 Try.underlying22 rfl rfl rfl rfl) (DO.quiet rfl (q_move rfl) ?_)))
      refine DO.quiet rfl (q_ix (i := u) Try.underlying22 inf3 rfl rfl (rowO (List.mem_of_getElem? (i := 8) rfl))) (DO.quiet rfl (q_ld Try.underlying3 rfl rfl (rowO (List.mem_of_getElem? (i := 8) rfl)) nats_get) (DO.quiet rfl (q_minN (a := z.low[v]) (b := z.idx[u]) rfl rfl) (DO.quiet rfl (q_ix (i := v) Try.underlying22 inf3 rfl rfl (rowO (List.mem_of_getElem? (i := 9) rfl))) ?_)))
      refine DO.last rfl rfl (l_st (j := v) (v := .int .i64 ((min z.low[v] z.idx[u] : Nat) : Int)) (vs := [(.int .i64 ((min z.low[v] z.idx[u] : Nat) : Int))]) (cs := nats z.low) 9 inf3 rfl rfl rfl rfl rfl (by simp) rfl (by first | (simp; omega) | (simp_all; omega)) ?_)
      refine DO.sub (O' := [oI xc 3 [(.int .i64 (z.clk : Int))], oI xi 22 [(.slice ib nx.length ic)], oI xl 22 [(.slice lb nx.length lc)], oI xs 22 [(.slice zb z.stk.length zc)], oI xg 79 [(.slice nb nx.length nc), (.slice mb mn mc), .int .u64 full], oI xv 104 [(.func (.func 107) #[] #[(.pointer (some ⟨xc, 0, none⟩)), (.pointer (some ⟨xi, 0, none⟩)), (.pointer (some ⟨xl, 0, none⟩)), (.pointer (some ⟨xs, 0, none⟩)), (.pointer (some ⟨xg, 0, none⟩)), (.pointer (some ⟨xv, 0, none⟩)), (.pointer (some ⟨xp, 0, none⟩)), (.pointer (some ⟨xn, 0, none⟩))])], oI xp 22 [(.slice pb nx.length pc)], oI xn 3 [(.int .i64 (z.cnt : Int))], rowI ib ic 3 1 (nats z.idx), rowI lb lc 3 1 (nats (z.low.set v (min z.low[v] z.idx[u]))), rowI zb zc 3 1 (nats z.stk), rowI pb pc 3 1 (ints z.comp)]) (by rw [show putL (nats z.low) v [(.int .i64 ((min z.low[v] z.idx[u] : Nat) : Int))] = nats (z.low.set v (min z.low[v] z.idx[u])) from (by simp [putL])]; exact Sub.of (List.Sublist.refl _)) ?_
      refine DO.done ?_
      refine T.region ?_
      refine TO.quiet (q_addN (a := k) (b := 1) rfl rfl (by omega)) (TO.quiet (q_move rfl) ?_)
      refine TO.nil ?_
      exact ⟨k + 1, by omega, { z with low := z.low.set v (min z.low[v] z.idx[u]) }, zb, zc, t, rfl, by omega, hr.back h0 hv hv hlt34 hu (by rw [gd (by omega)]; omega) (by rw [gz (by omega)]; omega) (by rw [gd (by omega), gd (by omega)]), ⟨rfl, rfl, rfl, rfl, rfl, rfl, rfl, rfl, rfl, rfl, rfl, rfl, trivial⟩⟩
    refine T.skip (T.region ?_)
    refine TO.quiet (q_addN (a := k) (b := 1) rfl rfl (by omega)) (TO.quiet (q_move rfl) ?_)
    refine TO.nil ?_
    exact ⟨k + 1, by omega, z, zb, zc, t, rfl, by omega, hr.skip h0 hv hlt34 hu (by rw [gd (by omega)]; omega) (by rw [gz (by omega)]; omega), ⟨rfl, rfl, rfl, rfl, rfl, rfl, rfl, rfl, rfl, rfl, rfl, rfl, trivial⟩⟩
  have hge34 : ¬ k < nx[v].length := by omega
  refine T.exit ?_
  refine T.seq (T.seq ?_)
  refine T.draws _ [(0, 0), (1, 0), (2, 0), (3, 0), (4, 0), (5, 0), (6, 0), (7, 0), (8, 0)] mixed (by kernel_rfl) (Sub.of (List.Sublist.refl _)) (fun _ _ _ h => h) ?_
  refine DO.quiet rfl (q_load_box 2 Try.underlying22 rfl rfl rfl rfl) (DO.quiet rfl (q_move rfl) (DO.quiet rfl (q_ix (i := v) Try.underlying22 inf3 rfl rfl (rowO (List.mem_of_getElem? (i := 9) rfl))) (DO.quiet rfl (q_ld Try.underlying3 rfl rfl (rowO (List.mem_of_getElem? (i := 9) rfl)) nats_get) ?_)))
  refine DO.quiet rfl (q_load_box 1 Try.underlying22 rfl rfl rfl rfl) (DO.quiet rfl (q_move rfl) (DO.quiet rfl (q_ix (i := v) Try.underlying22 inf3 rfl rfl (rowO (List.mem_of_getElem? (i := 8) rfl))) (DO.quiet rfl (q_ld Try.underlying3 rfl rfl (rowO (List.mem_of_getElem? (i := 8) rfl)) nats_get) ?_)))
  refine DO.quiet rfl (q_neq rfl rfl) ?_
  refine DO.done ?_
  refine T.condP rfl (fun hc => ?_) (fun hc => ?_)
  · have hlt83 : z.low[v] ≠ z.idx[v] := by omega
    refine T.ret ?_
    refine Res.zero Try.results107 ?_
    exact ⟨z, zb, zc, v :: t, rfl, hr.leave h0 hv hge34 (by rw [gd (by omega), gd (by omega)]; omega)⟩
  have hge83 : ¬ z.low[v] ≠ z.idx[v] := by omega
  have hlow : z.low.getD v 0 = z.idx.getD v 0 := by rw [gd (by omega), gd (by omega)]; omega
  refine T.skip (T.seq (T.block ?_))
  refine T.loop (fun (q : List Nat) ρ O => ∃ (t1 pop : List Nat) (cp : List Int), O = [oI xc 3 [(.int .i64 (z.clk : Int))], oI xi 22 [(.slice ib nx.length ic)], oI xl 22 [(.slice lb nx.length lc)], oI xs 22 [(.slice zb q.length zc)], oI xg 79 [(.slice nb nx.length nc), (.slice mb mn mc), .int .u64 full], oI xv 104 [(.func (.func 107) #[] #[(.pointer (some ⟨xc, 0, none⟩)), (.pointer (some ⟨xi, 0, none⟩)), (.pointer (some ⟨xl, 0, none⟩)), (.pointer (some ⟨xs, 0, none⟩)), (.pointer (some ⟨xg, 0, none⟩)), (.pointer (some ⟨xv, 0, none⟩)), (.pointer (some ⟨xp, 0, none⟩)), (.pointer (some ⟨xn, 0, none⟩))])], oI xp 22 [(.slice pb nx.length pc)], oI xn 3 [(.int .i64 (z.cnt : Int))], rowI ib ic 3 1 (nats z.idx), rowI lb lc 3 1 (nats z.low), rowI zb zc 3 1 (nats q), rowI pb pc 3 1 (ints cp)] ∧ q = s.stk ++ v :: t1 ∧ t = t1 ++ pop ∧ cp.length = nx.length ∧ (∀ x, cp.getD x (-1) = if x ∈ pop then (z.cnt : Int) else z.comp.getD x (-1)) ∧ Heads [(0, .int .i64 (v : Int)), (1, (.pointer (some ⟨xc, 0, none⟩))), (2, (.pointer (some ⟨xi, 0, none⟩))), (3, (.pointer (some ⟨xl, 0, none⟩))), (4, (.pointer (some ⟨xs, 0, none⟩))), (5, (.pointer (some ⟨xg, 0, none⟩))), (6, (.pointer (some ⟨xv, 0, none⟩))), (7, (.pointer (some ⟨xp, 0, none⟩))), (8, (.pointer (some ⟨xn, 0, none⟩)))] ρ) (fun q => q.length) z.stk ?_ ?_
  · exact ⟨t, [], z.comp, rfl, hr.lp.stk, by simp, hlc, by simp, ⟨rfl, rfl, rfl, rfl, rfl, rfl, rfl, rfl, rfl, trivial⟩⟩
  rintro q ρ O ⟨t1, pop, cp, rfl, hq, ht, hcl, hcp, hH⟩
  obtain ⟨ρ0, rfl⟩ := hH.elim
  clear hH
  obtain ⟨st2, u, hst⟩ : ∃ st2 u, q = st2 ++ [u] := by
    rcases List.eq_nil_or_concat q with h | ⟨a, b, h⟩
    · rw [hq] at h; simp at h
    · exact ⟨a, b, h.trans (List.concat_eq_append ..)⟩
  have hql : q.length = st2.length + 1 := by rw [hst]; simp
  have hqg : q[st2.length]? = some u := by rw [hst]; simp
  have hqz : q.length ≤ z.stk.length := by
    have e : z.stk = s.stk ++ v :: t := hr.lp.stk
    rw [hq, e, ht]; simp
  have hqb : q.length ≤ 1000000 := by have := hr.ok.sk; have := hr.ok.ck; omega
  have hus : u ∈ z.stk := by
    have e : z.stk = s.stk ++ v :: t := hr.lp.stk
    have : u ∈ s.stk ++ v :: t1 := by rw [← hq, hst]; simp
    rw [e, ht]; simp at this ⊢
    rcases this with h | h | h
    · exact .inl h
    · exact .inr (.inl h)
    · exact .inr (.inr (.inl h))
  have hul : u < nx.length := hr.lp.inv.vis u ((hr.lp.inv.mem u).1 hus).1
  refine T.have (φ := q.length ≤ zc) (fun w hI => by have := rowP.cap (hI.row (i := 10) rfl); simpa using this) (fun hcap => ?_)
  refine T.block (T.seq (T.region ?_))
  refine TO.quiet (q_load_box 3 Try.underlying22 rfl rfl rfl rfl) (TO.quiet (q_load_box 3 Try.underlying22 rfl rfl rfl rfl) (TO.quiet (q_len Try.underlying22 rfl) (TO.quiet (QT.cast (q_subN (a := q.length) (b := 1) rfl rfl (by omega) (by omega)) (v' := .int .i64 ((st2.length : Nat) : Int)) (by rw [show q.length - 1 = st2.length by omega])) ?_)))
  refine TO.quiet (q_ix (i := st2.length) Try.underlying22 inf3 rfl rfl (rowO (List.mem_of_getElem? (i := 10) rfl))) (TO.quiet (q_ld Try.underlying3 rfl rfl (rowO (List.mem_of_getElem? (i := 10) rfl)) (show (nats q)[st2.length]? = some (.int .i64 ((u : Nat) : Int)) by rw [List.getElem?_map, hqg]; rfl)) (TO.quiet (q_assign rfl) ?_))
  refine TO.nil (T.seq (T.region ?_))
  refine TO.quiet (q_load_box 3 Try.underlying22 rfl rfl rfl rfl) (TO.quiet (q_load_box 3 Try.underlying22 rfl rfl rfl rfl) (TO.quiet (q_len Try.underlying22 rfl) (TO.quiet (QT.cast (q_subN (a := q.length) (b := 1) rfl rfl (by omega) (by omega)) (v' := .int .i64 ((st2.length : Nat) : Int)) (by rw [show q.length - 1 = st2.length by omega])) ?_)))
  refine TO.loud rfl (l_head (m := st2.length) 10 Try.underlying22 inf3 rfl rfl rfl (by omega) ?_)
  refine TO.sub (O' := [oI xc 3 [(.int .i64 (z.clk : Int))], oI xi 22 [(.slice ib nx.length ic)], oI xl 22 [(.slice lb nx.length lc)], oI xs 22 [(.slice zb q.length zc)], oI xg 79 [(.slice nb nx.length nc), (.slice mb mn mc), .int .u64 full], oI xv 104 [(.func (.func 107) #[] #[(.pointer (some ⟨xc, 0, none⟩)), (.pointer (some ⟨xi, 0, none⟩)), (.pointer (some ⟨xl, 0, none⟩)), (.pointer (some ⟨xs, 0, none⟩)), (.pointer (some ⟨xg, 0, none⟩)), (.pointer (some ⟨xv, 0, none⟩)), (.pointer (some ⟨xp, 0, none⟩)), (.pointer (some ⟨xn, 0, none⟩))])], oI xp 22 [(.slice pb nx.length pc)], oI xn 3 [(.int .i64 (z.cnt : Int))], rowI ib ic 3 1 (nats z.idx), rowI lb lc 3 1 (nats z.low), rowI zb zc 3 1 (nats st2), rowI pb pc 3 1 (ints cp)]) (by rw [show (nats q).take (st2.length * 1) = nats st2 from (by rw [Nat.mul_one, ← List.map_take, hst, List.take_left])]; exact Sub.of (List.Sublist.refl _)) ?_
  refine TO.loud rfl (l_store_box (v := (.slice zb st2.length zc)) (vs := [(.slice zb st2.length zc)]) 3 inf22 rfl rfl rfl rfl rfl rfl (by simp [putL]) ?_)
  refine TO.nil (T.seq (T.region ?_))
  refine TO.quiet (q_load_box 6 Try.underlying22 rfl rfl rfl rfl) (TO.quiet (q_move rfl) (TO.quiet (q_load_box 7 Try.underlying3 rfl rfl rfl rfl) (TO.quiet (q_ix (i := u) Try.underlying22 inf3 rfl rfl (rowO (List.mem_of_getElem? (i := 11) rfl))) ?_)))
  refine TO.loud rfl (l_st (j := u) (v := (.int .i64 (z.cnt : Int))) (vs := [(.int .i64 (z.cnt : Int))]) (cs := ints cp) 11 inf3 rfl rfl rfl rfl rfl (by simp) rfl (by first | (simp; omega) | (simp_all; omega)) ?_)
  refine TO.sub (O' := [oI xc 3 [(.int .i64 (z.clk : Int))], oI xi 22 [(.slice ib nx.length ic)], oI xl 22 [(.slice lb nx.length lc)], oI xs 22 [(.slice zb st2.length zc)], oI xg 79 [(.slice nb nx.length nc), (.slice mb mn mc), .int .u64 full], oI xv 104 [(.func (.func 107) #[] #[(.pointer (some ⟨xc, 0, none⟩)), (.pointer (some ⟨xi, 0, none⟩)), (.pointer (some ⟨xl, 0, none⟩)), (.pointer (some ⟨xs, 0, none⟩)), (.pointer (some ⟨xg, 0, none⟩)), (.pointer (some ⟨xv, 0, none⟩)), (.pointer (some ⟨xp, 0, none⟩)), (.pointer (some ⟨xn, 0, none⟩))])], oI xp 22 [(.slice pb nx.length pc)], oI xn 3 [(.int .i64 (z.cnt : Int))], rowI ib ic 3 1 (nats z.idx), rowI lb lc 3 1 (nats z.low), rowI zb zc 3 1 (nats st2), rowI pb pc 3 1 (ints (cp.set u (z.cnt : Int)))]) (by rw [show putL (ints cp) u [(.int .i64 (z.cnt : Int))] = ints (cp.set u (z.cnt : Int)) from (by simp [putL])]; exact Sub.of (List.Sublist.refl _)) ?_
  refine TO.nil (T.seq (T.region ?_))
  refine TO.quiet (q_move rfl) (TO.quiet (q_move rfl) (TO.quiet (q_eql rfl rfl) ?_))
  refine TO.nil ?_
  refine T.condP rfl (fun hc => ?_) (fun hc => ?_)
  · have hlt101 : u = v := by omega
    refine T.exit ?_
    refine T.region ?_
    refine TO.quiet (q_load_box 7 Try.underlying3 rfl rfl rfl rfl) (TO.quiet (q_addN (a := z.cnt) (b := 1) rfl rfl (by omega)) ?_)
    refine TO.loud rfl (l_store_box (v := .int .i64 ((z.cnt + 1 : Nat) : Int)) (vs := [(.int .i64 ((z.cnt + 1 : Nat) : Int))]) 7 inf3 rfl rfl rfl rfl rfl rfl (by simp [putL]) ?_)
    refine TO.nil ?_
    refine Res.zero Try.results107 ?_
    have hnt : v ∉ t1 := fun hm => by
      have := hr.lp.tnew (x := v) (by rw [ht]; exact List.mem_append_left _ hm)
      exact Nat.lt_irrefl _ this
    obtain ⟨h5, h6⟩ := pop_last (hq ▸ hst) (by omega) hnt
    have huv : u = v := by omega
    subst h6 h5 huv
    exact ⟨{ z with comp := cp.set u z.cnt, stk := s.stk, cnt := z.cnt + 1 }, zb, zc, [], rfl, hr.pop h0 hok hv hge34 hlow (by simp [hcl]) (fun x => by rw [fz_pop (by omega) hcp x, ht]; rfl)⟩
  have hge101 : ¬ u = v := by omega
  refine T.skip ?_
  obtain ⟨t1b, ht1, hs2⟩ := pop_split (hq ▸ hst) (by omega)
  exact ⟨st2, by omega, t1b, u :: pop, cp.set u z.cnt, rfl, hs2, by rw [ht, ht1]; simp, by simp [hcl], fz_pop (by omega) hcp, ⟨rfl, rfl, rfl, rfl, rfl, rfl, rfl, rfl, rfl, trivial⟩⟩
end Go.Proofs.Ytnamoapbienooaa

namespace Go.Proofs.Ytnamoapbienooaa
open Go.Lx Go.RowKit
set_option linter.unusedVariables false
set_option linter.unusedSimpArgs false
set_option maxHeartbeats 1000000 in
set_option maxRecDepth 20000 in
theorem componentsF (base : World) (nb mb : Option Addr) (nc mn mc : Nat) (full : Int) (vs : List Value) (nx : List (List Int)) (hS : Sl base nb vs) (hR : RowsR base vs nx) (hn : nx.length ≤ 1000000) (hrl : ∀ r ∈ nx, r.length ≤ 1000000) (hval : ∀ r ∈ nx, ∀ x ∈ r, 0 ≤ x ∧ x < (nx.length : Int)) :
    PureT Try.prog 74 [.agg #[.slice nb nx.length nc, .slice mb mn mc, .int .u64 full]] base fun v N => ∃ cb cc cn cnt, v = .tuple #[.slice cb nx.length cc, .int .i64 ((cnt : Nat) : Int)] ∧ N = [rowI cb cc 3 1 (nats cn)] ∧ cn.length = nx.length ∧ CompN nx cn cnt ∧ cnt ≤ nx.length := by
  refine CallT.enter Try.func74 rfl Try.ntmps74 rfl ?_
  refine T.seq (T.region ?_)
  refine TO.loud rfl (l_box (v := (.agg #[(.slice nb nx.length nc), (.slice mb mn mc), .int .u64 full])) (cs := [(.slice nb nx.length nc), (.slice mb mn mc), .int .u64 full]) rfl rfl (fun bx1 => ?_))
  refine TO.loud rfl (l_alloc inf22 rfl (fun bx2 => ?_))
  refine TO.loud rfl (l_alloc inf3 rfl (fun bx3 => ?_))
  refine TO.nil (T.seq (T.region ?_))
  refine TO.quiet (q_fieldAddr Try.underlying79 rfl inf24 rfl rfl) (TO.quiet (q_load_box 2 Try.underlying24 rfl rfl rfl rfl) (TO.quiet (q_len Try.underlying24 rfl) (TO.quiet (q_assign rfl) ?_)))
  refine TO.nil ?_
  refine T.cut (fun ρ O => ∃ (zA zB zC zD : Nat), O = [oI zC 22 [(.slice (some ⟨zA, 0, none⟩) nx.length nx.length)], oI zD 22 [(.slice (some ⟨zB, 0, none⟩) nx.length nx.length)], rowI (some ⟨zA, 0, none⟩) nx.length 3 1 (List.replicate nx.length (.int .i64 0)), rowI (some ⟨zB, 0, none⟩) nx.length 3 1 (List.replicate nx.length (.int .i64 0)), oI bx3 3 [(.int .i64 0)], oI bx2 22 [(.slice none 0 0)], oI bx1 79 [(.slice nb nx.length nc), (.slice mb mn mc), .int .u64 full]] ∧ Heads [(0, (.agg #[(.slice nb nx.length nc), (.slice mb mn mc), .int .u64 full])), (1, (.pointer (some ⟨bx1, 0, none⟩))), (2, (.pointer (some ⟨bx2, 0, none⟩))), (3, (.pointer (some ⟨bx3, 0, none⟩))), (4, .int .i64 (nx.length : Int)), (5, (.pointer (some ⟨zC, 0, none⟩))), (6, (.pointer (some ⟨zD, 0, none⟩)))] ρ) ?_ ?_
  · refine T.tree [] 8 mixed rfl (Sub.pick [] rfl) (fun _ _ _ h => h) ?_
    refine RO.quietT 0 rfl (by kernel_rfl) (q_move rfl) ?_
    refine RO.quietT 2 rfl (by kernel_rfl) (q_move rfl) ?_
    refine RO.fork [1, 3, 4, 5] (by kernel_rfl) rfl ⟨⟨_, rfl, rfl, l_makeSlice (m := nx.length) Try.underlying22 inf3 rfl rfl (by omega) (by omega) (fun zA => ⟨Sub.pick [] rfl, ?_⟩)⟩, ⟨_, rfl, rfl, l_makeSlice (m := nx.length) Try.underlying22 inf3 rfl rfl (by omega) (by omega) (fun zB => ⟨Sub.pick [] rfl, ?_⟩)⟩, ⟨_, rfl, rfl, l_alloc inf22 rfl (fun zC => ⟨Sub.pick [] rfl, ?_⟩)⟩, ⟨_, rfl, rfl, l_alloc inf22 rfl (fun zD => ⟨Sub.pick [] rfl, ?_⟩)⟩, trivial⟩
    · refine RO.fork [3, 4, 5] (by kernel_rfl) rfl ⟨⟨_, rfl, rfl, l_makeSlice (m := nx.length) Try.underlying22 inf3 rfl rfl (by omega) (by omega) (fun zB => ⟨Sub.pick [] rfl, ?_⟩)⟩, ⟨_, rfl, rfl, l_alloc inf22 rfl (fun zC => ⟨Sub.pick [] rfl, ?_⟩)⟩, ⟨_, rfl, rfl, l_alloc inf22 rfl (fun zD => ⟨Sub.pick [] rfl, ?_⟩)⟩, trivial⟩
      · refine RO.fork [4, 5] (by kernel_rfl) rfl ⟨⟨_, rfl, rfl, l_alloc inf22 rfl (fun zC => ⟨Sub.pick [] rfl, ?_⟩)⟩, ⟨_, rfl, rfl, l_alloc inf22 rfl (fun zD => ⟨Sub.pick [] rfl, ?_⟩)⟩, trivial⟩
        · refine RO.fork [5] (by kernel_rfl) rfl ⟨⟨_, rfl, rfl, l_alloc inf22 rfl (fun zD => ⟨Sub.pick [] rfl, ?_⟩)⟩, trivial⟩
          refine RO.fork [6] (by kernel_rfl) rfl ⟨⟨_, rfl, rfl, l_store_box (v := (.slice (some ⟨zA, 0, none⟩) nx.length nx.length)) (vs := [(.slice (some ⟨zA, 0, none⟩) nx.length nx.length)]) 1 inf22 rfl rfl rfl rfl rfl rfl (by simp [putL]) ⟨Sub.pick [] rfl, ?_⟩⟩, trivial⟩
          refine RO.fork [7] (by kernel_rfl) rfl ⟨⟨_, rfl, rfl, l_store_box (v := (.slice (some ⟨zB, 0, none⟩) nx.length nx.length)) (vs := [(.slice (some ⟨zB, 0, none⟩) nx.length nx.length)]) 0 inf22 rfl rfl rfl rfl rfl rfl (by simp [putL]) ⟨Sub.pick [] rfl, ?_⟩⟩, trivial⟩
          exact RO.fin (by kernel_rfl) ⟨zA, zB, zC, zD, rfl, ⟨rfl, rfl, rfl, rfl, rfl, rfl, rfl, trivial⟩⟩ (Sub.pick [1, 0, 1, 0, 0, 0, 0] rfl)
        refine RO.fork [4] (by kernel_rfl) rfl ⟨⟨_, rfl, rfl, l_alloc inf22 rfl (fun zC => ⟨Sub.pick [] rfl, ?_⟩)⟩, trivial⟩
        refine RO.fork [6] (by kernel_rfl) rfl ⟨⟨_, rfl, rfl, l_store_box (v := (.slice (some ⟨zA, 0, none⟩) nx.length nx.length)) (vs := [(.slice (some ⟨zA, 0, none⟩) nx.length nx.length)]) 0 inf22 rfl rfl rfl rfl rfl rfl (by simp [putL]) ⟨Sub.pick [] rfl, ?_⟩⟩, trivial⟩
        refine RO.fork [7] (by kernel_rfl) rfl ⟨⟨_, rfl, rfl, l_store_box (v := (.slice (some ⟨zB, 0, none⟩) nx.length nx.length)) (vs := [(.slice (some ⟨zB, 0, none⟩) nx.length nx.length)]) 1 inf22 rfl rfl rfl rfl rfl rfl (by simp [putL]) ⟨Sub.pick [] rfl, ?_⟩⟩, trivial⟩
        exact RO.fin (by kernel_rfl) ⟨zA, zB, zC, zD, rfl, ⟨rfl, rfl, rfl, rfl, rfl, rfl, rfl, trivial⟩⟩ (Sub.pick [0, 0, 1, 0, 0, 0, 0] rfl)
      · refine RO.fork [3, 5] (by kernel_rfl) rfl ⟨⟨_, rfl, rfl, l_makeSlice (m := nx.length) Try.underlying22 inf3 rfl rfl (by omega) (by omega) (fun zB => ⟨Sub.pick [] rfl, ?_⟩)⟩, ⟨_, rfl, rfl, l_alloc inf22 rfl (fun zD => ⟨Sub.pick [] rfl, ?_⟩)⟩, trivial⟩
        · refine RO.fork [5] (by kernel_rfl) rfl ⟨⟨_, rfl, rfl, l_alloc inf22 rfl (fun zD => ⟨Sub.pick [] rfl, ?_⟩)⟩, trivial⟩
          refine RO.fork [6] (by kernel_rfl) rfl ⟨⟨_, rfl, rfl, l_store_box (v := (.slice (some ⟨zA, 0, none⟩) nx.length nx.length)) (vs := [(.slice (some ⟨zA, 0, none⟩) nx.length nx.length)]) 2 inf22 rfl rfl rfl rfl rfl rfl (by simp [putL]) ⟨Sub.pick [] rfl, ?_⟩⟩, trivial⟩
          refine RO.fork [7] (by kernel_rfl) rfl ⟨⟨_, rfl, rfl, l_store_box (v := (.slice (some ⟨zB, 0, none⟩) nx.length nx.length)) (vs := [(.slice (some ⟨zB, 0, none⟩) nx.length nx.length)]) 0 inf22 rfl rfl rfl rfl rfl rfl (by simp [putL]) ⟨Sub.pick [] rfl, ?_⟩⟩, trivial⟩
          exact RO.fin (by kernel_rfl) ⟨zA, zB, zC, zD, rfl, ⟨rfl, rfl, rfl, rfl, rfl, rfl, rfl, trivial⟩⟩ (Sub.pick [2, 0, 1, 0, 0, 0, 0] rfl)
        refine RO.fork [3, 6] (by kernel_rfl) rfl ⟨⟨_, rfl, rfl, l_makeSlice (m := nx.length) Try.underlying22 inf3 rfl rfl (by omega) (by omega) (fun zB => ⟨Sub.pick [] rfl, ?_⟩)⟩, ⟨_, rfl, rfl, l_store_box (v := (.slice (some ⟨zA, 0, none⟩) nx.length nx.length)) (vs := [(.slice (some ⟨zA, 0, none⟩) nx.length nx.length)]) 1 inf22 rfl rfl rfl rfl rfl rfl (by simp [putL]) ⟨Sub.pick [] rfl, ?_⟩⟩, trivial⟩
        · refine RO.fork [6] (by kernel_rfl) rfl ⟨⟨_, rfl, rfl, l_store_box (v := (.slice (some ⟨zA, 0, none⟩) nx.length nx.length)) (vs := [(.slice (some ⟨zA, 0, none⟩) nx.length nx.length)]) 2 inf22 rfl rfl rfl rfl rfl rfl (by simp [putL]) ⟨Sub.pick [] rfl, ?_⟩⟩, trivial⟩
          refine RO.fork [7] (by kernel_rfl) rfl ⟨⟨_, rfl, rfl, l_store_box (v := (.slice (some ⟨zB, 0, none⟩) nx.length nx.length)) (vs := [(.slice (some ⟨zB, 0, none⟩) nx.length nx.length)]) 1 inf22 rfl rfl rfl rfl rfl rfl (by simp [putL]) ⟨Sub.pick [] rfl, ?_⟩⟩, trivial⟩
          exact RO.fin (by kernel_rfl) ⟨zA, zB, zC, zD, rfl, ⟨rfl, rfl, rfl, rfl, rfl, rfl, rfl, trivial⟩⟩ (Sub.pick [2, 1, 1, 0, 0, 0, 0] rfl)
        refine RO.fork [3] (by kernel_rfl) rfl ⟨⟨_, rfl, rfl, l_makeSlice (m := nx.length) Try.underlying22 inf3 rfl rfl (by omega) (by omega) (fun zB => ⟨Sub.pick [] rfl, ?_⟩)⟩, trivial⟩
        refine RO.fork [7] (by kernel_rfl) rfl ⟨⟨_, rfl, rfl, l_store_box (v := (.slice (some ⟨zB, 0, none⟩) nx.length nx.length)) (vs := [(.slice (some ⟨zB, 0, none⟩) nx.length nx.length)]) 1 inf22 rfl rfl rfl rfl rfl rfl (by simp [putL]) ⟨Sub.pick [] rfl, ?_⟩⟩, trivial⟩
        exact RO.fin (by kernel_rfl) ⟨zA, zB, zC, zD, rfl, ⟨rfl, rfl, rfl, rfl, rfl, rfl, rfl, trivial⟩⟩ (Sub.pick [2, 1, 1, 0, 0, 0, 0] rfl)
      refine RO.fork [3, 4] (by kernel_rfl) rfl ⟨⟨_, rfl, rfl, l_makeSlice (m := nx.length) Try.underlying22 inf3 rfl rfl (by omega) (by omega) (fun zB => ⟨Sub.pick [] rfl, ?_⟩)⟩, ⟨_, rfl, rfl, l_alloc inf22 rfl (fun zC => ⟨Sub.pick [] rfl, ?_⟩)⟩, trivial⟩
      · refine RO.fork [4] (by kernel_rfl) rfl ⟨⟨_, rfl, rfl, l_alloc inf22 rfl (fun zC => ⟨Sub.pick [] rfl, ?_⟩)⟩, trivial⟩
        refine RO.fork [6] (by kernel_rfl) rfl ⟨⟨_, rfl, rfl, l_store_box (v := (.slice (some ⟨zA, 0, none⟩) nx.length nx.length)) (vs := [(.slice (some ⟨zA, 0, none⟩) nx.length nx.length)]) 0 inf22 rfl rfl rfl rfl rfl rfl (by simp [putL]) ⟨Sub.pick [] rfl, ?_⟩⟩, trivial⟩
        refine RO.fork [7] (by kernel_rfl) rfl ⟨⟨_, rfl, rfl, l_store_box (v := (.slice (some ⟨zB, 0, none⟩) nx.length nx.length)) (vs := [(.slice (some ⟨zB, 0, none⟩) nx.length nx.length)]) 2 inf22 rfl rfl rfl rfl rfl rfl (by simp [putL]) ⟨Sub.pick [] rfl, ?_⟩⟩, trivial⟩
        exact RO.fin (by kernel_rfl) ⟨zA, zB, zC, zD, rfl, ⟨rfl, rfl, rfl, rfl, rfl, rfl, rfl, trivial⟩⟩ (Sub.pick [0, 1, 1, 0, 0, 0, 0] rfl)
      refine RO.fork [3, 6] (by kernel_rfl) rfl ⟨⟨_, rfl, rfl, l_makeSlice (m := nx.length) Try.underlying22 inf3 rfl rfl (by omega) (by omega) (fun zB => ⟨Sub.pick [] rfl, ?_⟩)⟩, ⟨_, rfl, rfl, l_store_box (v := (.slice (some ⟨zA, 0, none⟩) nx.length nx.length)) (vs := [(.slice (some ⟨zA, 0, none⟩) nx.length nx.length)]) 0 inf22 rfl rfl rfl rfl rfl rfl (by simp [putL]) ⟨Sub.pick [] rfl, ?_⟩⟩, trivial⟩
      · refine RO.fork [6] (by kernel_rfl) rfl ⟨⟨_, rfl, rfl, l_store_box (v := (.slice (some ⟨zA, 0, none⟩) nx.length nx.length)) (vs := [(.slice (some ⟨zA, 0, none⟩) nx.length nx.length)]) 1 inf22 rfl rfl rfl rfl rfl rfl (by simp [putL]) ⟨Sub.pick [] rfl, ?_⟩⟩, trivial⟩
        refine RO.fork [7] (by kernel_rfl) rfl ⟨⟨_, rfl, rfl, l_store_box (v := (.slice (some ⟨zB, 0, none⟩) nx.length nx.length)) (vs := [(.slice (some ⟨zB, 0, none⟩) nx.length nx.length)]) 2 inf22 rfl rfl rfl rfl rfl rfl (by simp [putL]) ⟨Sub.pick [] rfl, ?_⟩⟩, trivial⟩
        exact RO.fin (by kernel_rfl) ⟨zA, zB, zC, zD, rfl, ⟨rfl, rfl, rfl, rfl, rfl, rfl, rfl, trivial⟩⟩ (Sub.pick [1, 1, 1, 0, 0, 0, 0] rfl)
      refine RO.fork [3] (by kernel_rfl) rfl ⟨⟨_, rfl, rfl, l_makeSlice (m := nx.length) Try.underlying22 inf3 rfl rfl (by omega) (by omega) (fun zB => ⟨Sub.pick [] rfl, ?_⟩)⟩, trivial⟩
      refine RO.fork [7] (by kernel_rfl) rfl ⟨⟨_, rfl, rfl, l_store_box (v := (.slice (some ⟨zB, 0, none⟩) nx.length nx.length)) (vs := [(.slice (some ⟨zB, 0, none⟩) nx.length nx.length)]) 2 inf22 rfl rfl rfl rfl rfl rfl (by simp [putL]) ⟨Sub.pick [] rfl, ?_⟩⟩, trivial⟩
      exact RO.fin (by kernel_rfl) ⟨zA, zB, zC, zD, rfl, ⟨rfl, rfl, rfl, rfl, rfl, rfl, rfl, trivial⟩⟩ (Sub.pick [1, 1, 1, 0, 0, 0, 0] rfl)
    · refine RO.fork [1, 4, 5] (by kernel_rfl) rfl ⟨⟨_, rfl, rfl, l_makeSlice (m := nx.length) Try.underlying22 inf3 rfl rfl (by omega) (by omega) (fun zA => ⟨Sub.pick [] rfl, ?_⟩)⟩, ⟨_, rfl, rfl, l_alloc inf22 rfl (fun zC => ⟨Sub.pick [] rfl, ?_⟩)⟩, ⟨_, rfl, rfl, l_alloc inf22 rfl (fun zD => ⟨Sub.pick [] rfl, ?_⟩)⟩, trivial⟩
      · refine RO.fork [4, 5] (by kernel_rfl) rfl ⟨⟨_, rfl, rfl, l_alloc inf22 rfl (fun zC => ⟨Sub.pick [] rfl, ?_⟩)⟩, ⟨_, rfl, rfl, l_alloc inf22 rfl (fun zD => ⟨Sub.pick [] rfl, ?_⟩)⟩, trivial⟩
        · refine RO.fork [5] (by kernel_rfl) rfl ⟨⟨_, rfl, rfl, l_alloc inf22 rfl (fun zD => ⟨Sub.pick [] rfl, ?_⟩)⟩, trivial⟩
          refine RO.fork [6] (by kernel_rfl) rfl ⟨⟨_, rfl, rfl, l_store_box (v := (.slice (some ⟨zA, 0, none⟩) nx.length nx.length)) (vs := [(.slice (some ⟨zA, 0, none⟩) nx.length nx.length)]) 1 inf22 rfl rfl rfl rfl rfl rfl (by simp [putL]) ⟨Sub.pick [] rfl, ?_⟩⟩, trivial⟩
          refine RO.fork [7] (by kernel_rfl) rfl ⟨⟨_, rfl, rfl, l_store_box (v := (.slice (some ⟨zB, 0, none⟩) nx.length nx.length)) (vs := [(.slice (some ⟨zB, 0, none⟩) nx.length nx.length)]) 0 inf22 rfl rfl rfl rfl rfl rfl (by simp [putL]) ⟨Sub.pick [] rfl, ?_⟩⟩, trivial⟩
          exact RO.fin (by kernel_rfl) ⟨zA, zB, zC, zD, rfl, ⟨rfl, rfl, rfl, rfl, rfl, rfl, rfl, trivial⟩⟩ (Sub.pick [1, 0, 0, 0, 0, 0, 0] rfl)
        refine RO.fork [4] (by kernel_rfl) rfl ⟨⟨_, rfl, rfl, l_alloc inf22 rfl (fun zC => ⟨Sub.pick [] rfl, ?_⟩)⟩, trivial⟩
        refine RO.fork [6] (by kernel_rfl) rfl ⟨⟨_, rfl, rfl, l_store_box (v := (.slice (some ⟨zA, 0, none⟩) nx.length nx.length)) (vs := [(.slice (some ⟨zA, 0, none⟩) nx.length nx.length)]) 0 inf22 rfl rfl rfl rfl rfl rfl (by simp [putL]) ⟨Sub.pick [] rfl, ?_⟩⟩, trivial⟩
        refine RO.fork [7] (by kernel_rfl) rfl ⟨⟨_, rfl, rfl, l_store_box (v := (.slice (some ⟨zB, 0, none⟩) nx.length nx.length)) (vs := [(.slice (some ⟨zB, 0, none⟩) nx.length nx.length)]) 1 inf22 rfl rfl rfl rfl rfl rfl (by simp [putL]) ⟨Sub.pick [] rfl, ?_⟩⟩, trivial⟩
        exact RO.fin (by kernel_rfl) ⟨zA, zB, zC, zD, rfl, ⟨rfl, rfl, rfl, rfl, rfl, rfl, rfl, trivial⟩⟩ (Sub.pick [0, 0, 0, 0, 0, 0, 0] rfl)
      · refine RO.fork [1, 5] (by kernel_rfl) rfl ⟨⟨_, rfl, rfl, l_makeSlice (m := nx.length) Try.underlying22 inf3 rfl rfl (by omega) (by omega) (fun zA => ⟨Sub.pick [] rfl, ?_⟩)⟩, ⟨_, rfl, rfl, l_alloc inf22 rfl (fun zD => ⟨Sub.pick [] rfl, ?_⟩)⟩, trivial⟩
        · refine RO.fork [5] (by kernel_rfl) rfl ⟨⟨_, rfl, rfl, l_alloc inf22 rfl (fun zD => ⟨Sub.pick [] rfl, ?_⟩)⟩, trivial⟩
          refine RO.fork [6] (by kernel_rfl) rfl ⟨⟨_, rfl, rfl, l_store_box (v := (.slice (some ⟨zA, 0, none⟩) nx.length nx.length)) (vs := [(.slice (some ⟨zA, 0, none⟩) nx.length nx.length)]) 2 inf22 rfl rfl rfl rfl rfl rfl (by simp [putL]) ⟨Sub.pick [] rfl, ?_⟩⟩, trivial⟩
          refine RO.fork [7] (by kernel_rfl) rfl ⟨⟨_, rfl, rfl, l_store_box (v := (.slice (some ⟨zB, 0, none⟩) nx.length nx.length)) (vs := [(.slice (some ⟨zB, 0, none⟩) nx.length nx.length)]) 0 inf22 rfl rfl rfl rfl rfl rfl (by simp [putL]) ⟨Sub.pick [] rfl, ?_⟩⟩, trivial⟩
          exact RO.fin (by kernel_rfl) ⟨zA, zB, zC, zD, rfl, ⟨rfl, rfl, rfl, rfl, rfl, rfl, rfl, trivial⟩⟩ (Sub.pick [2, 0, 0, 0, 0, 0, 0] rfl)
        refine RO.fork [1] (by kernel_rfl) rfl ⟨⟨_, rfl, rfl, l_makeSlice (m := nx.length) Try.underlying22 inf3 rfl rfl (by omega) (by omega) (fun zA => ⟨Sub.pick [] rfl, ?_⟩)⟩, trivial⟩
        refine RO.fork [6] (by kernel_rfl) rfl ⟨⟨_, rfl, rfl, l_store_box (v := (.slice (some ⟨zA, 0, none⟩) nx.length nx.length)) (vs := [(.slice (some ⟨zA, 0, none⟩) nx.length nx.length)]) 2 inf22 rfl rfl rfl rfl rfl rfl (by simp [putL]) ⟨Sub.pick [] rfl, ?_⟩⟩, trivial⟩
        refine RO.fork [7] (by kernel_rfl) rfl ⟨⟨_, rfl, rfl, l_store_box (v := (.slice (some ⟨zB, 0, none⟩) nx.length nx.length)) (vs := [(.slice (some ⟨zB, 0, none⟩) nx.length nx.length)]) 1 inf22 rfl rfl rfl rfl rfl rfl (by simp [putL]) ⟨Sub.pick [] rfl, ?_⟩⟩, trivial⟩
        exact RO.fin (by kernel_rfl) ⟨zA, zB, zC, zD, rfl, ⟨rfl, rfl, rfl, rfl, rfl, rfl, rfl, trivial⟩⟩ (Sub.pick [2, 1, 0, 0, 0, 0, 0] rfl)
      refine RO.fork [1, 4] (by kernel_rfl) rfl ⟨⟨_, rfl, rfl, l_makeSlice (m := nx.length) Try.underlying22 inf3 rfl rfl (by omega) (by omega) (fun zA => ⟨Sub.pick [] rfl, ?_⟩)⟩, ⟨_, rfl, rfl, l_alloc inf22 rfl (fun zC => ⟨Sub.pick [] rfl, ?_⟩)⟩, trivial⟩
      · refine RO.fork [4] (by kernel_rfl) rfl ⟨⟨_, rfl, rfl, l_alloc inf22 rfl (fun zC => ⟨Sub.pick [] rfl, ?_⟩)⟩, trivial⟩
        refine RO.fork [6] (by kernel_rfl) rfl ⟨⟨_, rfl, rfl, l_store_box (v := (.slice (some ⟨zA, 0, none⟩) nx.length nx.length)) (vs := [(.slice (some ⟨zA, 0, none⟩) nx.length nx.length)]) 0 inf22 rfl rfl rfl rfl rfl rfl (by simp [putL]) ⟨Sub.pick [] rfl, ?_⟩⟩, trivial⟩
        refine RO.fork [7] (by kernel_rfl) rfl ⟨⟨_, rfl, rfl, l_store_box (v := (.slice (some ⟨zB, 0, none⟩) nx.length nx.length)) (vs := [(.slice (some ⟨zB, 0, none⟩) nx.length nx.length)]) 2 inf22 rfl rfl rfl rfl rfl rfl (by simp [putL]) ⟨Sub.pick [] rfl, ?_⟩⟩, trivial⟩
        exact RO.fin (by kernel_rfl) ⟨zA, zB, zC, zD, rfl, ⟨rfl, rfl, rfl, rfl, rfl, rfl, rfl, trivial⟩⟩ (Sub.pick [0, 1, 0, 0, 0, 0, 0] rfl)
      refine RO.fork [1] (by kernel_rfl) rfl ⟨⟨_, rfl, rfl, l_makeSlice (m := nx.length) Try.underlying22 inf3 rfl rfl (by omega) (by omega) (fun zA => ⟨Sub.pick [] rfl, ?_⟩)⟩, trivial⟩
      refine RO.fork [6] (by kernel_rfl) rfl ⟨⟨_, rfl, rfl, l_store_box (v := (.slice (some ⟨zA, 0, none⟩) nx.length nx.length)) (vs := [(.slice (some ⟨zA, 0, none⟩) nx.length nx.length)]) 1 inf22 rfl rfl rfl rfl rfl rfl (by simp [putL]) ⟨Sub.pick [] rfl, ?_⟩⟩, trivial⟩
      refine RO.fork [7] (by kernel_rfl) rfl ⟨⟨_, rfl, rfl, l_store_box (v := (.slice (some ⟨zB, 0, none⟩) nx.length nx.length)) (vs := [(.slice (some ⟨zB, 0, none⟩) nx.length nx.length)]) 2 inf22 rfl rfl rfl rfl rfl rfl (by simp [putL]) ⟨Sub.pick [] rfl, ?_⟩⟩, trivial⟩
      exact RO.fin (by kernel_rfl) ⟨zA, zB, zC, zD, rfl, ⟨rfl, rfl, rfl, rfl, rfl, rfl, rfl, trivial⟩⟩ (Sub.pick [1, 1, 0, 0, 0, 0, 0] rfl)
    · refine RO.fork [1, 3, 5] (by kernel_rfl) rfl ⟨⟨_, rfl, rfl, l_makeSlice (m := nx.length) Try.underlying22 inf3 rfl rfl (by omega) (by omega) (fun zA => ⟨Sub.pick [] rfl, ?_⟩)⟩, ⟨_, rfl, rfl, l_makeSlice (m := nx.length) Try.underlying22 inf3 rfl rfl (by omega) (by omega) (fun zB => ⟨Sub.pick [] rfl, ?_⟩)⟩, ⟨_, rfl, rfl, l_alloc inf22 rfl (fun zD => ⟨Sub.pick [] rfl, ?_⟩)⟩, trivial⟩
      · refine RO.fork [3, 5] (by kernel_rfl) rfl ⟨⟨_, rfl, rfl, l_makeSlice (m := nx.length) Try.underlying22 inf3 rfl rfl (by omega) (by omega) (fun zB => ⟨Sub.pick [] rfl, ?_⟩)⟩, ⟨_, rfl, rfl, l_alloc inf22 rfl (fun zD => ⟨Sub.pick [] rfl, ?_⟩)⟩, trivial⟩
        · refine RO.fork [5] (by kernel_rfl) rfl ⟨⟨_, rfl, rfl, l_alloc inf22 rfl (fun zD => ⟨Sub.pick [] rfl, ?_⟩)⟩, trivial⟩
          refine RO.fork [6] (by kernel_rfl) rfl ⟨⟨_, rfl, rfl, l_store_box (v := (.slice (some ⟨zA, 0, none⟩) nx.length nx.length)) (vs := [(.slice (some ⟨zA, 0, none⟩) nx.length nx.length)]) 3 inf22 rfl rfl rfl rfl rfl rfl (by simp [putL]) ⟨Sub.pick [] rfl, ?_⟩⟩, trivial⟩
          refine RO.fork [7] (by kernel_rfl) rfl ⟨⟨_, rfl, rfl, l_store_box (v := (.slice (some ⟨zB, 0, none⟩) nx.length nx.length)) (vs := [(.slice (some ⟨zB, 0, none⟩) nx.length nx.length)]) 0 inf22 rfl rfl rfl rfl rfl rfl (by simp [putL]) ⟨Sub.pick [] rfl, ?_⟩⟩, trivial⟩
          exact RO.fin (by kernel_rfl) ⟨zA, zB, zC, zD, rfl, ⟨rfl, rfl, rfl, rfl, rfl, rfl, rfl, trivial⟩⟩ (Sub.pick [3, 0, 1, 0, 0, 0, 0] rfl)
        refine RO.fork [3, 6] (by kernel_rfl) rfl ⟨⟨_, rfl, rfl, l_makeSlice (m := nx.length) Try.underlying22 inf3 rfl rfl (by omega) (by omega) (fun zB => ⟨Sub.pick [] rfl, ?_⟩)⟩, ⟨_, rfl, rfl, l_store_box (v := (.slice (some ⟨zA, 0, none⟩) nx.length nx.length)) (vs := [(.slice (some ⟨zA, 0, none⟩) nx.length nx.length)]) 2 inf22 rfl rfl rfl rfl rfl rfl (by simp [putL]) ⟨Sub.pick [] rfl, ?_⟩⟩, trivial⟩
        · refine RO.fork [6] (by kernel_rfl) rfl ⟨⟨_, rfl, rfl, l_store_box (v := (.slice (some ⟨zA, 0, none⟩) nx.length nx.length)) (vs := [(.slice (some ⟨zA, 0, none⟩) nx.length nx.length)]) 3 inf22 rfl rfl rfl rfl rfl rfl (by simp [putL]) ⟨Sub.pick [] rfl, ?_⟩⟩, trivial⟩
          refine RO.fork [7] (by kernel_rfl) rfl ⟨⟨_, rfl, rfl, l_store_box (v := (.slice (some ⟨zB, 0, none⟩) nx.length nx.length)) (vs := [(.slice (some ⟨zB, 0, none⟩) nx.length nx.length)]) 1 inf22 rfl rfl rfl rfl rfl rfl (by simp [putL]) ⟨Sub.pick [] rfl, ?_⟩⟩, trivial⟩
          exact RO.fin (by kernel_rfl) ⟨zA, zB, zC, zD, rfl, ⟨rfl, rfl, rfl, rfl, rfl, rfl, rfl, trivial⟩⟩ (Sub.pick [3, 1, 1, 0, 0, 0, 0] rfl)
        refine RO.fork [3] (by kernel_rfl) rfl ⟨⟨_, rfl, rfl, l_makeSlice (m := nx.length) Try.underlying22 inf3 rfl rfl (by omega) (by omega) (fun zB => ⟨Sub.pick [] rfl, ?_⟩)⟩, trivial⟩
        refine RO.fork [7] (by kernel_rfl) rfl ⟨⟨_, rfl, rfl, l_store_box (v := (.slice (some ⟨zB, 0, none⟩) nx.length nx.length)) (vs := [(.slice (some ⟨zB, 0, none⟩) nx.length nx.length)]) 1 inf22 rfl rfl rfl rfl rfl rfl (by simp [putL]) ⟨Sub.pick [] rfl, ?_⟩⟩, trivial⟩
        exact RO.fin (by kernel_rfl) ⟨zA, zB, zC, zD, rfl, ⟨rfl, rfl, rfl, rfl, rfl, rfl, rfl, trivial⟩⟩ (Sub.pick [3, 1, 1, 0, 0, 0, 0] rfl)
      · refine RO.fork [1, 5] (by kernel_rfl) rfl ⟨⟨_, rfl, rfl, l_makeSlice (m := nx.length) Try.underlying22 inf3 rfl rfl (by omega) (by omega) (fun zA => ⟨Sub.pick [] rfl, ?_⟩)⟩, ⟨_, rfl, rfl, l_alloc inf22 rfl (fun zD => ⟨Sub.pick [] rfl, ?_⟩)⟩, trivial⟩
        · refine RO.fork [5] (by kernel_rfl) rfl ⟨⟨_, rfl, rfl, l_alloc inf22 rfl (fun zD => ⟨Sub.pick [] rfl, ?_⟩)⟩, trivial⟩
          refine RO.fork [6] (by kernel_rfl) rfl ⟨⟨_, rfl, rfl, l_store_box (v := (.slice (some ⟨zA, 0, none⟩) nx.length nx.length)) (vs := [(.slice (some ⟨zA, 0, none⟩) nx.length nx.length)]) 3 inf22 rfl rfl rfl rfl rfl rfl (by simp [putL]) ⟨Sub.pick [] rfl, ?_⟩⟩, trivial⟩
          refine RO.fork [7] (by kernel_rfl) rfl ⟨⟨_, rfl, rfl, l_store_box (v := (.slice (some ⟨zB, 0, none⟩) nx.length nx.length)) (vs := [(.slice (some ⟨zB, 0, none⟩) nx.length nx.length)]) 0 inf22 rfl rfl rfl rfl rfl rfl (by simp [putL]) ⟨Sub.pick [] rfl, ?_⟩⟩, trivial⟩
          exact RO.fin (by kernel_rfl) ⟨zA, zB, zC, zD, rfl, ⟨rfl, rfl, rfl, rfl, rfl, rfl, rfl, trivial⟩⟩ (Sub.pick [3, 0, 0, 0, 0, 0, 0] rfl)
        refine RO.fork [1] (by kernel_rfl) rfl ⟨⟨_, rfl, rfl, l_makeSlice (m := nx.length) Try.underlying22 inf3 rfl rfl (by omega) (by omega) (fun zA => ⟨Sub.pick [] rfl, ?_⟩)⟩, trivial⟩
        refine RO.fork [6] (by kernel_rfl) rfl ⟨⟨_, rfl, rfl, l_store_box (v := (.slice (some ⟨zA, 0, none⟩) nx.length nx.length)) (vs := [(.slice (some ⟨zA, 0, none⟩) nx.length nx.length)]) 3 inf22 rfl rfl rfl rfl rfl rfl (by simp [putL]) ⟨Sub.pick [] rfl, ?_⟩⟩, trivial⟩
        refine RO.fork [7] (by kernel_rfl) rfl ⟨⟨_, rfl, rfl, l_store_box (v := (.slice (some ⟨zB, 0, none⟩) nx.length nx.length)) (vs := [(.slice (some ⟨zB, 0, none⟩) nx.length nx.length)]) 1 inf22 rfl rfl rfl rfl rfl rfl (by simp [putL]) ⟨Sub.pick [] rfl, ?_⟩⟩, trivial⟩
        exact RO.fin (by kernel_rfl) ⟨zA, zB, zC, zD, rfl, ⟨rfl, rfl, rfl, rfl, rfl, rfl, rfl, trivial⟩⟩ (Sub.pick [3, 1, 0, 0, 0, 0, 0] rfl)
      refine RO.fork [1, 3] (by kernel_rfl) rfl ⟨⟨_, rfl, rfl, l_makeSlice (m := nx.length) Try.underlying22 inf3 rfl rfl (by omega) (by omega) (fun zA => ⟨Sub.pick [] rfl, ?_⟩)⟩, ⟨_, rfl, rfl, l_makeSlice (m := nx.length) Try.underlying22 inf3 rfl rfl (by omega) (by omega) (fun zB => ⟨Sub.pick [] rfl, ?_⟩)⟩, trivial⟩
      · refine RO.fork [3, 6] (by kernel_rfl) rfl ⟨⟨_, rfl, rfl, l_makeSlice (m := nx.length) Try.underlying22 inf3 rfl rfl (by omega) (by omega) (fun zB => ⟨Sub.pick [] rfl, ?_⟩)⟩, ⟨_, rfl, rfl, l_store_box (v := (.slice (some ⟨zA, 0, none⟩) nx.length nx.length)) (vs := [(.slice (some ⟨zA, 0, none⟩) nx.length nx.length)]) 2 inf22 rfl rfl rfl rfl rfl rfl (by simp [putL]) ⟨Sub.pick [] rfl, ?_⟩⟩, trivial⟩
        · refine RO.fork [6] (by kernel_rfl) rfl ⟨⟨_, rfl, rfl, l_store_box (v := (.slice (some ⟨zA, 0, none⟩) nx.length nx.length)) (vs := [(.slice (some ⟨zA, 0, none⟩) nx.length nx.length)]) 3 inf22 rfl rfl rfl rfl rfl rfl (by simp [putL]) ⟨Sub.pick [] rfl, ?_⟩⟩, trivial⟩
          refine RO.fork [7] (by kernel_rfl) rfl ⟨⟨_, rfl, rfl, l_store_box (v := (.slice (some ⟨zB, 0, none⟩) nx.length nx.length)) (vs := [(.slice (some ⟨zB, 0, none⟩) nx.length nx.length)]) 2 inf22 rfl rfl rfl rfl rfl rfl (by simp [putL]) ⟨Sub.pick [] rfl, ?_⟩⟩, trivial⟩
          exact RO.fin (by kernel_rfl) ⟨zA, zB, zC, zD, rfl, ⟨rfl, rfl, rfl, rfl, rfl, rfl, rfl, trivial⟩⟩ (Sub.pick [3, 2, 1, 0, 0, 0, 0] rfl)
        refine RO.fork [3] (by kernel_rfl) rfl ⟨⟨_, rfl, rfl, l_makeSlice (m := nx.length) Try.underlying22 inf3 rfl rfl (by omega) (by omega) (fun zB => ⟨Sub.pick [] rfl, ?_⟩)⟩, trivial⟩
        refine RO.fork [7] (by kernel_rfl) rfl ⟨⟨_, rfl, rfl, l_store_box (v := (.slice (some ⟨zB, 0, none⟩) nx.length nx.length)) (vs := [(.slice (some ⟨zB, 0, none⟩) nx.length nx.length)]) 2 inf22 rfl rfl rfl rfl rfl rfl (by simp [putL]) ⟨Sub.pick [] rfl, ?_⟩⟩, trivial⟩
        exact RO.fin (by kernel_rfl) ⟨zA, zB, zC, zD, rfl, ⟨rfl, rfl, rfl, rfl, rfl, rfl, rfl, trivial⟩⟩ (Sub.pick [3, 2, 1, 0, 0, 0, 0] rfl)
      refine RO.fork [1] (by kernel_rfl) rfl ⟨⟨_, rfl, rfl, l_makeSlice (m := nx.length) Try.underlying22 inf3 rfl rfl (by omega) (by omega) (fun zA => ⟨Sub.pick [] rfl, ?_⟩)⟩, trivial⟩
      refine RO.fork [6] (by kernel_rfl) rfl ⟨⟨_, rfl, rfl, l_store_box (v := (.slice (some ⟨zA, 0, none⟩) nx.length nx.length)) (vs := [(.slice (some ⟨zA, 0, none⟩) nx.length nx.length)]) 3 inf22 rfl rfl rfl rfl rfl rfl (by simp [putL]) ⟨Sub.pick [] rfl, ?_⟩⟩, trivial⟩
      refine RO.fork [7] (by kernel_rfl) rfl ⟨⟨_, rfl, rfl, l_store_box (v := (.slice (some ⟨zB, 0, none⟩) nx.length nx.length)) (vs := [(.slice (some ⟨zB, 0, none⟩) nx.length nx.length)]) 2 inf22 rfl rfl rfl rfl rfl rfl (by simp [putL]) ⟨Sub.pick [] rfl, ?_⟩⟩, trivial⟩
      exact RO.fin (by kernel_rfl) ⟨zA, zB, zC, zD, rfl, ⟨rfl, rfl, rfl, rfl, rfl, rfl, rfl, trivial⟩⟩ (Sub.pick [3, 2, 0, 0, 0, 0, 0] rfl)
    refine RO.fork [1, 3, 4] (by kernel_rfl) rfl ⟨⟨_, rfl, rfl, l_makeSlice (m := nx.length) Try.underlying22 inf3 rfl rfl (by omega) (by omega) (fun zA => ⟨Sub.pick [] rfl, ?_⟩)⟩, ⟨_, rfl, rfl, l_makeSlice (m := nx.length) Try.underlying22 inf3 rfl rfl (by omega) (by omega) (fun zB => ⟨Sub.pick [] rfl, ?_⟩)⟩, ⟨_, rfl, rfl, l_alloc inf22 rfl (fun zC => ⟨Sub.pick [] rfl, ?_⟩)⟩, trivial⟩
    · refine RO.fork [3, 4] (by kernel_rfl) rfl ⟨⟨_, rfl, rfl, l_makeSlice (m := nx.length) Try.underlying22 inf3 rfl rfl (by omega) (by omega) (fun zB => ⟨Sub.pick [] rfl, ?_⟩)⟩, ⟨_, rfl, rfl, l_alloc inf22 rfl (fun zC => ⟨Sub.pick [] rfl, ?_⟩)⟩, trivial⟩
      · refine RO.fork [4] (by kernel_rfl) rfl ⟨⟨_, rfl, rfl, l_alloc inf22 rfl (fun zC => ⟨Sub.pick [] rfl, ?_⟩)⟩, trivial⟩
        refine RO.fork [6] (by kernel_rfl) rfl ⟨⟨_, rfl, rfl, l_store_box (v := (.slice (some ⟨zA, 0, none⟩) nx.length nx.length)) (vs := [(.slice (some ⟨zA, 0, none⟩) nx.length nx.length)]) 0 inf22 rfl rfl rfl rfl rfl rfl (by simp [putL]) ⟨Sub.pick [] rfl, ?_⟩⟩, trivial⟩
        refine RO.fork [7] (by kernel_rfl) rfl ⟨⟨_, rfl, rfl, l_store_box (v := (.slice (some ⟨zB, 0, none⟩) nx.length nx.length)) (vs := [(.slice (some ⟨zB, 0, none⟩) nx.length nx.length)]) 3 inf22 rfl rfl rfl rfl rfl rfl (by simp [putL]) ⟨Sub.pick [] rfl, ?_⟩⟩, trivial⟩
        exact RO.fin (by kernel_rfl) ⟨zA, zB, zC, zD, rfl, ⟨rfl, rfl, rfl, rfl, rfl, rfl, rfl, trivial⟩⟩ (Sub.pick [0, 2, 1, 0, 0, 0, 0] rfl)
      refine RO.fork [3, 6] (by kernel_rfl) rfl ⟨⟨_, rfl, rfl, l_makeSlice (m := nx.length) Try.underlying22 inf3 rfl rfl (by omega) (by omega) (fun zB => ⟨Sub.pick [] rfl, ?_⟩)⟩, ⟨_, rfl, rfl, l_store_box (v := (.slice (some ⟨zA, 0, none⟩) nx.length nx.length)) (vs := [(.slice (some ⟨zA, 0, none⟩) nx.length nx.length)]) 0 inf22 rfl rfl rfl rfl rfl rfl (by simp [putL]) ⟨Sub.pick [] rfl, ?_⟩⟩, trivial⟩
      · refine RO.fork [6] (by kernel_rfl) rfl ⟨⟨_, rfl, rfl, l_store_box (v := (.slice (some ⟨zA, 0, none⟩) nx.length nx.length)) (vs := [(.slice (some ⟨zA, 0, none⟩) nx.length nx.length)]) 1 inf22 rfl rfl rfl rfl rfl rfl (by simp [putL]) ⟨Sub.pick [] rfl, ?_⟩⟩, trivial⟩
        refine RO.fork [7] (by kernel_rfl) rfl ⟨⟨_, rfl, rfl, l_store_box (v := (.slice (some ⟨zB, 0, none⟩) nx.length nx.length)) (vs := [(.slice (some ⟨zB, 0, none⟩) nx.length nx.length)]) 3 inf22 rfl rfl rfl rfl rfl rfl (by simp [putL]) ⟨Sub.pick [] rfl, ?_⟩⟩, trivial⟩
        exact RO.fin (by kernel_rfl) ⟨zA, zB, zC, zD, rfl, ⟨rfl, rfl, rfl, rfl, rfl, rfl, rfl, trivial⟩⟩ (Sub.pick [1, 2, 1, 0, 0, 0, 0] rfl)
      refine RO.fork [3] (by kernel_rfl) rfl ⟨⟨_, rfl, rfl, l_makeSlice (m := nx.length) Try.underlying22 inf3 rfl rfl (by omega) (by omega) (fun zB => ⟨Sub.pick [] rfl, ?_⟩)⟩, trivial⟩
      refine RO.fork [7] (by kernel_rfl) rfl ⟨⟨_, rfl, rfl, l_store_box (v := (.slice (some ⟨zB, 0, none⟩) nx.length nx.length)) (vs := [(.slice (some ⟨zB, 0, none⟩) nx.length nx.length)]) 3 inf22 rfl rfl rfl rfl rfl rfl (by simp [putL]) ⟨Sub.pick [] rfl, ?_⟩⟩, trivial⟩
      exact RO.fin (by kernel_rfl) ⟨zA, zB, zC, zD, rfl, ⟨rfl, rfl, rfl, rfl, rfl, rfl, rfl, trivial⟩⟩ (Sub.pick [1, 2, 1, 0, 0, 0, 0] rfl)
    · refine RO.fork [1, 4] (by kernel_rfl) rfl ⟨⟨_, rfl, rfl, l_makeSlice (m := nx.length) Try.underlying22 inf3 rfl rfl (by omega) (by omega) (fun zA => ⟨Sub.pick [] rfl, ?_⟩)⟩, ⟨_, rfl, rfl, l_alloc inf22 rfl (fun zC => ⟨Sub.pick [] rfl, ?_⟩)⟩, trivial⟩
      · refine RO.fork [4] (by kernel_rfl) rfl ⟨⟨_, rfl, rfl, l_alloc inf22 rfl (fun zC => ⟨Sub.pick [] rfl, ?_⟩)⟩, trivial⟩
        refine RO.fork [6] (by kernel_rfl) rfl ⟨⟨_, rfl, rfl, l_store_box (v := (.slice (some ⟨zA, 0, none⟩) nx.length nx.length)) (vs := [(.slice (some ⟨zA, 0, none⟩) nx.length nx.length)]) 0 inf22 rfl rfl rfl rfl rfl rfl (by simp [putL]) ⟨Sub.pick [] rfl, ?_⟩⟩, trivial⟩
        refine RO.fork [7] (by kernel_rfl) rfl ⟨⟨_, rfl, rfl, l_store_box (v := (.slice (some ⟨zB, 0, none⟩) nx.length nx.length)) (vs := [(.slice (some ⟨zB, 0, none⟩) nx.length nx.length)]) 3 inf22 rfl rfl rfl rfl rfl rfl (by simp [putL]) ⟨Sub.pick [] rfl, ?_⟩⟩, trivial⟩
        exact RO.fin (by kernel_rfl) ⟨zA, zB, zC, zD, rfl, ⟨rfl, rfl, rfl, rfl, rfl, rfl, rfl, trivial⟩⟩ (Sub.pick [0, 2, 0, 0, 0, 0, 0] rfl)
      refine RO.fork [1] (by kernel_rfl) rfl ⟨⟨_, rfl, rfl, l_makeSlice (m := nx.length) Try.underlying22 inf3 rfl rfl (by omega) (by omega) (fun zA => ⟨Sub.pick [] rfl, ?_⟩)⟩, trivial⟩
      refine RO.fork [6] (by kernel_rfl) rfl ⟨⟨_, rfl, rfl, l_store_box (v := (.slice (some ⟨zA, 0, none⟩) nx.length nx.length)) (vs := [(.slice (some ⟨zA, 0, none⟩) nx.length nx.length)]) 1 inf22 rfl rfl rfl rfl rfl rfl (by simp [putL]) ⟨Sub.pick [] rfl, ?_⟩⟩, trivial⟩
      refine RO.fork [7] (by kernel_rfl) rfl ⟨⟨_, rfl, rfl, l_store_box (v := (.slice (some ⟨zB, 0, none⟩) nx.length nx.length)) (vs := [(.slice (some ⟨zB, 0, none⟩) nx.length nx.length)]) 3 inf22 rfl rfl rfl rfl rfl rfl (by simp [putL]) ⟨Sub.pick [] rfl, ?_⟩⟩, trivial⟩
      exact RO.fin (by kernel_rfl) ⟨zA, zB, zC, zD, rfl, ⟨rfl, rfl, rfl, rfl, rfl, rfl, rfl, trivial⟩⟩ (Sub.pick [1, 2, 0, 0, 0, 0, 0] rfl)
    refine RO.fork [1, 3] (by kernel_rfl) rfl ⟨⟨_, rfl, rfl, l_makeSlice (m := nx.length) Try.underlying22 inf3 rfl rfl (by omega) (by omega) (fun zA => ⟨Sub.pick [] rfl, ?_⟩)⟩, ⟨_, rfl, rfl, l_makeSlice (m := nx.length) Try.underlying22 inf3 rfl rfl (by omega) (by omega) (fun zB => ⟨Sub.pick [] rfl, ?_⟩)⟩, trivial⟩
    · refine RO.fork [3, 6] (by kernel_rfl) rfl ⟨⟨_, rfl, rfl, l_makeSlice (m := nx.length) Try.underlying22 inf3 rfl rfl (by omega) (by omega) (fun zB => ⟨Sub.pick [] rfl, ?_⟩)⟩, ⟨_, rfl, rfl, l_store_box (v := (.slice (some ⟨zA, 0, none⟩) nx.length nx.length)) (vs := [(.slice (some ⟨zA, 0, none⟩) nx.length nx.length)]) 1 inf22 rfl rfl rfl rfl rfl rfl (by simp [putL]) ⟨Sub.pick [] rfl, ?_⟩⟩, trivial⟩
      · refine RO.fork [6] (by kernel_rfl) rfl ⟨⟨_, rfl, rfl, l_store_box (v := (.slice (some ⟨zA, 0, none⟩) nx.length nx.length)) (vs := [(.slice (some ⟨zA, 0, none⟩) nx.length nx.length)]) 2 inf22 rfl rfl rfl rfl rfl rfl (by simp [putL]) ⟨Sub.pick [] rfl, ?_⟩⟩, trivial⟩
        refine RO.fork [7] (by kernel_rfl) rfl ⟨⟨_, rfl, rfl, l_store_box (v := (.slice (some ⟨zB, 0, none⟩) nx.length nx.length)) (vs := [(.slice (some ⟨zB, 0, none⟩) nx.length nx.length)]) 3 inf22 rfl rfl rfl rfl rfl rfl (by simp [putL]) ⟨Sub.pick [] rfl, ?_⟩⟩, trivial⟩
        exact RO.fin (by kernel_rfl) ⟨zA, zB, zC, zD, rfl, ⟨rfl, rfl, rfl, rfl, rfl, rfl, rfl, trivial⟩⟩ (Sub.pick [2, 2, 1, 0, 0, 0, 0] rfl)
      refine RO.fork [3] (by kernel_rfl) rfl ⟨⟨_, rfl, rfl, l_makeSlice (m := nx.length) Try.underlying22 inf3 rfl rfl (by omega) (by omega) (fun zB => ⟨Sub.pick [] rfl, ?_⟩)⟩, trivial⟩
      refine RO.fork [7] (by kernel_rfl) rfl ⟨⟨_, rfl, rfl, l_store_box (v := (.slice (some ⟨zB, 0, none⟩) nx.length nx.length)) (vs := [(.slice (some ⟨zB, 0, none⟩) nx.length nx.length)]) 3 inf22 rfl rfl rfl rfl rfl rfl (by simp [putL]) ⟨Sub.pick [] rfl, ?_⟩⟩, trivial⟩
      exact RO.fin (by kernel_rfl) ⟨zA, zB, zC, zD, rfl, ⟨rfl, rfl, rfl, rfl, rfl, rfl, rfl, trivial⟩⟩ (Sub.pick [2, 2, 1, 0, 0, 0, 0] rfl)
    refine RO.fork [1] (by kernel_rfl) rfl ⟨⟨_, rfl, rfl, l_makeSlice (m := nx.length) Try.underlying22 inf3 rfl rfl (by omega) (by omega) (fun zA => ⟨Sub.pick [] rfl, ?_⟩)⟩, trivial⟩
    refine RO.fork [6] (by kernel_rfl) rfl ⟨⟨_, rfl, rfl, l_store_box (v := (.slice (some ⟨zA, 0, none⟩) nx.length nx.length)) (vs := [(.slice (some ⟨zA, 0, none⟩) nx.length nx.length)]) 2 inf22 rfl rfl rfl rfl rfl rfl (by simp [putL]) ⟨Sub.pick [] rfl, ?_⟩⟩, trivial⟩
    refine RO.fork [7] (by kernel_rfl) rfl ⟨⟨_, rfl, rfl, l_store_box (v := (.slice (some ⟨zB, 0, none⟩) nx.length nx.length)) (vs := [(.slice (some ⟨zB, 0, none⟩) nx.length nx.length)]) 3 inf22 rfl rfl rfl rfl rfl rfl (by simp [putL]) ⟨Sub.pick [] rfl, ?_⟩⟩, trivial⟩
    exact RO.fin (by kernel_rfl) ⟨zA, zB, zC, zD, rfl, ⟨rfl, rfl, rfl, rfl, rfl, rfl, rfl, trivial⟩⟩ (Sub.pick [2, 2, 0, 0, 0, 0, 0] rfl)
  rintro ρ O ⟨zA, zB, zC, zD, rfl, hH⟩
  obtain ⟨ρ0, rfl⟩ := hH.elim
  clear hH
  refine T.seq (T.region ?_)
  refine TO.quiet (q_move rfl) ?_
  refine TO.loud rfl (l_makeSlice (m := nx.length) Try.underlying22 inf3 rfl rfl (by omega) (by omega) (fun bx4 => ?_))
  refine TO.loud rfl (l_store_box (v := (.slice (some ⟨bx4, 0, none⟩) nx.length nx.length)) (vs := [(.slice (some ⟨bx4, 0, none⟩) nx.length nx.length)]) 6 inf22 rfl rfl rfl rfl rfl rfl (by simp [putL]) ?_)
  refine TO.nil (T.seq (T.seq (T.region ?_)))
  refine TO.quiet (q_load_box 6 Try.underlying22 rfl rfl rfl rfl) (TO.quiet (q_len Try.underlying22 rfl) (TO.quiet (q_move rfl) ?_))
  refine TO.nil (T.block ?_)
  refine T.loop (fun (k : Nat) ρ O => ∃ (cp : List Int), O = [rowI (some ⟨bx4, 0, none⟩) nx.length 3 1 (ints cp), oI zC 22 [(.slice (some ⟨zA, 0, none⟩) nx.length nx.length)], oI zD 22 [(.slice (some ⟨zB, 0, none⟩) nx.length nx.length)], rowI (some ⟨zA, 0, none⟩) nx.length 3 1 (List.replicate nx.length (.int .i64 0)), rowI (some ⟨zB, 0, none⟩) nx.length 3 1 (List.replicate nx.length (.int .i64 0)), oI bx3 3 [(.int .i64 0)], oI bx2 22 [(.slice (some ⟨bx4, 0, none⟩) nx.length nx.length)], oI bx1 79 [(.slice nb nx.length nc), (.slice mb mn mc), .int .u64 full]] ∧ k ≤ nx.length ∧ cp.length = nx.length ∧ cp.take k = List.replicate k (-1) ∧ Heads [(0, (.agg #[(.slice nb nx.length nc), (.slice mb mn mc), .int .u64 full])), (1, (.pointer (some ⟨bx1, 0, none⟩))), (2, (.pointer (some ⟨bx2, 0, none⟩))), (3, (.pointer (some ⟨bx3, 0, none⟩))), (4, .int .i64 (nx.length : Int)), (5, (.pointer (some ⟨zC, 0, none⟩))), (6, (.pointer (some ⟨zD, 0, none⟩))), (22, .int .i64 (nx.length : Int)), (23, .int .i64 (k : Int))] ρ) (fun k => nx.length - k) 0 ?_ ?_
  · exact ⟨List.replicate nx.length 0, by simp [putL], Nat.zero_le _, by simp, by simp, ⟨rfl, rfl, rfl, rfl, rfl, rfl, rfl, rfl, rfl, trivial⟩⟩
  rintro k ρ O ⟨cp, rfl, hk, hcl, hcp, hH⟩
  obtain ⟨ρ0, rfl⟩ := hH.elim
  clear hH
  refine T.seq (T.region ?_)
  refine TO.quiet (q_lss rfl rfl) ?_
  refine TO.nil (T.seq ?_)
  refine T.condP rfl (fun hc => ?_) (fun hc => ?_)
  · have hlt24 : k < nx.length := by omega
    refine T.skip (T.seq (T.block (T.seq (T.region ?_))))
    refine TO.quiet (q_move rfl) (TO.quiet (q_assign rfl) ?_)
    refine TO.nil (T.region ?_)
    refine TO.quiet (q_load_box 6 Try.underlying22 rfl rfl rfl rfl) (TO.quiet (q_move rfl) (TO.quiet (q_ix (i := k) Try.underlying22 inf3 rfl rfl (rowO (List.mem_of_getElem? (i := 0) rfl))) ?_))
    refine TO.loud rfl (l_st (j := k) (v := .int .i64 (-1)) (vs := [(.int .i64 (-1))]) (cs := ints cp) 0 inf3 rfl rfl rfl rfl rfl (by simp) rfl (by first | (simp; omega) | (simp_all; omega)) ?_)
    refine TO.sub (O' := [rowI (some ⟨bx4, 0, none⟩) nx.length 3 1 (ints (cp.set k (-1))), oI zC 22 [(.slice (some ⟨zA, 0, none⟩) nx.length nx.length)], oI zD 22 [(.slice (some ⟨zB, 0, none⟩) nx.length nx.length)], rowI (some ⟨zA, 0, none⟩) nx.length 3 1 (List.replicate nx.length (.int .i64 0)), rowI (some ⟨zB, 0, none⟩) nx.length 3 1 (List.replicate nx.length (.int .i64 0)), oI bx3 3 [(.int .i64 0)], oI bx2 22 [(.slice (some ⟨bx4, 0, none⟩) nx.length nx.length)], oI bx1 79 [(.slice nb nx.length nc), (.slice mb mn mc), .int .u64 full]]) (by rw [show putL (ints cp) k [(.int .i64 (-1))] = ints (cp.set k (-1)) from (by simp [putL])]; exact Sub.of (List.Sublist.refl _)) ?_
    refine TO.nil (T.region ?_)
    refine TO.quiet (q_addN (a := k) (b := 1) rfl rfl (by omega)) (TO.quiet (q_move rfl) ?_)
    refine TO.nil ?_
    exact ⟨k + 1, by omega, cp.set k (-1), rfl, by omega, by simp [hcl], set_take hcp (by omega), ⟨rfl, rfl, rfl, rfl, rfl, rfl, rfl, rfl, rfl, trivial⟩⟩
  have hge24 : ¬ k < nx.length := by omega
  refine T.exit ?_
  refine T.seq (T.region ?_)
  refine TO.loud rfl (l_alloc inf22 rfl (fun bx5 => ?_))
  refine TO.nil (T.seq (T.region ?_))
  refine TO.loud rfl (l_alloc inf3 rfl (fun bx6 => ?_))
  refine TO.loud rfl (l_store_box (v := .int .i64 0) (vs := [(.int .i64 0)]) 0 inf3 rfl rfl rfl rfl rfl rfl (by simp [putL]) ?_)
  refine TO.nil (T.seq (T.region ?_))
  refine TO.loud rfl (l_alloc inf104 rfl (fun bx7 => ?_))
  refine TO.nil (T.seq (T.region ?_))
  refine TO.quiet (q_makeFunc) ?_
  refine TO.loud rfl (l_store_box (v := (.func (.func 107) #[] #[(.pointer (some ⟨bx6, 0, none⟩)), (.pointer (some ⟨zC, 0, none⟩)), (.pointer (some ⟨zD, 0, none⟩)), (.pointer (some ⟨bx5, 0, none⟩)), (.pointer (some ⟨bx1, 0, none⟩)), (.pointer (some ⟨bx7, 0, none⟩)), (.pointer (some ⟨bx2, 0, none⟩)), (.pointer (some ⟨bx3, 0, none⟩))])) (vs := [(.func (.func 107) #[] #[(.pointer (some ⟨bx6, 0, none⟩)), (.pointer (some ⟨zC, 0, none⟩)), (.pointer (some ⟨zD, 0, none⟩)), (.pointer (some ⟨bx5, 0, none⟩)), (.pointer (some ⟨bx1, 0, none⟩)), (.pointer (some ⟨bx7, 0, none⟩)), (.pointer (some ⟨bx2, 0, none⟩)), (.pointer (some ⟨bx3, 0, none⟩))])]) 0 inf104 rfl rfl rfl rfl rfl rfl (by simp [putL]) ?_)
  refine TO.nil (T.seq (T.seq (T.region ?_)))
  refine TO.quiet (q_move rfl) (TO.quiet (q_move rfl) ?_)
  refine TO.nil (T.block ?_)
  have hcpe : cp = List.replicate nx.length (-1) := by rw [List.take_of_length_le (by omega)] at hcp; rw [hcp]; congr 1; omega
  subst hcpe
  refine T.nilRow 3 1 ?_
  refine T.sub (O' := [oI bx6 3 [(.int .i64 0)], oI zC 22 [(.slice (some ⟨zA, 0, none⟩) nx.length nx.length)], oI zD 22 [(.slice (some ⟨zB, 0, none⟩) nx.length nx.length)], oI bx5 22 [(.slice none 0 0)], oI bx1 79 [(.slice nb nx.length nc), (.slice mb mn mc), .int .u64 full], oI bx7 104 [(.func (.func 107) #[] #[(.pointer (some ⟨bx6, 0, none⟩)), (.pointer (some ⟨zC, 0, none⟩)), (.pointer (some ⟨zD, 0, none⟩)), (.pointer (some ⟨bx5, 0, none⟩)), (.pointer (some ⟨bx1, 0, none⟩)), (.pointer (some ⟨bx7, 0, none⟩)), (.pointer (some ⟨bx2, 0, none⟩)), (.pointer (some ⟨bx3, 0, none⟩))])], oI bx2 22 [(.slice (some ⟨bx4, 0, none⟩) nx.length nx.length)], oI bx3 3 [(.int .i64 0)], rowI (some ⟨zA, 0, none⟩) nx.length 3 1 (List.replicate nx.length (.int .i64 0)), rowI (some ⟨zB, 0, none⟩) nx.length 3 1 (List.replicate nx.length (.int .i64 0)), rowI none 0 3 1 [], rowI (some ⟨bx4, 0, none⟩) nx.length 3 1 (ints (List.replicate nx.length (-1)))]) (Sub.pick [2, 4, 4, 2, 7, 1, 5, 4, 2, 2, 0, 0] rfl) ?_
  refine T.loop (fun (k : Nat) ρ O => ∃ (s : TL) (sb : Option Addr) (sc : Nat), O = [oI bx6 3 [(.int .i64 (s.clk : Int))], oI zC 22 [(.slice (some ⟨zA, 0, none⟩) nx.length nx.length)], oI zD 22 [(.slice (some ⟨zB, 0, none⟩) nx.length nx.length)], oI bx5 22 [(.slice sb s.stk.length sc)], oI bx1 79 [(.slice nb nx.length nc), (.slice mb mn mc), .int .u64 full], oI bx7 104 [(.func (.func 107) #[] #[(.pointer (some ⟨bx6, 0, none⟩)), (.pointer (some ⟨zC, 0, none⟩)), (.pointer (some ⟨zD, 0, none⟩)), (.pointer (some ⟨bx5, 0, none⟩)), (.pointer (some ⟨bx1, 0, none⟩)), (.pointer (some ⟨bx7, 0, none⟩)), (.pointer (some ⟨bx2, 0, none⟩)), (.pointer (some ⟨bx3, 0, none⟩))])], oI bx2 22 [(.slice (some ⟨bx4, 0, none⟩) nx.length nx.length)], oI bx3 3 [(.int .i64 (s.cnt : Int))], rowI (some ⟨zA, 0, none⟩) nx.length 3 1 (nats s.idx), rowI (some ⟨zB, 0, none⟩) nx.length 3 1 (nats s.low), rowI sb sc 3 1 (nats s.stk), rowI (some ⟨bx4, 0, none⟩) nx.length 3 1 (ints s.comp)] ∧ k ≤ nx.length ∧ TLok nx.length s ∧ TInv nx.length (adjE nx) [] s.ts ∧ (∀ x, x < k → s.idx.getD x 0 ≠ 0) ∧ Heads [(0, (.agg #[(.slice nb nx.length nc), (.slice mb mn mc), .int .u64 full])), (1, (.pointer (some ⟨bx1, 0, none⟩))), (2, (.pointer (some ⟨bx2, 0, none⟩))), (3, (.pointer (some ⟨bx3, 0, none⟩))), (4, .int .i64 (nx.length : Int)), (5, (.pointer (some ⟨zC, 0, none⟩))), (6, (.pointer (some ⟨zD, 0, none⟩))), (8, (.pointer (some ⟨bx5, 0, none⟩))), (9, (.pointer (some ⟨bx6, 0, none⟩))), (10, (.pointer (some ⟨bx7, 0, none⟩))), (31, .int .i64 (nx.length : Int)), (32, .int .i64 (k : Int))] ρ) (fun k => nx.length - k) 0 ?_ ?_
  · refine ⟨{ idx := List.replicate nx.length 0, low := List.replicate nx.length 0, comp := List.replicate nx.length (-1), stk := [], clk := 0, cnt := 0 }, none, 0, by simp only [List.map_replicate, List.map_nil, List.length_nil]; rfl, Nat.zero_le _, tlok_start _, tinv_start _, fun x hx => absurd hx (by omega), ⟨rfl, rfl, rfl, rfl, rfl, rfl, rfl, rfl, rfl, rfl, rfl, rfl, trivial⟩⟩
  rintro k ρ O ⟨s, sb, sc, rfl, hk, hok, hinv, hvis, hH⟩
  obtain ⟨ρ0, rfl⟩ := hH.elim
  clear hH
  have hli := hok.li
  refine T.seq (T.region ?_)
  refine TO.quiet (q_lss rfl rfl) ?_
  refine TO.nil (T.seq ?_)
  refine T.condP rfl (fun hc => ?_) (fun hc => ?_)
  · have hlt33 : k < nx.length := by omega
    refine T.skip (T.seq (T.block (T.seq (T.region ?_))))
    refine TO.quiet (q_move rfl) (TO.quiet (q_assign rfl) ?_)
    refine TO.nil (T.seq (T.region ?_))
    refine TO.quiet (q_load_box 1 Try.underlying22 rfl rfl rfl rfl) (TO.quiet (q_move rfl) (TO.quiet (q_ix (i := k) Try.underlying22 inf3 rfl rfl (rowO (List.mem_of_getElem? (i := 8) rfl))) (TO.quiet (q_ld Try.underlying3 rfl rfl (rowO (List.mem_of_getElem? (i := 8) rfl)) nats_get) ?_)))
    refine TO.quiet (q_eql rfl rfl) ?_
    refine TO.nil ?_
    refine T.condP rfl (fun hc => ?_) (fun hc => ?_)
    · have hlt39 : s.idx[k] = 0 := by omega
      refine T.region ?_
      refine TO.quiet (q_load_box 5 Try.underlying104 rfl rfl rfl rfl) (TO.quiet (q_move rfl) ?_)
      have hk42 := CallV.of_fn (first := []) (args := [.int .i64 (k : Int)]) (caps := [(.pointer (some ⟨bx6, 0, none⟩)), (.pointer (some ⟨zC, 0, none⟩)), (.pointer (some ⟨zD, 0, none⟩)), (.pointer (some ⟨bx5, 0, none⟩)), (.pointer (some ⟨bx1, 0, none⟩)), (.pointer (some ⟨bx7, 0, none⟩)), (.pointer (some ⟨bx2, 0, none⟩)), (.pointer (some ⟨bx3, 0, none⟩))]) ent107 (visitF base nb mb nc mn mc full vs nx hS hR hn hrl hval bx6 zC zD bx5 bx1 bx7 bx2 bx3 (some ⟨zA, 0, none⟩) (some ⟨zB, 0, none⟩) (some ⟨bx4, 0, none⟩) nx.length nx.length nx.length _ s sb sc [] k rfl hok hinv hlt33 (by omega) (fun g hg => (List.not_mem_nil hg).elim))
      refine TO.loud rfl (l_callG hk42 rfl rfl ?_)
      clear hk42
      rintro vr O' ⟨s2, sb2, sc2, t2, rfl, hd⟩
      refine TO.nil (T.region ?_)
      refine TO.quiet (q_addN (a := k) (b := 1) rfl rfl (by omega)) (TO.quiet (q_move rfl) ?_)
      refine TO.nil ?_
      exact ⟨k + 1, by omega, s2, sb2, sc2, rfl, by omega, hd.ok, hd.inv, vis_step hd.ext hvis hd.post.1, ⟨rfl, rfl, rfl, rfl, rfl, rfl, rfl, rfl, rfl, rfl, rfl, rfl, trivial⟩⟩
    have hge39 : ¬ s.idx[k] = 0 := by omega
    refine T.skip (T.region ?_)
    refine TO.quiet (q_addN (a := k) (b := 1) rfl rfl (by omega)) (TO.quiet (q_move rfl) ?_)
    refine TO.nil ?_
    exact ⟨k + 1, by omega, s, sb, sc, rfl, by omega, hok, hinv, vis_snoc hvis (by rw [gd (by omega)]; omega), ⟨rfl, rfl, rfl, rfl, rfl, rfl, rfl, rfl, rfl, rfl, rfl, rfl, trivial⟩⟩
  have hge33 : ¬ k < nx.length := by omega
  refine T.exit ?_
  refine T.seq ?_
  refine T.draws _ [(0, 0), (1, 0), (2, 1), (3, 2)] mixed (by kernel_rfl) (Sub.of (List.Sublist.refl _)) (fun _ _ _ h => h) ?_
  refine DO.quiet rfl (q_load_box 6 Try.underlying22 rfl rfl rfl rfl) (DO.quiet rfl (q_load_box 7 Try.underlying3 rfl rfl rfl rfl) ?_)
  refine DO.loud rfl rfl (l_store_box (v := (.slice (some ⟨bx4, 0, none⟩) nx.length nx.length)) (vs := [(.slice (some ⟨bx4, 0, none⟩) nx.length nx.length)]) 6 inf22 rfl rfl rfl rfl rfl rfl (by simp [putL]) ⟨Sub.pick [0, 0, 0, 0, 0, 0, 0, 0, 0, 0, 0, 0] rfl, ?_⟩)
  refine DO.last rfl rfl (l_store_box (v := (.int .i64 (s.cnt : Int))) (vs := [(.int .i64 (s.cnt : Int))]) 7 inf3 rfl rfl rfl rfl rfl rfl (by simp [putL]) ?_)
  refine DO.done ?_
  refine T.ret (Res.drop ?_)
  refine Res.cell2s (i := 6) (j := 7) Try.results74 Try.underlying22 rfl Try.underlying3 rfl rfl rfl rfl rfl ?_
  have hco := hinv.done (fun v hv => hvis v (by omega))
  have e := ints_nats (cp := s.comp) (fun v hv => (hco.pos v (by rw [← hok.lc]; exact hv)).1)
  exact ⟨[rowI (some ⟨bx4, 0, none⟩) nx.length 3 1 (ints s.comp)], (Sub.pick [11] rfl), _, _, s.comp.map Int.toNat, s.cnt, rfl, by rw [e], by simp [hok.lc], comp_nats hok.lc hco hval, by have := hok.ct; omega⟩
end Go.Proofs.Ytnamoapbienooaa

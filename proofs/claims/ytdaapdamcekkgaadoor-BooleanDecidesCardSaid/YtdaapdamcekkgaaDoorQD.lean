/- Contracts of functions of the program (QD): what each call answers and that it leaves memory as it was. Conditions: those each theorem names. -/
import Derived.Test.YtdaapdamcekkgaaDoorEnd
import Derived.Test.YtdaapdamcekkgaaDoorRun
import Derived.Test.YtdaapdamcekkgaaDoorBolD
set_option linter.unusedSectionVars false
set_option linter.unusedSimpArgs false
set_option linter.unusedVariables false
set_option linter.unnecessarySimpa false
namespace Go.Proofs.YtdaapdamcekkgaaDoor
open Go.Lx Go.RowKit
set_option linter.unusedVariables false
set_option linter.unusedSimpArgs false
theorem rAll2 (w : World) (n : Int) (a : DFA) (ja : DK) (ha : At w a ja) (ba : a.next.length < 9223372036854775807 ∧ (∀ r ∈ a.next, r.length < 9223372036854775807) ∧ a.final.length < 9223372036854775807) (b : DFA) (jb : DK) (hb : At w b jb) (bb : b.next.length < 9223372036854775807 ∧ (∀ r ∈ b.next, r.length < 9223372036854775807) ∧ b.final.length < 9223372036854775807) (ad : Option Addr) (hS : Sl w ad (dC a ja ++ dC b jb)) (hA : 0 ≤ n → n ≤ 6 → AllOk (stayD n true) [a, b]) {M : DFA} {e : Nat} (hM : (allV n [a, b]).1 = M) (he : (allV n [a, b]).2 = e) :
    PureT Tryd.prog 31 [.int .i64 n, .slice ad 2 2] w fun v N => ∃ k' : DK, v = .tuple #[dV M k', .int .i64 (e : Int)] ∧ N = [dI 52 4 3 M k'] := by
  subst hM; subst he
  exact refAllC w n [⟨a, ja.nb, ja.fb, ja.nc, ja.fc, vals ja.qs⟩, ⟨b, jb.nb, jb.fb, jb.nc, jb.fc, vals jb.qs⟩] ad 2 hS (allC ha (allC hb allN)) (allC ba (allC bb allN)) (show 2 < 1000 by decide) hA
theorem bAll2 (w : World) (n : Int) (a : DFA) (ja : DK) (ha : At w a ja) (ba : a.next.length < 9223372036854775807 ∧ (∀ r ∈ a.next, r.length < 9223372036854775807) ∧ a.final.length < 9223372036854775807) (b : DFA) (jb : DK) (hb : At w b jb) (bb : b.next.length < 9223372036854775807 ∧ (∀ r ∈ b.next, r.length < 9223372036854775807) ∧ b.final.length < 9223372036854775807) (ad : Option Addr) (hS : Sl w ad (dC a ja ++ dC b jb)) (hA : 0 ≤ n → n ≤ 6 → AllOk (stayD n true) [a, b]) {M : DFA} {e : Nat} (hM : (allV n [a, b]).1 = M) (he : (allV n [a, b]).2 = e) :
    PureT Tryd.prog 32 [.int .i64 n, .slice ad 2 2] w fun v N => ∃ k' : DK, v = .tuple #[dV M k', .int .i64 (e : Int)] ∧ N = [dI 52 4 3 M k'] := by
  subst hM; subst he
  exact bAllC w n [⟨a, ja.nb, ja.fb, ja.nc, ja.fc, vals ja.qs⟩, ⟨b, jb.nb, jb.fb, jb.nc, jb.fc, vals jb.qs⟩] ad 2 hS (allC ha (allC hb allN)) (allC ba (allC bb allN)) (show 2 < 1000 by decide) hA
theorem rAll0 (w : World) (n : Int)  (ad : Option Addr) (hS : Sl w ad ([])) (hA : 0 ≤ n → n ≤ 6 → AllOk (stayD n true) []) {M : DFA} {e : Nat} (hM : (allV n []).1 = M) (he : (allV n []).2 = e) :
    PureT Tryd.prog 31 [.int .i64 n, .slice ad 0 0] w fun v N => ∃ k' : DK, v = .tuple #[dV M k', .int .i64 (e : Int)] ∧ N = [dI 52 4 3 M k'] := by
  subst hM; subst he
  exact refAllC w n [] ad 0 hS allN allN (show 0 < 1000 by decide) hA
theorem bAll0 (w : World) (n : Int)  (ad : Option Addr) (hS : Sl w ad ([])) (hA : 0 ≤ n → n ≤ 6 → AllOk (stayD n true) []) {M : DFA} {e : Nat} (hM : (allV n []).1 = M) (he : (allV n []).2 = e) :
    PureT Tryd.prog 32 [.int .i64 n, .slice ad 0 0] w fun v N => ∃ k' : DK, v = .tuple #[dV M k', .int .i64 (e : Int)] ∧ N = [dI 52 4 3 M k'] := by
  subst hM; subst he
  exact bAllC w n [] ad 0 hS allN allN (show 0 < 1000 by decide) hA
theorem refInCB (w : World) (a b : DFA) (j k : DK) (ha : At w a j) (hb : At w b k) (haa : a.next.length < 9223372036854775807) (haar : ∀ r ∈ a.next, r.length < 9223372036854775807) (haaf : a.final.length < 9223372036854775807) (hbb : b.next.length < 9223372036854775807) (hbbr : ∀ r ∈ b.next, r.length < 9223372036854775807) (hbbf : b.final.length < 9223372036854775807) (hn : wrongD a b = 0 → a.next.length * b.next.length ≤ 64) :
    PureT Tryd.prog 30 [dV a j, dV b k] w fun v N => ∃ res u wb wc is, InclA a b res ∧ u = res.getD [] ∧ is = (decide (wrongD a b = 0) && !res.isSome) ∧ v = .tuple #[.slice wb u.length wc, .bool is, .int .i64 (wrongD a b : Int)] ∧ N = [rowI wb wc 5 1 (byts u)] :=
  (refInC w a b j k ha hb haa haar haaf hbb hbbr hbbf hn).mono fun v N ⟨res, wb, wc, h1, h2, h3⟩ => ⟨res, res.getD [], wb, wc, _, h1, rfl, rfl, h2, h3⟩
theorem inclCB (w : World) (a b : DFA) (j k : DK) (ha : At w a j) (hb : At w b k) (haa : a.next.length < 9223372036854775807) (haar : ∀ r ∈ a.next, r.length < 9223372036854775807) (haaf : a.final.length < 9223372036854775807) (hbb : b.next.length < 9223372036854775807) (hbbr : ∀ r ∈ b.next, r.length < 9223372036854775807) (hbbf : b.final.length < 9223372036854775807) (hn : wrongD a b = 0 → a.next.length * b.next.length ≤ 64) :
    PureT Tryd.prog 26 [dV a j, dV b k] w fun v N => ∃ res u wb wc is, InclA a b res ∧ u = res.getD [] ∧ is = (decide (wrongD a b = 0) && !res.isSome) ∧ v = .tuple #[.slice wb u.length wc, .bool is, .int .i64 (wrongD a b : Int)] ∧ N = [rowI wb wc 5 1 (byts u)] :=
  (inclC w a b j k ha hb haa haar haaf hbb hbbr hbbf hn).mono fun v N ⟨res, wb, wc, h1, h2, h3⟩ => ⟨res, res.getD [], wb, wc, _, h1, rfl, rfl, h2, h3⟩
set_option maxHeartbeats 4000000 in
set_option maxRecDepth 20000 in
theorem decidesW (w : World) (a : DFA) (ja : DK) (ha : At w a ja) (ha1 : a.next.length < 9223372036854775807) (ha2 : ∀ r ∈ a.next, r.length < 9223372036854775807) (ha3 : a.final.length < 9223372036854775807) (b : DFA) (jb : DK) (hb : At w b jb) (hb1 : b.next.length < 9223372036854775807) (hb2 : ∀ r ∈ b.next, r.length < 9223372036854775807) (hb3 : b.final.length < 9223372036854775807) (n : Int) :
    PureT Tryd.prog 7 [dV a ja, dV b jb, .int .i64 n] w fun v N => v = .bool true ∧ N = [] := by
  refine CallT.enter Tryd.func7 rfl Tryd.ntmps7 rfl ?_
  refine T.seq (T.region ?_)
  refine TO.loud rfl (l_box (v := (dV a ja)) (cs := (dC a ja)) rfl rfl (fun z1 => ?_))
  refine TO.loud rfl (l_box (v := (dV b jb)) (cs := (dC b jb)) rfl rfl (fun z2 => ?_))
  refine TO.quiet (q_assign rfl) ?_
  refine TO.nil (T.seq (T.seq (T.region ?_)))
  refine TO.quiet (q_load_boxAgg 1 Tryd.underlying25 rfl inf25 rfl rfl rfl) (TO.quiet (q_load_boxAgg 0 Tryd.underlying25 rfl inf25 rfl rfl rfl) ?_)
  refine TO.loud rfl (l_buildSlice (m := 2) (parts := [(0, _), (1, _)]) (cs := [(.int .i64 a.vars), (.int .i64 a.start), (.slice ja.nb a.next.length ja.nc), (.slice ja.fb a.final.length ja.fc), (.int .i64 b.vars), (.int .i64 b.start), (.slice jb.nb b.next.length jb.nc), (.slice jb.fb b.final.length jb.fc)]) Tryd.underlying48 inf25 (by decide) (by kernel_rfl) rfl (fun z3 => ?_))
  have hk29 := fun (w1 : World) (hI : Inv w [rowI (some ⟨z3, 0, none⟩) 2 25 4 [(.int .i64 a.vars), (.int .i64 a.start), (.slice ja.nb a.next.length ja.nc), (.slice ja.fb a.final.length ja.fc), (.int .i64 b.vars), (.int .i64 b.start), (.slice jb.nb b.next.length jb.nc), (.slice jb.fb b.final.length jb.fc)], oI z2 25 (dC b jb), oI z1 25 (dC a ja)] w1) => long2 w1 (some ⟨z3, 0, none⟩) a b ja jb (hI.slOf (List.mem_of_getElem? (i := 0) rfl)) (hI.atB ha) (hI.atB hb) ha1 hb1
  refine TO.loud rfl (l_call ent10 (CallT.of_pure hk29) rfl ?_)
  clear hk29
  rintro vr O' ⟨N, rfl, rfl, rfl⟩
  refine TO.nil ?_
  refine T.cond rfl (fun hc => ?_) (fun hc => ?_)
  · refine T.seq ?_
    refine T.region ?_
    have hk30 := fun (w1 : World) (hI : Inv w [rowI (some ⟨z3, 0, none⟩) 2 25 4 [(.int .i64 a.vars), (.int .i64 a.start), (.slice ja.nb a.next.length ja.nc), (.slice ja.fb a.final.length ja.fc), (.int .i64 b.vars), (.int .i64 b.start), (.slice jb.nb b.next.length jb.nc), (.slice jb.fb b.final.length jb.fc)], oI z2 25 (dC b jb), oI z1 25 (dC a ja)] w1) => awakeC w1
    refine TO.loud rfl (l_call ent11 (CallT.of_pure hk30) rfl ?_)
    clear hk30
    rintro vr O' ⟨N, rfl, rfl, rfl⟩
    refine TO.quiet (q_assign rfl) ?_
    refine TO.nil (T.ret (Res.drop ?_))
    refine Res.one (.bool true) Tryd.results7 rfl ?_
    exact ⟨[], Sub.z, rfl, rfl⟩
  refine T.skip (T.seq ?_)
  obtain ⟨sa, sb⟩ := longB_two (by simpa using hc)
  have ba : a.next.length < 9223372036854775807 ∧ (∀ r ∈ a.next, r.length < 9223372036854775807) ∧ a.final.length < 9223372036854775807 := ⟨ha1, ha2, ha3⟩
  have bb : b.next.length < 9223372036854775807 ∧ (∀ r ∈ b.next, r.length < 9223372036854775807) ∧ b.final.length < 9223372036854775807 := ⟨hb1, hb2, hb3⟩
  obtain ⟨eq1, eeq⟩ : ∃ e, eqlA a b = e := ⟨_, rfl⟩
  obtain ⟨mV, hmV⟩ : ∃ m, (allV n [a, b]).1 = m := ⟨_, rfl⟩
  obtain ⟨eV, hemV⟩ : ∃ m, (allV n [a, b]).2 = m := ⟨_, rfl⟩
  obtain ⟨mZ, hmZ⟩ : ∃ m, (allV n []).1 = m := ⟨_, rfl⟩
  obtain ⟨eZ, hemZ⟩ : ∃ m, (allV n []).2 = m := ⟨_, rfl⟩
  have bV := allV_bounds (n := n) (l := [a, b]) (fun h0 h6 => sa.allOk2 h0 h6 sb)
  have bZ := allV_bounds (n := n) (l := []) (fun _ _ => allOk0 n)
  rw [hmV] at bV
  rw [hmZ] at bZ
  refine T.region ?_
  refine TO.quiet (q_load_boxAgg 2 Tryd.underlying25 rfl inf25 rfl rfl rfl) (TO.quiet (q_load_boxAgg 1 Tryd.underlying25 rfl inf25 rfl rfl rfl) ?_)
  have hk34 := fun (w1 : World) (hI : Inv w [rowI (some ⟨z3, 0, none⟩) 2 25 4 [(.int .i64 a.vars), (.int .i64 a.start), (.slice ja.nb a.next.length ja.nc), (.slice ja.fb a.final.length ja.fc), (.int .i64 b.vars), (.int .i64 b.start), (.slice jb.nb b.next.length jb.nc), (.slice jb.fb b.final.length jb.fc)], oI z2 25 (dC b jb), oI z1 25 (dC a ja)] w1) => refInCB w1 a b ja jb (hI.atB ha) (hI.atB hb) ha1 ha2 ha3 hb1 hb2 hb3 (fun _ => sa.mul sb)
  refine TO.loud rfl (l_call ent30 (CallT.of_pure hk34) rfl ?_)
  clear hk34
  rintro vr O' ⟨N, rfl, res1, u1, wb1, wc1, is1, hL1, hu1, hi1, rfl, rfl⟩
  refine TO.quiet (q_move rfl) (TO.quiet (q_extract (vs := _) rfl rfl) (TO.quiet (q_extract (vs := _) rfl rfl) (TO.quiet (q_extract (vs := _) rfl rfl) ?_)))
  refine TO.quiet (q_assign rfl) (TO.quiet (q_assign rfl) (TO.quiet (q_assign rfl) ?_))
  refine TO.nil (T.seq (T.region ?_))
  refine TO.quiet (q_load_boxAgg 2 Tryd.underlying25 rfl inf25 rfl rfl rfl) (TO.quiet (q_load_boxAgg 3 Tryd.underlying25 rfl inf25 rfl rfl rfl) ?_)
  have hk41 := fun (w1 : World) (hI : Inv w [rowI wb1 wc1 5 1 (byts u1), rowI (some ⟨z3, 0, none⟩) 2 25 4 [(.int .i64 a.vars), (.int .i64 a.start), (.slice ja.nb a.next.length ja.nc), (.slice ja.fb a.final.length ja.fc), (.int .i64 b.vars), (.int .i64 b.start), (.slice jb.nb b.next.length jb.nc), (.slice jb.fb b.final.length jb.fc)], oI z2 25 (dC b jb), oI z1 25 (dC a ja)] w1) => refInCB w1 b a jb ja (hI.atB hb) (hI.atB ha) hb1 hb2 hb3 ha1 ha2 ha3 (fun _ => sb.mul sa)
  refine TO.loud rfl (l_call ent30 (CallT.of_pure hk41) rfl ?_)
  clear hk41
  rintro vr O' ⟨N, rfl, res2, u2, wb2, wc2, is2, hL2, hu2, hi2, rfl, rfl⟩
  refine TO.quiet (q_move rfl) (TO.quiet (q_extract (vs := _) rfl rfl) (TO.quiet (q_extract (vs := _) rfl rfl) (TO.quiet (q_extract (vs := _) rfl rfl) ?_)))
  refine TO.quiet (q_assign rfl) (TO.quiet (q_assign rfl) (TO.quiet (q_assign rfl) ?_))
  refine TO.nil (T.seq (T.region ?_))
  refine TO.quiet (q_load_boxAgg 4 Tryd.underlying25 rfl inf25 rfl rfl rfl) (TO.quiet (q_load_boxAgg 3 Tryd.underlying25 rfl inf25 rfl rfl rfl) ?_)
  have hk48 := fun (w1 : World) (hI : Inv w [rowI wb2 wc2 5 1 (byts u2), rowI wb1 wc1 5 1 (byts u1), rowI (some ⟨z3, 0, none⟩) 2 25 4 [(.int .i64 a.vars), (.int .i64 a.start), (.slice ja.nb a.next.length ja.nc), (.slice ja.fb a.final.length ja.fc), (.int .i64 b.vars), (.int .i64 b.start), (.slice jb.nb b.next.length jb.nc), (.slice jb.fb b.final.length jb.fc)], oI z2 25 (dC b jb), oI z1 25 (dC a ja)] w1) => inclCB w1 a b ja jb (hI.atB ha) (hI.atB hb) ha1 ha2 ha3 hb1 hb2 hb3 (fun _ => sa.mul sb)
  refine TO.loud rfl (l_call ent26 (CallT.of_pure hk48) rfl ?_)
  clear hk48
  rintro vr O' ⟨N, rfl, res3, u3, wb3, wc3, is3, hL3, hu3, hi3, rfl, rfl⟩
  obtain rfl : res1 = res3 := hL1.unique (fun _ => by have := sa.mul sb; omega) hL3
  obtain rfl : u1 = u3 := hu1.trans hu3.symm
  obtain rfl : is1 = is3 := hi1.trans hi3.symm
  refine TO.quiet (q_move rfl) (TO.quiet (q_extract (vs := _) rfl rfl) (TO.quiet (q_extract (vs := _) rfl rfl) (TO.quiet (q_extract (vs := _) rfl rfl) ?_)))
  refine TO.quiet (q_assign rfl) (TO.quiet (q_assign rfl) (TO.quiet (q_assign rfl) ?_))
  refine TO.nil (T.seq (T.region ?_))
  refine TO.quiet (q_load_boxAgg 5 Tryd.underlying25 rfl inf25 rfl rfl rfl) (TO.quiet (q_load_boxAgg 4 Tryd.underlying25 rfl inf25 rfl rfl rfl) ?_)
  have hk55 := fun (w1 : World) (hI : Inv w [rowI wb3 wc3 5 1 (byts u1), rowI wb2 wc2 5 1 (byts u2), rowI wb1 wc1 5 1 (byts u1), rowI (some ⟨z3, 0, none⟩) 2 25 4 [(.int .i64 a.vars), (.int .i64 a.start), (.slice ja.nb a.next.length ja.nc), (.slice ja.fb a.final.length ja.fc), (.int .i64 b.vars), (.int .i64 b.start), (.slice jb.nb b.next.length jb.nc), (.slice jb.fb b.final.length jb.fc)], oI z2 25 (dC b jb), oI z1 25 (dC a ja)] w1) => (show PureT _ _ _ _ _ from by
      have h9 := eqlC w1 a b ja jb (hI.atB ha) (hI.atB hb) ha1 ha2 ha3 hb1 hb2 hb3 (fun hw => ⟨(sa.small sb hw).1, (sa.small sb hw).2 xorB⟩)
      rw [eeq] at h9
      exact h9)
  refine TO.loud rfl (l_call ent27 (CallT.of_pure hk55) rfl ?_)
  clear hk55
  rintro vr O' ⟨N, rfl, rfl, rfl⟩
  refine TO.quiet (q_move rfl) (TO.quiet (q_extract (vs := _) rfl rfl) (TO.quiet (q_extract (vs := _) rfl rfl) (TO.quiet (q_assign rfl) ?_)))
  refine TO.quiet (q_assign rfl) ?_
  refine TO.nil (T.seq (T.region ?_))
  refine TO.quiet (q_move rfl) (TO.quiet (q_load_boxAgg 5 Tryd.underlying25 rfl inf25 rfl rfl rfl) (TO.quiet (q_load_boxAgg 4 Tryd.underlying25 rfl inf25 rfl rfl rfl) ?_))
  refine TO.loud rfl (l_buildSlice (m := 2) (parts := [(0, _), (1, _)]) (cs := [(.int .i64 a.vars), (.int .i64 a.start), (.slice ja.nb a.next.length ja.nc), (.slice ja.fb a.final.length ja.fc), (.int .i64 b.vars), (.int .i64 b.start), (.slice jb.nb b.next.length jb.nc), (.slice jb.fb b.final.length jb.fc)]) Tryd.underlying48 inf25 (by decide) (by kernel_rfl) rfl (fun z4 => ?_))
  have hk63 := fun (w1 : World) (hI : Inv w [rowI (some ⟨z4, 0, none⟩) 2 25 4 [(.int .i64 a.vars), (.int .i64 a.start), (.slice ja.nb a.next.length ja.nc), (.slice ja.fb a.final.length ja.fc), (.int .i64 b.vars), (.int .i64 b.start), (.slice jb.nb b.next.length jb.nc), (.slice jb.fb b.final.length jb.fc)], rowI wb3 wc3 5 1 (byts u1), rowI wb2 wc2 5 1 (byts u2), rowI wb1 wc1 5 1 (byts u1), rowI (some ⟨z3, 0, none⟩) 2 25 4 [(.int .i64 a.vars), (.int .i64 a.start), (.slice ja.nb a.next.length ja.nc), (.slice ja.fb a.final.length ja.fc), (.int .i64 b.vars), (.int .i64 b.start), (.slice jb.nb b.next.length jb.nc), (.slice jb.fb b.final.length jb.fc)], oI z2 25 (dC b jb), oI z1 25 (dC a ja)] w1) => rAll2 w1 n a ja (hI.atB ha) ba b jb (hI.atB hb) bb (some ⟨z4, 0, none⟩) (hI.slOf (List.mem_of_getElem? (i := 0) rfl)) (fun h0 h6 => sa.allOk2 h0 h6 sb) hmV hemV
  refine TO.loud rfl (l_call ent31 (CallT.of_pure hk63) rfl ?_)
  clear hk63
  rintro vr O' ⟨N, rfl, k1, rfl, rfl⟩
  refine TO.quiet (q_move rfl) (TO.quiet (q_extract (vs := _) rfl rfl) (TO.quiet (q_extract (vs := _) rfl rfl) ?_))
  refine TO.loud rfl (l_alloc inf25 rfl (fun z5 => ?_))
  refine TO.loud rfl (l_store_box (v := (dV mV k1)) (vs := (dC mV k1)) 0 inf25 rfl rfl rfl rfl rfl rfl (by simp [putL]) ?_)
  refine TO.quiet (q_assign rfl) ?_
  refine TO.sub (O' := [oI z5 25 (dC mV k1), dI 52 4 3 mV k1, rowI wb3 wc3 5 1 (byts u1), rowI wb2 wc2 5 1 (byts u2), rowI wb1 wc1 5 1 (byts u1), oI z2 25 (dC b jb), oI z1 25 (dC a ja)]) (by exact Sub.k (.k (.d (.k (.k (.k (.d (.k (.k .z))))))))) ?_
  refine TO.nil (T.seq (T.region ?_))
  refine TO.quiet (q_move rfl) (TO.quiet (q_load_boxAgg 6 Tryd.underlying25 rfl inf25 rfl rfl rfl) (TO.quiet (q_load_boxAgg 5 Tryd.underlying25 rfl inf25 rfl rfl rfl) ?_))
  refine TO.loud rfl (l_buildSlice (m := 2) (parts := [(0, _), (1, _)]) (cs := [(.int .i64 a.vars), (.int .i64 a.start), (.slice ja.nb a.next.length ja.nc), (.slice ja.fb a.final.length ja.fc), (.int .i64 b.vars), (.int .i64 b.start), (.slice jb.nb b.next.length jb.nc), (.slice jb.fb b.final.length jb.fc)]) Tryd.underlying48 inf25 (by decide) (by kernel_rfl) rfl (fun z6 => ?_))
  have hk71 := fun (w1 : World) (hI : Inv w [rowI (some ⟨z6, 0, none⟩) 2 25 4 [(.int .i64 a.vars), (.int .i64 a.start), (.slice ja.nb a.next.length ja.nc), (.slice ja.fb a.final.length ja.fc), (.int .i64 b.vars), (.int .i64 b.start), (.slice jb.nb b.next.length jb.nc), (.slice jb.fb b.final.length jb.fc)], oI z5 25 (dC mV k1), dI 52 4 3 mV k1, rowI wb3 wc3 5 1 (byts u1), rowI wb2 wc2 5 1 (byts u2), rowI wb1 wc1 5 1 (byts u1), oI z2 25 (dC b jb), oI z1 25 (dC a ja)] w1) => bAll2 w1 n a ja (hI.atB ha) ba b jb (hI.atB hb) bb (some ⟨z6, 0, none⟩) (hI.slOf (List.mem_of_getElem? (i := 0) rfl)) (fun h0 h6 => sa.allOk2 h0 h6 sb) hmV hemV
  refine TO.loud rfl (l_call ent32 (CallT.of_pure hk71) rfl ?_)
  clear hk71
  rintro vr O' ⟨N, rfl, k2, rfl, rfl⟩
  refine TO.quiet (q_move rfl) (TO.quiet (q_extract (vs := _) rfl rfl) (TO.quiet (q_extract (vs := _) rfl rfl) ?_))
  refine TO.loud rfl (l_alloc inf25 rfl (fun z7 => ?_))
  refine TO.loud rfl (l_store_box (v := (dV mV k2)) (vs := (dC mV k2)) 0 inf25 rfl rfl rfl rfl rfl rfl (by simp [putL]) ?_)
  refine TO.quiet (q_assign rfl) ?_
  refine TO.sub (O' := [oI z7 25 (dC mV k2), dI 52 4 3 mV k2, oI z5 25 (dC mV k1), dI 52 4 3 mV k1, rowI wb3 wc3 5 1 (byts u1), rowI wb2 wc2 5 1 (byts u2), rowI wb1 wc1 5 1 (byts u1), oI z2 25 (dC b jb), oI z1 25 (dC a ja)]) (by exact Sub.k (.k (.d (.k (.k (.k (.k (.k (.k (.k .z)))))))))) ?_
  refine TO.nil (T.seq (T.region ?_))
  refine TO.quiet (q_move rfl) ?_
  have hk76 := fun (w1 : World) (hI : Inv w [oI z7 25 (dC mV k2), dI 52 4 3 mV k2, oI z5 25 (dC mV k1), dI 52 4 3 mV k1, rowI wb3 wc3 5 1 (byts u1), rowI wb2 wc2 5 1 (byts u2), rowI wb1 wc1 5 1 (byts u1), oI z2 25 (dC b jb), oI z1 25 (dC a ja)] w1) => rAll0 w1 n none (Sl.nil _ none) (fun _ _ => allOk0 n) hmZ hemZ
  refine TO.loud rfl (l_call ent31 (CallT.of_pure hk76) rfl ?_)
  clear hk76
  rintro vr O' ⟨N, rfl, k3, rfl, rfl⟩
  refine TO.quiet (q_move rfl) (TO.quiet (q_extract (vs := _) rfl rfl) (TO.quiet (q_extract (vs := _) rfl rfl) ?_))
  refine TO.loud rfl (l_alloc inf25 rfl (fun z8 => ?_))
  refine TO.loud rfl (l_store_box (v := (dV mZ k3)) (vs := (dC mZ k3)) 0 inf25 rfl rfl rfl rfl rfl rfl (by simp [putL]) ?_)
  refine TO.quiet (q_assign rfl) ?_
  refine TO.nil (T.seq (T.region ?_))
  refine TO.quiet (q_move rfl) ?_
  have hk81 := fun (w1 : World) (hI : Inv w [oI z8 25 (dC mZ k3), dI 52 4 3 mZ k3, oI z7 25 (dC mV k2), dI 52 4 3 mV k2, oI z5 25 (dC mV k1), dI 52 4 3 mV k1, rowI wb3 wc3 5 1 (byts u1), rowI wb2 wc2 5 1 (byts u2), rowI wb1 wc1 5 1 (byts u1), oI z2 25 (dC b jb), oI z1 25 (dC a ja)] w1) => bAll0 w1 n none (Sl.nil _ none) (fun _ _ => allOk0 n) hmZ hemZ
  refine TO.loud rfl (l_call ent32 (CallT.of_pure hk81) rfl ?_)
  clear hk81
  rintro vr O' ⟨N, rfl, k4, rfl, rfl⟩
  refine TO.quiet (q_move rfl) (TO.quiet (q_extract (vs := _) rfl rfl) (TO.quiet (q_extract (vs := _) rfl rfl) ?_))
  refine TO.loud rfl (l_alloc inf25 rfl (fun z9 => ?_))
  refine TO.loud rfl (l_store_box (v := (dV mZ k4)) (vs := (dC mZ k4)) 0 inf25 rfl rfl rfl rfl rfl rfl (by simp [putL]) ?_)
  refine TO.quiet (q_assign rfl) ?_
  refine TO.nil (T.seq ?_)
  have G9 := @dec_facts2 a b sa sb res1 res2 hL1 hL2 eq1 is1 is2 u2 eeq hi1 hi2 hu2
  have G1 := G9.1
  have G2 := G9.2
  have hul : u1.length < 9223372036854775807 := incl_len sa sb hL1 hu1
  refine T.region ?_
  refine TO.quiet (q_move rfl) (TO.quiet (q_move rfl) (TO.quiet (QT.toB (q_eql rfl rfl) (decide_eq_true rfl)) (TO.quiet (q_move rfl) ?_)))
  refine TO.guarded rfl rfl rfl (LT.of_quiet rfl rfl (q_move rfl) ?_)
  refine TO.guarded rfl rfl rfl (LT.of_quiet rfl rfl (q_move rfl) ?_)
  refine TO.guarded rfl rfl rfl (LT.of_quiet rfl rfl (QT.toB (q_eql rfl rfl) (decide_eq_true rfl)) ?_)
  refine TO.quiet (q_pick1 rfl rfl) (TO.quiet (q_move rfl) ?_)
  refine TO.guarded rfl rfl rfl (LT.of_quiet rfl rfl (q_move rfl) ?_)
  refine TO.guarded rfl rfl rfl (LT.of_quiet rfl rfl (q_move rfl) ?_)
  refine TO.guarded rfl rfl rfl (LT.of_quiet rfl rfl (QT.cast (q_beql Tryd.underlying4 rfl rfl) (v' := .bool true) (by simp)) ?_)
  refine TO.quiet (q_pick1 rfl rfl) (TO.quiet (q_move rfl) ?_)
  refine TO.guarded rfl rfl rfl (LT.of_quiet rfl rfl (q_move rfl) ?_)
  refine TO.guarded rfl rfl rfl (LT.of_quiet rfl rfl (q_move rfl) ?_)
  have hk100 := fun (w1 : World) (hI : Inv w [oI z9 25 (dC mZ k4), dI 52 4 3 mZ k4, oI z8 25 (dC mZ k3), dI 52 4 3 mZ k3, oI z7 25 (dC mV k2), dI 52 4 3 mV k2, oI z5 25 (dC mV k1), dI 52 4 3 mV k1, rowI wb3 wc3 5 1 (byts u1), rowI wb2 wc2 5 1 (byts u2), rowI wb1 wc1 5 1 (byts u1), oI z2 25 (dC b jb), oI z1 25 (dC a ja)] w1) => (show PureT _ _ _ _ _ from by
      have h9 := equalBytes w1 wb3 wb1 wc3 wc1 u1 u1 (hI.slOf (List.mem_of_getElem? (i := 8) rfl)) (hI.slOf (List.mem_of_getElem? (i := 10) rfl)) hul
      rw [decide_eq_true rfl] at h9
      exact h9)
  refine TO.guarded rfl rfl rfl (l_call ent33 (CallT.of_pure hk100) rfl ?_)
  clear hk100
  rintro vr O' ⟨N, rfl, rfl, rfl⟩
  refine TO.quiet (q_pick1 rfl rfl) (TO.quiet (q_move rfl) ?_)
  refine TO.guarded rfl rfl rfl (LT.of_quiet rfl rfl (q_move rfl) ?_)
  refine TO.guarded rfl rfl rfl (LT.of_quiet rfl rfl (q_move rfl) ?_)
  by_cases hs105 : is1 = true
  · refine TO.guarded rfl rfl rfl (LT.of_quiet rfl rfl (QT.toB (q_move rfl) (hs105)) ?_)
    refine TO.guarded rfl rfl rfl (LT.of_quiet rfl rfl (q_move rfl) ?_)
    refine TO.guarded rfl rfl rfl (LT.of_quiet rfl rfl (q_pick1 rfl rfl) ?_)
    refine TO.guarded rfl rfl rfl (LT.of_quiet rfl rfl (QT.cast (q_beql Tryd.underlying4 rfl rfl) (v' := .bool true) (by rw [G1]; simp_all)) ?_)
    refine TO.quiet (q_pick1 rfl rfl) (TO.quiet (q_move rfl) ?_)
    refine TO.guarded rfl rfl rfl (LT.of_quiet rfl rfl (q_move rfl) ?_)
    refine TO.guarded rfl rfl rfl (LT.of_quiet rfl rfl (q_not rfl) ?_)
    by_cases hs113 : (!eq1) = true
    · refine TO.guarded rfl rfl rfl (LT.of_quiet rfl rfl (QT.toB (q_move rfl) (hs113)) ?_)
      refine TO.passed rfl rfl ?_
      refine TO.passed rfl rfl ?_
      refine TO.passed rfl rfl ?_
      refine TO.guarded rfl rfl rfl (LT.of_quiet rfl rfl (q_pick1 rfl rfl) ?_)
      refine TO.quiet (q_pick1 rfl rfl) (TO.quiet (q_move rfl) ?_)
      refine TO.guarded rfl rfl rfl (LT.of_quiet rfl rfl (q_move rfl) ?_)
      refine TO.guarded rfl rfl rfl (LT.of_quiet rfl rfl (q_move rfl) ?_)
      refine TO.guarded rfl rfl rfl (LT.of_quiet rfl rfl (QT.toB (q_eql rfl rfl) (decide_eq_true rfl)) ?_)
      refine TO.quiet (q_pick1 rfl rfl) (TO.quiet (q_move rfl) ?_)
      refine TO.guarded rfl rfl rfl (LT.of_quiet rfl rfl (q_load_boxAgg 4 Tryd.underlying25 rfl inf25 rfl rfl rfl) ?_)
      refine TO.guarded rfl rfl rfl (LT.of_quiet rfl rfl (q_load_boxAgg 6 Tryd.underlying25 rfl inf25 rfl rfl rfl) ?_)
      have hk127 := fun (w1 : World) (hI : Inv w [oI z9 25 (dC mZ k4), dI 52 4 3 mZ k4, oI z8 25 (dC mZ k3), dI 52 4 3 mZ k3, oI z7 25 (dC mV k2), dI 52 4 3 mV k2, oI z5 25 (dC mV k1), dI 52 4 3 mV k1, rowI wb3 wc3 5 1 (byts u1), rowI wb2 wc2 5 1 (byts u2), rowI wb1 wc1 5 1 (byts u1), oI z2 25 (dC b jb), oI z1 25 (dC a ja)] w1) => equalK w1 mV k2 k1 (hI.at (k := k2) (List.mem_of_getElem? (i := 5) rfl)) (hI.at (k := k1) (List.mem_of_getElem? (i := 7) rfl)) bV.1 bV.2.1 bV.2.2
      refine TO.guarded rfl rfl rfl (l_call ent15 (CallT.of_pure hk127) rfl ?_)
      clear hk127
      rintro vr O' ⟨N, rfl, rfl, rfl⟩
      refine TO.quiet (q_pick1 rfl rfl) (TO.quiet (q_move rfl) ?_)
      refine TO.guarded rfl rfl rfl (LT.of_quiet rfl rfl (q_move rfl) ?_)
      refine TO.guarded rfl rfl rfl (LT.of_quiet rfl rfl (q_move rfl) ?_)
      refine TO.guarded rfl rfl rfl (LT.of_quiet rfl rfl (QT.toB (q_eql rfl rfl) (decide_eq_true rfl)) ?_)
      refine TO.quiet (q_pick1 rfl rfl) (TO.quiet (q_move rfl) ?_)
      refine TO.guarded rfl rfl rfl (LT.of_quiet rfl rfl (q_load_boxAgg 0 Tryd.underlying25 rfl inf25 rfl rfl rfl) ?_)
      refine TO.guarded rfl rfl rfl (LT.of_quiet rfl rfl (q_load_boxAgg 2 Tryd.underlying25 rfl inf25 rfl rfl rfl) ?_)
      have hk137 := fun (w1 : World) (hI : Inv w [oI z9 25 (dC mZ k4), dI 52 4 3 mZ k4, oI z8 25 (dC mZ k3), dI 52 4 3 mZ k3, oI z7 25 (dC mV k2), dI 52 4 3 mV k2, oI z5 25 (dC mV k1), dI 52 4 3 mV k1, rowI wb3 wc3 5 1 (byts u1), rowI wb2 wc2 5 1 (byts u2), rowI wb1 wc1 5 1 (byts u1), oI z2 25 (dC b jb), oI z1 25 (dC a ja)] w1) => equalK w1 mZ k4 k3 (hI.at (k := k4) (List.mem_of_getElem? (i := 1) rfl)) (hI.at (k := k3) (List.mem_of_getElem? (i := 3) rfl)) bZ.1 bZ.2.1 bZ.2.2
      refine TO.guarded rfl rfl rfl (l_call ent15 (CallT.of_pure hk137) rfl ?_)
      clear hk137
      rintro vr O' ⟨N, rfl, rfl, rfl⟩
      refine TO.quiet (q_pick1 rfl rfl) (TO.quiet (q_move rfl) ?_)
      have hk140 := fun (w1 : World) (hI : Inv w [oI z9 25 (dC mZ k4), dI 52 4 3 mZ k4, oI z8 25 (dC mZ k3), dI 52 4 3 mZ k3, oI z7 25 (dC mV k2), dI 52 4 3 mV k2, oI z5 25 (dC mV k1), dI 52 4 3 mV k1, rowI wb3 wc3 5 1 (byts u1), rowI wb2 wc2 5 1 (byts u2), rowI wb1 wc1 5 1 (byts u1), oI z2 25 (dC b jb), oI z1 25 (dC a ja)] w1) => awakeC w1
      refine TO.guarded rfl rfl rfl (l_call ent11 (CallT.of_pure hk140) rfl ?_)
      clear hk140
      rintro vr O' ⟨N, rfl, rfl, rfl⟩
      refine TO.quiet (q_pick1 rfl rfl) (TO.quiet (q_assign rfl) ?_)
      refine TO.nil (T.ret (Res.drop ?_))
      refine Res.one (.bool true) Tryd.results7 rfl ?_
      exact ⟨[], Sub.z, rfl, rfl⟩
    refine TO.guarded rfl rfl rfl (LT.of_quiet rfl rfl (QT.toB (q_move rfl) (Bool.eq_false_iff.2 hs113)) ?_)
    refine TO.guarded rfl rfl rfl (LT.of_quiet rfl rfl (q_move rfl) ?_)
    refine TO.guarded rfl rfl rfl (LT.of_quiet rfl rfl (q_len Tryd.underlying35 rfl) ?_)
    refine TO.guarded rfl rfl rfl (LT.of_quiet rfl rfl (QT.toB (q_eql rfl rfl) (decide_eq_true (by have := G2 (by simp_all); omega))) ?_)
    refine TO.guarded rfl rfl rfl (LT.of_quiet rfl rfl (q_pick0 rfl rfl) ?_)
    refine TO.quiet (q_pick1 rfl rfl) (TO.quiet (q_move rfl) ?_)
    refine TO.guarded rfl rfl rfl (LT.of_quiet rfl rfl (q_move rfl) ?_)
    refine TO.guarded rfl rfl rfl (LT.of_quiet rfl rfl (q_move rfl) ?_)
    refine TO.guarded rfl rfl rfl (LT.of_quiet rfl rfl (QT.toB (q_eql rfl rfl) (decide_eq_true rfl)) ?_)
    refine TO.quiet (q_pick1 rfl rfl) (TO.quiet (q_move rfl) ?_)
    refine TO.guarded rfl rfl rfl (LT.of_quiet rfl rfl (q_load_boxAgg 4 Tryd.underlying25 rfl inf25 rfl rfl rfl) ?_)
    refine TO.guarded rfl rfl rfl (LT.of_quiet rfl rfl (q_load_boxAgg 6 Tryd.underlying25 rfl inf25 rfl rfl rfl) ?_)
    have hk127 := fun (w1 : World) (hI : Inv w [oI z9 25 (dC mZ k4), dI 52 4 3 mZ k4, oI z8 25 (dC mZ k3), dI 52 4 3 mZ k3, oI z7 25 (dC mV k2), dI 52 4 3 mV k2, oI z5 25 (dC mV k1), dI 52 4 3 mV k1, rowI wb3 wc3 5 1 (byts u1), rowI wb2 wc2 5 1 (byts u2), rowI wb1 wc1 5 1 (byts u1), oI z2 25 (dC b jb), oI z1 25 (dC a ja)] w1) => equalK w1 mV k2 k1 (hI.at (k := k2) (List.mem_of_getElem? (i := 5) rfl)) (hI.at (k := k1) (List.mem_of_getElem? (i := 7) rfl)) bV.1 bV.2.1 bV.2.2
    refine TO.guarded rfl rfl rfl (l_call ent15 (CallT.of_pure hk127) rfl ?_)
    clear hk127
    rintro vr O' ⟨N, rfl, rfl, rfl⟩
    refine TO.quiet (q_pick1 rfl rfl) (TO.quiet (q_move rfl) ?_)
    refine TO.guarded rfl rfl rfl (LT.of_quiet rfl rfl (q_move rfl) ?_)
    refine TO.guarded rfl rfl rfl (LT.of_quiet rfl rfl (q_move rfl) ?_)
    refine TO.guarded rfl rfl rfl (LT.of_quiet rfl rfl (QT.toB (q_eql rfl rfl) (decide_eq_true rfl)) ?_)
    refine TO.quiet (q_pick1 rfl rfl) (TO.quiet (q_move rfl) ?_)
    refine TO.guarded rfl rfl rfl (LT.of_quiet rfl rfl (q_load_boxAgg 0 Tryd.underlying25 rfl inf25 rfl rfl rfl) ?_)
    refine TO.guarded rfl rfl rfl (LT.of_quiet rfl rfl (q_load_boxAgg 2 Tryd.underlying25 rfl inf25 rfl rfl rfl) ?_)
    have hk137 := fun (w1 : World) (hI : Inv w [oI z9 25 (dC mZ k4), dI 52 4 3 mZ k4, oI z8 25 (dC mZ k3), dI 52 4 3 mZ k3, oI z7 25 (dC mV k2), dI 52 4 3 mV k2, oI z5 25 (dC mV k1), dI 52 4 3 mV k1, rowI wb3 wc3 5 1 (byts u1), rowI wb2 wc2 5 1 (byts u2), rowI wb1 wc1 5 1 (byts u1), oI z2 25 (dC b jb), oI z1 25 (dC a ja)] w1) => equalK w1 mZ k4 k3 (hI.at (k := k4) (List.mem_of_getElem? (i := 1) rfl)) (hI.at (k := k3) (List.mem_of_getElem? (i := 3) rfl)) bZ.1 bZ.2.1 bZ.2.2
    refine TO.guarded rfl rfl rfl (l_call ent15 (CallT.of_pure hk137) rfl ?_)
    clear hk137
    rintro vr O' ⟨N, rfl, rfl, rfl⟩
    refine TO.quiet (q_pick1 rfl rfl) (TO.quiet (q_move rfl) ?_)
    have hk140 := fun (w1 : World) (hI : Inv w [oI z9 25 (dC mZ k4), dI 52 4 3 mZ k4, oI z8 25 (dC mZ k3), dI 52 4 3 mZ k3, oI z7 25 (dC mV k2), dI 52 4 3 mV k2, oI z5 25 (dC mV k1), dI 52 4 3 mV k1, rowI wb3 wc3 5 1 (byts u1), rowI wb2 wc2 5 1 (byts u2), rowI wb1 wc1 5 1 (byts u1), oI z2 25 (dC b jb), oI z1 25 (dC a ja)] w1) => awakeC w1
    refine TO.guarded rfl rfl rfl (l_call ent11 (CallT.of_pure hk140) rfl ?_)
    clear hk140
    rintro vr O' ⟨N, rfl, rfl, rfl⟩
    refine TO.quiet (q_pick1 rfl rfl) (TO.quiet (q_assign rfl) ?_)
    refine TO.nil (T.ret (Res.drop ?_))
    refine Res.one (.bool true) Tryd.results7 rfl ?_
    exact ⟨[], Sub.z, rfl, rfl⟩
  refine TO.guarded rfl rfl rfl (LT.of_quiet rfl rfl (QT.toB (q_move rfl) (Bool.eq_false_iff.2 hs105)) ?_)
  refine TO.passed rfl rfl ?_
  refine TO.guarded rfl rfl rfl (LT.of_quiet rfl rfl (q_pick0 rfl rfl) ?_)
  refine TO.guarded rfl rfl rfl (LT.of_quiet rfl rfl (QT.cast (q_beql Tryd.underlying4 rfl rfl) (v' := .bool true) (by rw [G1]; simp_all)) ?_)
  refine TO.quiet (q_pick1 rfl rfl) (TO.quiet (q_move rfl) ?_)
  refine TO.guarded rfl rfl rfl (LT.of_quiet rfl rfl (q_move rfl) ?_)
  refine TO.guarded rfl rfl rfl (LT.of_quiet rfl rfl (q_not rfl) ?_)
  by_cases hs113 : (!eq1) = true
  · refine TO.guarded rfl rfl rfl (LT.of_quiet rfl rfl (QT.toB (q_move rfl) (hs113)) ?_)
    refine TO.passed rfl rfl ?_
    refine TO.passed rfl rfl ?_
    refine TO.passed rfl rfl ?_
    refine TO.guarded rfl rfl rfl (LT.of_quiet rfl rfl (q_pick1 rfl rfl) ?_)
    refine TO.quiet (q_pick1 rfl rfl) (TO.quiet (q_move rfl) ?_)
    refine TO.guarded rfl rfl rfl (LT.of_quiet rfl rfl (q_move rfl) ?_)
    refine TO.guarded rfl rfl rfl (LT.of_quiet rfl rfl (q_move rfl) ?_)
    refine TO.guarded rfl rfl rfl (LT.of_quiet rfl rfl (QT.toB (q_eql rfl rfl) (decide_eq_true rfl)) ?_)
    refine TO.quiet (q_pick1 rfl rfl) (TO.quiet (q_move rfl) ?_)
    refine TO.guarded rfl rfl rfl (LT.of_quiet rfl rfl (q_load_boxAgg 4 Tryd.underlying25 rfl inf25 rfl rfl rfl) ?_)
    refine TO.guarded rfl rfl rfl (LT.of_quiet rfl rfl (q_load_boxAgg 6 Tryd.underlying25 rfl inf25 rfl rfl rfl) ?_)
    have hk127 := fun (w1 : World) (hI : Inv w [oI z9 25 (dC mZ k4), dI 52 4 3 mZ k4, oI z8 25 (dC mZ k3), dI 52 4 3 mZ k3, oI z7 25 (dC mV k2), dI 52 4 3 mV k2, oI z5 25 (dC mV k1), dI 52 4 3 mV k1, rowI wb3 wc3 5 1 (byts u1), rowI wb2 wc2 5 1 (byts u2), rowI wb1 wc1 5 1 (byts u1), oI z2 25 (dC b jb), oI z1 25 (dC a ja)] w1) => equalK w1 mV k2 k1 (hI.at (k := k2) (List.mem_of_getElem? (i := 5) rfl)) (hI.at (k := k1) (List.mem_of_getElem? (i := 7) rfl)) bV.1 bV.2.1 bV.2.2
    refine TO.guarded rfl rfl rfl (l_call ent15 (CallT.of_pure hk127) rfl ?_)
    clear hk127
    rintro vr O' ⟨N, rfl, rfl, rfl⟩
    refine TO.quiet (q_pick1 rfl rfl) (TO.quiet (q_move rfl) ?_)
    refine TO.guarded rfl rfl rfl (LT.of_quiet rfl rfl (q_move rfl) ?_)
    refine TO.guarded rfl rfl rfl (LT.of_quiet rfl rfl (q_move rfl) ?_)
    refine TO.guarded rfl rfl rfl (LT.of_quiet rfl rfl (QT.toB (q_eql rfl rfl) (decide_eq_true rfl)) ?_)
    refine TO.quiet (q_pick1 rfl rfl) (TO.quiet (q_move rfl) ?_)
    refine TO.guarded rfl rfl rfl (LT.of_quiet rfl rfl (q_load_boxAgg 0 Tryd.underlying25 rfl inf25 rfl rfl rfl) ?_)
    refine TO.guarded rfl rfl rfl (LT.of_quiet rfl rfl (q_load_boxAgg 2 Tryd.underlying25 rfl inf25 rfl rfl rfl) ?_)
    have hk137 := fun (w1 : World) (hI : Inv w [oI z9 25 (dC mZ k4), dI 52 4 3 mZ k4, oI z8 25 (dC mZ k3), dI 52 4 3 mZ k3, oI z7 25 (dC mV k2), dI 52 4 3 mV k2, oI z5 25 (dC mV k1), dI 52 4 3 mV k1, rowI wb3 wc3 5 1 (byts u1), rowI wb2 wc2 5 1 (byts u2), rowI wb1 wc1 5 1 (byts u1), oI z2 25 (dC b jb), oI z1 25 (dC a ja)] w1) => equalK w1 mZ k4 k3 (hI.at (k := k4) (List.mem_of_getElem? (i := 1) rfl)) (hI.at (k := k3) (List.mem_of_getElem? (i := 3) rfl)) bZ.1 bZ.2.1 bZ.2.2
    refine TO.guarded rfl rfl rfl (l_call ent15 (CallT.of_pure hk137) rfl ?_)
    clear hk137
    rintro vr O' ⟨N, rfl, rfl, rfl⟩
    refine TO.quiet (q_pick1 rfl rfl) (TO.quiet (q_move rfl) ?_)
    have hk140 := fun (w1 : World) (hI : Inv w [oI z9 25 (dC mZ k4), dI 52 4 3 mZ k4, oI z8 25 (dC mZ k3), dI 52 4 3 mZ k3, oI z7 25 (dC mV k2), dI 52 4 3 mV k2, oI z5 25 (dC mV k1), dI 52 4 3 mV k1, rowI wb3 wc3 5 1 (byts u1), rowI wb2 wc2 5 1 (byts u2), rowI wb1 wc1 5 1 (byts u1), oI z2 25 (dC b jb), oI z1 25 (dC a ja)] w1) => awakeC w1
    refine TO.guarded rfl rfl rfl (l_call ent11 (CallT.of_pure hk140) rfl ?_)
    clear hk140
    rintro vr O' ⟨N, rfl, rfl, rfl⟩
    refine TO.quiet (q_pick1 rfl rfl) (TO.quiet (q_assign rfl) ?_)
    refine TO.nil (T.ret (Res.drop ?_))
    refine Res.one (.bool true) Tryd.results7 rfl ?_
    exact ⟨[], Sub.z, rfl, rfl⟩
  refine TO.guarded rfl rfl rfl (LT.of_quiet rfl rfl (QT.toB (q_move rfl) (Bool.eq_false_iff.2 hs113)) ?_)
  refine TO.guarded rfl rfl rfl (LT.of_quiet rfl rfl (q_move rfl) ?_)
  refine TO.guarded rfl rfl rfl (LT.of_quiet rfl rfl (q_len Tryd.underlying35 rfl) ?_)
  refine TO.guarded rfl rfl rfl (LT.of_quiet rfl rfl (QT.toB (q_eql rfl rfl) (decide_eq_true (by have := G2 (by simp_all); omega))) ?_)
  refine TO.guarded rfl rfl rfl (LT.of_quiet rfl rfl (q_pick0 rfl rfl) ?_)
  refine TO.quiet (q_pick1 rfl rfl) (TO.quiet (q_move rfl) ?_)
  refine TO.guarded rfl rfl rfl (LT.of_quiet rfl rfl (q_move rfl) ?_)
  refine TO.guarded rfl rfl rfl (LT.of_quiet rfl rfl (q_move rfl) ?_)
  refine TO.guarded rfl rfl rfl (LT.of_quiet rfl rfl (QT.toB (q_eql rfl rfl) (decide_eq_true rfl)) ?_)
  refine TO.quiet (q_pick1 rfl rfl) (TO.quiet (q_move rfl) ?_)
  refine TO.guarded rfl rfl rfl (LT.of_quiet rfl rfl (q_load_boxAgg 4 Tryd.underlying25 rfl inf25 rfl rfl rfl) ?_)
  refine TO.guarded rfl rfl rfl (LT.of_quiet rfl rfl (q_load_boxAgg 6 Tryd.underlying25 rfl inf25 rfl rfl rfl) ?_)
  have hk127 := fun (w1 : World) (hI : Inv w [oI z9 25 (dC mZ k4), dI 52 4 3 mZ k4, oI z8 25 (dC mZ k3), dI 52 4 3 mZ k3, oI z7 25 (dC mV k2), dI 52 4 3 mV k2, oI z5 25 (dC mV k1), dI 52 4 3 mV k1, rowI wb3 wc3 5 1 (byts u1), rowI wb2 wc2 5 1 (byts u2), rowI wb1 wc1 5 1 (byts u1), oI z2 25 (dC b jb), oI z1 25 (dC a ja)] w1) => equalK w1 mV k2 k1 (hI.at (k := k2) (List.mem_of_getElem? (i := 5) rfl)) (hI.at (k := k1) (List.mem_of_getElem? (i := 7) rfl)) bV.1 bV.2.1 bV.2.2
  refine TO.guarded rfl rfl rfl (l_call ent15 (CallT.of_pure hk127) rfl ?_)
  clear hk127
  rintro vr O' ⟨N, rfl, rfl, rfl⟩
  refine TO.quiet (q_pick1 rfl rfl) (TO.quiet (q_move rfl) ?_)
  refine TO.guarded rfl rfl rfl (LT.of_quiet rfl rfl (q_move rfl) ?_)
  refine TO.guarded rfl rfl rfl (LT.of_quiet rfl rfl (q_move rfl) ?_)
  refine TO.guarded rfl rfl rfl (LT.of_quiet rfl rfl (QT.toB (q_eql rfl rfl) (decide_eq_true rfl)) ?_)
  refine TO.quiet (q_pick1 rfl rfl) (TO.quiet (q_move rfl) ?_)
  refine TO.guarded rfl rfl rfl (LT.of_quiet rfl rfl (q_load_boxAgg 0 Tryd.underlying25 rfl inf25 rfl rfl rfl) ?_)
  refine TO.guarded rfl rfl rfl (LT.of_quiet rfl rfl (q_load_boxAgg 2 Tryd.underlying25 rfl inf25 rfl rfl rfl) ?_)
  have hk137 := fun (w1 : World) (hI : Inv w [oI z9 25 (dC mZ k4), dI 52 4 3 mZ k4, oI z8 25 (dC mZ k3), dI 52 4 3 mZ k3, oI z7 25 (dC mV k2), dI 52 4 3 mV k2, oI z5 25 (dC mV k1), dI 52 4 3 mV k1, rowI wb3 wc3 5 1 (byts u1), rowI wb2 wc2 5 1 (byts u2), rowI wb1 wc1 5 1 (byts u1), oI z2 25 (dC b jb), oI z1 25 (dC a ja)] w1) => equalK w1 mZ k4 k3 (hI.at (k := k4) (List.mem_of_getElem? (i := 1) rfl)) (hI.at (k := k3) (List.mem_of_getElem? (i := 3) rfl)) bZ.1 bZ.2.1 bZ.2.2
  refine TO.guarded rfl rfl rfl (l_call ent15 (CallT.of_pure hk137) rfl ?_)
  clear hk137
  rintro vr O' ⟨N, rfl, rfl, rfl⟩
  refine TO.quiet (q_pick1 rfl rfl) (TO.quiet (q_move rfl) ?_)
  have hk140 := fun (w1 : World) (hI : Inv w [oI z9 25 (dC mZ k4), dI 52 4 3 mZ k4, oI z8 25 (dC mZ k3), dI 52 4 3 mZ k3, oI z7 25 (dC mV k2), dI 52 4 3 mV k2, oI z5 25 (dC mV k1), dI 52 4 3 mV k1, rowI wb3 wc3 5 1 (byts u1), rowI wb2 wc2 5 1 (byts u2), rowI wb1 wc1 5 1 (byts u1), oI z2 25 (dC b jb), oI z1 25 (dC a ja)] w1) => awakeC w1
  refine TO.guarded rfl rfl rfl (l_call ent11 (CallT.of_pure hk140) rfl ?_)
  clear hk140
  rintro vr O' ⟨N, rfl, rfl, rfl⟩
  refine TO.quiet (q_pick1 rfl rfl) (TO.quiet (q_assign rfl) ?_)
  refine TO.nil (T.ret (Res.drop ?_))
  refine Res.one (.bool true) Tryd.results7 rfl ?_
  exact ⟨[], Sub.z, rfl, rfl⟩
theorem decidesLaw (w : World) (a : DFA) (nba fba : Option Addr) (nca fca : Nat) (vsa : List Value) (ha : DfaAt w a nba vsa fba) (ha1 : a.next.length < 9223372036854775807) (ha2 : ∀ r ∈ a.next, r.length < 9223372036854775807) (ha3 : a.final.length < 9223372036854775807) (b : DFA) (nbb fbb : Option Addr) (ncb fcb : Nat) (vsb : List Value) (hb : DfaAt w b nbb vsb fbb) (hb1 : b.next.length < 9223372036854775807) (hb2 : ∀ r ∈ b.next, r.length < 9223372036854775807) (hb3 : b.final.length < 9223372036854775807) (n : Int) :
    PureT Tryd.prog 7 [.agg (dfaCells a nba nca fba fca).toArray, .agg (dfaCells b nbb ncb fbb fcb).toArray, .int .i64 n] w fun v N => v = .bool true ∧ N = [] := by
  obtain ⟨ja, ga, ea⟩ := ha.dk nca fca
  obtain ⟨jb, gb, eb⟩ := hb.dk ncb fcb
  rw [ea, eb]
  exact decidesW w a ja ga ha1 ha2 ha3 b jb gb hb1 hb2 hb3 n
end Go.Proofs.YtdaapdamcekkgaaDoor

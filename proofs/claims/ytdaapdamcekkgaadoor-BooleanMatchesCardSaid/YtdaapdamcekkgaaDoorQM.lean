/- Contracts of functions of the program (QM): what each call answers and that it leaves memory as it was. Conditions: those each theorem names. -/
import Derived.Test.YtdaapdamcekkgaaDoorEnd
import Derived.Test.YtdaapdamcekkgaaDoorRun
set_option linter.unusedSectionVars false
set_option linter.unusedSimpArgs false
set_option linter.unusedVariables false
set_option linter.unnecessarySimpa false
namespace Go.Proofs.YtdaapdamcekkgaaDoor
open Go.Lx Go.RowKit
set_option linter.unusedVariables false
set_option linter.unusedSimpArgs false
set_option maxHeartbeats 4000000 in
set_option maxRecDepth 20000 in
theorem matchesW (w : World) (a : DFA) (ja : DK) (ha : At w a ja) (ha1 : a.next.length < 9223372036854775807) (ha2 : ∀ r ∈ a.next, r.length < 9223372036854775807) (ha3 : a.final.length < 9223372036854775807) (b : DFA) (jb : DK) (hb : At w b jb) (hb1 : b.next.length < 9223372036854775807) (hb2 : ∀ r ∈ b.next, r.length < 9223372036854775807) (hb3 : b.final.length < 9223372036854775807) :
    PureT Tryd.prog 3 [dV a ja, dV b jb] w fun v N => v = .bool true ∧ N = [] := by
  refine CallT.enter Tryd.func3 rfl Tryd.ntmps3 rfl ?_
  refine T.seq (T.region ?_)
  refine TO.loud rfl (l_box (v := (dV a ja)) (cs := (dC a ja)) rfl rfl (fun z1 => ?_))
  refine TO.loud rfl (l_box (v := (dV b jb)) (cs := (dC b jb)) rfl rfl (fun z2 => ?_))
  refine TO.quiet (q_assign rfl) ?_
  refine TO.nil (T.seq (T.seq (T.region ?_)))
  refine TO.quiet (q_load_boxAgg 1 Tryd.underlying25 rfl inf25 rfl rfl rfl) (TO.quiet (q_load_boxAgg 0 Tryd.underlying25 rfl inf25 rfl rfl rfl) ?_)
  refine TO.loud rfl (l_buildSlice (m := 2) (parts := [(0, _), (1, _)]) (cs := [(.int .i64 a.vars), (.int .i64 a.start), (.slice ja.nb a.next.length ja.nc), (.slice ja.fb a.final.length ja.fc), (.int .i64 b.vars), (.int .i64 b.start), (.slice jb.nb b.next.length jb.nc), (.slice jb.fb b.final.length jb.fc)]) Tryd.underlying48 inf25 (by decide) (by kernel_rfl) rfl (fun z3 => ?_))
  have hk20 := fun (w1 : World) (hI : Inv w [rowI (some ⟨z3, 0, none⟩) 2 25 4 [(.int .i64 a.vars), (.int .i64 a.start), (.slice ja.nb a.next.length ja.nc), (.slice ja.fb a.final.length ja.fc), (.int .i64 b.vars), (.int .i64 b.start), (.slice jb.nb b.next.length jb.nc), (.slice jb.fb b.final.length jb.fc)], oI z2 25 (dC b jb), oI z1 25 (dC a ja)] w1) => long2 w1 (some ⟨z3, 0, none⟩) a b ja jb (hI.slOf (List.mem_of_getElem? (i := 0) rfl)) (hI.atB ha) (hI.atB hb) ha1 hb1
  refine TO.loud rfl (l_call ent10 (CallT.of_pure hk20) rfl ?_)
  clear hk20
  rintro vr O' ⟨N, rfl, rfl, rfl⟩
  refine TO.nil ?_
  refine T.cond rfl (fun hc => ?_) (fun hc => ?_)
  · refine T.seq ?_
    refine T.region ?_
    have hk21 := fun (w1 : World) (hI : Inv w [rowI (some ⟨z3, 0, none⟩) 2 25 4 [(.int .i64 a.vars), (.int .i64 a.start), (.slice ja.nb a.next.length ja.nc), (.slice ja.fb a.final.length ja.fc), (.int .i64 b.vars), (.int .i64 b.start), (.slice jb.nb b.next.length jb.nc), (.slice jb.fb b.final.length jb.fc)], oI z2 25 (dC b jb), oI z1 25 (dC a ja)] w1) => awakeC w1
    refine TO.loud rfl (l_call ent11 (CallT.of_pure hk21) rfl ?_)
    clear hk21
    rintro vr O' ⟨N, rfl, rfl, rfl⟩
    refine TO.quiet (q_assign rfl) ?_
    refine TO.nil (T.ret (Res.drop ?_))
    refine Res.one (.bool true) Tryd.results3 rfl ?_
    exact ⟨[], Sub.z, rfl, rfl⟩
  refine T.skip ?_
  obtain ⟨sa, sb⟩ := longB_two (by simpa using hc)
  have ba : a.next.length < 9223372036854775807 ∧ (∀ r ∈ a.next, r.length < 9223372036854775807) ∧ a.final.length < 9223372036854775807 := ⟨ha1, ha2, ha3⟩
  have bb : b.next.length < 9223372036854775807 ∧ (∀ r ∈ b.next, r.length < 9223372036854775807) ∧ b.final.length < 9223372036854775807 := ⟨hb1, hb2, hb3⟩
  refine T.cut (fun ρ O => ∃ (b5 b6 : Nat) (k1 k2 : DK), O = [oI b6 25 (dC b k2), oI b5 25 (dC a k1), dI 52 4 3 b k2, dI 52 4 3 a k1, rowI (some ⟨z3, 0, none⟩) 2 25 4 [(.int .i64 a.vars), (.int .i64 a.start), (.slice ja.nb a.next.length ja.nc), (.slice ja.fb a.final.length ja.fc), (.int .i64 b.vars), (.int .i64 b.start), (.slice jb.nb b.next.length jb.nc), (.slice jb.fb b.final.length jb.fc)], oI z2 25 (dC b jb), oI z1 25 (dC a ja)] ∧ Heads [(0, (dV a ja)), (1, (dV b jb)), (2, (.pointer (some ⟨z1, 0, none⟩))), (3, (.pointer (some ⟨z2, 0, none⟩))), (4, .bool false), (5, (.pointer (some ⟨b5, 0, none⟩))), (6, (.pointer (some ⟨b6, 0, none⟩)))] ρ) ?_ ?_
  · refine T.treeT [rowI (some ⟨z3, 0, none⟩) 2 25 4 [(.int .i64 a.vars), (.int .i64 a.start), (.slice ja.nb a.next.length ja.nc), (.slice ja.fb a.final.length ja.fc), (.int .i64 b.vars), (.int .i64 b.start), (.slice jb.nb b.next.length jb.nc), (.slice jb.fb b.final.length jb.fc)], oI z2 25 (dC b jb), oI z1 25 (dC a ja)] [6, 7] 8 mixed rfl (by exact Sub.rf) (fun _ _ _ h => h) ?_
    refine RO.quietTT 0 rfl (by kernel_rfl) (q_load_boxAgg 2 Tryd.underlying25 rfl inf25 rfl rfl rfl) ?_
    refine RO.quietTT 2 rfl (by kernel_rfl) (q_load_boxAgg 1 Tryd.underlying25 rfl inf25 rfl rfl rfl) ?_
    have hk23 := fun (w1 : World) (hI : Inv w [rowI (some ⟨z3, 0, none⟩) 2 25 4 [(.int .i64 a.vars), (.int .i64 a.start), (.slice ja.nb a.next.length ja.nc), (.slice ja.fb a.final.length ja.fc), (.int .i64 b.vars), (.int .i64 b.start), (.slice jb.nb b.next.length jb.nc), (.slice jb.fb b.final.length jb.fc)], oI z2 25 (dC b jb), oI z1 25 (dC a ja)] w1) => copyK w1 a ja (hI.atB ha) (by have := sa.n8; omega) (fun r hr => by have := sa.r100 r hr; omega) (by have := sa.f40; omega)
    refine RO.forkT [1, 4, 5] (by kernel_rfl) rfl ⟨⟨_, rfl, rfl, l_call ent12 (CallT.of_pure hk23) rfl ?_⟩, ⟨_, rfl, rfl, l_alloc inf25 rfl (fun b5 => ⟨.inr (by exact Sub.d (.k (.k (.k .z)))), ?_⟩)⟩, ⟨_, rfl, rfl, l_alloc inf25 rfl (fun b6 => ⟨.inr (by exact Sub.d (.k (.k (.k .z)))), ?_⟩)⟩, trivial⟩ (by kernel_rfl)
    · clear hk23
      rintro vr O' ⟨N, rfl, k1, rfl, rfl⟩
      refine ⟨.inr (by exact Sub.d (.k (.k (.k .z)))), ?_⟩
      have hk25 := fun (w1 : World) (hI : Inv w [dI 52 4 3 a k1, rowI (some ⟨z3, 0, none⟩) 2 25 4 [(.int .i64 a.vars), (.int .i64 a.start), (.slice ja.nb a.next.length ja.nc), (.slice ja.fb a.final.length ja.fc), (.int .i64 b.vars), (.int .i64 b.start), (.slice jb.nb b.next.length jb.nc), (.slice jb.fb b.final.length jb.fc)], oI z2 25 (dC b jb), oI z1 25 (dC a ja)] w1) => copyK w1 b jb (hI.atB hb) (by have := sb.n8; omega) (fun r hr => by have := sb.r100 r hr; omega) (by have := sb.f40; omega)
      refine RO.forkT [3, 4, 5] (by kernel_rfl) rfl ⟨⟨_, rfl, rfl, l_call ent12 (CallT.of_pure hk25) rfl ?_⟩, ⟨_, rfl, rfl, l_alloc inf25 rfl (fun b5 => ⟨.inr (by exact Sub.d (.d (.k (.k (.k .z))))), ?_⟩)⟩, ⟨_, rfl, rfl, l_alloc inf25 rfl (fun b6 => ⟨.inr (by exact Sub.d (.d (.k (.k (.k .z))))), ?_⟩)⟩, trivial⟩ (by kernel_rfl)
      · clear hk25
        rintro vr O' ⟨N, rfl, k2, rfl, rfl⟩
        refine ⟨.inr (by exact Sub.d (.d (.k (.k (.k .z))))), ?_⟩
        refine RO.forkT [4, 5] (by kernel_rfl) rfl ⟨⟨_, rfl, rfl, l_alloc inf25 rfl (fun b5 => ⟨.inr (by exact Sub.d (.d (.d (.k (.k (.k .z)))))), ?_⟩)⟩, ⟨_, rfl, rfl, l_alloc inf25 rfl (fun b6 => ⟨.inr (by exact Sub.d (.d (.d (.k (.k (.k .z)))))), ?_⟩)⟩, trivial⟩ (by kernel_rfl)
        · refine RO.forkT [5] (by kernel_rfl) rfl ⟨⟨_, rfl, rfl, l_alloc inf25 rfl (fun b6 => ⟨.inr (by exact Sub.d (.d (.d (.d (.k (.k (.k .z))))))), ?_⟩)⟩, trivial⟩ (by kernel_rfl)
          refine RO.forkT [6] (by kernel_rfl) rfl ⟨⟨_, rfl, rfl, l_store_box (v := (dV a k1)) (vs := (dC a k1)) 1 inf25 rfl rfl rfl rfl rfl rfl (by simp [putL]) ⟨.inl (by decide), ?_⟩⟩, trivial⟩ (by kernel_rfl)
          refine RO.forkT [7] (by kernel_rfl) rfl ⟨⟨_, rfl, rfl, l_store_box (v := (dV b k2)) (vs := (dC b k2)) 0 inf25 rfl rfl rfl rfl rfl rfl (by simp [putL]) ⟨.inl (by decide), ?_⟩⟩, trivial⟩ (by kernel_rfl)
          exact RO.fin (by kernel_rfl) ⟨b5, b6, k1, k2, rfl, ⟨rfl, rfl, rfl, rfl, rfl, rfl, rfl, trivial⟩⟩ (by exact Sub.rf)
        refine RO.forkT [4] (by kernel_rfl) rfl ⟨⟨_, rfl, rfl, l_alloc inf25 rfl (fun b5 => ⟨.inr (by exact Sub.d (.d (.d (.d (.k (.k (.k .z))))))), ?_⟩)⟩, trivial⟩ (by kernel_rfl)
        refine RO.forkT [6] (by kernel_rfl) rfl ⟨⟨_, rfl, rfl, l_store_box (v := (dV a k1)) (vs := (dC a k1)) 0 inf25 rfl rfl rfl rfl rfl rfl (by simp [putL]) ⟨.inl (by decide), ?_⟩⟩, trivial⟩ (by kernel_rfl)
        refine RO.forkT [7] (by kernel_rfl) rfl ⟨⟨_, rfl, rfl, l_store_box (v := (dV b k2)) (vs := (dC b k2)) 1 inf25 rfl rfl rfl rfl rfl rfl (by simp [putL]) ⟨.inl (by decide), ?_⟩⟩, trivial⟩ (by kernel_rfl)
        exact RO.fin (by kernel_rfl) ⟨b5, b6, k1, k2, rfl, ⟨rfl, rfl, rfl, rfl, rfl, rfl, rfl, trivial⟩⟩ (by exact Sub.pull [oI b5 25 (dC a k1)] _ (.k (.k (.k (.k (.k (.k .z)))))))
      · have hk25 := fun (w1 : World) (hI : Inv w [oI b5 25 [(.int .i64 0), (.int .i64 0), (.slice none 0 0), (.slice none 0 0)], dI 52 4 3 a k1, rowI (some ⟨z3, 0, none⟩) 2 25 4 [(.int .i64 a.vars), (.int .i64 a.start), (.slice ja.nb a.next.length ja.nc), (.slice ja.fb a.final.length ja.fc), (.int .i64 b.vars), (.int .i64 b.start), (.slice jb.nb b.next.length jb.nc), (.slice jb.fb b.final.length jb.fc)], oI z2 25 (dC b jb), oI z1 25 (dC a ja)] w1) => copyK w1 b jb (hI.atB hb) (by have := sb.n8; omega) (fun r hr => by have := sb.r100 r hr; omega) (by have := sb.f40; omega)
        refine RO.forkT [3, 5] (by kernel_rfl) rfl ⟨⟨_, rfl, rfl, l_call ent12 (CallT.of_pure hk25) rfl ?_⟩, ⟨_, rfl, rfl, l_alloc inf25 rfl (fun b6 => ⟨.inr (by exact Sub.d (.d (.d (.k (.k (.k .z)))))), ?_⟩)⟩, trivial⟩ (by kernel_rfl)
        · clear hk25
          rintro vr O' ⟨N, rfl, k2, rfl, rfl⟩
          refine ⟨.inr (by exact Sub.d (.d (.d (.k (.k (.k .z)))))), ?_⟩
          refine RO.forkT [5] (by kernel_rfl) rfl ⟨⟨_, rfl, rfl, l_alloc inf25 rfl (fun b6 => ⟨.inr (by exact Sub.d (.d (.d (.d (.k (.k (.k .z))))))), ?_⟩)⟩, trivial⟩ (by kernel_rfl)
          refine RO.forkT [6] (by kernel_rfl) rfl ⟨⟨_, rfl, rfl, l_store_box (v := (dV a k1)) (vs := (dC a k1)) 2 inf25 rfl rfl rfl rfl rfl rfl (by simp [putL]) ⟨.inl (by decide), ?_⟩⟩, trivial⟩ (by kernel_rfl)
          refine RO.forkT [7] (by kernel_rfl) rfl ⟨⟨_, rfl, rfl, l_store_box (v := (dV b k2)) (vs := (dC b k2)) 0 inf25 rfl rfl rfl rfl rfl rfl (by simp [putL]) ⟨.inl (by decide), ?_⟩⟩, trivial⟩ (by kernel_rfl)
          exact RO.fin (by kernel_rfl) ⟨b5, b6, k1, k2, rfl, ⟨rfl, rfl, rfl, rfl, rfl, rfl, rfl, trivial⟩⟩ (by exact Sub.k (.pull [dI 52 4 3 b k2] _ (.k (.k (.k (.k (.k .z)))))))
        have hk25 := fun (w1 : World) (hI : Inv w [oI b6 25 [(.int .i64 0), (.int .i64 0), (.slice none 0 0), (.slice none 0 0)], oI b5 25 [(.int .i64 0), (.int .i64 0), (.slice none 0 0), (.slice none 0 0)], dI 52 4 3 a k1, rowI (some ⟨z3, 0, none⟩) 2 25 4 [(.int .i64 a.vars), (.int .i64 a.start), (.slice ja.nb a.next.length ja.nc), (.slice ja.fb a.final.length ja.fc), (.int .i64 b.vars), (.int .i64 b.start), (.slice jb.nb b.next.length jb.nc), (.slice jb.fb b.final.length jb.fc)], oI z2 25 (dC b jb), oI z1 25 (dC a ja)] w1) => copyK w1 b jb (hI.atB hb) (by have := sb.n8; omega) (fun r hr => by have := sb.r100 r hr; omega) (by have := sb.f40; omega)
        refine RO.forkT [3] (by kernel_rfl) rfl ⟨⟨_, rfl, rfl, l_call ent12 (CallT.of_pure hk25) rfl ?_⟩, trivial⟩ (by kernel_rfl)
        clear hk25
        rintro vr O' ⟨N, rfl, k2, rfl, rfl⟩
        refine ⟨.inr (by exact Sub.d (.d (.d (.d (.k (.k (.k .z))))))), ?_⟩
        refine RO.forkT [6] (by kernel_rfl) rfl ⟨⟨_, rfl, rfl, l_store_box (v := (dV a k1)) (vs := (dC a k1)) 2 inf25 rfl rfl rfl rfl rfl rfl (by simp [putL]) ⟨.inl (by decide), ?_⟩⟩, trivial⟩ (by kernel_rfl)
        refine RO.forkT [7] (by kernel_rfl) rfl ⟨⟨_, rfl, rfl, l_store_box (v := (dV b k2)) (vs := (dC b k2)) 1 inf25 rfl rfl rfl rfl rfl rfl (by simp [putL]) ⟨.inl (by decide), ?_⟩⟩, trivial⟩ (by kernel_rfl)
        exact RO.fin (by kernel_rfl) ⟨b5, b6, k1, k2, rfl, ⟨rfl, rfl, rfl, rfl, rfl, rfl, rfl, trivial⟩⟩ (by exact Sub.pull [dI 52 4 3 b k2] _ (.pull [dI 52 4 3 b k2] _ (.k (.k (.k (.k (.k .z)))))))
      have hk25 := fun (w1 : World) (hI : Inv w [oI b6 25 [(.int .i64 0), (.int .i64 0), (.slice none 0 0), (.slice none 0 0)], dI 52 4 3 a k1, rowI (some ⟨z3, 0, none⟩) 2 25 4 [(.int .i64 a.vars), (.int .i64 a.start), (.slice ja.nb a.next.length ja.nc), (.slice ja.fb a.final.length ja.fc), (.int .i64 b.vars), (.int .i64 b.start), (.slice jb.nb b.next.length jb.nc), (.slice jb.fb b.final.length jb.fc)], oI z2 25 (dC b jb), oI z1 25 (dC a ja)] w1) => copyK w1 b jb (hI.atB hb) (by have := sb.n8; omega) (fun r hr => by have := sb.r100 r hr; omega) (by have := sb.f40; omega)
      refine RO.forkT [3, 4] (by kernel_rfl) rfl ⟨⟨_, rfl, rfl, l_call ent12 (CallT.of_pure hk25) rfl ?_⟩, ⟨_, rfl, rfl, l_alloc inf25 rfl (fun b5 => ⟨.inr (by exact Sub.d (.d (.d (.k (.k (.k .z)))))), ?_⟩)⟩, trivial⟩ (by kernel_rfl)
      · clear hk25
        rintro vr O' ⟨N, rfl, k2, rfl, rfl⟩
        refine ⟨.inr (by exact Sub.d (.d (.d (.k (.k (.k .z)))))), ?_⟩
        refine RO.forkT [4] (by kernel_rfl) rfl ⟨⟨_, rfl, rfl, l_alloc inf25 rfl (fun b5 => ⟨.inr (by exact Sub.d (.d (.d (.d (.k (.k (.k .z))))))), ?_⟩)⟩, trivial⟩ (by kernel_rfl)
        refine RO.forkT [6] (by kernel_rfl) rfl ⟨⟨_, rfl, rfl, l_store_box (v := (dV a k1)) (vs := (dC a k1)) 0 inf25 rfl rfl rfl rfl rfl rfl (by simp [putL]) ⟨.inl (by decide), ?_⟩⟩, trivial⟩ (by kernel_rfl)
        refine RO.forkT [7] (by kernel_rfl) rfl ⟨⟨_, rfl, rfl, l_store_box (v := (dV b k2)) (vs := (dC b k2)) 2 inf25 rfl rfl rfl rfl rfl rfl (by simp [putL]) ⟨.inl (by decide), ?_⟩⟩, trivial⟩ (by kernel_rfl)
        exact RO.fin (by kernel_rfl) ⟨b5, b6, k1, k2, rfl, ⟨rfl, rfl, rfl, rfl, rfl, rfl, rfl, trivial⟩⟩ (by exact Sub.pull [oI b5 25 (dC a k1), dI 52 4 3 b k2] _ (.k (.k (.k (.k (.k (.k .z)))))))
      have hk25 := fun (w1 : World) (hI : Inv w [oI b5 25 [(.int .i64 0), (.int .i64 0), (.slice none 0 0), (.slice none 0 0)], oI b6 25 [(.int .i64 0), (.int .i64 0), (.slice none 0 0), (.slice none 0 0)], dI 52 4 3 a k1, rowI (some ⟨z3, 0, none⟩) 2 25 4 [(.int .i64 a.vars), (.int .i64 a.start), (.slice ja.nb a.next.length ja.nc), (.slice ja.fb a.final.length ja.fc), (.int .i64 b.vars), (.int .i64 b.start), (.slice jb.nb b.next.length jb.nc), (.slice jb.fb b.final.length jb.fc)], oI z2 25 (dC b jb), oI z1 25 (dC a ja)] w1) => copyK w1 b jb (hI.atB hb) (by have := sb.n8; omega) (fun r hr => by have := sb.r100 r hr; omega) (by have := sb.f40; omega)
      refine RO.forkT [3] (by kernel_rfl) rfl ⟨⟨_, rfl, rfl, l_call ent12 (CallT.of_pure hk25) rfl ?_⟩, trivial⟩ (by kernel_rfl)
      clear hk25
      rintro vr O' ⟨N, rfl, k2, rfl, rfl⟩
      refine ⟨.inr (by exact Sub.d (.d (.d (.d (.k (.k (.k .z))))))), ?_⟩
      refine RO.forkT [6] (by kernel_rfl) rfl ⟨⟨_, rfl, rfl, l_store_box (v := (dV a k1)) (vs := (dC a k1)) 1 inf25 rfl rfl rfl rfl rfl rfl (by simp [putL]) ⟨.inl (by decide), ?_⟩⟩, trivial⟩ (by kernel_rfl)
      refine RO.forkT [7] (by kernel_rfl) rfl ⟨⟨_, rfl, rfl, l_store_box (v := (dV b k2)) (vs := (dC b k2)) 2 inf25 rfl rfl rfl rfl rfl rfl (by simp [putL]) ⟨.inl (by decide), ?_⟩⟩, trivial⟩ (by kernel_rfl)
      exact RO.fin (by kernel_rfl) ⟨b5, b6, k1, k2, rfl, ⟨rfl, rfl, rfl, rfl, rfl, rfl, rfl, trivial⟩⟩ (by exact Sub.pull [dI 52 4 3 b k2, oI b5 25 (dC a k1)] _ (.pull [dI 52 4 3 b k2] _ (.k (.k (.k (.k (.k .z)))))))
    · have hk23 := fun (w1 : World) (hI : Inv w [oI b5 25 [(.int .i64 0), (.int .i64 0), (.slice none 0 0), (.slice none 0 0)], rowI (some ⟨z3, 0, none⟩) 2 25 4 [(.int .i64 a.vars), (.int .i64 a.start), (.slice ja.nb a.next.length ja.nc), (.slice ja.fb a.final.length ja.fc), (.int .i64 b.vars), (.int .i64 b.start), (.slice jb.nb b.next.length jb.nc), (.slice jb.fb b.final.length jb.fc)], oI z2 25 (dC b jb), oI z1 25 (dC a ja)] w1) => copyK w1 a ja (hI.atB ha) (by have := sa.n8; omega) (fun r hr => by have := sa.r100 r hr; omega) (by have := sa.f40; omega)
      refine RO.forkT [1, 5] (by kernel_rfl) rfl ⟨⟨_, rfl, rfl, l_call ent12 (CallT.of_pure hk23) rfl ?_⟩, ⟨_, rfl, rfl, l_alloc inf25 rfl (fun b6 => ⟨.inr (by exact Sub.d (.d (.k (.k (.k .z))))), ?_⟩)⟩, trivial⟩ (by kernel_rfl)
      · clear hk23
        rintro vr O' ⟨N, rfl, k1, rfl, rfl⟩
        refine ⟨.inr (by exact Sub.d (.d (.k (.k (.k .z))))), ?_⟩
        have hk25 := fun (w1 : World) (hI : Inv w [dI 52 4 3 a k1, oI b5 25 [(.int .i64 0), (.int .i64 0), (.slice none 0 0), (.slice none 0 0)], rowI (some ⟨z3, 0, none⟩) 2 25 4 [(.int .i64 a.vars), (.int .i64 a.start), (.slice ja.nb a.next.length ja.nc), (.slice ja.fb a.final.length ja.fc), (.int .i64 b.vars), (.int .i64 b.start), (.slice jb.nb b.next.length jb.nc), (.slice jb.fb b.final.length jb.fc)], oI z2 25 (dC b jb), oI z1 25 (dC a ja)] w1) => copyK w1 b jb (hI.atB hb) (by have := sb.n8; omega) (fun r hr => by have := sb.r100 r hr; omega) (by have := sb.f40; omega)
        refine RO.forkT [3, 5] (by kernel_rfl) rfl ⟨⟨_, rfl, rfl, l_call ent12 (CallT.of_pure hk25) rfl ?_⟩, ⟨_, rfl, rfl, l_alloc inf25 rfl (fun b6 => ⟨.inr (by exact Sub.d (.d (.d (.k (.k (.k .z)))))), ?_⟩)⟩, trivial⟩ (by kernel_rfl)
        · clear hk25
          rintro vr O' ⟨N, rfl, k2, rfl, rfl⟩
          refine ⟨.inr (by exact Sub.d (.d (.d (.k (.k (.k .z)))))), ?_⟩
          refine RO.forkT [5] (by kernel_rfl) rfl ⟨⟨_, rfl, rfl, l_alloc inf25 rfl (fun b6 => ⟨.inr (by exact Sub.d (.d (.d (.d (.k (.k (.k .z))))))), ?_⟩)⟩, trivial⟩ (by kernel_rfl)
          refine RO.forkT [6] (by kernel_rfl) rfl ⟨⟨_, rfl, rfl, l_store_box (v := (dV a k1)) (vs := (dC a k1)) 3 inf25 rfl rfl rfl rfl rfl rfl (by simp [putL]) ⟨.inl (by decide), ?_⟩⟩, trivial⟩ (by kernel_rfl)
          refine RO.forkT [7] (by kernel_rfl) rfl ⟨⟨_, rfl, rfl, l_store_box (v := (dV b k2)) (vs := (dC b k2)) 0 inf25 rfl rfl rfl rfl rfl rfl (by simp [putL]) ⟨.inl (by decide), ?_⟩⟩, trivial⟩ (by kernel_rfl)
          exact RO.fin (by kernel_rfl) ⟨b5, b6, k1, k2, rfl, ⟨rfl, rfl, rfl, rfl, rfl, rfl, rfl, trivial⟩⟩ (by exact Sub.k (.pull [dI 52 4 3 b k2, dI 52 4 3 a k1] _ (.k (.k (.k (.k (.k .z)))))))
        have hk25 := fun (w1 : World) (hI : Inv w [oI b6 25 [(.int .i64 0), (.int .i64 0), (.slice none 0 0), (.slice none 0 0)], dI 52 4 3 a k1, oI b5 25 [(.int .i64 0), (.int .i64 0), (.slice none 0 0), (.slice none 0 0)], rowI (some ⟨z3, 0, none⟩) 2 25 4 [(.int .i64 a.vars), (.int .i64 a.start), (.slice ja.nb a.next.length ja.nc), (.slice ja.fb a.final.length ja.fc), (.int .i64 b.vars), (.int .i64 b.start), (.slice jb.nb b.next.length jb.nc), (.slice jb.fb b.final.length jb.fc)], oI z2 25 (dC b jb), oI z1 25 (dC a ja)] w1) => copyK w1 b jb (hI.atB hb) (by have := sb.n8; omega) (fun r hr => by have := sb.r100 r hr; omega) (by have := sb.f40; omega)
        refine RO.forkT [3] (by kernel_rfl) rfl ⟨⟨_, rfl, rfl, l_call ent12 (CallT.of_pure hk25) rfl ?_⟩, trivial⟩ (by kernel_rfl)
        clear hk25
        rintro vr O' ⟨N, rfl, k2, rfl, rfl⟩
        refine ⟨.inr (by exact Sub.d (.d (.d (.d (.k (.k (.k .z))))))), ?_⟩
        refine RO.forkT [6] (by kernel_rfl) rfl ⟨⟨_, rfl, rfl, l_store_box (v := (dV a k1)) (vs := (dC a k1)) 3 inf25 rfl rfl rfl rfl rfl rfl (by simp [putL]) ⟨.inl (by decide), ?_⟩⟩, trivial⟩ (by kernel_rfl)
        refine RO.forkT [7] (by kernel_rfl) rfl ⟨⟨_, rfl, rfl, l_store_box (v := (dV b k2)) (vs := (dC b k2)) 1 inf25 rfl rfl rfl rfl rfl rfl (by simp [putL]) ⟨.inl (by decide), ?_⟩⟩, trivial⟩ (by kernel_rfl)
        exact RO.fin (by kernel_rfl) ⟨b5, b6, k1, k2, rfl, ⟨rfl, rfl, rfl, rfl, rfl, rfl, rfl, trivial⟩⟩ (by exact Sub.pull [dI 52 4 3 b k2] _ (.pull [dI 52 4 3 b k2, dI 52 4 3 a k1] _ (.k (.k (.k (.k (.k .z)))))))
      have hk23 := fun (w1 : World) (hI : Inv w [oI b6 25 [(.int .i64 0), (.int .i64 0), (.slice none 0 0), (.slice none 0 0)], oI b5 25 [(.int .i64 0), (.int .i64 0), (.slice none 0 0), (.slice none 0 0)], rowI (some ⟨z3, 0, none⟩) 2 25 4 [(.int .i64 a.vars), (.int .i64 a.start), (.slice ja.nb a.next.length ja.nc), (.slice ja.fb a.final.length ja.fc), (.int .i64 b.vars), (.int .i64 b.start), (.slice jb.nb b.next.length jb.nc), (.slice jb.fb b.final.length jb.fc)], oI z2 25 (dC b jb), oI z1 25 (dC a ja)] w1) => copyK w1 a ja (hI.atB ha) (by have := sa.n8; omega) (fun r hr => by have := sa.r100 r hr; omega) (by have := sa.f40; omega)
      refine RO.forkT [1] (by kernel_rfl) rfl ⟨⟨_, rfl, rfl, l_call ent12 (CallT.of_pure hk23) rfl ?_⟩, trivial⟩ (by kernel_rfl)
      clear hk23
      rintro vr O' ⟨N, rfl, k1, rfl, rfl⟩
      refine ⟨.inr (by exact Sub.d (.d (.d (.k (.k (.k .z)))))), ?_⟩
      have hk25 := fun (w1 : World) (hI : Inv w [dI 52 4 3 a k1, oI b6 25 [(.int .i64 0), (.int .i64 0), (.slice none 0 0), (.slice none 0 0)], oI b5 25 [(.int .i64 0), (.int .i64 0), (.slice none 0 0), (.slice none 0 0)], rowI (some ⟨z3, 0, none⟩) 2 25 4 [(.int .i64 a.vars), (.int .i64 a.start), (.slice ja.nb a.next.length ja.nc), (.slice ja.fb a.final.length ja.fc), (.int .i64 b.vars), (.int .i64 b.start), (.slice jb.nb b.next.length jb.nc), (.slice jb.fb b.final.length jb.fc)], oI z2 25 (dC b jb), oI z1 25 (dC a ja)] w1) => copyK w1 b jb (hI.atB hb) (by have := sb.n8; omega) (fun r hr => by have := sb.r100 r hr; omega) (by have := sb.f40; omega)
      refine RO.forkT [3] (by kernel_rfl) rfl ⟨⟨_, rfl, rfl, l_call ent12 (CallT.of_pure hk25) rfl ?_⟩, trivial⟩ (by kernel_rfl)
      clear hk25
      rintro vr O' ⟨N, rfl, k2, rfl, rfl⟩
      refine ⟨.inr (by exact Sub.d (.d (.d (.d (.k (.k (.k .z))))))), ?_⟩
      refine RO.forkT [6] (by kernel_rfl) rfl ⟨⟨_, rfl, rfl, l_store_box (v := (dV a k1)) (vs := (dC a k1)) 3 inf25 rfl rfl rfl rfl rfl rfl (by simp [putL]) ⟨.inl (by decide), ?_⟩⟩, trivial⟩ (by kernel_rfl)
      refine RO.forkT [7] (by kernel_rfl) rfl ⟨⟨_, rfl, rfl, l_store_box (v := (dV b k2)) (vs := (dC b k2)) 2 inf25 rfl rfl rfl rfl rfl rfl (by simp [putL]) ⟨.inl (by decide), ?_⟩⟩, trivial⟩ (by kernel_rfl)
      exact RO.fin (by kernel_rfl) ⟨b5, b6, k1, k2, rfl, ⟨rfl, rfl, rfl, rfl, rfl, rfl, rfl, trivial⟩⟩ (by exact Sub.pull [dI 52 4 3 b k2, dI 52 4 3 a k1] _ (.pull [dI 52 4 3 b k2, dI 52 4 3 a k1] _ (.k (.k (.k (.k (.k .z)))))))
    have hk23 := fun (w1 : World) (hI : Inv w [oI b6 25 [(.int .i64 0), (.int .i64 0), (.slice none 0 0), (.slice none 0 0)], rowI (some ⟨z3, 0, none⟩) 2 25 4 [(.int .i64 a.vars), (.int .i64 a.start), (.slice ja.nb a.next.length ja.nc), (.slice ja.fb a.final.length ja.fc), (.int .i64 b.vars), (.int .i64 b.start), (.slice jb.nb b.next.length jb.nc), (.slice jb.fb b.final.length jb.fc)], oI z2 25 (dC b jb), oI z1 25 (dC a ja)] w1) => copyK w1 a ja (hI.atB ha) (by have := sa.n8; omega) (fun r hr => by have := sa.r100 r hr; omega) (by have := sa.f40; omega)
    refine RO.forkT [1, 4] (by kernel_rfl) rfl ⟨⟨_, rfl, rfl, l_call ent12 (CallT.of_pure hk23) rfl ?_⟩, ⟨_, rfl, rfl, l_alloc inf25 rfl (fun b5 => ⟨.inr (by exact Sub.d (.d (.k (.k (.k .z))))), ?_⟩)⟩, trivial⟩ (by kernel_rfl)
    · clear hk23
      rintro vr O' ⟨N, rfl, k1, rfl, rfl⟩
      refine ⟨.inr (by exact Sub.d (.d (.k (.k (.k .z))))), ?_⟩
      have hk25 := fun (w1 : World) (hI : Inv w [dI 52 4 3 a k1, oI b6 25 [(.int .i64 0), (.int .i64 0), (.slice none 0 0), (.slice none 0 0)], rowI (some ⟨z3, 0, none⟩) 2 25 4 [(.int .i64 a.vars), (.int .i64 a.start), (.slice ja.nb a.next.length ja.nc), (.slice ja.fb a.final.length ja.fc), (.int .i64 b.vars), (.int .i64 b.start), (.slice jb.nb b.next.length jb.nc), (.slice jb.fb b.final.length jb.fc)], oI z2 25 (dC b jb), oI z1 25 (dC a ja)] w1) => copyK w1 b jb (hI.atB hb) (by have := sb.n8; omega) (fun r hr => by have := sb.r100 r hr; omega) (by have := sb.f40; omega)
      refine RO.forkT [3, 4] (by kernel_rfl) rfl ⟨⟨_, rfl, rfl, l_call ent12 (CallT.of_pure hk25) rfl ?_⟩, ⟨_, rfl, rfl, l_alloc inf25 rfl (fun b5 => ⟨.inr (by exact Sub.d (.d (.d (.k (.k (.k .z)))))), ?_⟩)⟩, trivial⟩ (by kernel_rfl)
      · clear hk25
        rintro vr O' ⟨N, rfl, k2, rfl, rfl⟩
        refine ⟨.inr (by exact Sub.d (.d (.d (.k (.k (.k .z)))))), ?_⟩
        refine RO.forkT [4] (by kernel_rfl) rfl ⟨⟨_, rfl, rfl, l_alloc inf25 rfl (fun b5 => ⟨.inr (by exact Sub.d (.d (.d (.d (.k (.k (.k .z))))))), ?_⟩)⟩, trivial⟩ (by kernel_rfl)
        refine RO.forkT [6] (by kernel_rfl) rfl ⟨⟨_, rfl, rfl, l_store_box (v := (dV a k1)) (vs := (dC a k1)) 0 inf25 rfl rfl rfl rfl rfl rfl (by simp [putL]) ⟨.inl (by decide), ?_⟩⟩, trivial⟩ (by kernel_rfl)
        refine RO.forkT [7] (by kernel_rfl) rfl ⟨⟨_, rfl, rfl, l_store_box (v := (dV b k2)) (vs := (dC b k2)) 3 inf25 rfl rfl rfl rfl rfl rfl (by simp [putL]) ⟨.inl (by decide), ?_⟩⟩, trivial⟩ (by kernel_rfl)
        exact RO.fin (by kernel_rfl) ⟨b5, b6, k1, k2, rfl, ⟨rfl, rfl, rfl, rfl, rfl, rfl, rfl, trivial⟩⟩ (by exact Sub.pull [oI b5 25 (dC a k1), dI 52 4 3 b k2, dI 52 4 3 a k1] _ (.k (.k (.k (.k (.k (.k .z)))))))
      have hk25 := fun (w1 : World) (hI : Inv w [oI b5 25 [(.int .i64 0), (.int .i64 0), (.slice none 0 0), (.slice none 0 0)], dI 52 4 3 a k1, oI b6 25 [(.int .i64 0), (.int .i64 0), (.slice none 0 0), (.slice none 0 0)], rowI (some ⟨z3, 0, none⟩) 2 25 4 [(.int .i64 a.vars), (.int .i64 a.start), (.slice ja.nb a.next.length ja.nc), (.slice ja.fb a.final.length ja.fc), (.int .i64 b.vars), (.int .i64 b.start), (.slice jb.nb b.next.length jb.nc), (.slice jb.fb b.final.length jb.fc)], oI z2 25 (dC b jb), oI z1 25 (dC a ja)] w1) => copyK w1 b jb (hI.atB hb) (by have := sb.n8; omega) (fun r hr => by have := sb.r100 r hr; omega) (by have := sb.f40; omega)
      refine RO.forkT [3] (by kernel_rfl) rfl ⟨⟨_, rfl, rfl, l_call ent12 (CallT.of_pure hk25) rfl ?_⟩, trivial⟩ (by kernel_rfl)
      clear hk25
      rintro vr O' ⟨N, rfl, k2, rfl, rfl⟩
      refine ⟨.inr (by exact Sub.d (.d (.d (.d (.k (.k (.k .z))))))), ?_⟩
      refine RO.forkT [6] (by kernel_rfl) rfl ⟨⟨_, rfl, rfl, l_store_box (v := (dV a k1)) (vs := (dC a k1)) 1 inf25 rfl rfl rfl rfl rfl rfl (by simp [putL]) ⟨.inl (by decide), ?_⟩⟩, trivial⟩ (by kernel_rfl)
      refine RO.forkT [7] (by kernel_rfl) rfl ⟨⟨_, rfl, rfl, l_store_box (v := (dV b k2)) (vs := (dC b k2)) 3 inf25 rfl rfl rfl rfl rfl rfl (by simp [putL]) ⟨.inl (by decide), ?_⟩⟩, trivial⟩ (by kernel_rfl)
      exact RO.fin (by kernel_rfl) ⟨b5, b6, k1, k2, rfl, ⟨rfl, rfl, rfl, rfl, rfl, rfl, rfl, trivial⟩⟩ (by exact Sub.pull [dI 52 4 3 b k2, oI b5 25 (dC a k1), dI 52 4 3 a k1] _ (.pull [dI 52 4 3 b k2] _ (.k (.k (.k (.k (.k .z)))))))
    have hk23 := fun (w1 : World) (hI : Inv w [oI b5 25 [(.int .i64 0), (.int .i64 0), (.slice none 0 0), (.slice none 0 0)], oI b6 25 [(.int .i64 0), (.int .i64 0), (.slice none 0 0), (.slice none 0 0)], rowI (some ⟨z3, 0, none⟩) 2 25 4 [(.int .i64 a.vars), (.int .i64 a.start), (.slice ja.nb a.next.length ja.nc), (.slice ja.fb a.final.length ja.fc), (.int .i64 b.vars), (.int .i64 b.start), (.slice jb.nb b.next.length jb.nc), (.slice jb.fb b.final.length jb.fc)], oI z2 25 (dC b jb), oI z1 25 (dC a ja)] w1) => copyK w1 a ja (hI.atB ha) (by have := sa.n8; omega) (fun r hr => by have := sa.r100 r hr; omega) (by have := sa.f40; omega)
    refine RO.forkT [1] (by kernel_rfl) rfl ⟨⟨_, rfl, rfl, l_call ent12 (CallT.of_pure hk23) rfl ?_⟩, trivial⟩ (by kernel_rfl)
    clear hk23
    rintro vr O' ⟨N, rfl, k1, rfl, rfl⟩
    refine ⟨.inr (by exact Sub.d (.d (.d (.k (.k (.k .z)))))), ?_⟩
    have hk25 := fun (w1 : World) (hI : Inv w [dI 52 4 3 a k1, oI b5 25 [(.int .i64 0), (.int .i64 0), (.slice none 0 0), (.slice none 0 0)], oI b6 25 [(.int .i64 0), (.int .i64 0), (.slice none 0 0), (.slice none 0 0)], rowI (some ⟨z3, 0, none⟩) 2 25 4 [(.int .i64 a.vars), (.int .i64 a.start), (.slice ja.nb a.next.length ja.nc), (.slice ja.fb a.final.length ja.fc), (.int .i64 b.vars), (.int .i64 b.start), (.slice jb.nb b.next.length jb.nc), (.slice jb.fb b.final.length jb.fc)], oI z2 25 (dC b jb), oI z1 25 (dC a ja)] w1) => copyK w1 b jb (hI.atB hb) (by have := sb.n8; omega) (fun r hr => by have := sb.r100 r hr; omega) (by have := sb.f40; omega)
    refine RO.forkT [3] (by kernel_rfl) rfl ⟨⟨_, rfl, rfl, l_call ent12 (CallT.of_pure hk25) rfl ?_⟩, trivial⟩ (by kernel_rfl)
    clear hk25
    rintro vr O' ⟨N, rfl, k2, rfl, rfl⟩
    refine ⟨.inr (by exact Sub.d (.d (.d (.d (.k (.k (.k .z))))))), ?_⟩
    refine RO.forkT [6] (by kernel_rfl) rfl ⟨⟨_, rfl, rfl, l_store_box (v := (dV a k1)) (vs := (dC a k1)) 2 inf25 rfl rfl rfl rfl rfl rfl (by simp [putL]) ⟨.inl (by decide), ?_⟩⟩, trivial⟩ (by kernel_rfl)
    refine RO.forkT [7] (by kernel_rfl) rfl ⟨⟨_, rfl, rfl, l_store_box (v := (dV b k2)) (vs := (dC b k2)) 3 inf25 rfl rfl rfl rfl rfl rfl (by simp [putL]) ⟨.inl (by decide), ?_⟩⟩, trivial⟩ (by kernel_rfl)
    exact RO.fin (by kernel_rfl) ⟨b5, b6, k1, k2, rfl, ⟨rfl, rfl, rfl, rfl, rfl, rfl, rfl, trivial⟩⟩ (by exact Sub.pull [dI 52 4 3 b k2, dI 52 4 3 a k1, oI b5 25 (dC a k1)] _ (.pull [dI 52 4 3 b k2, dI 52 4 3 a k1] _ (.k (.k (.k (.k (.k .z)))))))
  rintro ρ O ⟨b5, b6, k1, k2, rfl, hH⟩
  obtain ⟨ρ0, rfl⟩ := hH.elim
  clear hH
  refine T.seq ?_
  obtain ⟨mN, eN⟩ : ∃ m, opV notB a a = m := ⟨_, rfl⟩
  have bN := opV_bounds (f := notB) (a := a) (b := a) (fun _ => by have := sa.mul sa; omega)
  rw [eN] at bN
  refine T.region ?_
  refine TO.quiet (q_load_boxAgg 6 Tryd.underlying25 rfl inf25 rfl rfl rfl) ?_
  have hk28 := fun (w1 : World) (hI : Inv w [oI b6 25 (dC b k2), oI b5 25 (dC a k1), dI 52 4 3 b k2, dI 52 4 3 a k1, rowI (some ⟨z3, 0, none⟩) 2 25 4 [(.int .i64 a.vars), (.int .i64 a.start), (.slice ja.nb a.next.length ja.nc), (.slice ja.fb a.final.length ja.fc), (.int .i64 b.vars), (.int .i64 b.start), (.slice jb.nb b.next.length jb.nc), (.slice jb.fb b.final.length jb.fc)], oI z2 25 (dC b jb), oI z1 25 (dC a ja)] w1) => (show PureT _ _ _ _ _ from by
      have h9 := refNotC w1 a ja (hI.atB ha) ha1 ha2 ha3 (fun _ => by have := sa.n8; omega)
      rw [eN] at h9
      exact h9)
  refine TO.loud rfl (l_call ent13 (CallT.of_pure hk28) rfl ?_)
  clear hk28
  rintro vr O' ⟨N, rfl, kn, rfl, rfl⟩
  refine TO.quiet (q_move rfl) (TO.quiet (q_extract (vs := _) rfl rfl) (TO.quiet (q_extract (vs := _) rfl rfl) ?_))
  refine TO.loud rfl (l_alloc inf25 rfl (fun z4 => ?_))
  refine TO.loud rfl (l_store_box (v := (dV mN kn)) (vs := (dC mN kn)) 0 inf25 rfl rfl rfl rfl rfl rfl (by simp [putL]) ?_)
  refine TO.quiet (q_assign rfl) ?_
  refine TO.sub (O' := [oI z4 25 (dC mN kn), dI 52 4 3 mN kn, oI b6 25 (dC b k2), oI b5 25 (dC a k1), dI 52 4 3 b k2, dI 52 4 3 a k1, oI z2 25 (dC b jb), oI z1 25 (dC a ja)]) (by exact Sub.k (.k (.k (.k (.k (.k (.d (.k (.k .z))))))))) ?_
  refine TO.nil (T.seq (T.seq (T.region ?_)))
  refine TO.quiet (q_assign rfl) ?_
  refine TO.nil (T.block ?_)
  refine T.loop (fun (r : Nat) ρ O => O = [oI z4 25 (dC mN kn), dI 52 4 3 mN kn, oI b6 25 (dC b k2), oI b5 25 (dC a k1), dI 52 4 3 b k2, dI 52 4 3 a k1, oI z2 25 (dC b jb), oI z1 25 (dC a ja)] ∧ r ≤ 2 ∧ Heads [(0, (dV a ja)), (1, (dV b jb)), (2, (.pointer (some ⟨z1, 0, none⟩))), (3, (.pointer (some ⟨z2, 0, none⟩))), (5, (.pointer (some ⟨b5, 0, none⟩))), (6, (.pointer (some ⟨b6, 0, none⟩))), (7, (.pointer (some ⟨z4, 0, none⟩))), (8, .int .i64 (checkD a : Int)), (9, .int .i64 ((r : Nat) : Int))] ρ) (fun r => 2 - r) 0 ?_ ?_
  · exact ⟨rfl, Nat.zero_le _, ⟨rfl, rfl, rfl, rfl, rfl, rfl, rfl, rfl, rfl, trivial⟩⟩
  rintro r ρ O ⟨rfl, hr, hH⟩
  obtain ⟨ρ0, rfl⟩ := hH.elim
  clear hH
  refine T.seq (T.seq (T.region ?_))
  refine TO.quiet (q_move rfl) (TO.quiet (q_lss rfl rfl) ?_)
  refine TO.nil ?_
  refine T.condP rfl (fun hc => ?_) (fun hc => ?_)
  · have hlt32 : r < 2 := by omega
    refine T.skip (T.seq (T.block (T.seq (T.region ?_))))
    refine TO.quiet (q_load_boxAgg 3 Tryd.underlying25 rfl inf25 rfl rfl rfl) ?_
    have hk37 := fun (w1 : World) (hI : Inv w [oI z4 25 (dC mN kn), dI 52 4 3 mN kn, oI b6 25 (dC b k2), oI b5 25 (dC a k1), dI 52 4 3 b k2, dI 52 4 3 a k1, oI z2 25 (dC b jb), oI z1 25 (dC a ja)] w1) => (show PureT _ _ _ _ _ from by
        have h9 := notC w1 a k1 (hI.at (k := k1) (List.mem_of_getElem? (i := 5) rfl)) ha1 ha2 ha3 (fun _ => by have := sa.n8; omega)
        rw [eN] at h9
        exact h9)
    refine TO.loud rfl (l_call ent14 (CallT.of_pure hk37) rfl ?_)
    clear hk37
    rintro vr O' ⟨N, rfl, k3, rfl, rfl⟩
    refine TO.quiet (q_move rfl) (TO.quiet (q_extract (vs := _) rfl rfl) (TO.quiet (q_extract (vs := _) rfl rfl) ?_))
    refine TO.loud rfl (l_alloc inf25 rfl (fun z5 => ?_))
    refine TO.loud rfl (l_store_box (v := (dV mN k3)) (vs := (dC mN k3)) 0 inf25 rfl rfl rfl rfl rfl rfl (by simp [putL]) ?_)
    refine TO.quiet (q_assign rfl) ?_
    refine TO.nil (T.seq (T.seq (T.region ?_)))
    refine TO.quiet (q_move rfl) (TO.quiet (q_move rfl) (TO.quiet (QT.toB (q_neq rfl rfl) (decide_eq_false (fun h => h rfl))) (TO.quiet (q_move rfl) ?_)))
    refine TO.guarded rfl rfl rfl (LT.of_quiet rfl rfl (q_load_boxAgg 0 Tryd.underlying25 rfl inf25 rfl rfl rfl) ?_)
    refine TO.guarded rfl rfl rfl (LT.of_quiet rfl rfl (q_load_boxAgg 2 Tryd.underlying25 rfl inf25 rfl rfl rfl) ?_)
    have hk46 := fun (w1 : World) (hI : Inv w [oI z5 25 (dC mN k3), dI 52 4 3 mN k3, oI z4 25 (dC mN kn), dI 52 4 3 mN kn, oI b6 25 (dC b k2), oI b5 25 (dC a k1), dI 52 4 3 b k2, dI 52 4 3 a k1, oI z2 25 (dC b jb), oI z1 25 (dC a ja)] w1) => equalK w1 mN k3 kn (hI.at (k := k3) (List.mem_of_getElem? (i := 1) rfl)) (hI.at (k := kn) (List.mem_of_getElem? (i := 3) rfl)) bN.1 bN.2.1 bN.2.2
    refine TO.guarded rfl rfl rfl (l_call ent15 (CallT.of_pure hk46) rfl ?_)
    clear hk46
    rintro vr O' ⟨N, rfl, rfl, rfl⟩
    refine TO.guarded rfl rfl rfl (LT.of_quiet rfl rfl (q_not rfl) ?_)
    refine TO.quiet (q_pick0 rfl rfl) ?_
    refine TO.nil ?_
    refine T.cond0 rfl ?_
    refine T.skip (T.seq (T.region ?_))
    refine TO.quiet (q_load_boxAgg 0 Tryd.underlying25 rfl inf25 rfl rfl rfl) ?_
    have hk50 := CallT.under (B := [oI z5 25 (dC mN k3), oI z4 25 (dC mN kn), dI 52 4 3 mN kn, oI b6 25 (dC b k2), oI b5 25 (dC a k1), dI 52 4 3 b k2, dI 52 4 3 a k1, oI z2 25 (dC b jb), oI z1 25 (dC a ja)]) (O := [oI z5 25 (dC mN k3), dI 52 4 3 mN k3, oI z4 25 (dC mN kn), dI 52 4 3 mN kn, oI b6 25 (dC b k2), oI b5 25 (dC a k1), dI 52 4 3 b k2, dI 52 4 3 a k1, oI z2 25 (dC b jb), oI z1 25 (dC a ja)]) (overK w mN k3 bN.1 bN.2.1 bN.2.2) (by exact Sub.pull [oI z5 25 (dC mN k3)] _ (.k (.k (.k (.k (.k (.k (.k (.k (.k .z))))))))))
    refine TO.loud rfl (l_call ent16 hk50 rfl ?_)
    clear hk50
    rintro vr O' ⟨A1, rfl, rfl⟩
    refine TO.sub (O' := [oI z4 25 (dC mN kn), dI 52 4 3 mN kn, oI b6 25 (dC b k2), oI b5 25 (dC a k1), dI 52 4 3 b k2, dI 52 4 3 a k1, oI z2 25 (dC b jb), oI z1 25 (dC a ja)]) (by exact Sub.d (.k (.k (.k (.k (.k (.k (.k (.k .z))))))))) ?_
    refine TO.nil (T.seq (T.region ?_))
    refine TO.quiet (q_assign rfl) ?_
    refine TO.nil (T.block ?_)
    refine T.loop (fun (o : Nat) ρ O => O = [oI z4 25 (dC mN kn), dI 52 4 3 mN kn, oI b6 25 (dC b k2), oI b5 25 (dC a k1), dI 52 4 3 b k2, dI 52 4 3 a k1, oI z2 25 (dC b jb), oI z1 25 (dC a ja)] ∧ o ≤ 4 ∧ Heads [(0, (dV a ja)), (1, (dV b jb)), (2, (.pointer (some ⟨z1, 0, none⟩))), (3, (.pointer (some ⟨z2, 0, none⟩))), (5, (.pointer (some ⟨b5, 0, none⟩))), (6, (.pointer (some ⟨b6, 0, none⟩))), (7, (.pointer (some ⟨z4, 0, none⟩))), (8, .int .i64 (checkD a : Int)), (9, .int .i64 ((r : Nat) : Int)), (10, (.pointer (some ⟨z5, 0, none⟩))), (11, .int .i64 (checkD a : Int)), (12, .int .i64 ((o : Nat) : Int))] ρ) (fun o => 4 - o) 0 ?_ ?_
    · exact ⟨rfl, Nat.zero_le _, ⟨rfl, rfl, rfl, rfl, rfl, rfl, rfl, rfl, rfl, rfl, rfl, rfl, trivial⟩⟩
    rintro o ρ O ⟨rfl, ho, hH⟩
    obtain ⟨ρ0, rfl⟩ := hH.elim
    clear hH
    obtain ⟨mM, eM⟩ : ∃ m, opV (opB (o : Int)) a b = m := ⟨_, rfl⟩
    have bM := opV_bounds (f := opB (o : Int)) (fun hw => (sa.small sb hw).1)
    rw [eM] at bM
    refine T.seq (T.seq (T.region ?_))
    refine TO.quiet (q_move rfl) (TO.quiet (q_lss rfl rfl) ?_)
    refine TO.nil ?_
    refine T.condP rfl (fun hc => ?_) (fun hc => ?_)
    · have hlt52 : o < 4 := by omega
      refine T.skip (T.seq (T.block (T.seq (T.region ?_))))
      refine TO.quiet (q_move rfl) (TO.quiet (q_load_boxAgg 7 Tryd.underlying25 rfl inf25 rfl rfl rfl) (TO.quiet (q_load_boxAgg 6 Tryd.underlying25 rfl inf25 rfl rfl rfl) ?_))
      have hk59 := fun (w1 : World) (hI : Inv w [oI z4 25 (dC mN kn), dI 52 4 3 mN kn, oI b6 25 (dC b k2), oI b5 25 (dC a k1), dI 52 4 3 b k2, dI 52 4 3 a k1, oI z2 25 (dC b jb), oI z1 25 (dC a ja)] w1) => (show PureT _ _ _ _ _ from by
          have h9 := refApC w1 (o : Int) a b ja jb (hI.atB ha) (hI.atB hb) ha1 ha2 ha3 hb1 hb2 hb3 (fun _ => by have := sa.mul sb; omega)
          rw [eM] at h9
          exact h9)
      refine TO.loud rfl (l_call ent17 (CallT.of_pure hk59) rfl ?_)
      clear hk59
      rintro vr O' ⟨N, rfl, k5, rfl, rfl⟩
      refine TO.quiet (q_move rfl) (TO.quiet (q_extract (vs := _) rfl rfl) (TO.quiet (q_extract (vs := _) rfl rfl) ?_))
      refine TO.loud rfl (l_alloc inf25 rfl (fun z6 => ?_))
      refine TO.loud rfl (l_store_box (v := (dV mM k5)) (vs := (dC mM k5)) 0 inf25 rfl rfl rfl rfl rfl rfl (by simp [putL]) ?_)
      refine TO.quiet (q_assign rfl) ?_
      refine TO.nil (T.seq (T.region ?_))
      refine TO.quiet (q_move rfl) (TO.quiet (q_load_boxAgg 5 Tryd.underlying25 rfl inf25 rfl rfl rfl) (TO.quiet (q_load_boxAgg 4 Tryd.underlying25 rfl inf25 rfl rfl rfl) ?_))
      have hk66 := fun (w1 : World) (hI : Inv w [oI z6 25 (dC mM k5), dI 52 4 3 mM k5, oI z4 25 (dC mN kn), dI 52 4 3 mN kn, oI b6 25 (dC b k2), oI b5 25 (dC a k1), dI 52 4 3 b k2, dI 52 4 3 a k1, oI z2 25 (dC b jb), oI z1 25 (dC a ja)] w1) => (show PureT _ _ _ _ _ from by
          have h9 := applyC w1 (o : Int) a b k1 k2 (hI.at (k := k1) (List.mem_of_getElem? (i := 7) rfl)) (hI.at (k := k2) (List.mem_of_getElem? (i := 6) rfl)) ha1 ha2 ha3 hb1 hb2 hb3 (sa.small sb)
          rw [eM] at h9
          exact h9)
      refine TO.loud rfl (l_call ent18 (CallT.of_pure hk66) rfl ?_)
      clear hk66
      rintro vr O' ⟨N, rfl, k6, rfl, rfl⟩
      refine TO.quiet (q_move rfl) (TO.quiet (q_extract (vs := _) rfl rfl) (TO.quiet (q_extract (vs := _) rfl rfl) ?_))
      refine TO.loud rfl (l_alloc inf25 rfl (fun z7 => ?_))
      refine TO.loud rfl (l_store_box (v := (dV mM k6)) (vs := (dC mM k6)) 0 inf25 rfl rfl rfl rfl rfl rfl (by simp [putL]) ?_)
      refine TO.quiet (q_assign rfl) ?_
      refine TO.nil (T.seq (T.seq (T.region ?_)))
      refine TO.quiet (q_move rfl) (TO.quiet (q_move rfl) (TO.quiet (QT.toB (q_neq rfl rfl) (decide_eq_false (fun h => h rfl))) (TO.quiet (q_move rfl) ?_)))
      refine TO.guarded rfl rfl rfl (LT.of_quiet rfl rfl (q_load_boxAgg 0 Tryd.underlying25 rfl inf25 rfl rfl rfl) ?_)
      refine TO.guarded rfl rfl rfl (LT.of_quiet rfl rfl (q_load_boxAgg 2 Tryd.underlying25 rfl inf25 rfl rfl rfl) ?_)
      have hk75 := fun (w1 : World) (hI : Inv w [oI z7 25 (dC mM k6), dI 52 4 3 mM k6, oI z6 25 (dC mM k5), dI 52 4 3 mM k5, oI z4 25 (dC mN kn), dI 52 4 3 mN kn, oI b6 25 (dC b k2), oI b5 25 (dC a k1), dI 52 4 3 b k2, dI 52 4 3 a k1, oI z2 25 (dC b jb), oI z1 25 (dC a ja)] w1) => equalK w1 mM k6 k5 (hI.at (k := k6) (List.mem_of_getElem? (i := 1) rfl)) (hI.at (k := k5) (List.mem_of_getElem? (i := 3) rfl)) bM.1 bM.2.1 bM.2.2
      refine TO.guarded rfl rfl rfl (l_call ent15 (CallT.of_pure hk75) rfl ?_)
      clear hk75
      rintro vr O' ⟨N, rfl, rfl, rfl⟩
      refine TO.guarded rfl rfl rfl (LT.of_quiet rfl rfl (q_not rfl) ?_)
      refine TO.quiet (q_pick0 rfl rfl) (TO.quiet (q_move rfl) ?_)
      refine TO.guarded rfl rfl rfl (LT.of_quiet rfl rfl (q_load_boxAgg 7 Tryd.underlying25 rfl inf25 rfl rfl rfl) ?_)
      refine TO.guarded rfl rfl rfl (LT.of_quiet rfl rfl (q_load_boxAgg 11 Tryd.underlying25 rfl inf25 rfl rfl rfl) ?_)
      have hk81 := fun (w1 : World) (hI : Inv w [oI z7 25 (dC mM k6), dI 52 4 3 mM k6, oI z6 25 (dC mM k5), dI 52 4 3 mM k5, oI z4 25 (dC mN kn), dI 52 4 3 mN kn, oI b6 25 (dC b k2), oI b5 25 (dC a k1), dI 52 4 3 b k2, dI 52 4 3 a k1, oI z2 25 (dC b jb), oI z1 25 (dC a ja)] w1) => equalK w1 a k1 ja (hI.at (k := k1) (List.mem_of_getElem? (i := 9) rfl)) (hI.atB ha) ba.1 ba.2.1 ba.2.2
      refine TO.guarded rfl rfl rfl (l_call ent15 (CallT.of_pure hk81) rfl ?_)
      clear hk81
      rintro vr O' ⟨N, rfl, rfl, rfl⟩
      refine TO.guarded rfl rfl rfl (LT.of_quiet rfl rfl (q_not rfl) ?_)
      refine TO.quiet (q_pick0 rfl rfl) (TO.quiet (q_move rfl) ?_)
      refine TO.guarded rfl rfl rfl (LT.of_quiet rfl rfl (q_load_boxAgg 6 Tryd.underlying25 rfl inf25 rfl rfl rfl) ?_)
      refine TO.guarded rfl rfl rfl (LT.of_quiet rfl rfl (q_load_boxAgg 10 Tryd.underlying25 rfl inf25 rfl rfl rfl) ?_)
      have hk87 := fun (w1 : World) (hI : Inv w [oI z7 25 (dC mM k6), dI 52 4 3 mM k6, oI z6 25 (dC mM k5), dI 52 4 3 mM k5, oI z4 25 (dC mN kn), dI 52 4 3 mN kn, oI b6 25 (dC b k2), oI b5 25 (dC a k1), dI 52 4 3 b k2, dI 52 4 3 a k1, oI z2 25 (dC b jb), oI z1 25 (dC a ja)] w1) => equalK w1 b k2 jb (hI.at (k := k2) (List.mem_of_getElem? (i := 8) rfl)) (hI.atB hb) bb.1 bb.2.1 bb.2.2
      refine TO.guarded rfl rfl rfl (l_call ent15 (CallT.of_pure hk87) rfl ?_)
      clear hk87
      rintro vr O' ⟨N, rfl, rfl, rfl⟩
      refine TO.guarded rfl rfl rfl (LT.of_quiet rfl rfl (q_not rfl) ?_)
      refine TO.quiet (q_pick0 rfl rfl) ?_
      refine TO.nil ?_
      refine T.cond0 rfl ?_
      refine T.skip (T.region ?_)
      refine TO.quiet (q_load_boxAgg 0 Tryd.underlying25 rfl inf25 rfl rfl rfl) ?_
      have hk91 := CallT.under (B := [oI z7 25 (dC mM k6), oI z6 25 (dC mM k5), dI 52 4 3 mM k5, oI z4 25 (dC mN kn), dI 52 4 3 mN kn, oI b6 25 (dC b k2), oI b5 25 (dC a k1), dI 52 4 3 b k2, dI 52 4 3 a k1, oI z2 25 (dC b jb), oI z1 25 (dC a ja)]) (O := [oI z7 25 (dC mM k6), dI 52 4 3 mM k6, oI z6 25 (dC mM k5), dI 52 4 3 mM k5, oI z4 25 (dC mN kn), dI 52 4 3 mN kn, oI b6 25 (dC b k2), oI b5 25 (dC a k1), dI 52 4 3 b k2, dI 52 4 3 a k1, oI z2 25 (dC b jb), oI z1 25 (dC a ja)]) (overK w mM k6 bM.1 bM.2.1 bM.2.2) (by exact Sub.pull [oI z7 25 (dC mM k6)] _ (.k (.k (.k (.k (.k (.k (.k (.k (.k (.k (.k .z))))))))))))
      refine TO.loud rfl (l_call ent16 hk91 rfl ?_)
      clear hk91
      rintro vr O' ⟨A1, rfl, rfl⟩
      refine TO.sub (O' := [oI z4 25 (dC mN kn), dI 52 4 3 mN kn, oI b6 25 (dC b k2), oI b5 25 (dC a k1), dI 52 4 3 b k2, dI 52 4 3 a k1, oI z2 25 (dC b jb), oI z1 25 (dC a ja)]) (by exact Sub.d (.d (.d (.k (.k (.k (.k (.k (.k (.k (.k .z))))))))))) ?_
      refine TO.nil (T.region ?_)
      refine TO.quiet (q_move rfl) (TO.quiet (q_addN (a := o) (b := 1) rfl rfl (by omega)) (TO.quiet (q_assign rfl) ?_))
      refine TO.nil ?_
      exact ⟨o + 1, by omega, rfl, by omega, ⟨rfl, rfl, rfl, rfl, rfl, rfl, rfl, rfl, rfl, rfl, rfl, rfl, trivial⟩⟩
    have hge52 : ¬ o < 4 := by omega
    refine T.exit ?_
    refine T.region ?_
    refine TO.quiet (q_move rfl) (TO.quiet (q_addN (a := r) (b := 1) rfl rfl (by omega)) (TO.quiet (q_assign rfl) ?_))
    refine TO.nil ?_
    exact ⟨r + 1, by omega, rfl, by omega, ⟨rfl, rfl, rfl, rfl, rfl, rfl, rfl, rfl, rfl, trivial⟩⟩
  have hge32 : ¬ r < 2 := by omega
  refine T.exit ?_
  refine T.seq (T.region ?_)
  have hk92 := fun (w1 : World) (hI : Inv w [oI z4 25 (dC mN kn), dI 52 4 3 mN kn, oI b6 25 (dC b k2), oI b5 25 (dC a k1), dI 52 4 3 b k2, dI 52 4 3 a k1, oI z2 25 (dC b jb), oI z1 25 (dC a ja)] w1) => awakeC w1
  refine TO.loud rfl (l_call ent11 (CallT.of_pure hk92) rfl ?_)
  clear hk92
  rintro vr O' ⟨N, rfl, rfl, rfl⟩
  refine TO.quiet (q_assign rfl) ?_
  refine TO.nil (T.ret (Res.drop ?_))
  refine Res.one (.bool true) Tryd.results3 rfl ?_
  exact ⟨[], Sub.z, rfl, rfl⟩
theorem matchesLaw (w : World) (a : DFA) (nba fba : Option Addr) (nca fca : Nat) (vsa : List Value) (ha : DfaAt w a nba vsa fba) (ha1 : a.next.length < 9223372036854775807) (ha2 : ∀ r ∈ a.next, r.length < 9223372036854775807) (ha3 : a.final.length < 9223372036854775807) (b : DFA) (nbb fbb : Option Addr) (ncb fcb : Nat) (vsb : List Value) (hb : DfaAt w b nbb vsb fbb) (hb1 : b.next.length < 9223372036854775807) (hb2 : ∀ r ∈ b.next, r.length < 9223372036854775807) (hb3 : b.final.length < 9223372036854775807)  :
    PureT Tryd.prog 3 [.agg (dfaCells a nba nca fba fca).toArray, .agg (dfaCells b nbb ncb fbb fcb).toArray] w fun v N => v = .bool true ∧ N = [] := by
  obtain ⟨ja, ga, ea⟩ := ha.dk nca fca
  obtain ⟨jb, gb, eb⟩ := hb.dk ncb fcb
  rw [ea, eb]
  exact matchesW w a ja ga ha1 ha2 ha3 b jb gb hb1 hb2 hb3 
end Go.Proofs.YtdaapdamcekkgaaDoor

/- Contracts of functions of the program (BSuf): what each call answers and that it leaves memory as it was. Conditions: those each theorem names. -/
import Derived.Test.YtnamoapbienooaaBTrc
import Derived.Test.YtnamoapbienooaaSuf
import Derived.Test.YtnamoapbienooaaRcn
import Derived.Test.YtnamoapbienooaaKmp
set_option linter.unusedSectionVars false
set_option linter.unusedSimpArgs false
set_option linter.unusedVariables false
set_option linter.unnecessarySimpa false
namespace Go.Proofs.Ytnamoapbienooaa
open Go.Lx Go.RowKit
set_option linter.unusedVariables false
set_option linter.unusedSimpArgs false
set_option maxHeartbeats 1000000 in
set_option maxRecDepth 20000 in
theorem suffixF (w : World) (l : La) (pb lb : Option Addr) (pc lc : Nat) (h : LaAt w l pb lb pc lc) (hL : LaB l) (h0 : 0 < l.loop.length) (i : Nat) (hi : i ≤ 1000000000000) :
    PureT Try.prog 35 [.agg (laCells l pb pc lb lc).toArray, .int .i64 ((i : Nat) : Int)] w fun v N => ∃ c pb2 lb2 pc2 lc2, v = .agg (laCells c pb2 pc2 lb2 lc2).toArray ∧ N = [rowI pb2 pc2 5 1 (byts c.pre), rowI lb2 lc2 5 1 (byts c.loop)] ∧ CanonOf (sufL l i) c := by
  refine CallT.enter Try.func35 rfl Try.ntmps35 rfl ?_
  have hpl := hL.pre; have hll := hL.loop; have hpc := h.pc; have hlc := h.lc
  have hix := La.ix_lt2 h0 i
  have hsl := sufL_len h0 i
  have hsL : LaB (sufL l i) := ⟨by omega, by omega, fun x hx => hL.p8 x ((sufL_mem i x).1 hx), fun x hx => hL.l8 x ((sufL_mem i x).2 hx)⟩
  have hs0 : 0 < (sufL l i).loop.length := by omega
  refine T.seq (T.region ?_)
  refine TO.loud rfl (l_box (v := (.agg (laCells l pb pc lb lc).toArray)) (cs := (laCells l pb pc lb lc)) rfl rfl (fun bx1 => ?_))
  refine TO.loud rfl (l_alloc inf29 rfl (fun bx2 => ?_))
  refine TO.nil (T.seq (T.region ?_))
  refine TO.quiet (q_load_boxAgg 1 Try.underlying29 rfl inf29 rfl rfl rfl) ?_
  have hk7 := fun (w1 : World) (hI : Inv w [oI bx2 29 [(.slice none 0 0), (.slice none 0 0)], oI bx1 29 (laCells l pb pc lb lc)] w1) => fullF w1 l pb lb pc lc h0
  refine TO.loud rfl (l_call ent79 (CallT.of_pure hk7) rfl ?_)
  clear hk7
  rintro vr O' ⟨N, rfl, rfl, rfl⟩
  refine TO.loud rfl (l_store_box (v := (.agg (laCells l pb pc lb lc).toArray)) (vs := (laCells l pb pc lb lc)) 1 inf29 rfl rfl rfl rfl rfl rfl (by simp [putL]) ?_)
  refine TO.nil (T.seq (T.region ?_))
  refine TO.quiet (q_load_boxAgg 1 Try.underlying29 rfl inf29 rfl rfl rfl) (TO.quiet (q_move rfl) ?_)
  have hk10 := fun (w1 : World) (hI : Inv w [oI bx2 29 [(.slice none 0 0), (.slice none 0 0)], oI bx1 29 (laCells l pb pc lb lc)] w1) => indexF w1 l pb lb pc lc (hI.la h) hL i hi
  refine TO.loud rfl (l_call ent54 (CallT.of_pure hk10) rfl ?_)
  clear hk10
  rintro vr O' ⟨N, rfl, rfl, rfl⟩
  refine TO.quiet (q_assign rfl) ?_
  refine TO.nil (T.seq (T.seq (T.region ?_)))
  refine TO.quiet (q_fieldAddr Try.underlying29 rfl inf27 rfl rfl) (TO.quiet (q_load_box 1 Try.underlying27 rfl rfl rfl rfl) (TO.quiet (q_len Try.underlying27 rfl) (TO.quiet (q_assign rfl) ?_)))
  refine TO.nil (T.seq (T.region ?_))
  refine TO.quiet (q_move rfl) (TO.quiet (q_move rfl) (TO.quiet (q_geq rfl rfl) ?_))
  refine TO.nil ?_
  refine T.condP rfl (fun hc => ?_) (fun hc => ?_)
  · have hlt16 : l.ix i ≥ l.pre.length := by omega
    refine T.seq ?_
    have hse : sufL l i = ⟨[], l.loop.drop (l.ix i - l.pre.length) ++ l.loop.take (l.ix i - l.pre.length)⟩ := by unfold sufL; rw [if_pos (by omega)]
    have hfe : [l.loop.drop (l.ix i - l.pre.length), l.loop.take (l.ix i - l.pre.length)].flatten = l.loop.drop (l.ix i - l.pre.length) ++ l.loop.take (l.ix i - l.pre.length) := by simp
    have hfl : (l.loop.drop (l.ix i - l.pre.length) ++ l.loop.take (l.ix i - l.pre.length)).length = l.loop.length := by rw [List.length_append, List.length_drop, List.length_take]; omega
    refine T.draws [oI bx1 29 (laCells l pb pc lb lc)] [(0, 0), (1, 0), (2, 0), (3, 0), (4, 0), (5, 0), (6, 0), (7, 0), (8, 0), (9, 0), (10, 0), (11, 0), (12, 2), (13, 2), (14, 2), (15, 2), (16, 2)] mixed (by kernel_rfl) (Sub.pick [1] rfl) (fun _ _ _ h => h) ?_
    refine DO.quiet rfl (q_fieldAddr Try.underlying29 rfl inf27 rfl rfl) (DO.quiet rfl (q_load_box 0 Try.underlying27 rfl rfl rfl rfl) (DO.quiet rfl (q_move rfl) (DO.quiet rfl (q_move rfl) ?_)))
    refine DO.quiet rfl (q_subN (a := (l.ix i)) (b := l.pre.length) rfl rfl (by omega) (by omega)) (DO.quiet rfl (q_sliceFrom (lo := ((l.ix i) - l.pre.length)) Try.underlying27 inf5 rfl rfl (by omega) (by omega)) (DO.quiet rfl (q_fieldAddr Try.underlying29 rfl inf27 rfl rfl) (DO.quiet rfl (q_load_box 0 Try.underlying27 rfl rfl rfl rfl) ?_)))
    refine DO.quiet rfl (q_move rfl) (DO.quiet rfl (q_move rfl) (DO.quiet rfl (q_subN (a := (l.ix i)) (b := l.pre.length) rfl rfl (by omega) (by omega)) (DO.quiet rfl (q_sliceTo (hi := ((l.ix i) - l.pre.length)) Try.underlying27 inf5 rfl rfl (by omega)) ?_)))
    refine DO.last rfl rfl (l_buildSlice (m := 2) (parts := [(0, .tmp 22), (1, .tmp 28)]) (cs := [(.slice (subB lb lc ((l.ix i) - l.pre.length) 1) (l.loop.length - ((l.ix i) - l.pre.length)) (lc - ((l.ix i) - l.pre.length))), (.slice lb ((l.ix i) - l.pre.length) lc)]) Try.underlying131 inf27 (by decide) (by kernel_rfl) rfl (fun bx3 => ?_))
    have hk30 := fun (w1 : World) (hI : Inv w [rowI (some ⟨bx3, 0, none⟩) 2 27 1 [(.slice (subB lb lc ((l.ix i) - l.pre.length) 1) (l.loop.length - ((l.ix i) - l.pre.length)) (lc - ((l.ix i) - l.pre.length))), (.slice lb ((l.ix i) - l.pre.length) lc)], oI bx2 29 [(.slice none 0 0), (.slice none 0 0)], oI bx1 29 (laCells l pb pc lb lc)] w1) => (by
      have hC := concatB w1 (some ⟨bx3, 0, none⟩) 2 [.slice (subB lb lc (l.ix i - l.pre.length) 1) (l.loop.length - (l.ix i - l.pre.length)) (lc - (l.ix i - l.pre.length)), .slice lb (l.ix i - l.pre.length) lc] [l.loop.drop (l.ix i - l.pre.length), l.loop.take (l.ix i - l.pre.length)] (hI.slOf (List.mem_of_getElem? (i := 0) rfl)) (WordsR.two ((hI.sl h.loop).bdrop (l.ix i - l.pre.length) h.lc) ((hI.sl h.loop).btake (l.ix i - l.pre.length)) (by rw [List.length_drop]) (by rw [List.length_take]; omega)) (by simp) (by rw [hfe, hfl]; omega)
      rw [hfe] at hC; exact hC)
    refine DO.last rfl rfl (l_call ent82 (CallT.of_pure hk30) rfl ?_)
    clear hk30
    rintro vr O' ⟨N, rfl, cb2, cc2, rfl, rfl⟩
    refine DO.last rfl rfl (LT.of_quiet rfl rfl (q_build (cs := [(.slice none 0 0), (.slice cb2 ((l.loop.drop (l.ix i - l.pre.length) ++ l.loop.take (l.ix i - l.pre.length)).length) cc2)]) plan29 inf29 (by kernel_rfl)) ?_)
    have hk32 := fun (w1 : World) (hI : Inv w [rowI cb2 cc2 5 1 (byts (l.loop.drop (l.ix i - l.pre.length) ++ l.loop.take (l.ix i - l.pre.length))), rowI (some ⟨bx3, 0, none⟩) 2 27 1 [(.slice (subB lb lc ((l.ix i) - l.pre.length) 1) (l.loop.length - ((l.ix i) - l.pre.length)) (lc - ((l.ix i) - l.pre.length))), (.slice lb ((l.ix i) - l.pre.length) lc)], oI bx2 29 [(.slice none 0 0), (.slice none 0 0)], oI bx1 29 (laCells l pb pc lb lc)] w1) => canonicalF w1 (⟨[], l.loop.drop (l.ix i - l.pre.length) ++ l.loop.take (l.ix i - l.pre.length)⟩ : La) none cb2 0 cc2 (show LaAt w1 (⟨[], l.loop.drop (l.ix i - l.pre.length) ++ l.loop.take (l.ix i - l.pre.length)⟩ : La) none cb2 0 cc2 from ⟨Sl.nil _ _, (hI.slOf (List.mem_of_getElem? (i := 0) rfl)), Nat.le_refl _, by have h9 := rowP.cap (hI.row (i := 0) rfl); simpa using h9⟩) (by rw [← hse]; exact hsL) (by rw [← hse]; exact hs0)
    refine DO.last rfl rfl (l_call ent29 (CallT.of_pure hk32) rfl ?_)
    clear hk32
    rintro vr O' ⟨N, rfl, c, kb, mb, kc, mc, rfl, rfl, hco⟩
    refine DO.last rfl rfl (l_store_box (v := (.agg (laCells c kb kc mb mc).toArray)) (vs := (laCells c kb kc mb mc)) 4 inf29 rfl rfl rfl rfl rfl rfl (by simp [putL]) ?_)
    refine DO.done ?_
    refine T.ret (Res.drop ?_)
    refine Res.cell1 (i := 4) Try.results35 Try.underlying29 rfl inf29 rfl rfl rfl ?_
    exact ⟨[rowI kb kc 5 1 (byts c.pre), rowI mb mc 5 1 (byts c.loop)], (Sub.pick [0, 0] rfl), c, kb, mb, kc, mc, rfl, rfl, by rw [hse]; exact hco⟩
  have hge16 : ¬ l.ix i ≥ l.pre.length := by omega
  refine T.skip (T.seq ?_)
  have hse : sufL l i = ⟨l.pre.drop (l.ix i), l.loop⟩ := by unfold sufL; rw [if_neg (by omega)]
  refine T.draws [oI bx1 29 (laCells l pb pc lb lc)] [(0, 0), (1, 0), (2, 0), (3, 0), (4, 0), (5, 0), (6, 0), (7, 2), (8, 2)] mixed (by kernel_rfl) (Sub.pick [1] rfl) (fun _ _ _ h => h) ?_
  refine DO.quiet rfl (q_fieldAddr Try.underlying29 rfl inf27 rfl rfl) (DO.quiet rfl (q_load_box 0 Try.underlying27 rfl rfl rfl rfl) (DO.quiet rfl (q_move rfl) (DO.quiet rfl (q_sliceFrom (lo := (l.ix i)) Try.underlying27 inf5 rfl rfl (by omega) (by omega)) ?_)))
  refine DO.quiet rfl (q_fieldAddr Try.underlying29 rfl inf27 rfl rfl) (DO.quiet rfl (q_load_box 0 Try.underlying27 rfl rfl rfl rfl) (DO.quiet rfl (q_build (cs := [(.slice (subB pb pc (l.ix i) 1) (l.pre.length - (l.ix i)) (pc - (l.ix i))), (.slice lb l.loop.length lc)]) plan29 inf29 (by kernel_rfl)) ?_))
  have hk40 := fun (w1 : World) (hI : Inv w [oI bx2 29 [(.slice none 0 0), (.slice none 0 0)], oI bx1 29 (laCells l pb pc lb lc)] w1) => (by
    have hC := canonicalF w1 (⟨l.pre.drop (l.ix i), l.loop⟩ : La) (subB pb pc (l.ix i) 1) lb (pc - l.ix i) lc (show LaAt w1 (⟨l.pre.drop (l.ix i), l.loop⟩ : La) _ lb _ lc from ⟨(hI.sl h.pre).bdrop (l.ix i) h.pc, hI.sl h.loop, (by show (l.pre.drop (l.ix i)).length ≤ _; rw [List.length_drop]; have := h.pc; omega), h.lc⟩) (by rw [← hse]; exact hsL) (by rw [← hse]; exact hs0)
    unfold laCells at hC; rw [List.length_drop] at hC; exact hC)
  refine DO.last rfl rfl (l_call ent29 (CallT.of_pure hk40) rfl ?_)
  clear hk40
  rintro vr O' ⟨N, rfl, c, kb, mb, kc, mc, rfl, rfl, hco⟩
  refine DO.last rfl rfl (l_store_box (v := (.agg (laCells c kb kc mb mc).toArray)) (vs := (laCells c kb kc mb mc)) 2 inf29 rfl rfl rfl rfl rfl rfl (by simp [putL]) ?_)
  refine DO.done ?_
  refine T.ret (Res.drop ?_)
  refine Res.cell1 (i := 2) Try.results35 Try.underlying29 rfl inf29 rfl rfl rfl ?_
  exact ⟨[rowI kb kc 5 1 (byts c.pre), rowI mb mc 5 1 (byts c.loop)], (Sub.pick [0, 0] rfl), c, kb, mb, kc, mc, rfl, rfl, by rw [hse]; exact hco⟩
end Go.Proofs.Ytnamoapbienooaa

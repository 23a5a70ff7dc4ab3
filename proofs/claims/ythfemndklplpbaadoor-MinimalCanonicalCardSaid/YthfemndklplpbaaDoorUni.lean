/- Contracts of functions of the program (Uni): what each call answers and that it leaves memory as it was. Conditions: those each theorem names. -/
import Derived.Test.YthfemndklplpbaaDoorAll
import Derived.Test.YthfemndklplpbaaDoorQuo
import Derived.Test.YthfemndklplpbaaDoorDist
import Derived.Test.YthfemndklplpbaaDoorRefM
import Derived.Test.YthfemndklplpbaaDoorRefD
set_option linter.unusedSectionVars false
set_option linter.unusedSimpArgs false
set_option linter.unusedVariables false
set_option linter.unnecessarySimpa false
namespace Go.Proofs.YthfemndklplpbaaDoor
open Go.Lx Go.RowKit
set_option linter.unusedVariables false
set_option linter.unusedSimpArgs false

theorem roundsA (w : World) (d : DFA) (nb fb : Option Addr) (nc fc : Nat) (vs : List Value) (h : DfaAt w d nb vs fb) (hb : d.next.length < 9223372036854775807) (hbr : ∀ r ∈ d.next, r.length < 9223372036854775807) (hbf : d.final.length < 9223372036854775807) (hn : Valid d → d.next.length < 100) (k : Int) (hk9 : k ≤ 9223372036854775807) :
    PureT Tryd.prog 19 [.agg (dfaCells d nb nc fb fc).toArray, .int .i64 k] w fun v N => ∃ b c, v = .tuple #[.slice b (rndsV d k).length c, .int .i64 (checkD d : Int)] ∧ N = [rowI b c 3 1 (nats (rndsV d k))] := by
  unfold rndsV
  by_cases he : checkD d = 0
  · have hv := checkD_zero.1 he
    rw [he, if_pos rfl, itF_length]
    exact roundsOk w d nb fb nc fc vs h hv (hn hv) k hk9
  · rw [if_neg he]
    refine (CallT.addNil 3 1 (roundsBad w d nb fb nc fc vs h hb hbr hbf he k)).mono ?_
    rintro v N ⟨O2, rfl, rfl, rfl⟩
    exact ⟨none, 0, rfl, rfl⟩

theorem rRoundsA (w : World) (d : DFA) (nb fb : Option Addr) (nc fc : Nat) (vs : List Value) (h : DfaAt w d nb vs fb) (hb : d.next.length < 9223372036854775807) (hbr : ∀ r ∈ d.next, r.length < 9223372036854775807) (hbf : d.final.length < 9223372036854775807) (hn : Valid d → d.next.length < 100) (k : Int) (hk9 : k ≤ 9223372036854775807) :
    PureT Tryd.prog 16 [.agg (dfaCells d nb nc fb fc).toArray, .int .i64 k] w fun v N => ∃ b c, v = .tuple #[.slice b (rndsV d k).length c, .int .i64 (checkD d : Int)] ∧ N = [rowI b c 3 1 (nats (rndsV d k))] := by
  unfold rndsV
  by_cases he : checkD d = 0
  · have hv := checkD_zero.1 he
    rw [he, if_pos rfl, itF_length]
    exact rRoundsOk w d nb fb nc fc vs h hv (hn hv) k
  · rw [if_neg he]
    refine (CallT.addNil 3 1 (rRoundsBad w d nb fb nc fc vs h hb hbr hbf he k)).mono ?_
    rintro v N ⟨O2, rfl, rfl, rfl⟩
    exact ⟨none, 0, rfl, rfl⟩

theorem classesA (w : World) (d : DFA) (nb fb : Option Addr) (nc fc : Nat) (vs : List Value) (h : DfaAt w d nb vs fb) (hb : d.next.length < 9223372036854775807) (hbr : ∀ r ∈ d.next, r.length < 9223372036854775807) (hbf : d.final.length < 9223372036854775807) (hn : Valid d → d.next.length < 100) :
    PureT Tryd.prog 18 [.agg (dfaCells d nb nc fb fc).toArray] w fun v N => ∃ b c, v = .tuple #[.slice b (rndsV d d.next.length).length c, .int .i64 (checkD d : Int)] ∧ N = [rowI b c 3 1 (nats (rndsV d d.next.length))] := by
  unfold rndsV
  by_cases he : checkD d = 0
  · have hv := checkD_zero.1 he
    rw [he, if_pos rfl, itF_length]
    exact classesOk w d nb fb nc fc vs h hv (hn hv)
  · rw [if_neg he]
    refine (CallT.addNil 3 1 (classesBad w d nb fb nc fc vs h hb hbr hbf he)).mono ?_
    rintro v N ⟨O2, rfl, rfl, rfl⟩
    exact ⟨none, 0, rfl, rfl⟩

theorem rClassesA (w : World) (d : DFA) (nb fb : Option Addr) (nc fc : Nat) (vs : List Value) (h : DfaAt w d nb vs fb) (hb : d.next.length < 9223372036854775807) (hbr : ∀ r ∈ d.next, r.length < 9223372036854775807) (hbf : d.final.length < 9223372036854775807) (hn : Valid d → d.next.length < 100) :
    PureT Tryd.prog 15 [.agg (dfaCells d nb nc fb fc).toArray] w fun v N => ∃ b c, v = .tuple #[.slice b (rndsV d d.next.length).length c, .int .i64 (checkD d : Int)] ∧ N = [rowI b c 3 1 (nats (rndsV d d.next.length))] := by
  unfold rndsV
  by_cases he : checkD d = 0
  · have hv := checkD_zero.1 he
    rw [he, if_pos rfl, itF_length]
    exact rClassesOk w d nb fb nc fc vs h hv (hn hv)
  · rw [if_neg he]
    refine (CallT.addNil 3 1 (rClassesBad w d nb fb nc fc vs h hb hbr hbf he)).mono ?_
    rintro v N ⟨O2, rfl, rfl, rfl⟩
    exact ⟨none, 0, rfl, rfl⟩

theorem minA (w : World) (d : DFA) (nb fb : Option Addr) (nc fc : Nat) (vs : List Value) (h : DfaAt w d nb vs fb) (hb : d.next.length < 9223372036854775807) (hbr : ∀ r ∈ d.next, r.length < 9223372036854775807) (hbf : d.final.length < 9223372036854775807) (hn : Valid d → d.next.length < 100) :
    PureT Tryd.prog 17 [.agg (dfaCells d nb nc fb fc).toArray] w fun v N => ∃ nb' nc' fb' fc' qs, v = .tuple #[.agg (dfaCells (minV d) nb' nc' fb' fc').toArray, .int .i64 (checkD d : Int)] ∧ N = [rowI nb' nc' 33 1 (vals qs), rowI fb' fc' 4 1 (bools (minV d).final)] ++ itms 3 qs ∧ nums qs = (minV d).next := by
  unfold minV
  by_cases he : checkD d = 0
  · have hv := checkD_zero.1 he
    obtain ⟨q1, q2⟩ := quo_itF hv d.next.length
    rw [he, if_pos rfl]
    exact minOk w d nb fb nc fc vs h hv (hn hv) q1 (by have := hn hv; omega)
  · rw [if_neg he]
    refine (CallT.addNil 33 1 (CallT.addNil 4 1 (minBad w d nb fb nc fc vs h hb hbr hbf he))).mono ?_
    rintro v N ⟨O2, rfl, O3, rfl, rfl, rfl⟩
    exact ⟨none, 0, none, 0, [], rfl, rfl, rfl⟩

theorem rMinA (w : World) (d : DFA) (nb fb : Option Addr) (nc fc : Nat) (vs : List Value) (h : DfaAt w d nb vs fb) (hb : d.next.length < 9223372036854775807) (hbr : ∀ r ∈ d.next, r.length < 9223372036854775807) (hbf : d.final.length < 9223372036854775807) (hn : Valid d → d.next.length < 100) :
    PureT Tryd.prog 14 [.agg (dfaCells d nb nc fb fc).toArray] w fun v N => ∃ nb' nc' fb' fc' qs, v = .tuple #[.agg (dfaCells (minV d) nb' nc' fb' fc').toArray, .int .i64 (checkD d : Int)] ∧ N = [rowI nb' nc' 33 1 (vals qs), rowI fb' fc' 4 1 (bools (minV d).final)] ++ itms 3 qs ∧ nums qs = (minV d).next := by
  unfold minV
  by_cases he : checkD d = 0
  · have hv := checkD_zero.1 he
    obtain ⟨q1, q2⟩ := quo_itF hv d.next.length
    rw [he, if_pos rfl]
    exact rMinOk w d nb fb nc fc vs h hv (hn hv) q1 (by have := hn hv; omega)
  · rw [if_neg he]
    refine (CallT.addNil 33 1 (CallT.addNil 4 1 (rMinBad w d nb fb nc fc vs h hb hbr hbf he))).mono ?_
    rintro v N ⟨O2, rfl, O3, rfl, rfl, rfl⟩
    exact ⟨none, 0, none, 0, [], rfl, rfl, rfl⟩

theorem distA (w : World) (d : DFA) (nb fb : Option Addr) (nc fc : Nat) (vs : List Value) (h : DfaAt w d nb vs fb) (hb : d.next.length < 9223372036854775807) (hbr : ∀ r ∈ d.next, r.length < 9223372036854775807) (hbf : d.final.length < 9223372036854775807) (hn : Valid d → d.next.length < 100) (s t : Int) :
    PureT Tryd.prog 25 [.agg (dfaCells d nb nc fb fc).toArray, .int .i64 s, .int .i64 t] w fun v N => DistV 5 d s t v N := by
  by_cases he : checkD d = 0
  · have hv := checkD_zero.1 he
    by_cases hst : s < 0 ∨ t < 0 ∨ (d.next.length : Int) ≤ s ∨ (d.next.length : Int) ≤ t
    · have e8 : eD d s t = 8 := by unfold eD; rw [if_neg (by simp [he]), if_pos hst]
      refine (CallT.addNil 5 1 (distOut w d nb fb nc fc vs h hv s t hst)).mono ?_
      rintro v N ⟨O2, rfl, rfl, rfl⟩
      exact ⟨none, none, 0, by unfold TellA; rw [if_neg (by rw [e8]; decide)], by rw [e8]; rfl, rfl⟩
    · have e0 : eD d s t = 0 := by unfold eD; rw [if_neg (by simp [he]), if_neg hst]
      have hs : s = ((s.toNat : Nat) : Int) := by omega
      have ht : t = ((t.toNat : Nat) : Int) := by omega
      have h1 := distOk w d nb fb nc fc vs h hv (hn hv) s.toNat t.toNat (by omega) (by omega)
      rw [← hs, ← ht] at h1
      refine (CallT.nilOr 5 1 h1).mono ?_
      rintro v N ⟨O2, hN, res, hT, hV⟩
      have hTA : TellA d s t res := by unfold TellA; rw [if_pos e0]; exact hT
      cases res with
      | none =>
        obtain ⟨rfl, rfl⟩ := hV
        exact ⟨none, none, 0, hTA, by rw [e0]; rfl, hN.2 rfl⟩
      | some u =>
        obtain ⟨b, c, rfl, rfl⟩ := hV
        exact ⟨some u, b, c, hTA, by rw [e0]; rfl, hN.1 (by simp)⟩
  · have e1 : eD d s t = checkD d := by unfold eD; rw [if_pos he]
    refine (CallT.addNil 5 1 (distBad w d nb fb nc fc vs h hb hbr hbf he s t)).mono ?_
    rintro v N ⟨O2, rfl, rfl, rfl⟩
    exact ⟨none, none, 0, by unfold TellA; rw [if_neg (by rw [e1]; exact he)], by rw [e1]; rfl, rfl⟩

theorem rDistA (w : World) (d : DFA) (nb fb : Option Addr) (nc fc : Nat) (vs : List Value) (h : DfaAt w d nb vs fb) (hb : d.next.length < 9223372036854775807) (hbr : ∀ r ∈ d.next, r.length < 9223372036854775807) (hbf : d.final.length < 9223372036854775807) (hn : Valid d → d.next.length < 100) (s t : Int) :
    PureT Tryd.prog 26 [.agg (dfaCells d nb nc fb fc).toArray, .int .i64 s, .int .i64 t] w fun v N => DistV 5 d s t v N := by
  by_cases he : checkD d = 0
  · have hv := checkD_zero.1 he
    by_cases hst : s < 0 ∨ t < 0 ∨ (d.next.length : Int) ≤ s ∨ (d.next.length : Int) ≤ t
    · have e8 : eD d s t = 8 := by unfold eD; rw [if_neg (by simp [he]), if_pos hst]
      refine (CallT.addNil 5 1 (rDistOut w d nb fb nc fc vs h hv s t hst)).mono ?_
      rintro v N ⟨O2, rfl, rfl, rfl⟩
      exact ⟨none, none, 0, by unfold TellA; rw [if_neg (by rw [e8]; decide)], by rw [e8]; rfl, rfl⟩
    · have e0 : eD d s t = 0 := by unfold eD; rw [if_neg (by simp [he]), if_neg hst]
      have hs : s = ((s.toNat : Nat) : Int) := by omega
      have ht : t = ((t.toNat : Nat) : Int) := by omega
      have h1 := rDistOk w d nb fb nc fc vs h hv (hn hv) s.toNat t.toNat (by omega) (by omega)
      rw [← hs, ← ht] at h1
      refine (CallT.nilOr 5 1 h1).mono ?_
      rintro v N ⟨O2, hN, res, hT, hV⟩
      have hTA : TellA d s t res := by unfold TellA; rw [if_pos e0]; exact hT
      cases res with
      | none =>
        obtain ⟨rfl, rfl⟩ := hV
        exact ⟨none, none, 0, hTA, by rw [e0]; rfl, hN.2 rfl⟩
      | some u =>
        obtain ⟨b, c, rfl, rfl⟩ := hV
        exact ⟨some u, b, c, hTA, by rw [e0]; rfl, hN.1 (by simp)⟩
  · have e1 : eD d s t = checkD d := by unfold eD; rw [if_pos he]
    refine (CallT.addNil 5 1 (rDistBad w d nb fb nc fc vs h hb hbr hbf he s t)).mono ?_
    rintro v N ⟨O2, rfl, rfl, rfl⟩
    exact ⟨none, none, 0, by unfold TellA; rw [if_neg (by rw [e1]; exact he)], by rw [e1]; rfl, rfl⟩
end Go.Proofs.YthfemndklplpbaaDoor

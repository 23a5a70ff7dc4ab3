/- Contracts of functions of the program (JE, Awk, PB, Run, PjV, JL, JM, PjW, Close, CloseP, End): what each call answers and that it leaves memory as it was. Conditions: those each theorem names. -/
import Derived.Test.YtohkmggbfcnapaaGreatDoorCoreK
import Derived.Test.YtohkmggbfcnapaaGreatDoorBol7
import Derived.Test.YtohkmggbfcnapaaGreatDoorShelfS
import Derived.Test.YtohkmggbfcnapaaGreatDoorJG
import Derived.Test.YtohkmggbfcnapaaGreatDoorStr
import Derived.OpenShut
import Derived.Deep.DeepHandedRow
import Derived.Deep.Matrix
import Derived.Deep.Grids
import Derived.WideKeyArgs
import Derived.SizedLaws
import Derived.Test.YtohkmggbfcnapaaGreatDoorCards
import Derived.Test.YtohkmggbfcnapaaGreatDoorTie
import Derived.WalkKit
import Derived.ProofKit
import Derived.Lib.LaidTab
set_option linter.unusedSectionVars false
set_option linter.unusedSimpArgs false
set_option linter.unusedVariables false
set_option linter.unnecessarySimpa false
set_option maxHeartbeats 8000000
set_option maxRecDepth 20000
namespace Go.Proofs.YtohkmggbfcnapaaGreatDoor
open Go.Lx Go.RowKit _root_.Go.Proofs.Tryz
theorem valsC (w : World) [Tab Tryz.prog w] (b : Option Addr) (c : Nat) (l : List Int) :
    PureT Tryz.prog 66 [.slice b l.length c] w fun v N => ∃ xb : Nat, v = (.func (.func 92) #[] #[(.pointer (some ⟨xb, 0, none⟩))]) ∧ N = [oI xb 37 [(.slice b l.length c)]] := by
  refine CallT.enter func66 rfl ntmps66 rfl ?_
  refine T.s (T.rg ?_)
  refine TO.l rfl (l_box (v := (.slice b l.length c)) (cs := [(.slice b l.length c)]) rfl rfl (fun bx1 => ?_))
  refine TO.qa rfl ?_
  refine TO.nl (T.s (T.rg ?_))
  refine TO.q (q_makeFunc) (TO.qa rfl ?_)
  refine TO.nl (T.ret ?_)
  refine Res.one (.func (.func 92) #[] #[(.pointer (some ⟨bx1, 0, none⟩))]) Tryz.results66 rfl ?_
  exact ⟨bx1, rfl, rfl⟩
theorem valsF (base : World) [Tab Tryz.prog base] (xb c : Nat) (b : Option Addr) (l : List Int) (hb : Sl base b (ints l)) (hll : l.length < 1000000) (yv : Value) (J : Nat → List Lx.Item → Prop)
    (hy : ∀ (i : Nat) (q : Int) (O : List Lx.Item), l[i]? = some q → J i O → CallV Tryz.prog base yv [.int .i64 q] O (fun v O' => v = .bool true ∧ J (i + 1) O'))
    (O : List Lx.Item) (h0 : J 0 O) :
    CallT Tryz.prog base 92 [yv, .pointer (some ⟨xb, 0, none⟩)] ([oI xb 37 [(.slice b l.length c)]] ++ O) (fun _ O' => J l.length O') := by
  refine CallT.enter func92 rfl ntmps92 rfl ?_
  refine T.s (T.rg ?_)
  refine TO.q (q_lb 0 underlying37 rfl rfl rfl rfl) (TO.q (q_len underlying37 rfl) (TO.qm rfl ?_))
  refine TO.nl (T.block ?_)
  refine T.loop (fun (i : Nat) ρ O => ∃ (O1 : List Lx.Item), O = ([oI xb 37 [(.slice b l.length c)]] ++ O1) ∧ i ≤ l.length ∧ J i O1 ∧ Heads [(0, yv), (1, (.pointer (some ⟨xb, 0, none⟩))), (5, (.slice b l.length c)), (6, .int .i64 (l.length : Int)), (7, .int .i64 ((i : Nat) : Int))] ρ) (fun i => l.length - i) 0 ?_ ?_
  · exact ⟨O, rfl, Nat.zero_le _, h0, ⟨rfl, rfl, rfl, rfl, rfl, trivial⟩⟩
  rintro i ρ O ⟨O1, rfl, hi, hJ, hH⟩
  obtain ⟨ρ0, rfl⟩ := hH.elim
  clear hH
  refine T.s (T.rg ?_)
  refine TO.q (q_lss rfl rfl) ?_
  refine TO.nl (T.s ?_)
  refine T.condP rfl (fun hc => ?_) (fun hc => ?_)
  · have hlt8 : i < l.length := by omega
    have hil : i < l.length := by omega
    obtain ⟨q, hiq⟩ : ∃ q, l[i]? = some q := ⟨_, List.getElem?_eq_getElem hil⟩
    have hiq2 : (ints l)[i]? = some (.int .i64 q) := by rw [List.getElem?_map, hiq]; rfl
    refine T.skip (T.s (T.block (T.s (T.rg ?_))))
    refine TO.q (q_ix (i := i) underlying37 inf3 rfl rfl (Sl.o hb) hil (by rw [List.length_map]; exact hil)) (TO.q (q_ld underlying3 rfl rfl (Sl.o hb) hiq2) (TO.qa rfl ?_))
    refine TO.nl (T.s (T.rg ?_))
    refine TO.qm rfl (TO.qm rfl ?_)
    have hk13 := CallV.under (B := [oI xb 37 [(.slice b l.length c)]]) (O := ([oI xb 37 [(.slice b l.length c)]] ++ O1)) (hy i q O1 hiq hJ) (Sub.ca [])
    refine TO.l rfl (l_callG hk13 rfl rfl ?_)
    clear hk13
    rintro vr O' ⟨A1, rfl, rfl, hJ2⟩
    refine TO.sub (O' := ([oI xb 37 [(.slice b l.length c)]] ++ A1)) (Sub.ca []) ?_
    refine TO.q (q_not rfl) ?_
    refine TO.nl ?_
    refine T.cond0 rfl ?_
    refine T.skip (T.rg ?_)
    refine TO.q (q_addN (a := i) (b := 1) rfl rfl (by omega)) (TO.qm rfl ?_)
    refine TO.nl ?_
    exact ⟨i + 1, by omega, A1, rfl, by omega, hJ2, ⟨rfl, rfl, rfl, rfl, rfl, trivial⟩⟩
  have hge8 : ¬ i < l.length := by omega
  refine T.exit ?_
  refine Res.drop ?_
  refine Res.zero Tryz.results92 ?_
  have hie : i = l.length := by omega
  exact ⟨O1, Sub.cnt [oI xb 37 [(.slice b l.length c)]] (by intro a; simp only [itms, oI, List.set_cons_zero, List.set_cons_succ, putL, List.cons_append, List.nil_append, List.append_nil, List.append_assoc, List.map_append, List.map_cons, List.map_nil, cnt_append, cnt_cons, cnt_nil] <;> omega), by rw [← hie]; exact hJ⟩
theorem appSeqF (w : World) [Tab Tryz.prog w] (xb c : Nat) (b : Option Addr) (l : List Int) (hb : Sl w b (ints l)) (hll : l.length < 1000000) :
    CallT Tryz.prog w 113 [.slice none 0 0, (.func (.func 92) #[] #[(.pointer (some ⟨xb, 0, none⟩))])] [oI xb 37 [(.slice b l.length c)]] (fun v O' => ∃ b2 c2, v = .slice b2 l.length c2 ∧ O' = [rowI b2 c2 3 1 (ints l)]) := by
  refine CallT.enter func113 rfl ntmps113 rfl ?_
  refine T.s (T.rg ?_)
  refine TO.l rfl (l_box (v := (.slice none 0 0)) (cs := [(.slice none 0 0)]) rfl rfl (fun z1 => ?_))
  refine TO.qa rfl ?_
  refine TO.nl (T.s (T.s (T.rg ?_)))
  refine TO.qm rfl ?_
  refine TO.nl (T.block ?_)
  refine T.nilRow 3 1 ?_
  refine T.sub (O' := [oI xb 37 [(.slice b l.length c)], oI z1 37 [(.slice none 0 0)], rowI none 0 3 1 []]) (by exact Sub.pull [rowI none 0 3 1 [], oI z1 37 [(.slice none 0 0)]] _ (.pull [rowI none 0 3 1 []] _ (.k .z))) ?_
  refine T.rangeFunc (first := []) (caps := [(.pointer (some ⟨xb, 0, none⟩))]) rfl ent92 (fun yl yq yhq => ?_)
  refine CallT.mono (CallT.sub (O' := oI xb 37 [(.slice b l.length c)] :: (objI yl (lp yq none) :: [oI z1 37 [(.slice none 0 0)], rowI none 0 3 1 []])) (Sub.pick [1, 0, 0, 0] rfl) (valsF w xb c b l hb hll (.func (.yield yl) #[] #[]) (fun i9 O => ∃ (lb : Option Addr) (lc : Nat), O = objI yl (lp yq none) :: [oI z1 37 [(.slice lb i9 lc)], rowI lb lc 3 1 (ints (l.take i9))] ∧ i9 ≤ l.length) ?_ _ ?_)) ?_
  · intro i9 q9 O hq hJ
    obtain ⟨lb, lc, rfl, hi9⟩ := hJ
    refine CallV.yield yhq rfl rfl ?_
    have hil := (List.getElem?_eq_some_iff.1 hq).1
    have htk : (ints (l.take i9)) ++ [Value.int .i64 q9] = ints (l.take (i9 + 1)) := by rw [List.take_add_one, hq]; simp
    refine T.rg ?_
    refine TO.qa rfl ?_
    refine TO.nl (T.block (T.rg ?_))
    refine TO.q (q_lb 0 underlying37 rfl rfl rfl rfl) (TO.qm rfl ?_)
    refine TO.l rfl (l_build1 (v := .int .i64 q9) underlying37 inf3 rfl rfl rfl (fun z2 => ?_))
    refine TO.l rfl (l_append 2 underlying37 underlying37 inf3 rfl rfl rfl rfl (by rw [List.length_map, List.length_take]; omega) (by decide) (Src.row (j := 0) rfl (by simp)) (by simp [oneB]) (by omega) (by decide) (by decide) (fun z3 zc4 => ?_))
    refine TO.l rfl (l_sb (v := (.slice z3 (i9 + 1) zc4)) (vs := [(.slice z3 (i9 + 1) zc4)]) 1 inf37 rfl rfl rfl rfl rfl rfl (by simp [putL]) ?_)
    refine TO.sub (O' := [oI z1 37 [(.slice z3 (i9 + 1) zc4)], rowI z3 zc4 3 1 ((ints (l.take i9)) ++ [.int .i64 q9])]) (by exact Sub.d (.k (.k .z))) ?_
    refine TO.nl ?_
    exact ⟨rfl, z3, zc4, by rw [htk], hil⟩
  · exact ⟨none, 0, rfl, Nat.zero_le _⟩
  rintro v O' ⟨lb, lc, rfl, _⟩
  rw [List.take_of_length_le (Nat.le_refl _)]
  refine ⟨none, _, rfl, ?_⟩
  refine T.s (T.rg ?_)
  refine TO.q (q_lb 0 underlying37 rfl rfl rfl rfl) (TO.qa rfl ?_)
  refine TO.nl (T.ret (Res.drop ?_))
  refine Res.one (.slice lb l.length lc) Tryz.results113 rfl ?_
  exact ⟨[rowI lb lc 3 1 (ints l)], (by exact Sub.d (.k .z)), _, _, rfl, rfl⟩
theorem collF (w : World) [Tab Tryz.prog w] (xb c : Nat) (b : Option Addr) (l : List Int) (hb : Sl w b (ints l)) (hll : l.length < 1000000) :
    CallT Tryz.prog w 90 [(.func (.func 92) #[] #[(.pointer (some ⟨xb, 0, none⟩))])] [oI xb 37 [(.slice b l.length c)]] (fun v O' => ∃ b2 c2, v = .slice b2 l.length c2 ∧ O' = [rowI b2 c2 3 1 (ints l)]) := by
  refine CallT.enter func90 rfl ntmps90 rfl ?_
  refine T.s (T.rg ?_)
  refine TO.qa rfl ?_
  refine TO.nl (T.s (T.rg ?_))
  refine TO.qm rfl ?_
  have hk4 := appSeqF w xb c b l hb hll
  refine TO.l rfl (l_call ent113 hk4 rfl ?_)
  clear hk4
  rintro vr O' ⟨b2, c2, rfl, rfl⟩
  refine TO.qa rfl ?_
  refine TO.nl (T.ret ?_)
  refine Res.one (.slice b2 l.length c2) Tryz.results90 rfl ?_
  exact ⟨_, _, rfl, rfl⟩
theorem sortedF (w : World) [Tab Tryz.prog w] (xb c : Nat) (b : Option Addr) (l : List Int) (hb : Sl w b (ints l)) (hll : l.length < 1000000) :
    CallT Tryz.prog w 65 [(.func (.func 92) #[] #[(.pointer (some ⟨xb, 0, none⟩))])] [oI xb 37 [(.slice b l.length c)]] (fun v O' => ∃ b2 c2, v = .slice b2 l.length c2 ∧ O' = [rowI b2 c2 3 1 (ints (sortZ l))]) := by
  refine CallT.enter func65 rfl ntmps65 rfl ?_
  refine T.s (T.rg ?_)
  refine TO.qa rfl ?_
  refine TO.nl (T.s (T.rg ?_))
  refine TO.qm rfl ?_
  have hk5 := collF w xb c b l hb hll
  refine TO.l rfl (l_call ent90 hk5 rfl ?_)
  clear hk5
  rintro vr O' ⟨b2, c2, rfl, rfl⟩
  refine TO.qa rfl ?_
  refine TO.nl (T.s (T.rg ?_))
  refine TO.qm rfl ?_
  have hk7 := sortC w b2 c2 l (by omega)
  refine TO.l rfl (l_call ent91 hk7 rfl ?_)
  clear hk7
  rintro vr O' ⟨rfl, rfl⟩
  refine TO.nl (T.s (T.rg ?_))
  refine TO.qm rfl (TO.qa rfl ?_)
  refine TO.nl (T.ret ?_)
  refine Res.one (.slice b2 l.length c2) Tryz.results65 rfl ?_
  exact ⟨_, _, rfl, rfl⟩
theorem rnBad (w : World) [Tab Tryz.prog w] (a : DFA) (k : DK) (ha : At w a k) (haa : a.next.length < 9223372036854775807) (haar : ∀ r ∈ a.next, r.length < 9223372036854775807) (haaf : a.final.length < 9223372036854775807) (he : checkD a ≠ 0) (pb : Option Addr) (pc : Nat) (l : List Int) :
    PureT Tryz.prog 28 [dV a k, .slice pb l.length pc] w fun v9 N => v9 = .tuple #[dV noD ⟨none, 0, none, 0, []⟩, .int .i64 (checkD a : Int)] ∧ N = [] := by
  refine CallT.enter func28 rfl ntmps28 rfl ?_
  refine T.s (T.rg ?_)
  refine TO.l rfl (l_box (v := (dV a k)) (cs := (dC a k)) rfl rfl (fun bx1 => ?_))
  refine TO.l rfl (l_box (v := (.slice pb l.length pc)) (cs := [(.slice pb l.length pc)]) rfl rfl (fun bx2 => ?_))
  refine TO.l rfl (l_alloc inf25 rfl (fun bx3 => ?_))
  refine TO.qa rfl ?_
  refine TO.nl (T.s (T.s (T.rg ?_)))
  refine TO.q (q_la 2 underlying25 rfl inf25 rfl rfl rfl) ?_
  have hk11 := fun (w1 : World) (hI : Inv w [oI bx3 25 [(.int .i64 0), (.int .i64 0), (.slice none 0 0), (.slice none 0 0)], oI bx2 37 [(.slice pb l.length pc)], oI bx1 25 (dC a k)] w1) => (haveI := tbz hI; subsetCheck w1 a k.nb k.fb k.nc k.fc (vals k.qs) (hI.dfa ha) haa haar haaf)
  refine TO.l rfl (l_call ent35 (CallT.op hk11) rfl ?_)
  clear hk11
  rintro vr O' ⟨N, rfl, rfl, rfl⟩
  refine TO.qa rfl ?_
  refine TO.nl (T.s (T.rg ?_))
  refine TO.qm rfl (TO.q (QT.toB (q_neq rfl rfl) (decide_eq_true (by omega))) ?_)
  refine TO.nl ?_
  refine T.cond1 rfl ?_
  refine T.s (T.rg ?_)
  refine TO.q (q_build plan25 inf25 rfl) (TO.qm rfl ?_)
  refine TO.l rfl (l_sb (v := (.agg #[(.int .i64 0), (.int .i64 0), (.slice none 0 0), (.slice none 0 0)])) (vs := [(.int .i64 0), (.int .i64 0), (.slice none 0 0), (.slice none 0 0)]) 0 inf25 rfl rfl rfl rfl rfl rfl (by simp [putL]) ?_)
  refine TO.qa rfl ?_
  refine TO.nl (T.ret (Res.drop ?_))
  refine Res.cell1b (.int .i64 (checkD a : Int)) (i := 0) Tryz.results28 underlying25 rfl inf25 rfl rfl rfl rfl ?_
  exact ⟨[], Sub.z, rfl, rfl⟩
theorem rnOk (w : World) [Tab Tryz.prog w] (a : DFA) (k : DK) (ha : At w a k) (hv : Valid a) (pb : Option Addr) (pc : Nat) (l : List Int) (hp : Sl w pb (ints l)) (hll : l.length < 1000000) :
    PureT Tryz.prog 28 [dV a k, .slice pb l.length pc] w fun v9 N => ∃ k9 : DK, v9 = .tuple #[dV (rnV a l) k9, .int .i64 (rnE a l : Int)] ∧ N = [dI 37 4 3 (rnV a l) k9] := by
  refine CallT.enter func28 rfl ntmps28 rfl ?_
  have he := checkD_zero.2 hv
  have h4 := hv.n4
  have hww : letN a ≤ 64 := hv.width
  have hfin := hv.fin
  have hvl := ha.rows.1
  have hsl := start_lt hv.toVal
  have hs0 := hv.s0
  have hs1 := hv.s1
  have hv6 := hv.v6
  have hv0 := hv.v0
  obtain ⟨n, hn⟩ : ∃ n : Nat, a.vars = ((n : Nat) : Int) := ⟨a.vars.toNat, by omega⟩
  have hnl := natL_len l
  refine T.s (T.rg ?_)
  refine TO.l rfl (l_box (v := (dV a k)) (cs := (dC a k)) rfl rfl (fun z1 => ?_))
  refine TO.l rfl (l_box (v := (.slice pb l.length pc)) (cs := [(.slice pb l.length pc)]) rfl rfl (fun z2 => ?_))
  refine TO.l rfl (l_alloc inf25 rfl (fun z3 => ?_))
  refine TO.qa rfl ?_
  refine TO.nl (T.s (T.s (T.rg ?_)))
  refine TO.q (q_la 2 underlying25 rfl inf25 rfl rfl rfl) ?_
  have hk11 := fun (w1 : World) (hI : Inv w [oI z3 25 [(.int .i64 0), (.int .i64 0), (.slice none 0 0), (.slice none 0 0)], oI z2 37 [(.slice pb l.length pc)], oI z1 25 (dC a k)] w1) => (haveI := tbz hI; (show PureT _ _ _ _ _ from by
      have h9 := subsetCheck w1 a k.nb k.fb k.nc k.fc (vals k.qs) (hI.dfa ha) (by omega) hv.bound (by omega)
      rw [he] at h9
      exact h9))
  refine TO.l rfl (l_call ent35 (CallT.op hk11) rfl ?_)
  clear hk11
  rintro vr O' ⟨N, rfl, rfl, rfl⟩
  refine TO.qa rfl ?_
  refine TO.nl (T.s (T.rg ?_))
  refine TO.qm rfl (TO.q (QT.toB (q_neq rfl rfl) (decide_eq_false (by omega))) ?_)
  refine TO.nl ?_
  refine T.cond0 rfl ?_
  refine T.skip (T.s (T.rg ?_))
  refine TO.q (q_lb 1 underlying37 rfl rfl rfl rfl) ?_
  have hk17 := fun (w1 : World) (hI : Inv w [oI z3 25 [(.int .i64 0), (.int .i64 0), (.slice none 0 0), (.slice none 0 0)], oI z2 37 [(.slice pb l.length pc)], oI z1 25 (dC a k)] w1) => (haveI := tbz hI; valsC w1 pb pc l)
  refine TO.l rfl (l_call ent66 (CallT.op hk17) rfl ?_)
  clear hk17
  rintro vr O' ⟨N, rfl, xb, rfl, rfl⟩
  have hk18 := CallT.under (A := [oI xb 37 [(.slice pb l.length pc)]]) (B := [oI z3 25 [(.int .i64 0), (.int .i64 0), (.slice none 0 0), (.slice none 0 0)], oI z2 37 [(.slice pb l.length pc)], oI z1 25 (dC a k)]) (O := [oI xb 37 [(.slice pb l.length pc)], oI z3 25 [(.int .i64 0), (.int .i64 0), (.slice none 0 0), (.slice none 0 0)], oI z2 37 [(.slice pb l.length pc)], oI z1 25 (dC a k)]) (sortedF w xb pc pb l hp hll) (by exact Sub.rf)
  refine TO.l rfl (l_call ent65 hk18 rfl ?_)
  clear hk18
  rintro vr O' ⟨A1, rfl, rb, rc, rfl, rfl⟩
  refine TO.qa rfl ?_
  refine TO.nl ?_
  refine T.reset [rowI rb rc 3 1 (ints (sortZ l)), oI z3 25 [(.int .i64 0), (.int .i64 0), (.slice none 0 0), (.slice none 0 0)], oI z2 37 [(.slice pb l.length pc)], oI z1 25 (dC a k)] [(0, (dV a k)), (1, (.slice pb l.length pc)), (2, (.pointer (some ⟨z1, 0, none⟩))), (3, (.pointer (some ⟨z2, 0, none⟩))), (4, (.pointer (some ⟨z3, 0, none⟩))), (5, .int .i64 0), (6, .int .i64 0), (7, (.slice rb l.length rc))] rfl ⟨rfl, rfl, rfl, rfl, rfl, rfl, rfl, rfl, trivial⟩ (fun ρ0 => ?_)
  refine T.s (T.s (T.rg ?_))
  refine TO.qm rfl (TO.q (q_len underlying37 rfl) (TO.qm rfl ?_))
  refine TO.nl (T.block ?_)
  refine T.loop (fun (i : Nat) ρ O => O = [rowI rb rc 3 1 (ints (sortZ l)), oI z3 25 [(.int .i64 0), (.int .i64 0), (.slice none 0 0), (.slice none 0 0)], oI z2 37 [(.slice pb l.length pc)], oI z1 25 (dC a k)] ∧ i ≤ l.length ∧ (∀ j, j < i → (sortZ l)[j]? = some (j : Int)) ∧ Heads [(0, (dV a k)), (1, (.slice pb l.length pc)), (2, (.pointer (some ⟨z1, 0, none⟩))), (3, (.pointer (some ⟨z2, 0, none⟩))), (4, (.pointer (some ⟨z3, 0, none⟩))), (6, .int .i64 0), (7, (.slice rb l.length rc)), (19, (.slice rb l.length rc)), (20, .int .i64 (l.length : Int)), (21, .int .i64 ((i : Nat) : Int))] ρ) (fun i => l.length - i) 0 ?_ ?_
  · exact ⟨rfl, Nat.zero_le _, fun j h => absurd h (by omega), ⟨rfl, rfl, rfl, rfl, rfl, rfl, rfl, rfl, rfl, rfl, trivial⟩⟩
  rintro i ρ O ⟨rfl, hi, hall, hH⟩
  obtain ⟨ρ0, rfl⟩ := hH.elim
  clear hH
  refine T.s (T.rg ?_)
  refine TO.q (q_lss rfl rfl) ?_
  refine TO.nl (T.s ?_)
  refine T.condP rfl (fun hc => ?_) (fun hc => ?_)
  · have hlt22 : i < l.length := by omega
    have hil : i < l.length := by omega
    have hsz := sortZ_len l
    obtain ⟨x, hxi0⟩ : ∃ x, (sortZ l)[i]? = some x := ⟨_, List.getElem?_eq_getElem (by omega)⟩
    have hxi : (ints (sortZ l))[i]? = some (.int .i64 x) := by rw [List.getElem?_map, hxi0]; rfl
    refine T.skip (T.s (T.block (T.s (T.rg ?_))))
    refine TO.qm rfl (TO.q (q_ix (i := i) underlying37 inf3 rfl rfl (rowO (mG 0 rfl)) (by omega) (by rw [List.length_map]; omega)) (TO.q (q_ld underlying3 rfl rfl (rowO (mG 0 rfl)) hxi) (TO.qa rfl ?_)))
    refine TO.qa rfl ?_
    refine TO.nl (T.s (T.rg ?_))
    refine TO.qm rfl (TO.qm rfl (TO.q (q_neq rfl rfl) ?_))
    refine TO.nl ?_
    refine T.condP rfl (fun hc => ?_) (fun hc => ?_)
    · refine T.s ?_
      refine T.nilD 37 4 3 ?_
      obtain ⟨e1, e2⟩ := rn_no hv (l := l) (.inl (sort_ne hil hxi0 hc))
      refine T.rg ?_
      refine TO.q (q_build plan25 inf25 rfl) ?_
      refine TO.l rfl (l_sb (v := (.agg #[(.int .i64 0), (.int .i64 0), (.slice none 0 0), (.slice none 0 0)])) (vs := [(.int .i64 0), (.int .i64 0), (.slice none 0 0), (.slice none 0 0)]) 2 inf25 rfl rfl rfl rfl rfl rfl (by simp [putL]) ?_)
      refine TO.qa rfl ?_
      refine TO.nl (T.ret (Res.drop ?_))
      refine Res.cell1b (.int .i64 7) (i := 2) Tryz.results28 underlying25 rfl inf25 rfl rfl rfl rfl ?_
      rw [e1, e2]
      exact ⟨[dI 37 4 3 noD k00], (by exact Sub.k .z), k00, rfl, rfl⟩
    refine T.skip (T.rg ?_)
    refine TO.q (q_addN (a := i) (b := 1) rfl rfl (by omega)) (TO.qm rfl ?_)
    refine TO.nl ?_
    exact ⟨i + 1, by omega, rfl, by omega, fun j hj => (Nat.lt_succ_iff_lt_or_eq.1 hj).elim (fun h => hall j h) (fun h => by rw [h, hxi0, show x = (i : Int) from Classical.not_not.1 hc]), ⟨rfl, rfl, rfl, rfl, rfl, rfl, rfl, rfl, rfl, rfl, trivial⟩⟩
  have hge22 : ¬ i < l.length := by omega
  refine T.exit ?_
  refine T.s (T.s (T.rg ?_))
  refine TO.q (q_lb 2 underlying37 rfl rfl rfl rfl) (TO.q (q_len underlying37 rfl) (TO.q (q_fa underlying25 rfl inf3 rfl rfl) (TO.q (q_lb 3 underlying3 rfl rfl rfl rfl) ?_)))
  refine TO.q (q_neq rfl rfl) ?_
  refine TO.nl ?_
  refine T.condP rfl (fun hc => ?_) (fun hc => ?_)
  · have hle : (l.length : Int) ≠ a.vars := hc
    refine T.s ?_
    refine T.nilD 37 4 3 ?_
    obtain ⟨e1, e2⟩ := rn_no hv (l := l) (.inr hle)
    refine T.rg ?_
    refine TO.q (q_build plan25 inf25 rfl) ?_
    refine TO.l rfl (l_sb (v := (.agg #[(.int .i64 0), (.int .i64 0), (.slice none 0 0), (.slice none 0 0)])) (vs := [(.int .i64 0), (.int .i64 0), (.slice none 0 0), (.slice none 0 0)]) 2 inf25 rfl rfl rfl rfl rfl rfl (by simp [putL]) ?_)
    refine TO.qa rfl ?_
    refine TO.nl (T.ret (Res.drop ?_))
    refine Res.cell1b (.int .i64 7) (i := 2) Tryz.results28 underlying25 rfl inf25 rfl rfl rfl rfl ?_
    rw [e1, e2]
    exact ⟨[dI 37 4 3 noD k00], (by exact Sub.k .z), k00, rfl, rfl⟩
  have hle : (l.length : Int) = a.vars := Classical.not_not.1 hc
  obtain ⟨e1, e2, hpn, hin⟩ := rn_yes hv (sort_eq fun j hj => hall j (by omega)) hle
  have hln : l.length = n := by omega
  obtain ⟨M, hM⟩ : ∃ m, rnV a l = m := ⟨_, rfl⟩
  have hla : letN a = 2 ^ n := by unfold letN; rw [hn]; rfl
  have hn64 : 2 ^ n ≤ 2 ^ 6 := Nat.pow_le_pow_right (by decide) (by omega)
  refine T.skip (T.s (T.rg ?_))
  refine TO.q (q_la 3 underlying25 rfl inf25 rfl rfl rfl) (TO.q (q_fa underlying25 rfl inf3 rfl rfl) (TO.q (QT.cast (q_lb 3 underlying3 rfl rfl rfl rfl) (v' := .int .i64 ((n : Nat) : Int)) (congrArg (Value.int .i64) hn)) (TO.q (q_makeFunc) ?_)))
  have hk41 := CallT.under (A := [oI z2 37 [(.slice pb l.length pc)]]) (B := [rowI rb rc 3 1 (ints (sortZ l)), oI z3 25 [(.int .i64 0), (.int .i64 0), (.slice none 0 0), (.slice none 0 0)], oI z1 25 (dC a k)]) (O := [rowI rb rc 3 1 (ints (sortZ l)), oI z3 25 [(.int .i64 0), (.int .i64 0), (.slice none 0 0), (.slice none 0 0)], oI z2 37 [(.slice pb l.length pc)], oI z1 25 (dC a k)]) (rebF w a k ha hv n (by omega) _ rfl (fun y => imF (natL l) y l.length) (fun x hx => by rw [hla, ← hln]; exact imF_lt _ _ _) (.func (.func 67) #[] #[(.pointer (some ⟨z2, 0, none⟩))]) [oI z2 37 [(.slice pb l.length pc)]] (fun x hx => by
      have h9 := CallV.of_fn (first := []) (args := [.int .u8 ((x : Nat) : Int)]) (caps := [(.pointer (some ⟨z2, 0, none⟩))]) ent67 (renF w z2 pc x pb (natL l) (hin ▸ hp) (fun p hp => by have := hpn.lt p hp; omega) (by omega) (by omega))
      rw [hnl] at h9
      exact h9) (M := M) (by rw [← hM, e2, hn])) (by exact Sub.pull [rowI rb rc 3 1 (ints (sortZ l)), oI z3 25 [(.int .i64 0), (.int .i64 0), (.slice none 0 0), (.slice none 0 0)]] _ (.k (.k (.k .z))))
  refine TO.l rfl (l_call ent62 hk41 rfl ?_)
  clear hk41
  rintro vr O' ⟨A1, rfl, k9, rfl, rfl⟩
  refine TO.q (q_extract (vs := _) rfl rfl) (TO.q (q_extract (vs := _) rfl rfl) ?_)
  refine TO.l rfl (l_sb (v := (dV M k9)) (vs := (dC M k9)) 2 inf25 rfl rfl rfl rfl rfl rfl (by simp [putL]) ?_)
  refine TO.qa rfl ?_
  refine TO.nl (T.ret (Res.drop ?_))
  refine Res.cell1b (.int .i64 0) (i := 2) Tryz.results28 underlying25 rfl inf25 rfl rfl rfl rfl ?_
  rw [e1, hM]
  exact ⟨[dI 37 4 3 M k9], (by exact Sub.k .z), k9, rfl, rfl⟩
theorem rnC (w : World) [Tab Tryz.prog w] (a : DFA) (k : DK) (ha : At w a k) (haa : a.next.length < 9223372036854775807) (haar : ∀ r ∈ a.next, r.length < 9223372036854775807) (haaf : a.final.length < 9223372036854775807) (pb : Option Addr) (pc : Nat) (l : List Int) (hp : Sl w pb (ints l)) (hll : l.length < 1000000) :
    PureT Tryz.prog 28 [dV a k, .slice pb l.length pc] w fun v9 N => ∃ k9 : DK, v9 = .tuple #[dV (rnV a l) k9, .int .i64 (rnE a l : Int)] ∧ N = [dI 37 4 3 (rnV a l) k9] := by
  by_cases he : checkD a = 0
  · exact rnOk w a k ha (checkD_zero.1 he) pb pc l hp hll
  · obtain ⟨e1, e2⟩ := rn_bad (l := l) he
    rw [e1, e2]
    refine (CallT.nilD 37 4 3 (rnBad w a k ha haa haar haaf he pb pc l)).mono ?_
    rintro v9 N ⟨O2, rfl, rfl, rfl⟩
    exact ⟨k00, rfl, rfl⟩
end Go.Proofs.YtohkmggbfcnapaaGreatDoor


namespace Go.Proofs.YtohkmggbfcnapaaGreatDoor
open Go.Lx Go.RowKit _root_.Go.Proofs.Tryz
theorem equalDFA0 (w : World) [Tab Tryz.prog w] (d e : DFA) (nb1 nb2 fb1 fb2 : Option Addr) (nc1 nc2 fc1 fc2 : Nat) (vs us : List Value) (h1 : DfaAt w d nb1 vs fb1) (h2 : DfaAt w e nb2 us fb2) (hb : d.next.length < 9223372036854775807) (hbr : ∀ r ∈ d.next, r.length < 9223372036854775807) (hbf : d.final.length < 9223372036854775807) :
    PureT Tryz.prog 19 [.agg (dfaCells d nb1 nc1 fb1 fc1).toArray, .agg (dfaCells e nb2 nc2 fb2 fc2).toArray] w fun v N => v = .bool (decide (d = e)) ∧ N = [] :=
  (CallT.none (equalDFA w d e nb1 nb2 fb1 fb2 nc1 nc2 fc1 fc2 vs us h1 h2 hb hbr hbf)).mono fun v N ⟨h1, O2, h2, _⟩ => ⟨h2, h1⟩
theorem equalDFAT (w : World) [Tab Tryz.prog w] (d : DFA) (nb1 nb2 fb1 fb2 : Option Addr) (nc1 nc2 fc1 fc2 : Nat) (vs us : List Value) (h1 : DfaAt w d nb1 vs fb1) (h2 : DfaAt w d nb2 us fb2) (hb : d.next.length < 9223372036854775807) (hbr : ∀ r ∈ d.next, r.length < 9223372036854775807) (hbf : d.final.length < 9223372036854775807) :
    PureT Tryz.prog 19 [.agg (dfaCells d nb1 nc1 fb1 fc1).toArray, .agg (dfaCells d nb2 nc2 fb2 fc2).toArray] w fun v N => v = .bool true ∧ N = [] :=
  (equalDFA0 w d d nb1 nb2 fb1 fb2 nc1 nc2 fc1 fc2 vs us h1 h2 hb hbr hbf).mono fun v N ⟨h1, h2⟩ => ⟨h1.trans (congrArg Value.bool (decide_eq_true rfl)), h2⟩
theorem longC (w : World) [Tab Tryz.prog w] (b : Option Addr) (c : Nat) (L : List DRec) (hS : Sl w b (dcells L)) (hD : ∀ r ∈ L, DfaAt w r.d r.nb r.vs r.fb) (hL : L.length < 9223372036854775807) (hB : ∀ r ∈ L, r.d.next.length < 9223372036854775807) :
    PureT Tryz.prog 37 [.slice b L.length c] w fun v N => v = .bool (L.any fun r => longD r.d) ∧ N = [] := by
  refine CallT.enter func37 rfl ntmps37 rfl ?_
  refine T.s (T.rg ?_)
  refine TO.qa rfl ?_
  refine TO.nl (T.s (T.s (T.rg ?_)))
  refine TO.qa rfl ?_
  refine TO.nl (T.block ?_)
  refine T.loop (fun (i : Nat) ρ O => O = [] ∧ i ≤ L.length ∧ (L.take i).any (fun r => longD r.d) = false ∧ Heads [(0, (.slice b L.length c)), (3, .int .i64 (i : Int))] ρ) (fun i => L.length - i) 0 ?_ ?_
  · exact ⟨rfl, Nat.zero_le _, rfl, ⟨rfl, rfl, trivial⟩⟩
  rintro i ρ O ⟨rfl, hi, hany, hH⟩
  obtain ⟨ρ0, rfl⟩ := hH.elim
  clear hH
  refine T.s (T.s (T.rg ?_))
  refine TO.qm rfl (TO.qm rfl (TO.q (q_len underlying56 rfl) (TO.q (q_lss rfl rfl) ?_)))
  refine TO.nl ?_
  refine T.condP rfl (fun hc => ?_) (fun hc => ?_)
  · have hlt8 : i < L.length := by omega
    refine T.skip (T.s (T.block (T.s (T.s (T.rg ?_)))))
    refine TO.qm rfl (TO.qm rfl (TO.q (q_ixK (i := i) underlying56 inf25 rfl rfl (Sl.o hS) hlt8 (by rw [dcells_len]; omega)) (TO.q (q_fieldEl underlying25 rfl inf22 rfl rfl (Sl.o hS) (by rw [dcells_len]; omega)) ?_)))
    refine TO.q (q_ld underlying22 rfl rfl (Sl.o hS) (show (dcells L)[i * 4 + 2]? = some (.slice L[i].nb L[i].d.next.length L[i].nc) by rw [dcells_get hlt8 (by decide)]; rfl)) (TO.q (q_len underlying22 rfl) ?_)
    by_cases h1 : (L[i].d.next.length : Int) > 40
    · refine TO.q (QT.toB (q_gtr rfl rfl) (decide_eq_true h1)) ?_
      refine TO.qm rfl ?_
      refine TO.pd rfl rfl ?_
      refine TO.pd rfl rfl ?_
      refine TO.pd rfl rfl ?_
      refine TO.pd rfl rfl ?_
      refine TO.pd rfl rfl ?_
      refine TO.pd rfl rfl ?_
      refine TO.pd rfl rfl ?_
      refine TO.q (q_pick1 rfl rfl) ?_
      refine TO.nl ?_
      refine T.cond1 rfl ?_
      refine T.s (T.rg ?_)
      refine TO.qa rfl ?_
      refine TO.nl (T.ret ?_)
      refine Res.one (.bool true) Tryz.results37 rfl ?_
      exact ⟨congrArg Value.bool (any_at hlt8 (by simp only [longD, Bool.or_eq_true, decide_eq_true_eq]; exact .inl (.inl (by omega)))).symm, rfl⟩
    refine TO.q (QT.toB (q_gtr rfl rfl) (decide_eq_false h1)) (TO.qm rfl ?_)
    refine TO.gd rfl rfl rfl (LT.oq rfl rfl (q_move rfl) ?_)
    refine TO.gd rfl rfl rfl (LT.oq rfl rfl (q_move rfl) ?_)
    refine TO.gd rfl rfl rfl (LT.oq rfl rfl (q_ixK (i := i) underlying56 inf25 rfl rfl (Sl.o hS) hlt8 (by rw [dcells_len]; omega)) ?_)
    refine TO.gd rfl rfl rfl (LT.oq rfl rfl (q_fieldEl underlying25 rfl inf23 rfl rfl (Sl.o hS) (by rw [dcells_len]; omega)) ?_)
    refine TO.gd rfl rfl rfl (LT.oq rfl rfl (q_ld underlying23 rfl rfl (Sl.o hS) (show (dcells L)[i * 4 + 3]? = some (.slice L[i].fb L[i].d.final.length L[i].fc) by rw [dcells_get hlt8 (by decide)]; rfl)) ?_)
    refine TO.gd rfl rfl rfl (LT.oq rfl rfl (q_len underlying23 rfl) ?_)
    by_cases h2 : (L[i].d.final.length : Int) > 40
    · refine TO.gd rfl rfl rfl (LT.oq rfl rfl (QT.toB (q_gtr rfl rfl) (decide_eq_true h2)) ?_)
      refine TO.q (q_pick0 rfl rfl) ?_
      refine TO.nl ?_
      refine T.cond1 rfl ?_
      refine T.s (T.rg ?_)
      refine TO.qa rfl ?_
      refine TO.nl (T.ret ?_)
      refine Res.one (.bool true) Tryz.results37 rfl ?_
      exact ⟨congrArg Value.bool (any_at hlt8 (by simp only [longD, Bool.or_eq_true, decide_eq_true_eq]; exact .inl (.inr (by omega)))).symm, rfl⟩
    refine TO.gd rfl rfl rfl (LT.oq rfl rfl (QT.toB (q_gtr rfl rfl) (decide_eq_false h2)) ?_)
    refine TO.q (q_pick0 rfl rfl) ?_
    refine TO.nl ?_
    refine T.cond0 rfl ?_
    refine T.skip (T.s (T.rg ?_))
    refine TO.qa rfl ?_
    refine TO.nl (T.block ?_)
    refine T.loop (fun (s : Nat) ρ O => O = [] ∧ s ≤ L[i].d.next.length ∧ (L[i].d.next.take s).any (fun r => decide (100 < r.length)) = false ∧ Heads [(0, (.slice b L.length c)), (3, .int .i64 (i : Int)), (4, .int .i64 (s : Int))] ρ) (fun s => L[i].d.next.length - s) 0 ?_ ?_
    · exact ⟨rfl, Nat.zero_le _, rfl, ⟨rfl, rfl, rfl, trivial⟩⟩
    rintro s ρ O ⟨rfl, hs, hany2, hH⟩
    obtain ⟨ρ0, rfl⟩ := hH.elim
    clear hH
    refine T.s (T.s (T.rg ?_))
    refine TO.qm rfl (TO.qm rfl (TO.qm rfl (TO.q (q_ixK (i := i) underlying56 inf25 rfl rfl (Sl.o hS) hlt8 (by rw [dcells_len]; omega)) ?_)))
    refine TO.q (q_fieldEl underlying25 rfl inf22 rfl rfl (Sl.o hS) (by rw [dcells_len]; omega)) (TO.q (q_ld underlying22 rfl rfl (Sl.o hS) (show (dcells L)[i * 4 + 2]? = some (.slice L[i].nb L[i].d.next.length L[i].nc) by rw [dcells_get hlt8 (by decide)]; rfl)) (TO.q (q_len underlying22 rfl) (TO.q (q_lss rfl rfl) ?_)))
    refine TO.nl ?_
    refine T.condP rfl (fun hc => ?_) (fun hc => ?_)
    · have hlt34 : s < L[i].d.next.length := by omega
      obtain ⟨vb, vc, g1, s1⟩ := (hD _ (List.getElem_mem hlt8)).rows.get hlt34
      have hB9 := hB _ (List.getElem_mem hlt8)
      refine T.skip (T.s (T.block (T.s (T.rg ?_))))
      refine TO.qm rfl (TO.qm rfl (TO.q (q_ixK (i := i) underlying56 inf25 rfl rfl (Sl.o hS) hlt8 (by rw [dcells_len]; omega)) (TO.q (q_fieldEl underlying25 rfl inf22 rfl rfl (Sl.o hS) (by rw [dcells_len]; omega)) ?_)))
      refine TO.q (q_ld underlying22 rfl rfl (Sl.o hS) (show (dcells L)[i * 4 + 2]? = some (.slice L[i].nb L[i].d.next.length L[i].nc) by rw [dcells_get hlt8 (by decide)]; rfl)) (TO.qm rfl (TO.q (q_ix (i := s) underlying22 inf37 rfl rfl (Sl.o (hD _ (List.getElem_mem hlt8)).outer) hlt34 (by rw [(hD _ (List.getElem_mem hlt8)).rows.1]; exact hlt34)) (TO.q (q_ld underlying37 rfl rfl (Sl.o (hD _ (List.getElem_mem hlt8)).outer) g1) ?_)))
      refine TO.q (q_len underlying37 rfl) (TO.q (q_gtr rfl rfl) ?_)
      refine TO.nl ?_
      refine T.condP rfl (fun hc => ?_) (fun hc => ?_)
      · have hlt46 : L[i].d.next[s].length > 100 := by omega
        refine T.s (T.rg ?_)
        refine TO.qa rfl ?_
        refine TO.nl (T.ret ?_)
        refine Res.one (.bool true) Tryz.results37 rfl ?_
        exact ⟨congrArg Value.bool (any_at hlt8 (by simp only [longD, Bool.or_eq_true, decide_eq_true_eq]; exact .inr (any_at hlt34 (by simp; omega)))).symm, rfl⟩
      have hge46 : ¬ L[i].d.next[s].length > 100 := by omega
      refine T.skip (T.rg ?_)
      refine TO.qm rfl (TO.q (q_inc rfl rfl (by omega)) (TO.qa rfl ?_))
      refine TO.nl ?_
      exact ⟨s + 1, by omega, rfl, by omega, any_take hlt34 hany2 (by simp; omega), ⟨rfl, rfl, rfl, trivial⟩⟩
    have hge34 : ¬ s < L[i].d.next.length := by omega
    refine T.exit ?_
    refine T.rg ?_
    refine TO.qm rfl (TO.q (q_inc rfl rfl (by omega)) (TO.qa rfl ?_))
    refine TO.nl ?_
    have hLi : longD L[i].d = false := by
      simp only [longD, Bool.or_eq_false_iff, decide_eq_false_iff_not]
      exact ⟨⟨by omega, by omega⟩, by rwa [List.take_of_length_le (by omega)] at hany2⟩
    exact ⟨i + 1, by omega, rfl, by omega, any_take hlt8 hany hLi, ⟨rfl, rfl, trivial⟩⟩
  have hge8 : ¬ i < L.length := by omega
  refine T.exit ?_
  refine T.s (T.rg ?_)
  refine TO.qa rfl ?_
  refine TO.nl (T.ret ?_)
  refine Res.one (.bool false) Tryz.results37 rfl ?_
  exact ⟨congrArg Value.bool (by rw [List.take_of_length_le (by omega)] at hany; exact hany.symm), rfl⟩
theorem long1 (w : World) [Tab Tryz.prog w] (b : Option Addr) (c : Nat) (d : DFA) (nb fb : Option Addr) (nc fc : Nat) (vs : List Value) (hS : Sl w b (dfaCells d nb nc fb fc)) (hD : DfaAt w d nb vs fb) (hB : d.next.length < 9223372036854775807) :
    PureT Tryz.prog 37 [.slice b 1 c] w fun v N => v = .bool (decide (longD d = true)) ∧ N = [] :=
  (longC w b c [⟨d, nb, fb, nc, fc, vs⟩] hS (allC hD allN) (show 1 < 9223372036854775807 by decide) (allC hB allN)).mono fun v N ⟨h1, h2⟩ => ⟨by rw [h1]; simp, h2⟩
end Go.Proofs.YtohkmggbfcnapaaGreatDoor


namespace Go.Proofs.YtohkmggbfcnapaaGreatDoor
open Go.Lx Go.RowKit _root_.Go.Proofs.Tryz
theorem long9C (w : World) [Tab Tryz.prog w] (b : Option Addr) (c : Nat) (L : List DRec) (hS : Sl w b (dcells L)) (hD : ∀ r ∈ L, DfaAt w r.d r.nb r.vs r.fb) (hL : L.length < 1000) (hB : ∀ r ∈ L, r.d.next.length < 9223372036854775807) :
    PureT Tryz.prog 10 [.slice b L.length c] w fun v N => v = .bool (longB (L.map DRec.d)) ∧ N = [] := by
  refine CallT.enter func10 rfl ntmps10 rfl ?_
  refine T.s (T.rg ?_)
  refine TO.qa rfl ?_
  refine TO.nl (T.s (T.s (T.rg ?_)))
  refine TO.qa rfl ?_
  refine TO.nl (T.block ?_)
  refine T.loopS (fun (i : Nat) ρ O => O = [] ∧ i ≤ L.length ∧ longB ((L.map DRec.d).take i) = false ∧ Heads [(0, (.slice b L.length c)), (3, .int .i64 ((i : Nat) : Int))] ρ) (fun i => L.length - i) 0 ?_ ?_
  · exact ⟨rfl, Nat.zero_le _, rfl, ⟨rfl, rfl, trivial⟩⟩
  rintro i ρ O ⟨rfl, hi, hany, hH⟩
  obtain ⟨ρ0, rfl⟩ := hH.elim
  clear hH
  refine T.s (T.s (T.rg ?_))
  refine TO.qm rfl (TO.qm rfl (TO.q (q_len underlying56 rfl) (TO.q (q_lss rfl rfl) ?_)))
  refine TO.nl ?_
  refine T.condP rfl (fun hc => ?_) (fun hc => ?_)
  · have hlt7 : i < L.length := by omega
    have hD9 := hD _ (List.getElem_mem hlt7)
    have hB9 := hB _ (List.getElem_mem hlt7)
    refine T.skip (T.s (T.block (T.s (T.rg ?_))))
    refine TO.qm rfl (TO.qm rfl (TO.q (q_ixK (i := i) underlying56 inf25 rfl rfl (Sl.o hS) hlt7 (by rw [dcells_len]; omega)) (TO.q (q_ldK (vs := [(.int .i64 L[i].d.vars), (.int .i64 L[i].d.start), (.slice L[i].nb L[i].d.next.length L[i].nc), (.slice L[i].fb L[i].d.final.length L[i].fc)]) underlying25 rfl inf25 rfl rfl (Nat.succ_pos _) (Sl.o hS) (fun j hj => by rw [dcells_get hlt7 hj]; exact List.getElem?_eq_getElem hj)) ?_)))
    refine TO.l rfl (l_buildSlice (m := 1) (parts := [(0, _)]) (cs := [(.int .i64 L[i].d.vars), (.int .i64 L[i].d.start), (.slice L[i].nb L[i].d.next.length L[i].nc), (.slice L[i].fb L[i].d.final.length L[i].fc)]) underlying56 inf25 (by decide) (by kernel_rfl) rfl (fun bx1 => ?_))
    have hk15 := fun (w1 : World) (hI : Inv w [rowI (some ⟨bx1, 0, none⟩) 1 25 4 [(.int .i64 L[i].d.vars), (.int .i64 L[i].d.start), (.slice L[i].nb L[i].d.next.length L[i].nc), (.slice L[i].fb L[i].d.final.length L[i].fc)]] w1) => (haveI := tbz hI; long1 w1 (some ⟨bx1, 0, none⟩) 1 L[i].d L[i].nb L[i].fb L[i].nc L[i].fc L[i].vs (hI.slOf (mG 0 rfl)) (hI.dfa hD9) hB9)
    refine TO.l rfl (l_call ent37 (CallT.op hk15) rfl ?_)
    clear hk15
    rintro vr O' ⟨N, rfl, rfl, rfl⟩
    by_cases hs16 : longD L[i].d = true
    · refine TO.q (QT.toB (q_move rfl) (decide_eq_true hs16)) ?_
      refine TO.pd rfl rfl ?_
      refine TO.pd rfl rfl ?_
      refine TO.pd rfl rfl ?_
      refine TO.pd rfl rfl ?_
      refine TO.pd rfl rfl ?_
      refine TO.pd rfl rfl ?_
      refine TO.pd rfl rfl ?_
      refine TO.q (q_pick1 rfl rfl) ?_
      refine TO.nl ?_
      refine T.cond1 rfl ?_
      refine T.s (T.rg ?_)
      refine TO.qa rfl ?_
      refine TO.nl (T.ret (Res.drop ?_))
      refine Res.one (.bool true) Tryz.results10 rfl ?_
      exact ⟨[], Sub.z, congrArg Value.bool (Eq.symm (List.any_eq_true.2 ⟨L[i].d, List.mem_map_of_mem (List.getElem_mem hlt7), by simp_all⟩)), rfl⟩
    refine TO.q (QT.toB (q_move rfl) (decide_eq_false hs16)) ?_
    refine TO.gd rfl rfl rfl (LT.oq rfl rfl (q_move rfl) ?_)
    refine TO.gd rfl rfl rfl (LT.oq rfl rfl (q_move rfl) ?_)
    refine TO.gd rfl rfl rfl (LT.oq rfl rfl (q_ixK (i := i) underlying56 inf25 rfl rfl (Sl.o hS) hlt7 (by rw [dcells_len]; omega)) ?_)
    refine TO.gd rfl rfl rfl (LT.oq rfl rfl (q_fieldEl underlying25 rfl inf22 rfl rfl (Sl.o hS) (by rw [dcells_len]; omega)) ?_)
    refine TO.gd rfl rfl rfl (LT.oq rfl rfl (q_ld underlying22 rfl rfl (Sl.o hS) (show (dcells L)[i * 4 + 2]? = some (.slice L[i].nb L[i].d.next.length L[i].nc) by rw [dcells_get hlt7 (by decide)]; rfl)) ?_)
    refine TO.gd rfl rfl rfl (LT.oq rfl rfl (q_len underlying22 rfl) ?_)
    refine TO.gd rfl rfl rfl (LT.oq rfl rfl (q_gtr rfl rfl) ?_)
    refine TO.q (q_pick0 rfl rfl) ?_
    refine TO.nl ?_
    refine T.condP rfl (fun hc => ?_) (fun hc => ?_)
    · have hlt24 : L[i].d.next.length > 8 := by omega
      refine T.s (T.rg ?_)
      refine TO.qa rfl ?_
      refine TO.nl (T.ret (Res.drop ?_))
      refine Res.one (.bool true) Tryz.results10 rfl ?_
      exact ⟨[], Sub.z, congrArg Value.bool (Eq.symm (List.any_eq_true.2 ⟨L[i].d, List.mem_map_of_mem (List.getElem_mem hlt7), by simp_all⟩)), rfl⟩
    have hge24 : ¬ L[i].d.next.length > 8 := by omega
    refine T.skip (T.rg ?_)
    refine TO.qm rfl (TO.q (q_addN (a := i) (b := 1) rfl rfl (by omega)) (TO.qa rfl ?_))
    refine TO.nl ?_
    refine ⟨i + 1, by omega, [], (by exact Sub.z), rfl, by omega, ?_, ⟨rfl, rfl, trivial⟩⟩
    rw [List.take_succ_eq_append_getElem (by rw [List.length_map]; exact hlt7), List.getElem_map]
    unfold longB at hany ⊢
    rw [List.any_append, hany]
    first | (simp_all; done) | (simp_all; omega)
  have hge7 : ¬ i < L.length := by omega
  refine T.exit ?_
  refine T.s (T.rg ?_)
  refine TO.qa rfl ?_
  refine TO.nl (T.ret (Res.drop ?_))
  refine Res.one (.bool false) Tryz.results10 rfl ?_
  exact ⟨[], Sub.z, congrArg Value.bool (by rw [List.take_of_length_le (by rw [List.length_map]; omega)] at hany; exact hany.symm), rfl⟩
theorem long1K (w : World) [Tab Tryz.prog w] (b : Option Addr) (a1 : DFA) (k1 : DK) (hS : Sl w b (dC a1 k1)) (h1 : At w a1 k1) (b1 : a1.next.length < 9223372036854775807) :
    PureT Tryz.prog 10 [.slice b 1 1] w fun v N => v = .bool (longB [a1]) ∧ N = [] :=
  long9C w b 1 [⟨a1, k1.nb, k1.fb, k1.nc, k1.fc, vals k1.qs⟩] hS (allC h1 allN) (show 1 < 1000 by decide) (allC b1 allN)
theorem equalK (w : World) [Tab Tryz.prog w] (d : DFA) (j k : DK) (h1 : At w d j) (h2 : At w d k) (hb : d.next.length < 9223372036854775807) (hbr : ∀ r ∈ d.next, r.length < 9223372036854775807) (hbf : d.final.length < 9223372036854775807) :
    PureT Tryz.prog 19 [dV d j, dV d k] w fun v N => v = .bool true ∧ N = [] := equalDFAT w d j.nb k.nb j.fb k.fb j.nc k.nc j.fc k.fc (vals j.qs) (vals k.qs) h1 h2 hb hbr hbf
theorem equalK2 (w : World) [Tab Tryz.prog w] (d e : DFA) (j k : DK) (h1 : At w d j) (h2 : At w e k) (hb : d.next.length < 9223372036854775807) (hbr : ∀ r ∈ d.next, r.length < 9223372036854775807) (hbf : d.final.length < 9223372036854775807) :
    PureT Tryz.prog 19 [dV d j, dV e k] w fun v N => v = .bool (decide (d = e)) ∧ N = [] := equalDFA0 w d e j.nb k.nb j.fb k.fb j.nc k.nc j.fc k.fc (vals j.qs) (vals k.qs) h1 h2 hb hbr hbf
end Go.Proofs.YtohkmggbfcnapaaGreatDoor


namespace Go.Proofs.YtohkmggbfcnapaaGreatDoor
open Go.Lx Go.RowKit _root_.Go.Proofs.Tryz
theorem indexFunc (base : World) [Tab Tryz.prog base] (b : Option Addr) (c : Nat) (xs : List Nat) (hS : Sl base b (byts xs)) (hb : xs.length < 9223372036854775807) (fv : Value) (p : Nat → Bool) (OO : List Lx.Item) (hy : ∀ x ∈ xs, CallV Tryz.prog base fv [.int .u8 (x : Int)] OO (fun v O' => v = .bool (p x) ∧ O' = OO)) :
    CallT Tryz.prog base 118 [.slice b xs.length c, fv] OO (fun v O' => ∃ i : Int, v = .int .i64 i ∧ decide (i ≥ 0) = xs.any p ∧ O' = OO) := by
  refine CallT.enter func118 rfl ntmps118 rfl ?_
  refine T.s (T.rg ?_)
  refine TO.qa rfl ?_
  refine TO.nl (T.s (T.s (T.rg ?_)))
  refine TO.qm rfl (TO.q (q_len underlying46 rfl) (TO.qm rfl ?_))
  refine TO.nl (T.block ?_)
  refine T.loop (fun (k : Nat) ρ O => O = OO ∧ k ≤ xs.length ∧ (xs.take k).any p = false ∧ Heads [(0, (.slice b xs.length c)), (1, fv), (7, .int .i64 (xs.length : Int)), (8, .int .i64 (k : Int))] ρ) (fun k => xs.length - k) 0 ?_ ?_
  · exact ⟨rfl, Nat.zero_le _, rfl, ⟨rfl, rfl, rfl, rfl, trivial⟩⟩
  rintro k ρ O ⟨rfl, hk, hany, hH⟩
  obtain ⟨ρ0, rfl⟩ := hH.elim
  clear hH
  refine T.s (T.rg ?_)
  refine TO.q (q_lss rfl rfl) ?_
  refine TO.nl (T.s ?_)
  refine T.condP rfl (fun hc => ?_) (fun hc => ?_)
  · have hlt9 : k < xs.length := by omega
    refine T.skip (T.s (T.block (T.s (T.rg ?_))))
    refine TO.qm rfl (TO.qa rfl ?_)
    refine TO.nl (T.s (T.rg ?_))
    refine TO.qm rfl (TO.qm rfl (TO.qm rfl (TO.q (q_ix (i := k) underlying46 inf5 rfl rfl (Sl.o hS) hlt9 (by rw [List.length_map]; exact hlt9)) ?_)))
    refine TO.q (q_ld underlying5 rfl rfl (Sl.o hS) (byts_get hlt9)) ?_
    have hk16 := hy xs[k] (List.getElem_mem hlt9)
    refine TO.l rfl (l_callG hk16 rfl rfl ?_)
    clear hk16
    rintro v O' ⟨rfl, rfl⟩
    refine TO.nl ?_
    refine T.cond rfl (fun hc => ?_) (fun hc => ?_)
    · refine T.s ?_
      refine T.rg ?_
      refine TO.qm rfl (TO.qa rfl ?_)
      refine TO.nl (T.ret (Res.drop ?_))
      refine Res.one (.int .i64 (k : Int)) Tryz.results118 rfl ?_
      exact ⟨_, Sub.of (List.Sublist.refl _), k, rfl, by rw [any_at hlt9 hc]; exact decide_eq_true (by omega), rfl⟩
    refine T.skip (T.rg ?_)
    refine TO.q (q_inc rfl rfl (by omega)) (TO.qm rfl ?_)
    refine TO.nl ?_
    exact ⟨k + 1, by omega, rfl, by omega, any_take hlt9 hany hc, ⟨rfl, rfl, rfl, rfl, trivial⟩⟩
  have hge9 : ¬ k < xs.length := by omega
  refine T.exit ?_
  refine T.s (T.rg ?_)
  refine TO.qa rfl ?_
  refine TO.nl (T.ret (Res.drop ?_))
  refine Res.one (.int .i64 (-1)) Tryz.results118 rfl ?_
  exact ⟨_, Sub.of (List.Sublist.refl _), -1, rfl, by rw [List.take_of_length_le (by omega)] at hany; rw [hany]; decide, rfl⟩
theorem containsFunc (base : World) [Tab Tryz.prog base] (b : Option Addr) (c : Nat) (xs : List Nat) (hS : Sl base b (byts xs)) (hb : xs.length < 9223372036854775807) (fv : Value) (p : Nat → Bool) (OO : List Lx.Item) (hy : ∀ x ∈ xs, CallV Tryz.prog base fv [.int .u8 (x : Int)] OO (fun v O' => v = .bool (p x) ∧ O' = OO)) :
    CallT Tryz.prog base 95 [.slice b xs.length c, fv] OO (fun v O' => v = .bool (xs.any p) ∧ O' = OO) := by
  refine CallT.enter func95 rfl ntmps95 rfl ?_
  refine T.s (T.rg ?_)
  refine TO.qa rfl ?_
  refine TO.nl (T.s (T.rg ?_))
  refine TO.qm rfl (TO.qm rfl ?_)
  have hk7 := indexFunc base b c xs hS hb fv p OO hy
  refine TO.l rfl (l_call ent118 hk7 rfl ?_)
  clear hk7
  rintro v O' ⟨i, rfl, hi, rfl⟩
  refine TO.q (q_geq rfl rfl) (TO.qa rfl ?_)
  refine TO.nl (T.ret (Res.drop ?_))
  refine Res.one (.bool (decide (i ≥ 0))) Tryz.results95 rfl ?_
  exact ⟨_, Sub.of (List.Sublist.refl _), congrArg Value.bool hi, rfl⟩
theorem tooGreat (base : World) [Tab Tryz.prog base] (d : DFA) (nb fb : Option Addr) (nc fc : Nat) (hv0 : 0 ≤ d.vars) (hv6 : d.vars ≤ 6) (bx x : Nat) (hx : x < 256) :
    CallT Tryz.prog base 96 [.int .u8 (x : Int), .pointer (some ⟨bx, 0, none⟩)] [oI bx 25 [(.int .i64 d.vars), (.int .i64 d.start), (.slice nb d.next.length nc), (.slice fb d.final.length fc)]] (fun v O' => v = .bool (decide (2 ^ d.vars.toNat ≤ x)) ∧ O' = [oI bx 25 [(.int .i64 d.vars), (.int .i64 d.start), (.slice nb d.next.length nc), (.slice fb d.final.length fc)]]) := by
  refine CallT.enter func96 rfl ntmps96 rfl ?_
  refine T.s (T.rg ?_)
  refine TO.qa rfl ?_
  refine TO.nl (T.s (T.rg ?_))
  refine TO.qm rfl (TO.q (q_conv_id underlying5 underlying3 rfl (wrap64_id ⟨by omega, by omega⟩)) (TO.q (q_fa underlying25 rfl inf3 rfl rfl) (TO.q (q_lb 0 underlying3 rfl rfl rfl rfl) ?_)))
  refine TO.q (q_shl1 (v := d.vars.toNat) rfl (by show Value.int _ d.vars = _; rw [Int.toNat_of_nonneg hv0]) (by omega)) (TO.q (q_geq rfl rfl) (TO.qa rfl ?_))
  refine TO.nl (T.ret ?_)
  refine Res.one (.bool (decide ((x : Int) ≥ ((2 ^ d.vars.toNat : Nat) : Int)))) Tryz.results96 rfl ?_
  exact ⟨congrArg Value.bool (decide_eq_decide.2 (by omega)), rfl⟩
theorem runM (w : World) [Tab Tryz.prog w] (d : DFA) (nb fb : Option Addr) (nc fc : Nat) (vs : List Value) (h : DfaAt w d nb vs fb) (hv : Valid d) (wb : Option Addr) (wc : Nat) (l : List Nat) (hW : Sl w wb (byts l)) (hwb : l.length < 9223372036854775807) (hwd : Wd d l) :
    PureT Tryz.prog 97 [.agg (dfaCells d nb nc fb fc).toArray, .slice wb l.length wc] w fun v N => v = .int .i64 ((Lx.runN d d.start.toNat l : Nat) : Int) ∧ N = [] := by
  refine CallT.enter func97 rfl ntmps97 rfl ?_
  have hs0 := hv.s0
  have hs1 := hv.s1
  have hvl := h.rows.1
  refine T.s (T.rg ?_)
  refine TO.l rfl (l_box (v := (.agg #[(.int .i64 d.vars), (.int .i64 d.start), (.slice nb d.next.length nc), (.slice fb d.final.length fc)])) (cs := [(.int .i64 d.vars), (.int .i64 d.start), (.slice nb d.next.length nc), (.slice fb d.final.length fc)]) rfl rfl (fun b1 => ?_))
  refine TO.qa rfl ?_
  refine TO.nl (T.s (T.rg ?_))
  refine TO.q (q_fa underlying127 rfl inf25 rfl rfl) (TO.q (q_fa underlying25 rfl inf3 rfl rfl) (TO.q (QT.cast (q_lb 0 underlying3 rfl rfl rfl rfl) (v' := .int .i64 ((Lx.runN d d.start.toNat (l.take 0) : Nat) : Int)) (by show Value.int _ d.start = _; rw [show Lx.runN d d.start.toNat (l.take 0) = d.start.toNat from rfl, Int.toNat_of_nonneg hs0])) (TO.qa rfl ?_)))
  refine TO.nl (T.s (T.s (T.rg ?_)))
  refine TO.qm rfl (TO.q (q_len underlying46 rfl) (TO.qm rfl ?_))
  refine TO.nl (T.block ?_)
  refine T.loop (fun (k : Nat) ρ O => O = [oI b1 127 [(.int .i64 d.vars), (.int .i64 d.start), (.slice nb d.next.length nc), (.slice fb d.final.length fc)]] ∧ k ≤ l.length ∧ Heads [(0, (.agg #[(.int .i64 d.vars), (.int .i64 d.start), (.slice nb d.next.length nc), (.slice fb d.final.length fc)])), (1, (.slice wb l.length wc)), (2, (.pointer (some ⟨b1, 0, none⟩))), (4, .int .i64 0), (5, .int .i64 ((Lx.runN d d.start.toNat (l.take k) : Nat) : Int)), (11, (.slice wb l.length wc)), (12, .int .i64 (l.length : Int)), (13, .int .i64 (k : Int))] ρ) (fun k => l.length - k) 0 ?_ ?_
  · exact ⟨rfl, Nat.zero_le _, ⟨rfl, rfl, rfl, rfl, rfl, rfl, rfl, rfl, trivial⟩⟩
  rintro k ρ O ⟨rfl, hk, hH⟩
  obtain ⟨ρ0, rfl⟩ := hH.elim
  clear hH
  refine T.s (T.rg ?_)
  refine TO.q (q_lss rfl rfl) ?_
  refine TO.nl (T.s ?_)
  refine T.condP rfl (fun hc => ?_) (fun hc => ?_)
  · have hlt14 : k < l.length := by omega
    obtain ⟨o, ho⟩ : ∃ o, Lx.runN d d.start.toNat (l.take k) = o := ⟨_, rfl⟩
    have ho9 : o < d.next.length := by rw [← ho]; exact runN_lt hv.toVal (by omega) _ (fun x hx => hwd x (List.mem_of_mem_take hx))
    have hlx : l[k] < 2 ^ d.vars.toNat := hwd _ (List.getElem_mem hlt14)
    obtain ⟨vb, vc, g1, s1⟩ := h.rows.get ho9
    have hl1 : d.next[o].length = 2 ^ d.vars.toNat := hv.len _ (List.getElem_mem ho9)
    obtain ⟨hta, _, hxk1, hx1⟩ := hv.toN_lt ho9 hlx
    have hx1 : (ints d.next[o])[l[k]]? = some (.int .i64 ((toN d o l[k] : Nat) : Int)) := by rw [ints_get hxk1, hx1]
    refine T.skip (T.s (T.block (T.s (T.rg ?_))))
    refine TO.q (q_ix (i := k) underlying46 inf5 rfl rfl (Sl.o hW) hlt14 (by rw [List.length_map]; exact hlt14)) (TO.q (q_ld underlying5 rfl rfl (Sl.o hW) (byts_get hlt14)) (TO.qa rfl ?_))
    refine TO.nl (T.rg ?_)
    refine TO.q (q_fa underlying127 rfl inf25 rfl rfl) (TO.q (q_fa underlying25 rfl inf22 rfl rfl) (TO.q (q_lb 0 underlying22 rfl rfl rfl rfl) (TO.q (QT.cast (q_move rfl) (v' := .int .i64 ((o : Nat) : Int)) (by show Value.int _ _ = _; rw [ho])) ?_)))
    refine TO.q (q_ix (i := o) underlying22 inf37 rfl rfl (Sl.o h.outer) ho9 (hvl ▸ ho9)) (TO.q (q_ld underlying37 rfl rfl (Sl.o h.outer) g1) (TO.qm rfl (TO.q (q_ix (i := l[k]) underlying37 inf3 rfl rfl (Sl.o s1) (by rw [hl1]; exact hlx) (by rw [List.length_map, hl1]; exact hlx)) ?_)))
    refine TO.q (q_ld underlying3 rfl rfl (Sl.o s1) hx1) (TO.qa rfl ?_)
    refine TO.nl (T.rg ?_)
    refine TO.q (q_inc rfl rfl (by omega)) (TO.qm rfl ?_)
    refine TO.nl ?_
    refine ⟨k + 1, by omega, rfl, by omega, ?_⟩
    rw [runN_take hlt14, ho]; exact ⟨rfl, rfl, rfl, rfl, rfl, rfl, rfl, rfl, trivial⟩
  have hge14 : ¬ k < l.length := by omega
  refine T.exit ?_
  refine T.s (T.rg ?_)
  refine TO.qm rfl (TO.qa rfl ?_)
  refine TO.nl (T.ret (Res.drop ?_))
  refine Res.one (.int .i64 ((Lx.runN d d.start.toNat (l.take k) : Nat) : Int)) Tryz.results97 rfl ?_
  have hke : k = l.length := by omega
  exact ⟨[], Sub.of (List.nil_sublist _), by rw [List.take_of_length_le (by omega)], rfl⟩
theorem runA (w : World) [Tab Tryz.prog w] (d : DFA) (nb fb : Option Addr) (nc fc : Nat) (vs : List Value) (h : DfaAt w d nb vs fb) (hb : d.next.length < 9223372036854775807) (hbr : ∀ r ∈ d.next, r.length < 9223372036854775807) (hbf : d.final.length < 9223372036854775807) (wb : Option Addr) (wc : Nat) (l : List Nat) (hW : Sl w wb (byts l)) (hwb : l.length < 9223372036854775807) (hw8 : ∀ x ∈ l, x < 256) :
    PureT Tryz.prog 70 [.agg (dfaCells d nb nc fb fc).toArray, .slice wb l.length wc] w fun v N => v = .tuple #[.int .i64 ((runV d l : Nat) : Int), .int .i64 ((runE d l : Nat) : Int)] ∧ N = [] := by
  refine CallT.enter func70 rfl ntmps70 rfl ?_
  refine T.s (T.rg ?_)
  refine TO.l rfl (l_box (v := (.agg #[(.int .i64 d.vars), (.int .i64 d.start), (.slice nb d.next.length nc), (.slice fb d.final.length fc)])) (cs := [(.int .i64 d.vars), (.int .i64 d.start), (.slice nb d.next.length nc), (.slice fb d.final.length fc)]) rfl rfl (fun b1 => ?_))
  refine TO.qa rfl (TO.qa rfl ?_)
  refine TO.nl (T.s (T.s (T.rg ?_)))
  refine TO.q (q_la 0 underlying25 rfl inf25 rfl rfl rfl) ?_
  have hk9 := fun (w1 : World) (hI : Inv w [oI b1 25 [(.int .i64 d.vars), (.int .i64 d.start), (.slice nb d.next.length nc), (.slice fb d.final.length fc)]] w1) => (haveI := Inv.tab (P := Tryz.prog) hI; subsetCheck w1 d nb fb nc fc vs (hI.dfa h) hb hbr hbf)
  refine TO.l rfl (l_call ent35 (CallT.op hk9) rfl ?_)
  clear hk9
  rintro v O' ⟨N, rfl, rfl, rfl⟩
  refine TO.qa rfl ?_
  refine TO.nl (T.s (T.rg ?_))
  refine TO.qm rfl ?_
  by_cases hE : (checkD d : Int) ≠ 0
  · refine TO.q (QT.toB (q_neq rfl rfl) (decide_eq_true hE)) ?_
    refine TO.nl ?_
    refine T.cond1 rfl ?_
    refine T.s (T.rg ?_)
    refine TO.qm rfl (TO.qa rfl (TO.qa rfl ?_))
    refine TO.nl (T.ret (Res.drop ?_))
    refine Res.two (.int .i64 0) (.int .i64 (checkD d : Int)) Tryz.results70 rfl rfl ?_
    have hE1 : runE d l = checkD d := by unfold runE; rw [if_pos (by omega)]
    have hE0 : ¬ runE d l = 0 := by omega
    exact ⟨[], Sub.of (List.nil_sublist _), by unfold runV; rw [if_neg hE0, hE1]; try rfl, rfl⟩
  refine TO.q (QT.toB (q_neq rfl rfl) (decide_eq_false hE)) ?_
  refine TO.nl ?_
  refine T.cond0 rfl ?_
  refine T.skip (T.s (T.block (T.s ?_)))
  have he : checkD d = 0 := by omega
  have hv : Valid d := checkD_zero.1 he
  refine T.rg ?_
  refine TO.qm rfl (TO.q (q_len underlying46 rfl) ?_)
  by_cases h64 : (l.length : Int) > 64
  · refine TO.q (QT.toB (q_gtr rfl rfl) (decide_eq_true h64)) ?_
    refine TO.qa rfl ?_
    refine TO.nl ?_
    refine T.cond1 rfl ?_
    refine T.s (T.rg ?_)
    refine TO.qa rfl (TO.qa rfl ?_)
    refine TO.nl (T.ret (Res.drop ?_))
    refine Res.two (.int .i64 0) (.int .i64 4) Tryz.results70 rfl rfl ?_
    have hE1 : runE d l = 4 := by unfold runE; rw [if_neg (by simp [he]), if_pos (by omega)]
    have hE0 : ¬ runE d l = 0 := by omega
    exact ⟨[], Sub.of (List.nil_sublist _), by unfold runV; rw [if_neg hE0, hE1]; try rfl, rfl⟩
  refine TO.q (QT.toB (q_gtr rfl rfl) (decide_eq_false h64)) (TO.qa rfl ?_)
  refine TO.nl ?_
  refine T.cond0 rfl ?_
  refine T.s (T.rg ?_)
  refine TO.qm rfl (TO.q (q_makeFunc) ?_)
  by_cases hany : l.any (fun x => decide (2 ^ d.vars.toNat ≤ x)) = true
  · have hk20 := (containsFunc w wb wc l hW hwb (.func (.func 96) #[] #[.pointer (some ⟨b1, 0, none⟩)]) (fun x => decide (2 ^ d.vars.toNat ≤ x)) [oI b1 25 [(.int .i64 d.vars), (.int .i64 d.start), (.slice nb d.next.length nc), (.slice fb d.final.length fc)]] (fun x hx => CallV.of_fn (first := []) (args := [.int .u8 (x : Int)]) (caps := [.pointer (some ⟨b1, 0, none⟩)]) ent96 (tooGreat w d nb fb nc fc hv.v0 hv.v6 b1 x (hw8 x hx)))).mono (fun v O' hh => (⟨hh.1.trans (congrArg Value.bool ((show ∀ b : Bool, b = decide (b = true) from fun b => by cases b <;> rfl) _)), hh.2⟩ : v = .bool (decide (l.any (fun x => decide (2 ^ d.vars.toNat ≤ x)) = true)) ∧ O' = [oI b1 25 [(.int .i64 d.vars), (.int .i64 d.start), (.slice nb d.next.length nc), (.slice fb d.final.length fc)]]))
    refine TO.l rfl (l_call ent95 hk20 rfl ?_)
    clear hk20
    rintro v O' ⟨rfl, rfl⟩
    rw [decide_eq_true hany]
    refine TO.qa rfl ?_
    refine TO.nl ?_
    refine T.cond1 rfl ?_
    refine T.s (T.rg ?_)
    refine TO.qa rfl (TO.qa rfl ?_)
    refine TO.nl (T.ret (Res.drop ?_))
    refine Res.two (.int .i64 0) (.int .i64 1) Tryz.results70 rfl rfl ?_
    have hE1 : runE d l = 1 := by unfold runE; rw [if_neg (by simp [he]), if_neg (by omega), if_pos hany]
    have hE0 : ¬ runE d l = 0 := by omega
    exact ⟨[], Sub.of (List.nil_sublist _), by unfold runV; rw [if_neg hE0, hE1]; try rfl, rfl⟩
  have hk20 := (containsFunc w wb wc l hW hwb (.func (.func 96) #[] #[.pointer (some ⟨b1, 0, none⟩)]) (fun x => decide (2 ^ d.vars.toNat ≤ x)) [oI b1 25 [(.int .i64 d.vars), (.int .i64 d.start), (.slice nb d.next.length nc), (.slice fb d.final.length fc)]] (fun x hx => CallV.of_fn (first := []) (args := [.int .u8 (x : Int)]) (caps := [.pointer (some ⟨b1, 0, none⟩)]) ent96 (tooGreat w d nb fb nc fc hv.v0 hv.v6 b1 x (hw8 x hx)))).mono (fun v O' hh => (⟨hh.1.trans (congrArg Value.bool ((show ∀ b : Bool, b = decide (b = true) from fun b => by cases b <;> rfl) _)), hh.2⟩ : v = .bool (decide (l.any (fun x => decide (2 ^ d.vars.toNat ≤ x)) = true)) ∧ O' = [oI b1 25 [(.int .i64 d.vars), (.int .i64 d.start), (.slice nb d.next.length nc), (.slice fb d.final.length fc)]]))
  refine TO.l rfl (l_call ent95 hk20 rfl ?_)
  clear hk20
  rintro v O' ⟨rfl, rfl⟩
  rw [decide_eq_false hany]
  refine TO.qa rfl ?_
  refine TO.nl ?_
  refine T.cond0 rfl ?_
  refine T.skip (T.s ?_)
  have hE0 : runE d l = 0 := by unfold runE; rw [if_neg (by simp [he]), if_neg (by omega), if_neg hany]
  have hwd : Wd d l := (runE_zero.1 hE0).2.2
  refine T.rg ?_
  refine TO.q (q_la 0 underlying25 rfl inf25 rfl rfl rfl) (TO.q (q_build (cs := [(.int .i64 d.vars), (.int .i64 d.start), (.slice nb d.next.length nc), (.slice fb d.final.length fc)]) plan127 inf127 (by kernel_rfl)) (TO.q (q_makeFunc) (TO.qa rfl ?_)))
  refine TO.nl (T.s (T.rg ?_))
  refine TO.qm rfl (TO.qm rfl ?_)
  have hk26 := CallV.of_fn (first := [.agg (dfaCells d nb nc fb fc).toArray]) (args := [.slice wb l.length wc]) (caps := []) ent97 (CallT.op (fun w1 (hI : Inv w [oI b1 25 [(.int .i64 d.vars), (.int .i64 d.start), (.slice nb d.next.length nc), (.slice fb d.final.length fc)]] w1) => haveI := Inv.tab (P := Tryz.prog) hI; runM w1 d nb fb nc fc vs (hI.dfa h) hv wb wc l (hI.sl hW) hwb hwd))
  refine TO.l rfl (l_callG hk26 rfl rfl ?_)
  clear hk26
  rintro v O' ⟨N, rfl, rfl, rfl⟩
  refine TO.qa rfl (TO.qa rfl ?_)
  refine TO.nl (T.ret (Res.drop ?_))
  refine Res.two (.int .i64 ((Lx.runN d d.start.toNat l : Nat) : Int)) (.int .i64 0) Tryz.results70 rfl rfl ?_
  have hE1 := hE0
  exact ⟨[], Sub.of (List.nil_sublist _), by unfold runV; rw [if_pos hE0, hE1]; try rfl, rfl⟩
theorem acceptsA (w : World) [Tab Tryz.prog w] (d : DFA) (nb fb : Option Addr) (nc fc : Nat) (vs : List Value) (h : DfaAt w d nb vs fb) (hb : d.next.length < 9223372036854775807) (hbr : ∀ r ∈ d.next, r.length < 9223372036854775807) (hbf : d.final.length < 9223372036854775807) (wb : Option Addr) (wc : Nat) (l : List Nat) (hW : Sl w wb (byts l)) (hwb : l.length < 9223372036854775807) (hw8 : ∀ x ∈ l, x < 256) :
    PureT Tryz.prog 32 [.agg (dfaCells d nb nc fb fc).toArray, .slice wb l.length wc] w fun v N => v = .tuple #[.bool (accV d l), .int .i64 ((runE d l : Nat) : Int)] ∧ N = [] := by
  refine CallT.enter func32 rfl ntmps32 rfl ?_
  refine T.s (T.rg ?_)
  refine TO.l rfl (l_box (v := (.agg #[(.int .i64 d.vars), (.int .i64 d.start), (.slice nb d.next.length nc), (.slice fb d.final.length fc)])) (cs := [(.int .i64 d.vars), (.int .i64 d.start), (.slice nb d.next.length nc), (.slice fb d.final.length fc)]) rfl rfl (fun b1 => ?_))
  refine TO.qa rfl (TO.qa rfl ?_)
  refine TO.nl (T.s (T.rg ?_))
  refine TO.q (q_la 0 underlying25 rfl inf25 rfl rfl rfl) (TO.qm rfl ?_)
  have hk11 := fun (w1 : World) (hI : Inv w [oI b1 25 [(.int .i64 d.vars), (.int .i64 d.start), (.slice nb d.next.length nc), (.slice fb d.final.length fc)]] w1) => (haveI := Inv.tab (P := Tryz.prog) hI; runA w1 d nb fb nc fc vs (hI.dfa h) hb hbr hbf wb wc l (hI.sl hW) hwb hw8)
  refine TO.l rfl (l_call ent70 (CallT.op hk11) rfl ?_)
  clear hk11
  rintro v O' ⟨N, rfl, rfl, rfl⟩
  refine TO.qm rfl (TO.q (q_extract (vs := _) rfl rfl) (TO.q (q_extract (vs := _) rfl rfl) (TO.qa rfl ?_)))
  refine TO.qa rfl ?_
  refine TO.nl (T.s ?_)
  have hfin : runE d l = 0 → runV d l < d.final.length := fun h0 => by
    obtain ⟨hv, _, hwd⟩ := runE_zero.1 h0
    unfold runV; rw [if_pos h0, hv.fin]
    exact runN_lt hv.toVal (by have := hv.s0; have := hv.s1; omega) _ hwd
  refine T.rg ?_
  refine TO.qm rfl ?_
  by_cases h0 : ((runE d l : Nat) : Int) = 0
  · refine TO.q (QT.toB (q_eql rfl rfl) (decide_eq_true h0)) ?_
    refine TO.qm rfl ?_
    refine TO.gd rfl rfl rfl (LT.oq rfl rfl (q_fa underlying25 rfl inf23 rfl rfl) ?_)
    refine TO.gd rfl rfl rfl (LT.oq rfl rfl (q_lb 0 underlying23 rfl rfl rfl rfl) ?_)
    refine TO.gd rfl rfl rfl (LT.oq rfl rfl (q_move rfl) ?_)
    refine TO.gd rfl rfl rfl (LT.oq rfl rfl (q_ix (i := (runV d l)) underlying23 inf4 rfl rfl (Sl.o h.final) (hfin (by omega)) (by rw [List.length_map]; exact hfin (by omega))) ?_)
    refine TO.gd rfl rfl rfl (LT.oq rfl rfl (q_ld underlying4 rfl rfl (Sl.o h.final) (show (bools d.final)[runV d l]? = some (.bool (finN d (runV d l))) by rw [bools_get (hfin (by omega))]; simp [finN, hfin (by omega)])) ?_)
    refine TO.q (q_pick1 rfl rfl) (TO.qm rfl (TO.qa rfl (TO.qa rfl ?_)))
    refine TO.nl (T.ret (Res.drop ?_))
    refine Res.two (.bool (finN d (runV d l))) (.int .i64 ((runE d l : Nat) : Int)) Tryz.results32 rfl rfl ?_
    have h9 : runE d l = 0 := by omega
    exact ⟨[], Sub.of (List.nil_sublist _), by unfold accV runV; rw [if_pos h9, if_pos h9], rfl⟩
  refine TO.q (QT.toB (q_eql rfl rfl) (decide_eq_false h0)) (TO.qm rfl ?_)
  refine TO.pd rfl rfl ?_
  refine TO.pd rfl rfl ?_
  refine TO.pd rfl rfl ?_
  refine TO.pd rfl rfl ?_
  refine TO.pd rfl rfl ?_
  refine TO.q (q_pick0 rfl rfl) (TO.qm rfl (TO.qa rfl (TO.qa rfl ?_)))
  refine TO.nl (T.ret (Res.drop ?_))
  refine Res.two (.bool false) (.int .i64 ((runE d l : Nat) : Int)) Tryz.results32 rfl rfl ?_
  have h9 : ¬ runE d l = 0 := by omega
  exact ⟨[], Sub.of (List.nil_sublist _), by unfold accV; rw [if_neg h9], rfl⟩
end Go.Proofs.YtohkmggbfcnapaaGreatDoor


namespace Go.Lx
theorem HasL.accW {n : Int} {N : Nat} {d : DFA} {p : List Nat → Bool} (h : HasL n N d p) {w : List Nat} (hw : WdV n w) (hl : w.length ≤ 64) : Lx.accV d w = p w := by
  have e : runE d w = 0 := runE_zero.2 ⟨h.valid, hl, h.wd.2 hw⟩
  rw [accV_zero e, h.acc w hw]
def exZ : DFA := ⟨1, 0, [[2, 1], [2, 2], [2, 2]], [false, true, false]⟩
theorem exZ_ok : checkD exZ = 0 := by decide
theorem exZ_valid : Valid exZ := checkD_zero.1 exZ_ok
theorem hX : HasL 2 8 exX (acc exX) := HasL.of exX_valid (by decide)
theorem hZ : HasL 1 8 exZ (acc exZ) := HasL.of exZ_valid (by decide)
theorem aw_vE : vE exX 0 = 0 := by decide
theorem aw_xsE : xsE exX 0 16 = 0 := by decide +kernel
theorem HasL.few {n : Int} {d : DFA} {p : List Nat → Bool} (h : HasL n 8 d p) : HasL n 64 d p := ⟨h.valid, Nat.le_trans h.len (by decide), h.vars, h.acc⟩
theorem aw_xs : MinL 2 16 (xsV exX 0 16) (exP 0 (acc exX)) := MinL.xsV hX.few (Nat.le_refl _) aw_xsE
theorem wd1 {x : Nat} (hx : x < 4) : WdV 2 [x] := fun y hy => by
  have := List.mem_singleton.1 hy; subst this; exact hx
theorem aw_smX : ∀ x, x < 4 → smF exX 0 1 [x] 0 = true := by decide
theorem run1 {x : Nat} (hx : x < 4) : runE exX [x] = 0 := runE_zero.2 ⟨exX_valid, by simp, hX.wd.2 (wd1 hx)⟩
theorem aw_some {x : Nat} (hx : x < 4) : accV (xsV exX 0 16) [x] = true := by
  rw [(xs_some hX (v := 0) (by decide) aw_xs.toHasL (run1 hx)).2]; exact aw_smX x hx
theorem aw_none : accV (xsV exX 0 16) [] = false := by
  rw [(xs_some hX (v := 0) (by decide) aw_xs.toHasL (w := []) (runE_zero.2 ⟨exX_valid, by simp, fun x h => by cases h⟩)).2]; decide
theorem nX : MinL 2 8 (minD (flipD exX)) (fun w => !acc exX w) := hX.nV
theorem aw_n16 (i : Nat) : (psN (minD (flipD exX)) 0 i).length ≤ 8 := by
  have hv := nX.valid
  have hl : (minD (flipD exX)).next.length ≤ 3 := minD_len (flip_val exX_valid.toVal)
  refine nodup_bound (gq_nodup _ _ i) fun w hw => ?_
  have := (psN_gd hv.toVal (by omega) (v := 0) (by rw [nX.vars]; decide) i w hw).lt
  exact Nat.lt_of_lt_of_le this (Nat.le_trans (Nat.pow_le_pow_right (by decide) hl) (by decide))
theorem aw_nE : xsE (minD (flipD exX)) 0 16 = 0 := by
  have h0 : vE (minD (flipD exX)) 0 = 0 := vE_of nX.toHasL (by decide) (by decide)
  have := aw_n16 ((16 : Int).toNat + 1)
  unfold xsE
  rw [if_neg (by omega), if_neg (by omega), if_neg (by simp only [Int.toNat_zero]; omega)]
theorem aw_alE : alE exX 0 16 = 0 := by rw [alE_ok hX]; exact aw_nE
theorem aw_al : MinL 2 16 (alV exX 0 16) (fun w => !exP 0 (fun w => !acc exX w) w) := by
  have hm := MinL.xsV nX.toHasL.few (Nat.le_refl _) aw_nE
  unfold alV
  rw [if_pos aw_alE]
  exact hm.toHasL.nV
theorem aw_empty : ∀ w, WdV 2 w → (!exP 0 (fun w => !acc exX w) w) = false := fun w hw => by
  suffices h : ∃ z, Vari 0 w z ∧ acc exX z = false by
    obtain ⟨z, h1, h2⟩ := h
    have : exP 0 (fun w => !acc exX w) w = true := exP_iff.2 ⟨z, h1, by show (!acc exX z) = true; rw [h2]; rfl⟩
    rw [this]; rfl
  match w, hw with
  | [], _ => exact ⟨[], trivial, by decide⟩
  | [x], hw =>
    have hx : x < 4 := hw x (by simp)
    have : x = 0 ∨ x = 1 ∨ x = 2 ∨ x = 3 := by omega
    rcases this with rfl | rfl | rfl | rfl
    · exact ⟨[0], ⟨by decide, trivial⟩, by decide⟩
    · exact ⟨[0], ⟨by decide, trivial⟩, by decide⟩
    · exact ⟨[3], ⟨by decide, trivial⟩, by decide⟩
    · exact ⟨[3], ⟨by decide, trivial⟩, by decide⟩
  | x :: y :: u, hw =>
    refine ⟨x :: y :: u, Vari.refl (by decide) (hX.l64 hw), ?_⟩
    cases ha : acc exX (x :: y :: u) with
    | false => rfl
    | true => have := exX_words (hX.wd.2 hw) ha; simp only [List.length_cons] at this; omega
theorem aw_one : (alV exX 0 16).next.length = 1 := (aw_al.empty.2 aw_empty).1
theorem aw_every {x : Nat} (hx : x < 4) : accV (alV exX 0 16) [x] = false := by
  rw [aw_al.toHasL.accW (wd1 hx) (by simp)]; exact aw_empty _ (wd1 hx)
theorem aw_ig : igV exX 0 = false := by
  cases h : igV exX 0 with
  | false => rfl
  | true =>
    have h1 := (igV_iff hX aw_vE).1 h [0] [1] (wd1 (by decide)) ⟨by decide, trivial⟩
    exact absurd h1 (by decide)
theorem aw_drE : drE exX 0 = 7 := (drE_no aw_vE aw_ig).1
theorem aw_inE : inE2 exZ 0 = 0 := by decide
theorem aw_in : MinL 2 8 (inV exZ 0) (fun w => acc exZ (w.map (cut 0))) := (in_has hZ aw_inE).2.2.2
theorem aw_inA {x : Nat} (hx : x < 4) : accV (inV exZ 0) [x] = decide (x > 1) := by
  rw [aw_in.toHasL.accW (wd1 hx) (by simp)]
  have : ∀ x, x < 4 → acc exZ ([x].map (cut 0)) = decide (x > 1) := by decide
  exact this x hx
theorem aw_rnE : rnE exX [1, 0] = 0 := rnE_zero.2 ⟨exX_valid, by decide, by decide, by decide⟩
theorem aw_rn : MinL 2 8 (rnV exX [1, 0]) (fun w => acc exX (w.map fun y => imF (natL [1, 0]) y 2)) := (rn_has hX aw_rnE).2.2.2
theorem aw_rnA {x : Nat} (hx : x < 4) : accV (rnV exX [1, 0]) [x] = accV exX [x] := by
  rw [aw_rn.toHasL.accW (wd1 hx) (by simp), hX.accW (wd1 hx) (by simp)]
  have : ∀ x, x < 4 → acc exX ([x].map fun y => imF (natL [1, 0]) y 2) = acc exX [x] := by decide
  exact this x hx
end Go.Lx


namespace Go.Proofs.YtohkmggbfcnapaaGreatDoor
open Go.Lx Go.RowKit _root_.Go.Proofs.Tryz
theorem accF (w : World) [Tab Tryz.prog w] (a : DFA) (j : DK) (ha : At w a j) (haa : a.next.length < 9223372036854775807) (haar : ∀ r ∈ a.next, r.length < 9223372036854775807) (haaf : a.final.length < 9223372036854775807) (wb : Option Addr) (wc : Nat) (l : List Nat) (hW : Sl w wb (byts l)) (hwb : l.length < 9223372036854775807) (hw8 : ∀ x ∈ l, x < 256) :
    PureT Tryz.prog 38 [dV a j, .slice wb l.length wc] w fun v N => v = .bool (accV a l) ∧ N = [] := by
  refine CallT.enter func38 rfl ntmps38 rfl ?_
  refine T.s (T.rg ?_)
  refine TO.l rfl (l_box (v := (dV a j)) (cs := (dC a j)) rfl rfl (fun bx1 => ?_))
  refine TO.qa rfl ?_
  refine TO.nl (T.s (T.rg ?_))
  refine TO.q (q_la 0 underlying25 rfl inf25 rfl rfl rfl) (TO.qm rfl ?_)
  have hk10 := fun (w1 : World) (hI : Inv w [oI bx1 25 (dC a j)] w1) => (haveI := tbz hI; acceptsA w1 a j.nb j.fb j.nc j.fc (vals j.qs) (hI.dfa ha) haa haar haaf wb wc l (hI.sl hW) hwb hw8)
  refine TO.l rfl (l_call ent32 (CallT.op hk10) rfl ?_)
  clear hk10
  rintro vr O' ⟨N, rfl, rfl, rfl⟩
  refine TO.qm rfl (TO.q (q_extract (vs := _) rfl rfl) (TO.q (q_extract (vs := _) rfl rfl) (TO.qa rfl ?_)))
  refine TO.qa rfl ?_
  refine TO.nl (T.s (T.rg ?_))
  refine TO.qm rfl ?_
  by_cases hs14 : (accV a l) = true
  · refine TO.q (QT.toB (q_move rfl) (hs14)) ?_
    refine TO.gd rfl rfl rfl (LT.oq rfl rfl (q_move rfl) ?_)
    refine TO.gd rfl rfl rfl (LT.oq rfl rfl (q_eql rfl rfl) ?_)
    refine TO.q (q_pick1 rfl rfl) (TO.qa rfl ?_)
    refine TO.nl (T.ret (Res.drop ?_))
    refine Res.one (.bool (decide ((runE a l : Int) = 0))) Tryz.results38 rfl ?_
    exact ⟨[], Sub.z, congrArg Value.bool (by
      by_cases he : runE a l = 0
      · simp_all
      · have h9 : accV a l = false := by unfold accV; rw [if_neg he]
        simp_all), rfl⟩
  refine TO.q (QT.toB (q_move rfl) (Bool.eq_false_iff.2 hs14)) ?_
  refine TO.pd rfl rfl ?_
  refine TO.pd rfl rfl ?_
  refine TO.q (q_pick0 rfl rfl) (TO.qa rfl ?_)
  refine TO.nl (T.ret (Res.drop ?_))
  refine Res.one (.bool false) Tryz.results38 rfl ?_
  exact ⟨[], Sub.z, congrArg Value.bool (by
    by_cases he : runE a l = 0
    · simp_all
    · have h9 : accV a l = false := by unfold accV; rw [if_neg he]
      simp_all), rfl⟩
theorem exactlyK (w : World) [Tab Tryz.prog w] : PureT Tryz.prog 30 [] w fun v N => ∃ k' : DK, v = dV exX k' ∧ N = [dI 37 4 3 exX k'] := by
  refine CallT.enter func30 rfl ntmps30 rfl ?_
  refine T.s (T.rg ?_)
  refine TO.l rfl (l_alloc inf25 rfl (fun z1 => ?_))
  refine TO.nl (T.s (T.rg ?_))
  refine TO.l rfl (l_buildSlice (m := 4) (parts := [(0, .const (.int .i64 2)), (1, .const (.int .i64 1)), (2, .const (.int .i64 1)), (3, .const (.int .i64 2))]) (cs := [.int .i64 2, .int .i64 1, .int .i64 1, .int .i64 2]) underlying37 inf3 (by decide) (by kernel_rfl) rfl (fun z2 => ?_))
  refine TO.l rfl (l_buildSlice (m := 4) (parts := [(0, .const (.int .i64 2)), (1, .const (.int .i64 2)), (2, .const (.int .i64 2)), (3, .const (.int .i64 2))]) (cs := [.int .i64 2, .int .i64 2, .int .i64 2, .int .i64 2]) underlying37 inf3 (by decide) (by kernel_rfl) rfl (fun z3 => ?_))
  refine TO.l rfl (l_buildSlice (m := 4) (parts := [(0, .const (.int .i64 2)), (1, .const (.int .i64 2)), (2, .const (.int .i64 2)), (3, .const (.int .i64 2))]) (cs := [.int .i64 2, .int .i64 2, .int .i64 2, .int .i64 2]) underlying37 inf3 (by decide) (by kernel_rfl) rfl (fun z4 => ?_))
  refine TO.l rfl (l_buildSlice (m := 3) (parts := [(0, .tmp 1), (1, .tmp 2), (2, .tmp 3)]) (cs := [(.slice (some ⟨z2, 0, none⟩) 4 4), (.slice (some ⟨z3, 0, none⟩) 4 4), (.slice (some ⟨z4, 0, none⟩) 4 4)]) underlying22 inf37 (by decide) (by kernel_rfl) rfl (fun z5 => ?_))
  refine TO.l rfl (l_buildSlice (m := 3) (parts := [(0, .const (.bool false)), (1, .const (.bool true)), (2, .const (.bool false))]) (cs := [.bool false, .bool true, .bool false]) underlying23 inf4 (by decide) (by kernel_rfl) rfl (fun z6 => ?_))
  refine TO.q (q_build (cs := [.int .i64 2, (.int .i64 0), (.slice (some ⟨z5, 0, none⟩) 3 3), (.slice (some ⟨z6, 0, none⟩) 3 3)]) plan25 inf25 (by kernel_rfl)) ?_
  refine TO.l rfl (l_sb (v := (.agg #[.int .i64 2, (.int .i64 0), (.slice (some ⟨z5, 0, none⟩) 3 3), (.slice (some ⟨z6, 0, none⟩) 3 3)])) (vs := [.int .i64 2, (.int .i64 0), (.slice (some ⟨z5, 0, none⟩) 3 3), (.slice (some ⟨z6, 0, none⟩) 3 3)]) 5 inf25 rfl rfl rfl rfl rfl rfl (by simp [putL]) ?_)
  refine TO.nl ?_
  refine T.sub (O' := [rowI (some ⟨z5, 0, none⟩) 3 37 1 [(.slice (some ⟨z2, 0, none⟩) 4 4), (.slice (some ⟨z3, 0, none⟩) 4 4), (.slice (some ⟨z4, 0, none⟩) 4 4)], rowI (some ⟨z6, 0, none⟩) 3 4 1 [.bool false, .bool true, .bool false], rowI (some ⟨z2, 0, none⟩) 4 3 1 [.int .i64 2, .int .i64 1, .int .i64 1, .int .i64 2], rowI (some ⟨z3, 0, none⟩) 4 3 1 [.int .i64 2, .int .i64 2, .int .i64 2, .int .i64 2], rowI (some ⟨z4, 0, none⟩) 4 3 1 [.int .i64 2, .int .i64 2, .int .i64 2, .int .i64 2], oI z1 25 [.int .i64 2, (.int .i64 0), (.slice (some ⟨z5, 0, none⟩) 3 3), (.slice (some ⟨z6, 0, none⟩) 3 3)]]) (by exact Sub.pull [rowI (some ⟨z6, 0, none⟩) 3 4 1 [.bool false, .bool true, .bool false]] _ (.k (.pull [rowI (some ⟨z4, 0, none⟩) 4 3 1 [.int .i64 2, .int .i64 2, .int .i64 2, .int .i64 2], rowI (some ⟨z3, 0, none⟩) 4 3 1 [.int .i64 2, .int .i64 2, .int .i64 2, .int .i64 2]] _ (.pull [rowI (some ⟨z4, 0, none⟩) 4 3 1 [.int .i64 2, .int .i64 2, .int .i64 2, .int .i64 2]] _ (.k (.k .z)))))) ?_
  obtain ⟨k0, hk0⟩ : ∃ k : DK, k = ⟨some ⟨z5, 0, none⟩, 3, some ⟨z6, 0, none⟩, 3, [⟨some ⟨z2, 0, none⟩, 4, [2, 1, 1, 2]⟩, ⟨some ⟨z3, 0, none⟩, 4, [2, 2, 2, 2]⟩, ⟨some ⟨z4, 0, none⟩, 4, [2, 2, 2, 2]⟩]⟩ := ⟨_, rfl⟩
  refine T.sub (O' := (([rowI k0.nb k0.nc 37 1 (vals k0.qs), rowI k0.fb k0.fc 4 1 (bools exX.final)] ++ itms 3 k0.qs) ++ [oI z1 25 [.int .i64 2, (.int .i64 0), (.slice (some ⟨z5, 0, none⟩) 3 3), (.slice (some ⟨z6, 0, none⟩) 3 3)]])) (by subst hk0; exact Sub.rf) ?_
  refine T.pack (φ := nums k0.qs = exX.next) (by subst hk0; rfl) ?_
  refine T.sub (O' := [dI 37 4 3 exX k0, oI z1 25 (dC exX k0)]) (by subst hk0; exact Sub.rf) ?_
  refine T.ret (Res.drop ?_)
  refine Res.cell1 (i := 1) Tryz.results30 underlying25 rfl inf25 rfl rfl rfl ?_
  exact ⟨[dI 37 4 3 exX k0], (by exact Sub.k .z), k0, rfl, rfl⟩
end Go.Proofs.YtohkmggbfcnapaaGreatDoor


namespace Go.Proofs.YtohkmggbfcnapaaGreatDoor
open Go.Lx Go.RowKit _root_.Go.Proofs.Tryz
theorem awakeC (w : World) [Tab Tryz.prog w] : PureT Tryz.prog 11 [] w fun v N => v = .bool true ∧ N = [] := by
  refine CallT.enter func11 rfl ntmps11 rfl ?_
  obtain ⟨X, eX⟩ : ∃ m, xsV exX 0 16 = m := ⟨_, rfl⟩
  obtain ⟨Y, eY⟩ : ∃ m, alV exX 0 16 = m := ⟨_, rfl⟩
  obtain ⟨Mi, eM⟩ : ∃ m, inV exZ 0 = m := ⟨_, rfl⟩
  obtain ⟨R, eR⟩ : ∃ m, rnV exX [1, 0] = m := ⟨_, rfl⟩
  have fX := fun x (h : x < 4) => @aw_some x h
  have fY := fun x (h : x < 4) => @aw_every x h
  have fM := fun x (h : x < 4) => @aw_inA x h
  have fR := fun x (h : x < 4) => @aw_rnA x h
  have fN := aw_none
  have f1 := aw_one
  have bX := min_bounds aw_xs.toHasL
  have bY := min_bounds aw_al.toHasL
  have bM := min_bounds aw_in.toHasL
  have bR := min_bounds aw_rn.toHasL
  have bE := min_bounds hX
  have bZ := min_bounds hZ
  rw [eX] at fX fN bX
  rw [eY] at fY f1 bY
  rw [eM] at fM bM
  rw [eR] at fR bR
  refine T.s (T.rg ?_)
  refine TO.qa rfl ?_
  refine TO.nl (T.s (T.rg ?_))
  have hk17 := fun (w1 : World) (hI : Inv w [] w1) => (haveI := tbz hI; exactlyK w1)
  refine TO.l rfl (l_call ent30 (CallT.op hk17) rfl ?_)
  clear hk17
  rintro vr O' ⟨N, rfl, k0, rfl, rfl⟩
  refine TO.l rfl (l_alloc inf25 rfl (fun z1 => ?_))
  refine TO.l rfl (l_sb (v := (dV exX k0)) (vs := (dC exX k0)) 0 inf25 rfl rfl rfl rfl rfl rfl (by simp [putL]) ?_)
  refine TO.sub (O' := [oI z1 25 (dC exX k0), dI 37 4 3 exX k0]) (by exact Sub.rf) ?_
  refine TO.nl (T.s (T.rg ?_))
  refine TO.q (q_la 0 underlying25 rfl inf25 rfl rfl rfl) ?_
  have hk20 := fun (w1 : World) (hI : Inv w [oI z1 25 (dC exX k0), dI 37 4 3 exX k0] w1) => (haveI := tbz hI; (show PureT _ _ _ _ _ from by
      have h9 := exC w1 exX k0 (hI.at (k := k0) (mG 1 rfl)) 0 16 bE.1 bE.2.1 bE.2.2 (fun _ => by decide)
      rw [eX, aw_xsE] at h9
      exact h9))
  refine TO.l rfl (l_call ent16 (CallT.op hk20) rfl ?_)
  clear hk20
  rintro vr O' ⟨N, rfl, k1, rfl, rfl⟩
  refine TO.qm rfl (TO.q (q_extract (vs := _) rfl rfl) (TO.q (q_extract (vs := _) rfl rfl) ?_))
  refine TO.l rfl (l_alloc inf25 rfl (fun z2 => ?_))
  refine TO.l rfl (l_sb (v := (dV X k1)) (vs := (dC X k1)) 0 inf25 rfl rfl rfl rfl rfl rfl (by simp [putL]) ?_)
  refine TO.qa rfl ?_
  refine TO.sub (O' := [oI z2 25 (dC X k1), oI z1 25 (dC exX k0), dI 37 4 3 X k1, dI 37 4 3 exX k0]) (by exact Sub.k (.pull [dI 37 4 3 X k1] _ (.k (.k .z)))) ?_
  refine TO.nl ?_
  refine T.reset [oI z2 25 (dC X k1), oI z1 25 (dC exX k0), dI 37 4 3 X k1, dI 37 4 3 exX k0] [(0, .bool false), (1, (.pointer (some ⟨z1, 0, none⟩))), (2, (.pointer (some ⟨z2, 0, none⟩))), (3, .int .i64 0)] rfl ⟨rfl, rfl, rfl, rfl, trivial⟩ (fun ρ0 => ?_)
  refine T.s (T.rg ?_)
  refine TO.q (q_la 1 underlying25 rfl inf25 rfl rfl rfl) ?_
  have hk25 := fun (w1 : World) (hI : Inv w [oI z2 25 (dC X k1), oI z1 25 (dC exX k0), dI 37 4 3 X k1, dI 37 4 3 exX k0] w1) => (haveI := tbz hI; (show PureT _ _ _ _ _ from by
      have h9 := alC w1 exX k0 (hI.at (k := k0) (mG 3 rfl)) 0 16 bE.1 bE.2.1 bE.2.2 (fun _ => by decide)
      rw [eY, aw_alE] at h9
      exact h9))
  refine TO.l rfl (l_call ent17 (CallT.op hk25) rfl ?_)
  clear hk25
  rintro vr O' ⟨N, rfl, k2, rfl, rfl⟩
  refine TO.qm rfl (TO.q (q_extract (vs := _) rfl rfl) (TO.q (q_extract (vs := _) rfl rfl) ?_))
  refine TO.l rfl (l_alloc inf25 rfl (fun z3 => ?_))
  refine TO.l rfl (l_sb (v := (dV Y k2)) (vs := (dC Y k2)) 0 inf25 rfl rfl rfl rfl rfl rfl (by simp [putL]) ?_)
  refine TO.qa rfl ?_
  refine TO.sub (O' := [oI z3 25 (dC Y k2), oI z2 25 (dC X k1), oI z1 25 (dC exX k0), dI 37 4 3 Y k2, dI 37 4 3 X k1, dI 37 4 3 exX k0]) (by exact Sub.k (.pull [dI 37 4 3 Y k2] _ (.pull [dI 37 4 3 Y k2] _ (.k (.k (.k .z)))))) ?_
  refine TO.nl (T.s (T.rg ?_))
  refine TO.q (q_la 2 underlying25 rfl inf25 rfl rfl rfl) ?_
  have hk30 := fun (w1 : World) (hI : Inv w [oI z3 25 (dC Y k2), oI z2 25 (dC X k1), oI z1 25 (dC exX k0), dI 37 4 3 Y k2, dI 37 4 3 X k1, dI 37 4 3 exX k0] w1) => (haveI := tbz hI; (show PureT _ _ _ _ _ from by
      have h9 := ignC w1 exX k0 (hI.at (k := k0) (mG 5 rfl)) bE.1 bE.2.1 bE.2.2 0
      rw [aw_ig, aw_vE] at h9
      exact h9))
  refine TO.l rfl (l_call ent18 (CallT.op hk30) rfl ?_)
  clear hk30
  rintro vr O' ⟨N, rfl, rfl, rfl⟩
  refine TO.qm rfl (TO.q (q_extract (vs := _) rfl rfl) (TO.q (q_extract (vs := _) rfl rfl) (TO.qa rfl ?_)))
  refine TO.qa rfl ?_
  refine TO.sub (O' := [oI z3 25 (dC Y k2), oI z2 25 (dC X k1), oI z1 25 (dC exX k0), dI 37 4 3 Y k2, dI 37 4 3 X k1, dI 37 4 3 exX k0]) (by exact Sub.rf) ?_
  refine TO.nl ?_
  refine T.reset [oI z3 25 (dC Y k2), oI z2 25 (dC X k1), oI z1 25 (dC exX k0), dI 37 4 3 Y k2, dI 37 4 3 X k1, dI 37 4 3 exX k0] [(0, .bool false), (1, (.pointer (some ⟨z1, 0, none⟩))), (2, (.pointer (some ⟨z2, 0, none⟩))), (3, .int .i64 0), (4, (.pointer (some ⟨z3, 0, none⟩))), (5, .int .i64 0), (6, .bool false), (7, .int .i64 0)] rfl ⟨rfl, rfl, rfl, rfl, rfl, rfl, rfl, rfl, trivial⟩ (fun ρ0 => ?_)
  refine T.s (T.rg ?_)
  refine TO.q (q_la 2 underlying25 rfl inf25 rfl rfl rfl) ?_
  have hk35 := fun (w1 : World) (hI : Inv w [oI z3 25 (dC Y k2), oI z2 25 (dC X k1), oI z1 25 (dC exX k0), dI 37 4 3 Y k2, dI 37 4 3 X k1, dI 37 4 3 exX k0] w1) => (haveI := tbz hI; (show PureT _ _ _ _ _ from by
      have h9 := drC w1 exX k0 (hI.at (k := k0) (mG 5 rfl)) bE.1 bE.2.1 bE.2.2 0
      rw [aw_drE] at h9
      exact h9))
  refine TO.l rfl (l_call ent26 (CallT.op hk35) rfl ?_)
  clear hk35
  rintro vr O' ⟨N, rfl, k3, rfl, rfl⟩
  refine TO.qm rfl (TO.q (q_extract (vs := _) rfl rfl) (TO.q (q_extract (vs := _) rfl rfl) ?_))
  refine TO.l rfl (l_alloc inf25 rfl (fun z4 => ?_))
  refine TO.l rfl (l_sb (v := (dV (drV exX 0) k3)) (vs := (dC (drV exX 0) k3)) 0 inf25 rfl rfl rfl rfl rfl rfl (by simp [putL]) ?_)
  refine TO.qa rfl ?_
  refine TO.sub (O' := [oI z4 25 (dC (drV exX 0) k3), oI z3 25 (dC Y k2), oI z2 25 (dC X k1), oI z1 25 (dC exX k0), dI 37 4 3 (drV exX 0) k3, dI 37 4 3 Y k2, dI 37 4 3 X k1, dI 37 4 3 exX k0]) (by exact Sub.k (.pull [dI 37 4 3 (drV exX 0) k3] _ (.pull [dI 37 4 3 (drV exX 0) k3] _ (.pull [dI 37 4 3 (drV exX 0) k3] _ (.k (.k (.k (.k .z)))))))) ?_
  refine TO.nl (T.s (T.rg ?_))
  refine TO.l rfl (l_buildSlice (m := 2) (parts := [(0, .const (.int .i64 2)), (1, .const (.int .i64 1))]) (cs := [.int .i64 2, .int .i64 1]) underlying37 inf3 (by decide) (by kernel_rfl) rfl (fun z5 => ?_))
  refine TO.l rfl (l_buildSlice (m := 2) (parts := [(0, .const (.int .i64 2)), (1, .const (.int .i64 2))]) (cs := [.int .i64 2, .int .i64 2]) underlying37 inf3 (by decide) (by kernel_rfl) rfl (fun z6 => ?_))
  refine TO.l rfl (l_buildSlice (m := 2) (parts := [(0, .const (.int .i64 2)), (1, .const (.int .i64 2))]) (cs := [.int .i64 2, .int .i64 2]) underlying37 inf3 (by decide) (by kernel_rfl) rfl (fun z7 => ?_))
  refine TO.l rfl (l_buildSlice (m := 3) (parts := [(0, .tmp 38), (1, .tmp 39), (2, .tmp 40)]) (cs := [(.slice (some ⟨z5, 0, none⟩) 2 2), (.slice (some ⟨z6, 0, none⟩) 2 2), (.slice (some ⟨z7, 0, none⟩) 2 2)]) underlying22 inf37 (by decide) (by kernel_rfl) rfl (fun z8 => ?_))
  refine TO.l rfl (l_buildSlice (m := 3) (parts := [(0, .const (.bool false)), (1, .const (.bool true)), (2, .const (.bool false))]) (cs := [.bool false, .bool true, .bool false]) underlying23 inf4 (by decide) (by kernel_rfl) rfl (fun z9 => ?_))
  refine TO.q (q_build (cs := [.int .i64 1, (.int .i64 0), (.slice (some ⟨z8, 0, none⟩) 3 3), (.slice (some ⟨z9, 0, none⟩) 3 3)]) plan25 inf25 (by kernel_rfl)) ?_
  refine TO.l rfl (l_alloc inf25 rfl (fun z10 => ?_))
  refine TO.l rfl (l_sb (v := (.agg #[.int .i64 1, (.int .i64 0), (.slice (some ⟨z8, 0, none⟩) 3 3), (.slice (some ⟨z9, 0, none⟩) 3 3)])) (vs := [.int .i64 1, (.int .i64 0), (.slice (some ⟨z8, 0, none⟩) 3 3), (.slice (some ⟨z9, 0, none⟩) 3 3)]) 0 inf25 rfl rfl rfl rfl rfl rfl (by simp [putL]) ?_)
  refine TO.nl ?_
  refine T.sub (O' := [rowI (some ⟨z8, 0, none⟩) 3 37 1 [(.slice (some ⟨z5, 0, none⟩) 2 2), (.slice (some ⟨z6, 0, none⟩) 2 2), (.slice (some ⟨z7, 0, none⟩) 2 2)], rowI (some ⟨z9, 0, none⟩) 3 4 1 [.bool false, .bool true, .bool false], rowI (some ⟨z5, 0, none⟩) 2 3 1 [.int .i64 2, .int .i64 1], rowI (some ⟨z6, 0, none⟩) 2 3 1 [.int .i64 2, .int .i64 2], rowI (some ⟨z7, 0, none⟩) 2 3 1 [.int .i64 2, .int .i64 2], oI z10 25 [.int .i64 1, (.int .i64 0), (.slice (some ⟨z8, 0, none⟩) 3 3), (.slice (some ⟨z9, 0, none⟩) 3 3)], oI z4 25 (dC (drV exX 0) k3), oI z3 25 (dC Y k2), oI z2 25 (dC X k1), oI z1 25 (dC exX k0), dI 37 4 3 (drV exX 0) k3, dI 37 4 3 Y k2, dI 37 4 3 X k1, dI 37 4 3 exX k0]) (by exact Sub.pull [oI z10 25 [.int .i64 1, (.int .i64 0), (.slice (some ⟨z8, 0, none⟩) 3 3), (.slice (some ⟨z9, 0, none⟩) 3 3)], rowI (some ⟨z9, 0, none⟩) 3 4 1 [.bool false, .bool true, .bool false]] _ (.pull [oI z10 25 [.int .i64 1, (.int .i64 0), (.slice (some ⟨z8, 0, none⟩) 3 3), (.slice (some ⟨z9, 0, none⟩) 3 3)]] _ (.pull [oI z10 25 [.int .i64 1, (.int .i64 0), (.slice (some ⟨z8, 0, none⟩) 3 3), (.slice (some ⟨z9, 0, none⟩) 3 3)], rowI (some ⟨z7, 0, none⟩) 2 3 1 [.int .i64 2, .int .i64 2], rowI (some ⟨z6, 0, none⟩) 2 3 1 [.int .i64 2, .int .i64 2]] _ (.pull [oI z10 25 [.int .i64 1, (.int .i64 0), (.slice (some ⟨z8, 0, none⟩) 3 3), (.slice (some ⟨z9, 0, none⟩) 3 3)], rowI (some ⟨z7, 0, none⟩) 2 3 1 [.int .i64 2, .int .i64 2]] _ (.pull [oI z10 25 [.int .i64 1, (.int .i64 0), (.slice (some ⟨z8, 0, none⟩) 3 3), (.slice (some ⟨z9, 0, none⟩) 3 3)]] _ (.k (.k (.k (.k (.k (.k (.k (.k (.k .z)))))))))))))) ?_
  obtain ⟨kz, hkz⟩ : ∃ k : DK, k = ⟨some ⟨z8, 0, none⟩, 3, some ⟨z9, 0, none⟩, 3, [⟨some ⟨z5, 0, none⟩, 2, [2, 1]⟩, ⟨some ⟨z6, 0, none⟩, 2, [2, 2]⟩, ⟨some ⟨z7, 0, none⟩, 2, [2, 2]⟩]⟩ := ⟨_, rfl⟩
  refine T.sub (O' := (([rowI kz.nb kz.nc 37 1 (vals kz.qs), rowI kz.fb kz.fc 4 1 (bools exZ.final)] ++ itms 3 kz.qs) ++ [oI z10 25 [.int .i64 1, (.int .i64 0), (.slice (some ⟨z8, 0, none⟩) 3 3), (.slice (some ⟨z9, 0, none⟩) 3 3)], oI z4 25 (dC (drV exX 0) k3), oI z3 25 (dC Y k2), oI z2 25 (dC X k1), oI z1 25 (dC exX k0), dI 37 4 3 (drV exX 0) k3, dI 37 4 3 Y k2, dI 37 4 3 X k1, dI 37 4 3 exX k0])) (by subst hkz; exact Sub.rf) ?_
  refine T.pack (φ := nums kz.qs = exZ.next) (by subst hkz; rfl) ?_
  refine T.sub (O' := [dI 37 4 3 exZ kz, oI z10 25 (dC exZ kz), oI z4 25 (dC (drV exX 0) k3), oI z3 25 (dC Y k2), oI z2 25 (dC X k1), oI z1 25 (dC exX k0), dI 37 4 3 (drV exX 0) k3, dI 37 4 3 Y k2, dI 37 4 3 X k1, dI 37 4 3 exX k0]) (by subst hkz; exact Sub.rf) ?_
  refine T.reset [dI 37 4 3 exZ kz, oI z10 25 (dC exZ kz), oI z4 25 (dC (drV exX 0) k3), oI z3 25 (dC Y k2), oI z2 25 (dC X k1), oI z1 25 (dC exX k0), dI 37 4 3 (drV exX 0) k3, dI 37 4 3 Y k2, dI 37 4 3 X k1, dI 37 4 3 exX k0] [(0, .bool false), (1, (.pointer (some ⟨z1, 0, none⟩))), (2, (.pointer (some ⟨z2, 0, none⟩))), (3, .int .i64 0), (4, (.pointer (some ⟨z3, 0, none⟩))), (5, .int .i64 0), (6, .bool false), (7, .int .i64 0), (8, (.pointer (some ⟨z4, 0, none⟩))), (9, .int .i64 7), (10, (.pointer (some ⟨z10, 0, none⟩)))] rfl ⟨rfl, rfl, rfl, rfl, rfl, rfl, rfl, rfl, rfl, rfl, rfl, trivial⟩ (fun ρ0 => ?_)
  refine T.s (T.rg ?_)
  refine TO.q (q_la 1 underlying25 rfl inf25 rfl rfl rfl) ?_
  have hk46 := fun (w1 : World) (hI : Inv w [dI 37 4 3 exZ kz, oI z10 25 (dC exZ kz), oI z4 25 (dC (drV exX 0) k3), oI z3 25 (dC Y k2), oI z2 25 (dC X k1), oI z1 25 (dC exX k0), dI 37 4 3 (drV exX 0) k3, dI 37 4 3 Y k2, dI 37 4 3 X k1, dI 37 4 3 exX k0] w1) => (haveI := tbz hI; (show PureT _ _ _ _ _ from by
      have h9 := insC w1 exZ kz (hI.at (k := kz) (mG 0 rfl)) bZ.1 bZ.2.1 bZ.2.2 0
      rw [eM, aw_inE] at h9
      exact h9))
  refine TO.l rfl (l_call ent27 (CallT.op hk46) rfl ?_)
  clear hk46
  rintro vr O' ⟨N, rfl, k4, rfl, rfl⟩
  refine TO.qm rfl (TO.q (q_extract (vs := _) rfl rfl) (TO.q (q_extract (vs := _) rfl rfl) ?_))
  refine TO.l rfl (l_alloc inf25 rfl (fun z11 => ?_))
  refine TO.l rfl (l_sb (v := (dV Mi k4)) (vs := (dC Mi k4)) 0 inf25 rfl rfl rfl rfl rfl rfl (by simp [putL]) ?_)
  refine TO.qa rfl ?_
  refine TO.sub (O' := [oI z11 25 (dC Mi k4), oI z10 25 (dC exZ kz), oI z4 25 (dC (drV exX 0) k3), oI z3 25 (dC Y k2), oI z2 25 (dC X k1), oI z1 25 (dC exX k0), dI 37 4 3 Mi k4, dI 37 4 3 exZ kz, dI 37 4 3 (drV exX 0) k3, dI 37 4 3 Y k2, dI 37 4 3 X k1, dI 37 4 3 exX k0]) (by exact Sub.k (.pull [dI 37 4 3 Mi k4, dI 37 4 3 exZ kz] _ (.pull [dI 37 4 3 Mi k4, dI 37 4 3 exZ kz] _ (.pull [dI 37 4 3 Mi k4, dI 37 4 3 exZ kz] _ (.pull [dI 37 4 3 Mi k4, dI 37 4 3 exZ kz] _ (.pull [dI 37 4 3 Mi k4, dI 37 4 3 exZ kz] _ (.k (.k (.k (.k (.k (.k .z)))))))))))) ?_
  refine TO.nl (T.s (T.rg ?_))
  refine TO.q (q_la 5 underlying25 rfl inf25 rfl rfl rfl) ?_
  refine TO.l rfl (l_buildSlice (m := 2) (parts := [(0, .const (.int .i64 1)), (1, .const (.int .i64 0))]) (cs := [.int .i64 1, .int .i64 0]) underlying37 inf3 (by decide) (by kernel_rfl) rfl (fun z12 => ?_))
  have hk52 := fun (w1 : World) (hI : Inv w [rowI (some ⟨z12, 0, none⟩) 2 3 1 [.int .i64 1, .int .i64 0], oI z11 25 (dC Mi k4), oI z10 25 (dC exZ kz), oI z4 25 (dC (drV exX 0) k3), oI z3 25 (dC Y k2), oI z2 25 (dC X k1), oI z1 25 (dC exX k0), dI 37 4 3 Mi k4, dI 37 4 3 exZ kz, dI 37 4 3 (drV exX 0) k3, dI 37 4 3 Y k2, dI 37 4 3 X k1, dI 37 4 3 exX k0] w1) => (haveI := tbz hI; (show PureT _ _ _ _ _ from by
      have h9 := rnC w1 exX k0 (hI.at (k := k0) (mG 12 rfl)) bE.1 bE.2.1 bE.2.2 (some ⟨z12, 0, none⟩) 2 [1, 0] (hI.slOf (cs := ints [1, 0]) (mG 0 rfl)) (by decide)
      rw [eR, aw_rnE] at h9
      exact h9))
  refine TO.l rfl (l_call ent28 (CallT.op hk52) rfl ?_)
  clear hk52
  rintro vr O' ⟨N, rfl, k5, rfl, rfl⟩
  refine TO.qm rfl (TO.q (q_extract (vs := _) rfl rfl) (TO.q (q_extract (vs := _) rfl rfl) ?_))
  refine TO.l rfl (l_alloc inf25 rfl (fun z13 => ?_))
  refine TO.l rfl (l_sb (v := (dV R k5)) (vs := (dC R k5)) 0 inf25 rfl rfl rfl rfl rfl rfl (by simp [putL]) ?_)
  refine TO.qa rfl ?_
  refine TO.sub (O' := [oI z13 25 (dC R k5), oI z11 25 (dC Mi k4), oI z10 25 (dC exZ kz), oI z4 25 (dC (drV exX 0) k3), oI z3 25 (dC Y k2), oI z2 25 (dC X k1), oI z1 25 (dC exX k0), dI 37 4 3 R k5, dI 37 4 3 Mi k4, dI 37 4 3 exZ kz, dI 37 4 3 (drV exX 0) k3, dI 37 4 3 Y k2, dI 37 4 3 X k1, dI 37 4 3 exX k0]) (by exact Sub.k (.pull [dI 37 4 3 R k5, rowI (some ⟨z12, 0, none⟩) 2 3 1 [.int .i64 1, .int .i64 0]] _ (.pull [dI 37 4 3 R k5, rowI (some ⟨z12, 0, none⟩) 2 3 1 [.int .i64 1, .int .i64 0]] _ (.pull [dI 37 4 3 R k5, rowI (some ⟨z12, 0, none⟩) 2 3 1 [.int .i64 1, .int .i64 0]] _ (.pull [dI 37 4 3 R k5, rowI (some ⟨z12, 0, none⟩) 2 3 1 [.int .i64 1, .int .i64 0]] _ (.pull [dI 37 4 3 R k5, rowI (some ⟨z12, 0, none⟩) 2 3 1 [.int .i64 1, .int .i64 0]] _ (.pull [dI 37 4 3 R k5, rowI (some ⟨z12, 0, none⟩) 2 3 1 [.int .i64 1, .int .i64 0]] _ (.k (.d (.k (.k (.k (.k (.k (.k .z))))))))))))))) ?_
  refine TO.nl ?_
  refine T.reset [oI z13 25 (dC R k5), oI z11 25 (dC Mi k4), oI z10 25 (dC exZ kz), oI z4 25 (dC (drV exX 0) k3), oI z3 25 (dC Y k2), oI z2 25 (dC X k1), oI z1 25 (dC exX k0), dI 37 4 3 R k5, dI 37 4 3 Mi k4, dI 37 4 3 exZ kz, dI 37 4 3 (drV exX 0) k3, dI 37 4 3 Y k2, dI 37 4 3 X k1, dI 37 4 3 exX k0] [(0, .bool false), (1, (.pointer (some ⟨z1, 0, none⟩))), (2, (.pointer (some ⟨z2, 0, none⟩))), (3, .int .i64 0), (4, (.pointer (some ⟨z3, 0, none⟩))), (5, .int .i64 0), (6, .bool false), (7, .int .i64 0), (8, (.pointer (some ⟨z4, 0, none⟩))), (9, .int .i64 7), (10, (.pointer (some ⟨z10, 0, none⟩))), (11, (.pointer (some ⟨z11, 0, none⟩))), (12, .int .i64 0), (13, (.pointer (some ⟨z13, 0, none⟩))), (14, .int .i64 0)] rfl ⟨rfl, rfl, rfl, rfl, rfl, rfl, rfl, rfl, rfl, rfl, rfl, rfl, rfl, rfl, rfl, trivial⟩ (fun ρ0 => ?_)
  refine T.s (T.s (T.rg ?_))
  refine TO.qm rfl (TO.q (QT.toB (q_neq rfl rfl) (decide_eq_false (fun h => h rfl))) (TO.qm rfl ?_))
  refine TO.gd rfl rfl rfl (LT.oq rfl rfl (q_move rfl) ?_)
  refine TO.gd rfl rfl rfl (LT.oq rfl rfl (QT.toB (q_neq rfl rfl) (decide_eq_false (fun h => h rfl))) ?_)
  refine TO.q (q_pick0 rfl rfl) (TO.qm rfl ?_)
  refine TO.gd rfl rfl rfl (LT.oq rfl rfl (q_move rfl) ?_)
  refine TO.gd rfl rfl rfl (LT.oq rfl rfl (QT.toB (q_neq rfl rfl) (decide_eq_false (fun h => h rfl))) ?_)
  refine TO.q (q_pick0 rfl rfl) (TO.qm rfl ?_)
  refine TO.gd rfl rfl rfl (LT.oq rfl rfl (q_move rfl) ?_)
  refine TO.gd rfl rfl rfl (LT.oq rfl rfl (QT.toB (q_neq rfl rfl) (decide_eq_false (fun h => h rfl))) ?_)
  refine TO.q (q_pick0 rfl rfl) (TO.qm rfl ?_)
  refine TO.gd rfl rfl rfl (LT.oq rfl rfl (q_move rfl) ?_)
  refine TO.gd rfl rfl rfl (LT.oq rfl rfl (QT.toB (q_neq rfl rfl) (decide_eq_false (fun h => h rfl))) ?_)
  refine TO.q (q_pick0 rfl rfl) (TO.qm rfl ?_)
  refine TO.gd rfl rfl rfl (LT.oq rfl rfl (q_move rfl) ?_)
  refine TO.gd rfl rfl rfl (LT.oq rfl rfl (QT.toB (q_neq rfl rfl) (decide_eq_false (fun h => h rfl))) ?_)
  refine TO.q (q_pick0 rfl rfl) (TO.qm rfl ?_)
  refine TO.gd rfl rfl rfl (LT.oq rfl rfl (q_move rfl) ?_)
  refine TO.q (q_pick0 rfl rfl) ?_
  refine TO.nl ?_
  refine T.cond0 rfl ?_
  refine T.skip (T.s (T.s (T.rg ?_)))
  refine TO.qa rfl ?_
  refine TO.nl (T.block ?_)
  refine T.loopS (fun (x : Nat) ρ O => O = [oI z13 25 (dC R k5), oI z11 25 (dC Mi k4), oI z10 25 (dC exZ kz), oI z4 25 (dC (drV exX 0) k3), oI z3 25 (dC Y k2), oI z2 25 (dC X k1), oI z1 25 (dC exX k0), dI 37 4 3 R k5, dI 37 4 3 Mi k4, dI 37 4 3 exZ kz, dI 37 4 3 (drV exX 0) k3, dI 37 4 3 Y k2, dI 37 4 3 X k1, dI 37 4 3 exX k0] ∧ x ≤ 4 ∧ Heads [(1, (.pointer (some ⟨z1, 0, none⟩))), (2, (.pointer (some ⟨z2, 0, none⟩))), (3, .int .i64 0), (4, (.pointer (some ⟨z3, 0, none⟩))), (5, .int .i64 0), (6, .bool false), (7, .int .i64 0), (8, (.pointer (some ⟨z4, 0, none⟩))), (9, .int .i64 7), (10, (.pointer (some ⟨z10, 0, none⟩))), (11, (.pointer (some ⟨z11, 0, none⟩))), (12, .int .i64 0), (13, (.pointer (some ⟨z13, 0, none⟩))), (14, .int .i64 0), (15, .int .i64 ((x : Nat) : Int))] ρ) (fun x => 4 - x) 0 ?_ ?_
  · exact ⟨rfl, Nat.zero_le _, ⟨rfl, rfl, rfl, rfl, rfl, rfl, rfl, rfl, rfl, rfl, rfl, rfl, rfl, rfl, rfl, trivial⟩⟩
  rintro x ρ O ⟨rfl, hx4, hH⟩
  obtain ⟨ρ0, rfl⟩ := hH.elim
  clear hH
  refine T.s (T.s (T.rg ?_))
  refine TO.qm rfl (TO.q (q_lss rfl rfl) ?_)
  refine TO.nl ?_
  refine T.condP rfl (fun hc => ?_) (fun hc => ?_)
  · have hlt81 : x < 4 := by omega
    have hxl : x < 4 := by omega
    have hw8 : ∀ y ∈ [x], y < 256 := fun y hy => by have := List.mem_singleton.1 hy; omega
    refine T.skip (T.s (T.block (T.s (T.rg ?_))))
    refine TO.qm rfl (TO.q (q_conv_id underlying3 underlying5 rfl (wrap8 (by omega))) ?_)
    refine TO.l rfl (l_build1 (v := .int .u8 ((x : Nat) : Int)) underlying46 inf5 rfl rfl rfl (fun z14 => ?_))
    refine TO.qa rfl ?_
    refine TO.nl (T.s ?_)
    refine T.draws _ [(0, 0), (1, 0), (2, 1), (3, 0), (4, 0), (5, 0), (6, 0), (7, 1), (8, 0), (9, 0), (10, 0), (11, 0), (13, 0), (14, 0), (12, 1), (15, 0), (16, 0), (17, 0), (18, 0), (19, 0), (21, 0), (22, 0), (20, 1), (23, 2), (24, 2), (25, 2)] mixed (drawF_ok (by kernel_rfl)) (Sub.of (List.Sublist.refl _)) (fun _ _ _ h => h) ?_
    refine DO.q rfl (q_la 6 underlying25 rfl inf25 rfl rfl rfl) (DO.q rfl (q_move rfl) ?_)
    have hk89 := fun (w1 : World) (hI : Inv w [rowI (some ⟨z14, 0, none⟩) 1 5 1 [.int .u8 ((x : Nat) : Int)], oI z13 25 (dC R k5), oI z11 25 (dC Mi k4), oI z10 25 (dC exZ kz), oI z4 25 (dC (drV exX 0) k3), oI z3 25 (dC Y k2), oI z2 25 (dC X k1), oI z1 25 (dC exX k0), dI 37 4 3 R k5, dI 37 4 3 Mi k4, dI 37 4 3 exZ kz, dI 37 4 3 (drV exX 0) k3, dI 37 4 3 Y k2, dI 37 4 3 X k1, dI 37 4 3 exX k0] w1) => (haveI := tbz hI; (show PureT _ _ _ _ _ from by
        have h9 := accF w1 X k1 (hI.at (k := k1) (mG 13 rfl)) bX.1 bX.2.1 bX.2.2 (some ⟨z14, 0, none⟩) 1 [x] (hI.slOf (cs := byts [x]) (mG 0 rfl)) (show 1 < _ by decide) hw8
        rw [fX x hxl] at h9
        exact h9))
    refine DO.loud rfl rfl (l_call ent38 (CallT.op hk89) rfl ?_)
    clear hk89
    rintro vr O' ⟨N, rfl, rfl, rfl⟩
    refine ⟨by exact Sub.rf, ?_⟩
    refine DO.q rfl (q_not rfl) (DO.q rfl (q_move rfl) ?_)
    refine DO.guarded rfl rfl rfl (q_la 5 underlying25 rfl inf25 rfl rfl rfl) ?_
    refine DO.guarded rfl rfl rfl (q_move rfl) ?_
    have hk94 := fun (w1 : World) (hI : Inv w [rowI (some ⟨z14, 0, none⟩) 1 5 1 [.int .u8 ((x : Nat) : Int)], oI z13 25 (dC R k5), oI z11 25 (dC Mi k4), oI z10 25 (dC exZ kz), oI z4 25 (dC (drV exX 0) k3), oI z3 25 (dC Y k2), oI z2 25 (dC X k1), oI z1 25 (dC exX k0), dI 37 4 3 R k5, dI 37 4 3 Mi k4, dI 37 4 3 exZ kz, dI 37 4 3 (drV exX 0) k3, dI 37 4 3 Y k2, dI 37 4 3 X k1, dI 37 4 3 exX k0] w1) => (haveI := tbz hI; (show PureT _ _ _ _ _ from by
        have h9 := accF w1 Y k2 (hI.at (k := k2) (mG 12 rfl)) bY.1 bY.2.1 bY.2.2 (some ⟨z14, 0, none⟩) 1 [x] (hI.slOf (cs := byts [x]) (mG 0 rfl)) (show 1 < _ by decide) hw8
        rw [fY x hxl] at h9
        exact h9))
    refine DO.loudG rfl rfl rfl rfl (l_call ent38 (CallT.op hk94) rfl ?_)
    clear hk94
    rintro vr O' ⟨N, rfl, rfl, rfl⟩
    refine ⟨by exact Sub.rf, ?_⟩
    refine DO.q rfl (q_pick0 rfl rfl) (DO.q rfl (q_move rfl) ?_)
    refine DO.guarded rfl rfl rfl (q_la 2 underlying25 rfl inf25 rfl rfl rfl) ?_
    refine DO.guarded rfl rfl rfl (q_move rfl) ?_
    refine DO.guarded rfl rfl rfl (q_move rfl) ?_
    refine DO.guarded rfl rfl rfl (QT.cast (q_gtr rfl rfl) (v' := .bool (decide (x > 1))) (congrArg Value.bool (decide_eq_decide.2 (by omega)))) ?_
    have hk99 := fun (w1 : World) (hI : Inv w [rowI (some ⟨z14, 0, none⟩) 1 5 1 [.int .u8 ((x : Nat) : Int)], oI z13 25 (dC R k5), oI z11 25 (dC Mi k4), oI z10 25 (dC exZ kz), oI z4 25 (dC (drV exX 0) k3), oI z3 25 (dC Y k2), oI z2 25 (dC X k1), oI z1 25 (dC exX k0), dI 37 4 3 R k5, dI 37 4 3 Mi k4, dI 37 4 3 exZ kz, dI 37 4 3 (drV exX 0) k3, dI 37 4 3 Y k2, dI 37 4 3 X k1, dI 37 4 3 exX k0] w1) => (haveI := tbz hI; (show PureT _ _ _ _ _ from by
        have h9 := accF w1 Mi k4 (hI.at (k := k4) (mG 9 rfl)) bM.1 bM.2.1 bM.2.2 (some ⟨z14, 0, none⟩) 1 [x] (hI.slOf (cs := byts [x]) (mG 0 rfl)) (show 1 < _ by decide) hw8
        rw [fM x hxl] at h9
        exact h9))
    refine DO.loudG rfl rfl rfl rfl (l_call ent38 (CallT.op hk99) rfl ?_)
    clear hk99
    rintro vr O' ⟨N, rfl, rfl, rfl⟩
    refine ⟨by exact Sub.rf, ?_⟩
    refine DO.guarded rfl rfl rfl (QT.cast (q_bneq underlying4 rfl rfl) (v' := .bool false) (by simp)) ?_
    refine DO.q rfl (q_pick0 rfl rfl) (DO.q rfl (q_move rfl) ?_)
    refine DO.guarded rfl rfl rfl (q_la 1 underlying25 rfl inf25 rfl rfl rfl) ?_
    refine DO.guarded rfl rfl rfl (q_move rfl) ?_
    refine DO.guarded rfl rfl rfl (q_la 7 underlying25 rfl inf25 rfl rfl rfl) ?_
    refine DO.guarded rfl rfl rfl (q_move rfl) ?_
    have hk107 := fun (w1 : World) (hI : Inv w [rowI (some ⟨z14, 0, none⟩) 1 5 1 [.int .u8 ((x : Nat) : Int)], oI z13 25 (dC R k5), oI z11 25 (dC Mi k4), oI z10 25 (dC exZ kz), oI z4 25 (dC (drV exX 0) k3), oI z3 25 (dC Y k2), oI z2 25 (dC X k1), oI z1 25 (dC exX k0), dI 37 4 3 R k5, dI 37 4 3 Mi k4, dI 37 4 3 exZ kz, dI 37 4 3 (drV exX 0) k3, dI 37 4 3 Y k2, dI 37 4 3 X k1, dI 37 4 3 exX k0] w1) => (haveI := tbz hI; (show PureT _ _ _ _ _ from by
        have h9 := accF w1 R k5 (hI.at (k := k5) (mG 8 rfl)) bR.1 bR.2.1 bR.2.2 (some ⟨z14, 0, none⟩) 1 [x] (hI.slOf (cs := byts [x]) (mG 0 rfl)) (show 1 < _ by decide) hw8
        rw [fR x hxl] at h9
        exact h9))
    refine DO.loudG rfl rfl rfl rfl (l_call ent38 (CallT.op hk107) rfl ?_)
    clear hk107
    rintro vr O' ⟨N, rfl, rfl, rfl⟩
    refine ⟨by exact Sub.rf, ?_⟩
    have hk110 := fun (w1 : World) (hI : Inv w [rowI (some ⟨z14, 0, none⟩) 1 5 1 [.int .u8 ((x : Nat) : Int)], oI z13 25 (dC R k5), oI z11 25 (dC Mi k4), oI z10 25 (dC exZ kz), oI z4 25 (dC (drV exX 0) k3), oI z3 25 (dC Y k2), oI z2 25 (dC X k1), oI z1 25 (dC exX k0), dI 37 4 3 R k5, dI 37 4 3 Mi k4, dI 37 4 3 exZ kz, dI 37 4 3 (drV exX 0) k3, dI 37 4 3 Y k2, dI 37 4 3 X k1, dI 37 4 3 exX k0] w1) => (haveI := tbz hI; (show PureT _ _ _ _ _ from by
        have h9 := accF w1 exX k0 (hI.at (k := k0) (mG 14 rfl)) bE.1 bE.2.1 bE.2.2 (some ⟨z14, 0, none⟩) 1 [x] (hI.slOf (cs := byts [x]) (mG 0 rfl)) (show 1 < _ by decide) hw8
        exact h9))
    refine DO.lastG rfl rfl rfl rfl (l_call ent38 (CallT.op hk110) rfl ?_)
    clear hk110
    rintro vr O' ⟨N, rfl, rfl, rfl⟩
    refine DO.lastG rfl rfl rfl rfl (LT.oq rfl rfl (QT.cast (q_bneq underlying4 rfl rfl) (v' := .bool false) (by simp)) ?_)
    refine DO.last rfl rfl (LT.oq rfl rfl (q_pick0 rfl rfl) ?_)
    refine DO.done ?_
    refine T.cond0 rfl ?_
    refine T.skip (T.rg ?_)
    refine TO.qm rfl (TO.q (q_addN (a := x) (b := 1) rfl rfl (by omega)) (TO.qa rfl ?_))
    refine TO.nl ?_
    exact ⟨x + 1, by omega, [oI z13 25 (dC R k5), oI z11 25 (dC Mi k4), oI z10 25 (dC exZ kz), oI z4 25 (dC (drV exX 0) k3), oI z3 25 (dC Y k2), oI z2 25 (dC X k1), oI z1 25 (dC exX k0), dI 37 4 3 R k5, dI 37 4 3 Mi k4, dI 37 4 3 exZ kz, dI 37 4 3 (drV exX 0) k3, dI 37 4 3 Y k2, dI 37 4 3 X k1, dI 37 4 3 exX k0], (by exact Sub.d (.k (.k (.k (.k (.k (.k (.k (.k (.k (.k (.k (.k (.k (.k .z))))))))))))))), rfl, by omega, ⟨rfl, rfl, rfl, rfl, rfl, rfl, rfl, rfl, rfl, rfl, rfl, rfl, rfl, rfl, rfl, trivial⟩⟩
  have hge81 : ¬ x < 4 := by omega
  refine T.exit ?_
  refine T.s (T.rg ?_)
  refine TO.q (q_la 5 underlying25 rfl inf25 rfl rfl rfl) ?_
  have hk114 := fun (w1 : World) (hI : Inv w [oI z13 25 (dC R k5), oI z11 25 (dC Mi k4), oI z10 25 (dC exZ kz), oI z4 25 (dC (drV exX 0) k3), oI z3 25 (dC Y k2), oI z2 25 (dC X k1), oI z1 25 (dC exX k0), dI 37 4 3 R k5, dI 37 4 3 Mi k4, dI 37 4 3 exZ kz, dI 37 4 3 (drV exX 0) k3, dI 37 4 3 Y k2, dI 37 4 3 X k1, dI 37 4 3 exX k0] w1) => (haveI := tbz hI; (show PureT _ _ _ _ _ from by
      have h9 := accF w1 X k1 (hI.at (k := k1) (mG 12 rfl)) bX.1 bX.2.1 bX.2.2 none 0 [] (Sl.nil _ none) (by decide) (fun x hx => by cases hx)
      rw [fN] at h9
      exact h9))
  refine TO.l rfl (l_call ent38 (CallT.op hk114) rfl ?_)
  clear hk114
  rintro vr O' ⟨N, rfl, rfl, rfl⟩
  refine TO.q (q_not rfl) (TO.qm rfl ?_)
  refine TO.gd rfl rfl rfl (LT.oq rfl rfl (q_fa underlying25 rfl inf22 rfl rfl) ?_)
  refine TO.gd rfl rfl rfl (LT.oq rfl rfl (q_lb 4 underlying22 rfl rfl rfl rfl) ?_)
  refine TO.gd rfl rfl rfl (LT.oq rfl rfl (q_len underlying22 rfl) ?_)
  refine TO.gd rfl rfl rfl (LT.oq rfl rfl (QT.toB (q_eql rfl rfl) (decide_eq_true (by rw [f1]; rfl))) ?_)
  refine TO.q (q_pick1 rfl rfl) (TO.qa rfl ?_)
  refine TO.nl (T.ret (Res.drop ?_))
  refine Res.one (.bool true) Tryz.results11 rfl ?_
  exact ⟨[], Sub.z, rfl, rfl⟩
end Go.Proofs.YtohkmggbfcnapaaGreatDoor


namespace Go.Lx
theorem longB_one {a : DFA} (h : ¬ longB [a] = true) : Sh a := sh_of (fun h2 => h (by simpa [longB] using h2))
theorem bdVal {d : DFA} (hv : Valid d) : Bd9 d := min_bounds (HasL.of hv (Nat.le_refl _))
theorem bdX {d : DFA} {v B : Int} (hn : vE d v = 0 → d.next.length ≤ 64) : Bd9 (xsV d v B) := by
  by_cases he : xsE d v B = 0
  · exact bdVal (xsV_valid (hn (xsE_zero he).1) he).1
  · rw [xsV_bad he]; exact bd_noD
theorem bdAl {d : DFA} {v B : Int} (hn : Valid d → d.next.length ≤ 64) : Bd9 (alV d v B) := by
  by_cases he : alE d v B = 0
  · have hc : checkD d = 0 := by
      unfold alE at he
      by_cases h : checkD d = 0
      · exact h
      · rw [if_pos h] at he; exact he
    have hv := checkD_zero.1 hc
    have hx : xsE (minD (flipD d)) v B = 0 := by rw [← alE_val hv]; exact he
    have hl : (minD (flipD d)).next.length ≤ 64 := Nat.le_trans (minD_len (flip_val hv.toVal)) (hn hv)
    unfold alV
    rw [if_pos he]
    exact bdVal (minD_valid (flip_valid (xsV_valid hl hx).1))
  · unfold alV; rw [if_neg he]; exact bd_noD
theorem alV_bad {d : DFA} {v B : Int} (h : alE d v B ≠ 0) : alV d v B = noD := by unfold alV; rw [if_neg h]
theorem Sh.h8 {a : DFA} (sa : Sh a) (hv : Valid a) : HasL a.vars 8 a (acc a) := HasL.of hv sa.n8
theorem var_bad {a : DFA} {v : Int} (sa : Sh a) (he : xsE a v 4096 ≠ 0) : alE a v 4096 = xsE a v 4096 ∧ (xsV a v 4096).next.length = 0 ∧ (alV a v 4096).next.length = 0 := by
  have h1 : alE a v 4096 = xsE a v 4096 := by
    by_cases hc : checkD a = 0
    · have H := sa.h8 (checkD_zero.1 hc)
      rw [xsE_few H (Nat.le_refl _), alE_few H (Nat.le_refl _)]
    · have hve : vE a v = checkD a := by unfold vE; rw [if_pos hc]
      rw [(alE_bad hc).1, xsE_bad (by rw [hve]; exact hc), hve]
  refine ⟨h1, ?_, ?_⟩
  · rw [xsV_bad he]; rfl
  · rw [alV_bad (by rw [h1]; exact he)]; rfl
theorem incl_yes {n : Int} {N M : Nat} {a b : DFA} {p q : List Nat → Bool} (ha : HasL n N a p) (hb : HasL n M b q) (hN : N * M ≤ 4096) (h : ∀ w, WdV n w → p w = true → q w = true) : wrongD a b = 0 ∧ Valid (opD minusB a b) ∧ (opD minusB a b).next.length ≤ 4095 ∧ (order (prodD minusB a b)).length ≤ 4096 ∧ ∀ r, LeastA (opD minusB a b) r → r = none := by
  have hm := ha.op (f := minusB) hb hN
  have hE : ∀ w, WdV n w → minusB (p w) (q w) = false := fun w hw => by
    unfold minusB
    cases hp : p w with
    | false => rfl
    | true => rw [h w hw hp]; rfl
  have h1 := (hm.empty.2 hE).1
  refine ⟨ha.wrong hb, hm.valid, by omega, Nat.le_trans (pr_order_le ha.valid.toVal hb.valid.toVal (by rw [ha.vars, hb.vars])) (ha.mulLe hb hN), fun r hr => (LeastA.none_iff hm.toHasL hr).2 hE⟩
theorem Sh.h6 {a : DFA} (hv : Valid a) (hn : a.next.length ≤ 6) : HasL a.vars 6 a (acc a) := HasL.of hv hn
theorem dual_bad {a : DFA} {v : Int} (sa : Sh a) (he : xsE a v 4096 ≠ 0) : alE a v 4096 = xsE a v 4096 := (var_bad sa he).1
structure DualF (a : DFA) (v u : Int) (A B N M : DFA) : Prop where
  va : Valid a
  eB : alE a v 4096 = 0
  vN : Valid N
  lN : N.next.length ≤ 64
  eM : xsE N v 4096 = 0
  vM : Valid M
  nM : minD (flipD M) = B
  vA : Valid A
  lA : A.next.length ≤ 64
  vB : Valid B
  eT : xsE A v 4096 = 0
  tw : xsV A v 4096 = A
  gA : vE A v = 0
  gB : vE B v = 0
  iA : igV A v = true
  iB : igV B v = true
  up : wrongD a A = 0 ∧ Valid (opD minusB a A) ∧ (opD minusB a A).next.length ≤ 4095 ∧ (order (prodD minusB a A)).length ≤ 4096 ∧ ∀ r, LeastA (opD minusB a A) r → r = none
  dn : wrongD B a = 0 ∧ Valid (opD minusB B a) ∧ (opD minusB B a).next.length ≤ 4095 ∧ (order (prodD minusB B a)).length ≤ 4096 ∧ ∀ r, LeastA (opD minusB B a) r → r = none
  cu : xsE a u 4096 ≠ 0 → xsE a u 4096 = 7
  cl : xsE a u 4096 = 0 → (xsV a u 4096).next.length ≤ 64
  cs : xsE a u 4096 = 0 → (xsE (xsV a u 4096) v 4096 = 0 ∨ xsE (xsV a u 4096) v 4096 = 10) ∧ (xsE A u 4096 = 0 ∨ xsE A u 4096 = 10)
  ce : xsE a u 4096 = 0 → xsE (xsV a u 4096) v 4096 = 0 → xsE A u 4096 = 0 → xsV (xsV a u 4096) v 4096 = xsV A u 4096
theorem dual_ok {a : DFA} {v u : Int} (hn : a.next.length ≤ 6) (he : xsE a v 4096 = 0) : DualF a v u (xsV a v 4096) (alV a v 4096) (minD (flipD a)) (xsV (minD (flipD a)) v 4096) := by
  obtain ⟨hve, _⟩ := xsE_zero he
  obtain ⟨hv, h0, h1⟩ := vE_zero.1 hve
  have H : HasL a.vars 6 a (acc a) := HasL.of hv hn
  obtain ⟨g1, g2, g3, g4⟩ := vE_to H hve
  obtain ⟨_, hA⟩ := xs_six H hve
  obtain ⟨hal, hBe, hNe, hM, hB⟩ := al_six H hve
  have hN := H.nV
  have gA : vE (xsV a v 4096) v = 0 := by rw [vE_same hA.toHasL H]; exact hve
  have gB : vE (alV a v 4096) v = 0 := by rw [vE_same hB.toHasL H]; exact hve
  have pA : IgnP a.vars v.toNat (exP v.toNat (acc a)) := exP_ign H g3 _
  have pB : IgnP a.vars v.toNat (fun w => !exP v.toNat (fun w => !acc a w) w) := fun x z hx hz => by
    show (!_) = (!_)
    rw [exP_ign H g3 (fun w => !acc a w) x z hx hz]
  have hTn : ∀ i, (psN (xsV a v 4096) v.toNat i).length ≤ 64 := fun i => ig_one hA (by decide) gA pA i
  have eT : xsE (xsV a v 4096) v 4096 = 0 := by
    have := hTn ((4096 : Int).toNat + 1)
    unfold xsE
    rw [if_neg (by omega), if_neg (by omega), if_neg (by omega)]
  have hT := MinL.xsV hA.toHasL (by decide) eT
  refine { va := hv, eB := hal, vN := hN.valid, lN := Nat.le_trans hN.len (by decide), eM := hNe, vM := hM.valid, nM := hBe.symm, vA := hA.valid, lA := hA.len, vB := hB.valid, eT := eT, tw := ?_, gA := gA, gB := gB, iA := (igV_iff hA.toHasL gA).2 pA, iB := (igV_iff hB.toHasL gB).2 pB, up := ?_, dn := ?_, cu := ?_, cl := ?_, cs := ?_, ce := ?_ }
  · exact hT.ext hA fun w hw => exP_twice H g3 _ hw
  · exact incl_yes H hA.toHasL (by decide) fun w hw hp => exP_refl H g4 hw hp
  · refine incl_yes hB.toHasL H (by decide) fun w hw hp => ?_
    cases hc : acc a w with
    | true => rfl
    | false =>
      have : exP v.toNat (fun w => !acc a w) w = true := exP_refl H.flipP g4 hw (by show (!acc a w) = true; rw [hc]; rfl)
      rw [this] at hp; cases hp
  · intro hu
    have h8 : HasL a.vars 8 a (acc a) := HasL.of hv (by omega)
    rw [xsE_few h8 (Nat.le_refl _)] at hu ⊢
    exact vE_seven H hu
  · intro hu
    exact (xs_six H (xsE_zero hu).1).2.len
  · intro hu
    obtain ⟨_, hC⟩ := xs_six H (xsE_zero hu).1
    exact ⟨xsE_two hC.toHasL (by rw [vE_same hC.toHasL H]; exact hve), xsE_two hA.toHasL (by rw [vE_same hA.toHasL H]; exact (xsE_zero hu).1)⟩
  · intro hu h2 h3
    have hue := (xsE_zero hu).1
    obtain ⟨_, _, k3, _⟩ := vE_to H hue
    obtain ⟨_, hC⟩ := xs_six H hue
    exact (MinL.xsV hC.toHasL (by decide) h2).ext (MinL.xsV hA.toHasL (by decide) h3) fun w hw => exP_comm H g3 k3 _ hw
end Go.Lx


namespace Go.Lx
open Go.RowKit Go.ChangeShapes Go.WideShapes Go.Deep
section
variable {H : Type} {enc : TypeId × Value → H} {P : Program}
theorem TrodAll_stays (hl : laidOutB P = true) {W W' : World} {sp' : Nat → Bool} : ∀ {ts : List TypeId} {vs : List Value} {ds : List (DataW H)} {ps : List MemPlace},
    (∀ t ∈ ts, P.readableRec t = true ∧ t < P.types.size) → DataW.TrodAll enc P W 0 (fun _ => true) true ts vs ds ps → (∀ p ∈ ps, W.sameAt W' p) → (∀ p ∈ ps, sp' p.block = true) → DataW.TrodAll enc P W' 0 sp' true ts vs ds ps
  | [], _, _, _, _, h, _, _ => by
    obtain ⟨rfl, rfl, rfl⟩ := trodAll_nil h
    rfl
  | t :: ts, _, _, _, hr, h, hs, hsp => by
    obtain ⟨v, vs1, d, ds1, p, q, rfl, rfl, rfl, h1, h2⟩ := trodAll_cons h
    have ht := hr t (by simp)
    exact ⟨p, q, WideElems.Trod_stays hl ht.1 ht.2 h1 (fun x hx => hs x (List.mem_append_left _ hx)) (fun x hx => hsp x (List.mem_append_left _ hx)),
      TrodAll_stays hl (fun t ht => hr t (by simp [ht])) h2 (fun x hx => hs x (List.mem_append_right _ hx)) (fun x hx => hsp x (List.mem_append_right _ hx)), rfl⟩
theorem post_law {f : Func} {s : ChangeSpec} {W W' : World} {args : Array Value} {ds gs : List (DataW H)} {before : List MemPlace} {tb : TypeId}
    (hl : laidOutB P = true) (hr : ∀ t ∈ f.params.toList, P.readableRec t = true ∧ t < P.types.size) (hres : f.resultTypes = #[tb]) (hb : P.underlying tb = some .bool) (hv : s.vars = [])
    (hW : DataW.Whole enc P f.params.toList s.vars false W args.toList ds gs before)
    (h1 : (s.fn H ds).results = [.lit (.bool true)]) (h2 : (s.fn H ds).args = ds) (h3 : (s.fn H ds).vars = [])
    (hB : Below W.heap.size W W') : s.post enc P f false true false false W args (.bool true) W' := by
  have hW0 := hW
  obtain ⟨p, q, hA, hV, rfl, hz, hn⟩ := hW
  rw [hv] at hV
  obtain ⟨rfl, rfl⟩ := trodVars_none hV
  simp only [List.append_nil] at hW0 hz hn
  have hlt := hW0.lt
  have hsame : ∀ x ∈ p, W.sameAt W' x := fun x hx => hB.same (hlt x hx)
  have hargs : ∀ sp : Nat → Bool, (∀ x ∈ p, sp x.block = true) → DataW.TrodAll enc P W' 0 sp true f.params.toList args.toList (s.fn H (ds ++ [])).args p := fun sp hsp => by
    rw [List.append_nil, h2]
    exact TrodAll_stays hl hr hA hsame hsp
  have hvars : ∀ sp : Nat → Bool, DataW.TrodVars enc P W' sp s.vars (s.fn H (ds ++ [])).vars [] := fun sp => by
    rw [List.append_nil, hv, h3]; rfl
  have hresult : ∀ (b : Nat) (sp : Nat → Bool) (hd : Bool), DataW.TrodAll enc P W' b sp hd f.resultTypes.toList ((Value.bool true).resultList f.resultTypes.size) (s.fn H (ds ++ [])).results [] := fun b sp hd => by
    rw [List.append_nil, h1, hres]
    exact trodAll_cons_mk (shut_bool hb _) trodAll_mk0
  have hold : ∀ x ∈ p, (fun b => decide (b < W.heap.size)) x.block = true := fun x hx => by simpa using hlt x hx
  refine ⟨ds, [], p, [], p, [], hW0, hresult _ _ _, hargs _ hold, hvars _, World.keptBut_mono (fun x hx => ⟨hx, ?_⟩) (hB.frame _), fun _ => ?_⟩
  · exact Or.inr (by simpa using hx)
  · refine ⟨ok_one hres rfl (okWide_bool_mk hb _), _, _, ([] ++ p) ++ [], ⟨[] ++ p, [], trodAll_append (hargs _ (fun _ _ => rfl)) (hresult _ _ _), hvars _, rfl, ?_, ?_⟩, ?_⟩
    · intro b off hx
      have hx' : MemPlace.cell b off ∈ p := by simpa using hx
      rw [hB.frozen (p := ⟨b, off, none⟩) (hlt _ hx')]
      exact hz b off hx'
    · intro ha; cases ha
    · intro x hx _
      simpa using hx
theorem spotNone {w : World} {a : Addr} {v : Value} (h : w.cell? a = some v) : a.spot = none := by
  unfold World.cell? at h
  cases e : a.spot with
  | none => rfl
  | some x => rw [e] at h; split at h <;> simp at h
theorem Sl.ofCells {w : World} {a : Addr} {cs : List Value} (h : ∀ i (hi : i < cs.length), w.cell? (a.add i) = some cs[i]) : Sl w (some a) cs := fun i hi => by
  have h0 := h 0 (by omega)
  have h1 := h i hi
  have h2 : a.spot = none := spotNone (a := a) (by simpa [Addr.add] using h0)
  refine ⟨a, rfl, h2, ?_⟩
  have e : a.add i = ⟨a.block, a.off + i, none⟩ := by
    unfold Addr.add
    split
    · rename_i h; subst h
      cases a with
      | mk b o s => simp at h2; subst h2; rfl
    · rfl
  rw [← e]; exact h1
structure DfaIn (P : Program) (W : World) (v : Value) (d : DFA) (nb fb : Option Addr) (nc fc : Nat) (vs : List Value) : Prop where
  val : v = .agg (dfaCells d nb nc fb fc).toArray
  at_ : DfaAt W d nb vs fb
  n : d.next.length ≤ reachBytes
  r : ∀ r ∈ d.next, r.length ≤ reachBytes
  f : d.final.length ≤ reachBytes
  fcap : d.final.length ≤ fc
  rcap : ∀ (i : Nat) (b : Option Addr) (n c : Nat), vs[i]? = some (Value.slice b n c) → n ≤ c
theorem weights_all (e : TypeId) : ∀ {l : List (DataW H)} {d : DataW H}, d ∈ l → ∀ m ∈ d.weights P e, m ∈ DataW.weightsAll P e l
  | [], _, h, _, _ => by cases h
  | x :: l, d, h, m, hm => by
    rw [DataW.weightsAll, List.mem_append]
    rcases List.mem_cons.1 h with rfl | h
    · exact .inl hm
    · exact .inr (weights_all e h m hm)
theorem slice_bound {t e : TypeId} {elems spare : List (DataW H)} (ht : P.underlying t = some (.slice e)) (he : 0 < P.bytesOf e) (h : ∀ m ∈ (DataW.slice elems spare).weights P t, m ≤ reachBytes) :
    elems.length ≤ reachBytes ∧ ∀ d ∈ elems, ∀ m ∈ d.weights P e, m ≤ reachBytes := by
  have hw : (DataW.slice elems spare).weights P t = (elems.length + spare.length) * P.bytesOf e :: (DataW.weightsAll P e elems ++ DataW.weightsAll P e spare) := by
    rw [DataW.weights, ht]
  rw [hw] at h
  refine ⟨?_, fun d hd m hm => h m (List.mem_cons_of_mem _ (List.mem_append_left _ (weights_all e hd m hm)))⟩
  have h1 := h _ List.mem_cons_self
  have h2 := Nat.mul_le_mul_left (elems.length + spare.length) (show 1 ≤ P.bytesOf e from he)
  omega
theorem intsOf {w : World} {A : Option Addr} {L C : Nat} {Z : List Int} (hL : L ≤ C) (hZ : Z.length = C) (h0 : A = none → C = 0) (h : ∀ a', A = some a' → 0 ≤ a'.block ∧ ∀ c, c < C → w.cell? (a'.add c) = some (.int .i64 (Z.getD c 0))) :
    (Z.take L).length = L ∧ Sl w A (ints (Z.take L)) := by
  have hl : (Z.take L).length = L := by rw [List.length_take]; omega
  refine ⟨hl, ?_⟩
  cases A with
  | none =>
    have := h0 rfl
    have : Z.take L = [] := List.eq_nil_of_length_eq_zero (by omega)
    rw [this]; exact Sl.nil _ _
  | some a =>
    refine Sl.ofCells fun i hi => ?_
    have hi' : i < L := by rw [List.length_map, hl] at hi; exact hi
    have hiz : i < Z.length := by omega
    rw [(h a rfl).2 i (by omega), List.getElem_map, List.getElem_take]
    simp [hiz]
theorem open_dfa {t ti tn tr tf tb : TypeId} {f0 f1 f2 f3 : Field} {W : World} {v : Value} {d : DataW H} {p : List MemPlace}
    (ht : P.underlying t = some (.struct #[f0, f1, f2, f3])) (hc : P.cellsOf t = 4) (h0 : f0.type = ti) (h1 : f1.type = ti) (h2 : f2.type = tn) (h3 : f3.type = tf) (o0 : f0.offset = 0) (o1 : f1.offset = 1) (o2 : f2.offset = 2) (o3 : f3.offset = 3)
    (hi : P.underlying ti = some (.int .i64)) (hn : P.underlying tn = some (.slice tr)) (hrow : P.underlying tr = some (.slice ti)) (hf : P.underlying tf = some (.slice tb)) (hb : P.underlying tb = some .bool)
    (ci : P.cellsOf ti = 1) (cn : P.cellsOf tn = 1) (cr : P.cellsOf tr = 1) (cf : P.cellsOf tf = 1) (cb : P.cellsOf tb = 1) (br : 0 < P.bytesOf tr) (bi : 0 < P.bytesOf ti) (bb : 0 < P.bytesOf tb) (hw : ∀ m ∈ d.weights P t, m ≤ reachBytes)
    (h : DataW.Trod enc P W 0 (fun _ => true) true t v d p) : ∃ D nb fb nc fc vs, DfaIn P W v D nb fb nc fc vs := by
  obtain ⟨fuel, hT⟩ := h
  obtain ⟨xs, n, rfl, hx, hlen, hxl, hfs⟩ := DataW.trod_struct ht hT
  rw [hc] at hlen
  obtain ⟨c0, c1, c2, c3, hcs⟩ : ∃ c0 c1 c2 c3, v.cells.toList = [c0, c1, c2, c3] := by
    match hh : v.cells.toList, hlen with
    | [a, b, c, e], _ => exact ⟨a, b, c, e, rfl⟩
  have hv : v = .agg #[c0, c1, c2, c3] := by
    have hsz : v.cells.size = 4 := by rw [← Array.length_toList, hcs]; rfl
    cases v with
    | agg cs =>
      have : cs.toList = [c0, c1, c2, c3] := hcs
      rw [← Array.toArray_toList (xs := cs), this]
    | _ => simp [Value.cells] at hsz
  rw [hcs] at hfs
  obtain ⟨x0, x1, x2, x3, rfl⟩ : ∃ a b c e, xs = [a, b, c, e] := by
    match xs, hxl with
    | [a, b, c, e], _ => exact ⟨a, b, c, e, rfl⟩
  have g0 := hfs 0 f0 rfl
  have g1 := hfs 1 f1 rfl
  have g2 := hfs 2 f2 rfl
  have g3 := hfs 3 f3 rfl
  rw [h0, o0, ci] at g0
  rw [h1, o1, ci] at g1
  rw [h2, o2, cn] at g2
  rw [h3, o3, cf] at g3
  have hd : d = .agg [x0.1, x1.1, x2.1, x3.1] := congrArg Prod.fst hx
  have hwe : d.weights P t = DataW.weightsEach P [ti, ti, tn, tf] [x0.1, x1.1, x2.1, x3.1] := by
    rw [hd, DataW.weights, ht]
    simp [h0, h1, h2, h3]
  rw [hwe] at hw
  have hw2 : ∀ m ∈ x2.1.weights P tn, m ≤ reachBytes := fun m hm => hw m (DataW.weights_mem_each (j := 2) rfl rfl m hm)
  have hw3 : ∀ m ∈ x3.1.weights P tf, m ≤ reachBytes := fun m hm => hw m (DataW.weights_mem_each (j := 3) rfl rfl m hm)
  obtain ⟨n0, e0, _, _⟩ := DataW.trod_int hi g0
  obtain ⟨n1, e1, _, _⟩ := DataW.trod_int hi g1
  have e0' : c0 = .int .i64 n0 := by simpa using e0
  have e1' : c1 = .int .i64 n1 := by simpa using e1
  subst e0' e1'
  obtain ⟨nb, nc, rows, vs, e2, hnl, hvl, hout, hrows, hrcap⟩ : ∃ (nb : Option Addr) (nc : Nat) (rows : List (List Int)) (vs : List Value), c2 = .slice nb rows.length nc ∧ rows.length ≤ reachBytes ∧ (∀ r ∈ rows, r.length ≤ reachBytes) ∧ Sl W nb vs ∧ RowsR W vs rows ∧ ∀ (i : Nat) (b : Option Addr) (n c : Nat), vs[i]? = some (Value.slice b n c) → n ≤ c := by
    rcases open_int_rows hn hrow hi cr ci g2 with ⟨hcs2, _⟩ | ⟨a, len, cap, A, L, C, Z, hcs2, _, hlc, hcm, hx2, hall⟩
    · exact ⟨none, 0, [], [], by simpa using hcs2, Nat.zero_le _, fun r hr => (List.not_mem_nil hr).elim, Sl.nil _ _, ⟨rfl, fun i r hr => by simp at hr⟩, fun i b n c hr => by simp at hr⟩
    · rw [congrArg Prod.fst hx2] at hw2
      obtain ⟨hwl, hwr⟩ := slice_bound hn br hw2
      have hwl' : len ≤ reachBytes := by simpa using hwl
      have hwrow : ∀ r, r < len → L r ≤ reachBytes := fun r hr => by
        obtain ⟨_, a2, _, a4, _, a6, _⟩ := hall r (by omega)
        have hm := hwr _ (List.mem_map.2 ⟨r, List.mem_range.2 hr, rfl⟩)
        cases hA : A r with
        | none => have := a6 hA; omega
        | some b =>
          rw [hA] at hm
          have := (slice_bound hrow bi hm).1
          simp [lits] at this
          omega
      have hrl : ∀ r, r < len → ((Z r).take (L r)).length = L r ∧ Sl W (A r) (ints ((Z r).take (L r))) := fun r hr => by
        obtain ⟨_, a2, a3, a4, _, a6, a7⟩ := hall r (by omega)
        exact intsOf a2 a4 a6 a7
      refine ⟨some a, cap, (List.range len).map fun r => (Z r).take (L r), (List.range len).map fun r => .slice (A r) (L r) (C r), by simpa using hcs2, by simp; omega, ?_, ?_, ⟨by simp, ?_⟩, ?_⟩
      · intro r hr
        obtain ⟨j, hj, rfl⟩ := List.mem_map.1 hr
        have hj' := List.mem_range.1 hj
        rw [(hrl j hj').1]; exact hwrow j hj'
      · refine Sl.ofCells fun i hi9 => ?_
        have hi' : i < len := by simpa using hi9
        rw [(hall i (by omega)).1]; simp
      · intro i r hr
        have hi' : i < len := by
          have := (List.getElem?_eq_some_iff.1 hr).1
          simpa using this
        have er : r = (Z i).take (L i) := by
          rw [List.getElem?_map, List.getElem?_range hi'] at hr
          exact (Option.some.inj hr).symm
        subst er
        refine ⟨A i, C i, ?_, (hrl i hi').2⟩
        rw [List.getElem?_map, List.getElem?_range hi', (hrl i hi').1]; rfl
      · intro i b n c hr
        by_cases hi' : i < len
        · rw [List.getElem?_map, List.getElem?_range hi'] at hr
          have h9 := Option.some.inj hr
          obtain ⟨_, a2, _⟩ := hall i (by omega)
          injection h9 with _ h10 h11
          omega
        · rw [List.getElem?_eq_none (by simpa using hi')] at hr; cases hr
  obtain ⟨fb, fc, fin, e3, hfl, hfin, hfcap⟩ : ∃ (fb : Option Addr) (fc : Nat) (fin : List Bool), c3 = .slice fb fin.length fc ∧ fin.length ≤ reachBytes ∧ Sl W fb (bools fin) ∧ fin.length ≤ fc := by
    rcases open_bools hf hb cb g3 with ⟨hcs3, _⟩ | ⟨a, len, cap, B, hcs3, _, hlc, hcm, hx3, hall⟩
    · exact ⟨none, 0, [], by simpa using hcs3, Nat.zero_le _, Sl.nil _ _, Nat.zero_le _⟩
    · rw [congrArg Prod.fst hx3] at hw3
      have hwl := (slice_bound hf bb hw3).1
      have hwl' : len ≤ reachBytes := by simpa using hwl
      refine ⟨some a, cap, (List.range len).map B, by simpa using hcs3, by simp; omega, Sl.ofCells fun i hi9 => ?_, by simp; omega⟩
      have hi' : i < len := by simpa using hi9
      rw [hall i (by omega)]; simp
  exact ⟨⟨n0, n1, rows, fin⟩, nb, fb, nc, fc, vs, by rw [hv, e2, e3], ⟨hout, hrows, hfin⟩, hnl, hvl, hfl, hfcap, hrcap⟩
theorem lt63 {n : Nat} (h : n ≤ reachBytes) : n < 9223372036854775807 := Nat.lt_of_le_of_lt h (by decide)
end
end Go.Lx


namespace Go.Lx
open Go.RowKit Go.ChangeShapes Go.WideShapes Go.Deep
section
variable {H : Type} {enc : TypeId × Value → H} {P : Program}
theorem DfaIn.dk {W : World} {v : Value} {d : DFA} {nb fb : Option Addr} {nc fc : Nat} {vs : List Value} (h : DfaIn P W v d nb fb nc fc vs) : ∃ j : DK, v = .agg (dC d j).toArray ∧ At W d j ∧ Bd9 d ∧ CapD d j := by
  obtain ⟨qs, rfl, e⟩ := rows_rec h.at_.rows
  exact ⟨⟨nb, nc, fb, fc, qs⟩, h.val, h.at_, ⟨lt63 h.n, fun r hr => lt63 (h.r r hr), lt63 h.f⟩, ⟨h.fcap, h.rcap⟩⟩
end
end Go.Lx


namespace Go.Proofs.YtohkmggbfcnapaaGreatDoor
open Go.ChangeShapes Go.WideShapes Go.ChangeAt Go.RowKit Go.Lx _root_.Go.Proofs.Tryz
set_option maxRecDepth 100000
theorem own : ownKnob Tryz.prog.godebug = none := by kernel_rfl
theorem laidOut : laidOutB Tryz.prog = true := by kernel_rfl
theorem reads25 : Tryz.prog.readableRec 25 = true := by kernel_rfl
theorem reads3 : Tryz.prog.readableRec 3 = true := by kernel_rfl
theorem lt25 : 25 < Tryz.prog.types.size := of_decide_eq_true (by kernel_rfl)
theorem lt3 : 3 < Tryz.prog.types.size := of_decide_eq_true (by kernel_rfl)
theorem cells_a : Tryz.prog.cellsOf 25 = 4 := by kernel_rfl
theorem cells_b : Tryz.prog.cellsOf 3 = 1 := by kernel_rfl
theorem cells_c : Tryz.prog.cellsOf 22 = 1 := by kernel_rfl
theorem cells_d : Tryz.prog.cellsOf 37 = 1 := by kernel_rfl
theorem cells_e : Tryz.prog.cellsOf 23 = 1 := by kernel_rfl
theorem cells_f : Tryz.prog.cellsOf 4 = 1 := by kernel_rfl
theorem bytes_a : 0 < Tryz.prog.bytesOf 37 := of_decide_eq_true (by kernel_rfl)
theorem bytes_b : 0 < Tryz.prog.bytesOf 3 := of_decide_eq_true (by kernel_rfl)
theorem bytes_c : 0 < Tryz.prog.bytesOf 4 := of_decide_eq_true (by kernel_rfl)
theorem openD {H : Type} {enc : TypeId × Value → H} {W : World} {v : Value} {d : DataW H} {p : List MemPlace} (hw : ∀ m ∈ d.weights Tryz.prog 25, m ≤ reachBytes) (h : DataW.Trod enc Tryz.prog W 0 (fun _ => true) true 25 v d p) : ∃ D nb fb nc fc vs, DfaIn Tryz.prog W v D nb fb nc fc vs :=
  open_dfa underlying25 cells_a rfl rfl rfl rfl rfl rfl rfl rfl underlying3 underlying22 underlying37 underlying23 underlying4 cells_b cells_c cells_d cells_e cells_f bytes_a bytes_b bytes_c hw h
def fillO (cs : Array Value) : Obj → Obj
  | .cells _ t frozen => .cells cs t frozen
  | o => o
noncomputable def laidWorld (os : Os) : World :=
  { World.holding Tryz.prog os ⟨#[], #[], []⟩ with heap := ((((World.holding Tryz.prog os ⟨#[], #[], []⟩).heap.modify 0 (fillO #[.int .u8 0, .int .u8 1, .int .u8 56, .int .u8 2, .int .u8 57, .int .u8 49, .int .u8 28, .int .u8 3, .int .u8 61, .int .u8 58, .int .u8 42, .int .u8 50, .int .u8 38, .int .u8 29, .int .u8 17, .int .u8 4, .int .u8 62, .int .u8 47, .int .u8 59, .int .u8 36, .int .u8 45, .int .u8 43, .int .u8 51, .int .u8 22, .int .u8 53, .int .u8 39, .int .u8 33, .int .u8 30, .int .u8 24, .int .u8 18, .int .u8 12, .int .u8 5, .int .u8 63, .int .u8 55, .int .u8 48, .int .u8 27, .int .u8 60, .int .u8 41, .int .u8 37, .int .u8 16, .int .u8 46, .int .u8 35, .int .u8 44, .int .u8 21, .int .u8 52, .int .u8 32, .int .u8 23, .int .u8 11, .int .u8 54, .int .u8 26, .int .u8 40, .int .u8 15, .int .u8 34, .int .u8 20, .int .u8 31, .int .u8 10, .int .u8 25, .int .u8 14, .int .u8 19, .int .u8 9, .int .u8 13, .int .u8 8, .int .u8 7, .int .u8 6])).modify 1 (fillO #[.int .u64 1, .int .u64 10, .int .u64 100, .int .u64 1000, .int .u64 10000, .int .u64 100000, .int .u64 1000000, .int .u64 10000000, .int .u64 100000000, .int .u64 1000000000, .int .u64 10000000000, .int .u64 100000000000, .int .u64 1000000000000, .int .u64 10000000000000, .int .u64 100000000000000, .int .u64 1000000000000000, .int .u64 10000000000000000, .int .u64 100000000000000000, .int .u64 1000000000000000000, .int .u64 10000000000000000000])).modify 2 (fillO #[.int .u8 0, .int .u8 1, .int .u8 28, .int .u8 2, .int .u8 29, .int .u8 14, .int .u8 24, .int .u8 3, .int .u8 30, .int .u8 22, .int .u8 20, .int .u8 15, .int .u8 25, .int .u8 17, .int .u8 4, .int .u8 8, .int .u8 31, .int .u8 27, .int .u8 13, .int .u8 23, .int .u8 21, .int .u8 19, .int .u8 16, .int .u8 7, .int .u8 26, .int .u8 12, .int .u8 18, .int .u8 6, .int .u8 11, .int .u8 5, .int .u8 10, .int .u8 9])) }
theorem tabOf {W : World} (hL : laidMetH Tryz.prog [("math/bits.deBruijn32tab", Rows.laid_math_bits_deBruijn32tab), ("math/bits.deBruijn64tab", Rows.laid_math_bits_deBruijn64tab), ("internal/strconv.uint64pow10", Rows.laid_internal_strconv_uint64pow10)] W) : Tab Tryz.prog W := by
  have h : laidMet Tryz.prog [("math/bits.deBruijn32tab", Rows.laid_math_bits_deBruijn32tab), ("math/bits.deBruijn64tab", Rows.laid_math_bits_deBruijn64tab), ("internal/strconv.uint64pow10", Rows.laid_internal_strconv_uint64pow10)] W := hL
  obtain ⟨ps, h, _⟩ := h
  have hz := h
  obtain ⟨_, h⟩ := laidVars_tail h
  obtain ⟨_, h⟩ := laidVars_tail h
  obtain ⟨_, hz⟩ := laidVars_tail hz
  exact Tab.of (tabIs_of_vars (g := 1) (t := 179) (e := 107) (n := 20) (by kernel_rfl) (by kernel_rfl) (by kernel_rfl) underlying179 underlying107 (by kernel_rfl) (by kernel_rfl) h) (.inr (tabIs_of_vars (g := 0) (t := 163) (e := 5) (n := 64) (by kernel_rfl) (by kernel_rfl) (by kernel_rfl) underlying163 underlying5 (by kernel_rfl) (by kernel_rfl) hz))
end Go.Proofs.YtohkmggbfcnapaaGreatDoor


/- Contracts of functions of the program (Min): what each call answers and that it leaves memory as it was. Conditions: those each theorem names. -/
import Derived.Test.YthfemndklplpbaaDoorCheck
import Derived.Test.YthfemndklplpbaaDoorStr
import Derived.Test.YthfemndklplpbaaDoorPart
set_option linter.unusedSectionVars false
set_option linter.unusedSimpArgs false
set_option linter.unusedVariables false
set_option linter.unnecessarySimpa false
namespace Go.Proofs.YthfemndklplpbaaDoor
open Go.Lx Go.RowKit
set_option linter.unusedVariables false
set_option linter.unusedSimpArgs false

set_option maxHeartbeats 1000000 in
set_option maxRecDepth 20000 in
theorem giveHit (base : World) (bx m : Nat) (ks : List (List UInt8)) (key : List UInt8) (hk : key ∈ ks) (hb : ks.length < 1000000) :
    CallT Tryd.prog base 61 [str key, .pointer (some ⟨bx, 0, none⟩)] [objI bx (.cells #[.map (some m)] 92 (0, 0)), mapI str (fun n : Nat => Value.int .i64 (n : Int)) m ks.zipIdx] (fun v O' => v = .int .i64 ((ix key (add ks key) : Nat) : Int) ∧ O' = [objI bx (.cells #[.map (some m)] 92 (0, 0)), mapI str (fun n : Nat => Value.int .i64 (n : Int)) m (add ks key).zipIdx]) := by
  refine CallT.enter Tryd.func61 rfl Tryd.ntmps61 rfl ?_
  refine T.seq ?_
  refine T.region ?_
  refine TO.quiet (q_assign rfl) ?_
  refine TO.nil ?_
  refine T.seq ?_
  refine T.region ?_
  refine TO.quiet (q_load_box 0 Tryd.underlying92 rfl rfl rfl rfl) ?_
  refine TO.quiet (q_move rfl) ?_
  refine TO.quiet (QT.cast (q_lookupOk (a := key) Tryd.underlying92 inf3 (KeyOk.string Tryd.underlying9) rfl rfl (List.mem_of_getElem? (i := 1) rfl)) (v' := (.tuple #[.int .i64 ((ix key ks : Nat) : Int), .bool true])) (by rw [look_zip]; simp [hk])) ?_
  refine TO.quiet (q_move rfl) ?_
  refine TO.quiet (q_extract (vs := _) rfl rfl) ?_
  refine TO.quiet (q_extract (vs := _) rfl rfl) ?_
  refine TO.quiet (q_assign rfl) ?_
  refine TO.quiet (q_assign rfl) ?_
  refine TO.nil ?_
  refine T.seq ?_
  refine T.seq ?_
  refine T.region ?_
  refine TO.quiet (q_move rfl) ?_
  refine TO.quiet (q_not rfl) ?_
  refine TO.nil ?_
  refine T.cond0 rfl ?_
  refine T.skip ?_
  refine T.seq ?_
  refine T.region ?_
  refine TO.quiet (q_move rfl) ?_
  refine TO.quiet (q_assign rfl) ?_
  refine TO.nil ?_
  refine T.ret ?_
  refine Res.one (.int .i64 ((ix key ks : Nat) : Int)) Tryd.results61 rfl ?_
  have ha : add ks key = ks := if_pos hk
  rw [ha]; exact ⟨rfl, rfl⟩

set_option maxHeartbeats 1000000 in
set_option maxRecDepth 20000 in
theorem giveMiss (base : World) (bx m : Nat) (ks : List (List UInt8)) (key : List UInt8) (hk : key ∉ ks) (hb : ks.length < 1000000) :
    CallT Tryd.prog base 61 [str key, .pointer (some ⟨bx, 0, none⟩)] [objI bx (.cells #[.map (some m)] 92 (0, 0)), mapI str (fun n : Nat => Value.int .i64 (n : Int)) m ks.zipIdx] (fun v O' => v = .int .i64 ((ix key (add ks key) : Nat) : Int) ∧ O' = [objI bx (.cells #[.map (some m)] 92 (0, 0)), mapI str (fun n : Nat => Value.int .i64 (n : Int)) m (add ks key).zipIdx]) := by
  refine CallT.enter Tryd.func61 rfl Tryd.ntmps61 rfl ?_
  refine T.seq ?_
  refine T.region ?_
  refine TO.quiet (q_assign rfl) ?_
  refine TO.nil ?_
  refine T.seq ?_
  refine T.region ?_
  refine TO.quiet (q_load_box 0 Tryd.underlying92 rfl rfl rfl rfl) ?_
  refine TO.quiet (q_move rfl) ?_
  refine TO.quiet (QT.cast (q_lookupOk (a := key) Tryd.underlying92 inf3 (KeyOk.string Tryd.underlying9) rfl rfl (List.mem_of_getElem? (i := 1) rfl)) (v' := (.tuple #[.int .i64 0, .bool false])) (by rw [look_zip]; simp [hk])) ?_
  refine TO.quiet (q_move rfl) ?_
  refine TO.quiet (q_extract (vs := _) rfl rfl) ?_
  refine TO.quiet (q_extract (vs := _) rfl rfl) ?_
  refine TO.quiet (q_assign rfl) ?_
  refine TO.quiet (q_assign rfl) ?_
  refine TO.nil ?_
  refine T.seq ?_
  refine T.seq ?_
  refine T.region ?_
  refine TO.quiet (q_move rfl) ?_
  refine TO.quiet (q_not rfl) ?_
  refine TO.nil ?_
  refine T.cond1 rfl ?_
  refine T.seq ?_
  refine T.region ?_
  refine TO.quiet (q_load_box 0 Tryd.underlying92 rfl rfl rfl rfl) ?_
  refine TO.quiet (QT.cast (q_lenMap Tryd.underlying92 rfl (List.mem_of_getElem? (i := 1) rfl)) (v' := .int .i64 ((ks.length : Nat) : Int)) (by simp)) ?_
  refine TO.quiet (q_assign rfl) ?_
  refine TO.nil ?_
  refine T.region ?_
  refine TO.quiet (q_load_box 0 Tryd.underlying92 rfl rfl rfl rfl) ?_
  refine TO.quiet (q_move rfl) ?_
  refine TO.quiet (q_move rfl) ?_
  refine TO.loud rfl (l_mapPut (a := key) (v := ks.length) 1 Tryd.underlying92 (KeyOk.string Tryd.underlying9) rfl rfl rfl rfl (by rw [zipIdx_fst]; exact hk) ?_)
  refine TO.nil ?_
  refine T.seq ?_
  refine T.region ?_
  refine TO.quiet (q_move rfl) ?_
  refine TO.quiet (q_assign rfl) ?_
  refine TO.nil ?_
  refine T.ret ?_
  refine Res.one (.int .i64 ((ks.length : Nat) : Int)) Tryd.results61 rfl ?_
  have ha : add ks key = ks ++ [key] := if_neg hk
  rw [ha]
  refine ⟨by rw [ix_append_right hk]; simp [ix], ?_⟩
  rw [show (ks ++ [key]).zipIdx = ks.zipIdx ++ [(key, ks.length)] by rw [List.zipIdx_append]; simp]; rfl

theorem give (base : World) (bx m : Nat) (ks : List (List UInt8)) (key : List UInt8) (hb : ks.length < 1000000) :
    CallT Tryd.prog base 61 [str key, .pointer (some ⟨bx, 0, none⟩)] [objI bx (.cells #[.map (some m)] 92 (0, 0)), mapI str (fun n : Nat => Value.int .i64 (n : Int)) m ks.zipIdx] (fun v O' => v = .int .i64 ((ix key (add ks key) : Nat) : Int) ∧ O' = [objI bx (.cells #[.map (some m)] 92 (0, 0)), mapI str (fun n : Nat => Value.int .i64 (n : Int)) m (add ks key).zipIdx]) := by
  by_cases hk : key ∈ ks
  · exact giveHit base bx m ks key hk hb
  · exact giveMiss base bx m ks key hk hb

set_option maxHeartbeats 1000000 in
set_option maxRecDepth 20000 in
theorem rowsF (w : World) (d : DFA) (nb fb : Option Addr) (nc fc : Nat) : PureT Tryd.prog 42 [.agg (dfaCells d nb nc fb fc).toArray] w fun v N => ∃ b, v = .func (.func 60) #[] #[.pointer (some ⟨b, 0, none⟩)] ∧ N = [objI b (.cells (List.toArray [(.int .i64 d.vars), (.int .i64 d.start), (.slice nb d.next.length nc), (.slice fb d.final.length fc)]) 25 (0, 0))] := by
  refine CallT.enter Tryd.func42 rfl Tryd.ntmps42 rfl ?_
  refine T.seq ?_
  refine T.region ?_
  refine TO.loud rfl (l_box (v := (.agg #[(.int .i64 d.vars), (.int .i64 d.start), (.slice nb d.next.length nc), (.slice fb d.final.length fc)])) (cs := [(.int .i64 d.vars), (.int .i64 d.start), (.slice nb d.next.length nc), (.slice fb d.final.length fc)]) rfl rfl (fun b1 => ?_))
  refine TO.quiet (q_assign rfl) ?_
  refine TO.nil ?_
  refine T.seq ?_
  refine T.region ?_
  refine TO.quiet (q_makeFunc) ?_
  refine TO.quiet (q_assign rfl) ?_
  refine TO.nil ?_
  refine T.ret ?_
  refine Res.one (.func (.func 60) #[] #[(.pointer (some ⟨b1, 0, none⟩))]) Tryd.results42 rfl ?_
  exact ⟨b1, rfl, rfl⟩

set_option maxHeartbeats 1000000 in
set_option maxRecDepth 20000 in
theorem rows1 (base : World) (d : DFA) (nb fb : Option Addr) (nc fc : Nat) (vs : List Value) (h : DfaAt base d nb vs fb) (hb : d.next.length < 9223372036854775807) (bx : Nat) (yv : Value) (J : Nat → List Lx.Item → Prop) (Q : List Lx.Item → Prop)
    (hy : ∀ k (hk : k < d.next.length) (vb : Option Addr) (vc : Nat) (O : List Lx.Item), vs[k]? = some (.slice vb d.next[k].length vc) → Sl base vb (ints d.next[k]) → J k O →
      CallV Tryd.prog base yv [.int .i64 (k : Int), .slice vb d.next[k].length vc] O (fun v O' => (v = .bool true ∧ J (k + 1) O') ∨ (v = .bool false ∧ Q O')))
    (O : List Lx.Item) (h0 : J 0 O) : CallT Tryd.prog base 60 [yv, .pointer (some ⟨bx, 0, none⟩)] (objI bx (.cells (List.toArray [(.int .i64 d.vars), (.int .i64 d.start), (.slice nb d.next.length nc), (.slice fb d.final.length fc)]) 25 (0, 0)) :: O) (fun _ O' => J d.next.length O' ∨ Q O') := by
  refine CallT.enter Tryd.func60 rfl Tryd.ntmps60 rfl ?_
  have hvl := h.rows.1
  refine T.seq ?_
  refine T.region ?_
  refine TO.quiet (q_fieldAddr Tryd.underlying25 rfl inf22 rfl rfl) ?_
  refine TO.quiet (q_load_box 0 Tryd.underlying22 rfl rfl rfl rfl) ?_
  refine TO.quiet (q_len Tryd.underlying22 rfl) ?_
  refine TO.quiet (q_move rfl) ?_
  refine TO.nil ?_
  refine T.block ?_
  refine T.loop (fun (k : Nat) ρ O => ∃ (O1 : List Lx.Item), O = ([objI bx (.cells (List.toArray [(.int .i64 d.vars), (.int .i64 d.start), (.slice nb d.next.length nc), (.slice fb d.final.length fc)]) 25 (0, 0))] ++ O1) ∧ k ≤ d.next.length ∧ J k O1 ∧ Heads [(0, yv), (1, (.pointer (some ⟨bx, 0, none⟩))), (6, (.slice nb d.next.length nc)), (7, .int .i64 (d.next.length : Int)), (8, .int .i64 (k : Int))] ρ) (fun k => d.next.length - k) 0 ?_ ?_
  · exact ⟨O, rfl, Nat.zero_le _, h0, ⟨rfl, rfl, rfl, rfl, rfl, trivial⟩⟩
  · rintro k ρ O ⟨O1, rfl, hk, hJ, hH⟩
    obtain ⟨ρ0, rfl⟩ := hH.elim
    clear hH
    refine T.seq ?_
    refine T.region ?_
    refine TO.quiet (q_lss rfl rfl) ?_
    refine TO.nil ?_
    refine T.seq ?_
    refine T.condP rfl (fun hc => ?_) (fun hc => ?_)
    · have hlt9 : k < d.next.length := by omega
      obtain ⟨vb, vc, g1, s1⟩ := h.rows.get hlt9
      refine T.skip ?_
      refine T.seq ?_
      refine T.block ?_
      refine T.seq ?_
      refine T.region ?_
      refine TO.quiet (q_move rfl) ?_
      refine TO.quiet (q_ix (i := k) Tryd.underlying22 inf33 rfl rfl (Sl.o h.outer) (by first | assumption | omega | (simp; omega) | simp_all) (by first | omega | (simp; done) | (simp; omega) | (simp_all; done) | (simp_all; omega))) ?_
      refine TO.quiet (q_ld Tryd.underlying33 rfl rfl (Sl.o h.outer) g1) ?_
      refine TO.quiet (q_assign rfl) ?_
      refine TO.quiet (q_assign rfl) ?_
      refine TO.nil ?_
      refine T.seq ?_
      refine T.region ?_
      refine TO.quiet (q_move rfl) ?_
      refine TO.quiet (q_move rfl) ?_
      refine TO.quiet (q_move rfl) ?_
      have hk16 := CallV.under (B := [objI bx (.cells (List.toArray [(.int .i64 d.vars), (.int .i64 d.start), (.slice nb d.next.length nc), (.slice fb d.final.length fc)]) 25 (0, 0))]) (O := ([objI bx (.cells (List.toArray [(.int .i64 d.vars), (.int .i64 d.start), (.slice nb d.next.length nc), (.slice fb d.final.length fc)]) 25 (0, 0))] ++ O1)) (hy k hlt9 vb vc O1 g1 s1 hJ) (Sub.cnt [] (by intro a; simp only [List.set_cons_zero, List.set_cons_succ, putL, List.cons_append, List.nil_append, List.append_nil, List.append_assoc, List.map_append, List.map_cons, List.map_nil, cnt_append, cnt_cons, cnt_nil] <;> omega))
      refine TO.loud rfl (l_callG hk16 rfl rfl ?_)
      clear hk16
      rintro v O' ⟨O2, rfl, ⟨rfl, hJ2⟩ | ⟨rfl, hQ2⟩⟩
      · refine TO.quiet (q_not rfl) ?_
        refine TO.nil ?_
        refine T.cond0 rfl ?_
        refine T.skip ?_
        refine T.sub (O' := objI bx (.cells (List.toArray [(.int .i64 d.vars), (.int .i64 d.start), (.slice nb d.next.length nc), (.slice fb d.final.length fc)]) 25 (0, 0)) :: O2) (Sub.cnt [] (by intro a; simp only [List.set_cons_zero, List.set_cons_succ, putL, List.cons_append, List.nil_append, List.append_nil, List.append_assoc, List.map_append, List.map_cons, List.map_nil, cnt_append, cnt_cons, cnt_nil] <;> omega)) ?_
        refine T.region ?_
        refine TO.quiet (q_inc rfl rfl (by omega)) ?_
        refine TO.quiet (q_move rfl) ?_
        refine TO.nil ?_
        exact ⟨k + 1, by omega, O2, rfl, by omega, hJ2, ⟨rfl, rfl, rfl, rfl, rfl, trivial⟩⟩
      · refine TO.quiet (q_not rfl) ?_
        refine TO.nil ?_
        refine T.cond1 rfl ?_
        refine T.ret ?_
        refine Res.drop ?_
        refine Res.zero Tryd.results60 ?_
        exact ⟨O2, Sub.cnt [objI bx (.cells (List.toArray [(.int .i64 d.vars), (.int .i64 d.start), (.slice nb d.next.length nc), (.slice fb d.final.length fc)]) 25 (0, 0))] (by intro a; simp only [List.set_cons_zero, List.set_cons_succ, putL, List.cons_append, List.nil_append, List.append_nil, List.append_assoc, List.map_append, List.map_cons, List.map_nil, cnt_append, cnt_cons, cnt_nil] <;> omega), .inr hQ2⟩
    · have hge9 : ¬ k < d.next.length := by omega
      refine T.exit ?_
      refine Res.drop ?_
      refine Res.zero Tryd.results60 ?_
      have hke : k = d.next.length := by omega
      subst hke
      exact ⟨O1, Sub.cnt [objI bx (.cells (List.toArray [(.int .i64 d.vars), (.int .i64 d.start), (.slice nb d.next.length nc), (.slice fb d.final.length fc)]) 25 (0, 0))] (by intro a; simp only [List.set_cons_zero, List.set_cons_succ, putL, List.cons_append, List.nil_append, List.append_nil, List.append_assoc, List.map_append, List.map_cons, List.map_nil, cnt_append, cnt_cons, cnt_nil] <;> omega), .inl hJ⟩

set_option maxHeartbeats 1000000 in
set_option maxRecDepth 20000 in
theorem refineC (w : World) (d : DFA) (nb fb : Option Addr) (nc fc : Nat) (vs : List Value) (h : DfaAt w d nb vs fb) (hv : Valid d) (cb : Option Addr) (cc : Nat) (cs : List Nat) (hcs : Sl w cb (nats cs)) (hcl : cs.length = d.next.length) (hc9 : ∀ x ∈ cs, x < 100) :
    PureT Tryd.prog 44 [.agg (dfaCells d nb nc fb fc).toArray, .slice cb d.next.length cc] w fun v N => ∃ b c, v = .slice b d.next.length c ∧ N = [rowI b c 3 1 (nats (refineF d cs))] := by
  refine CallT.enter Tryd.func44 rfl Tryd.ntmps44 rfl ?_
  have hb : d.next.length < 9223372036854775807 := by have := hv.n4; omega
  have hvl := h.rows.1
  have hn4 := hv.n4
  refine T.seq ?_
  refine T.region ?_
  refine TO.loud rfl (l_box (v := (.agg #[(.int .i64 d.vars), (.int .i64 d.start), (.slice nb d.next.length nc), (.slice fb d.final.length fc)])) (cs := [(.int .i64 d.vars), (.int .i64 d.start), (.slice nb d.next.length nc), (.slice fb d.final.length fc)]) rfl rfl (fun b1 => ?_))
  refine TO.loud rfl (l_box (v := (.slice cb d.next.length cc)) (cs := [(.slice cb d.next.length cc)]) rfl rfl (fun b2 => ?_))
  refine TO.quiet (q_assign rfl) ?_
  refine TO.nil ?_
  refine T.seq ?_
  refine T.region ?_
  refine TO.loud rfl (l_makeMap str (fun n : Nat => Value.int .i64 (n : Int)) (fun m3 => ?_))
  refine TO.loud rfl (l_alloc inf92 rfl (fun b4 => ?_))
  refine TO.loud rfl (l_store_box (v := (.map (some m3))) (vs := [(.map (some m3))]) 0 inf92 rfl rfl rfl rfl rfl rfl (by simp) ?_)
  refine TO.nil ?_
  refine T.seq ?_
  refine T.region ?_
  refine TO.quiet (q_makeFunc) ?_
  refine TO.loud rfl (l_alloc inf94 rfl (fun b5 => ?_))
  refine TO.loud rfl (l_store_box (v := (.func (.func 61) #[] #[(.pointer (some ⟨b4, 0, none⟩))])) (vs := [(.func (.func 61) #[] #[(.pointer (some ⟨b4, 0, none⟩))])]) 0 inf94 rfl rfl rfl rfl rfl rfl (by simp) ?_)
  refine TO.nil ?_
  refine T.seq ?_
  refine T.region ?_
  refine TO.quiet (q_load_box 3 Tryd.underlying33 rfl rfl rfl rfl) ?_
  refine TO.quiet (q_len Tryd.underlying33 rfl) ?_
  refine TO.loud rfl (l_makeSlice (m := d.next.length) Tryd.underlying33 inf3 rfl rfl (by omega) (by omega) (fun b6 => ?_))
  refine TO.loud rfl (l_alloc inf33 rfl (fun b7 => ?_))
  refine TO.loud rfl (l_store_box (v := (.slice (some ⟨b6, 0, none⟩) d.next.length d.next.length)) (vs := [(.slice (some ⟨b6, 0, none⟩) d.next.length d.next.length)]) 0 inf33 rfl rfl rfl rfl rfl rfl (by simp) ?_)
  refine TO.nil ?_
  refine T.seq ?_
  refine T.seq ?_
  refine T.region ?_
  refine TO.quiet (q_load_boxAgg 6 Tryd.underlying25 rfl inf25 rfl rfl rfl) ?_
  have hk19 := fun (w1 : World) (hI : Inv w [objI b7 (.cells (List.toArray [(.slice (some ⟨b6, 0, none⟩) d.next.length d.next.length)]) 33 (0, 0)), rowI (some ⟨b6, 0, none⟩) d.next.length 3 1 (List.replicate d.next.length (.int .i64 0)), objI b5 (.cells (List.toArray [(.func (.func 61) #[] #[(.pointer (some ⟨b4, 0, none⟩))])]) 94 (0, 0)), objI b4 (.cells (List.toArray [(.map (some m3))]) 92 (0, 0)), mapI str (fun n : Nat => Value.int .i64 (n : Int)) m3 [], objI b2 (.cells (List.toArray [(.slice cb d.next.length cc)]) 33 (0, 0)), objI b1 (.cells (List.toArray [(.int .i64 d.vars), (.int .i64 d.start), (.slice nb d.next.length nc), (.slice fb d.final.length fc)]) 25 (0, 0))] w1) => rowsF w1 d nb fb nc fc
  refine TO.loud rfl (l_call ent42 (CallT.of_pure hk19) rfl ?_)
  clear hk19
  rintro v O' ⟨N, rfl, bR, rfl, rfl⟩
  refine TO.nil ?_
  refine T.block ?_
  refine T.rangeFunc (first := []) (caps := [(.pointer (some ⟨bR, 0, none⟩))]) rfl ent60 (fun l q hq => ?_)
  refine CallT.mono (CallT.sub (O' := objI bR (.cells (List.toArray [(.int .i64 d.vars), (.int .i64 d.start), (.slice nb d.next.length nc), (.slice fb d.final.length fc)]) 25 (0, 0)) :: (objI l (lp q none) :: [objI b7 (.cells (List.toArray [(.slice (some ⟨b6, 0, none⟩) d.next.length d.next.length)]) 33 (0, 0)), rowI (some ⟨b6, 0, none⟩) d.next.length 3 1 (List.replicate d.next.length (.int .i64 0)), objI b5 (.cells (List.toArray [(.func (.func 61) #[] #[(.pointer (some ⟨b4, 0, none⟩))])]) 94 (0, 0)), objI b4 (.cells (List.toArray [(.map (some m3))]) 92 (0, 0)), mapI str (fun n : Nat => Value.int .i64 (n : Int)) m3 [], objI b2 (.cells (List.toArray [(.slice cb d.next.length cc)]) 33 (0, 0)), objI b1 (.cells (List.toArray [(.int .i64 d.vars), (.int .i64 d.start), (.slice nb d.next.length nc), (.slice fb d.final.length fc)]) 25 (0, 0))])) (Sub.pick [1, 0, 0, 0, 0, 0, 0, 0, 0] rfl) (rows1 w d nb fb nc fc vs h hb bR (.func (.yield l) #[] #[]) (fun k O => ∃ (xs : List Nat) (ks : List (List UInt8)), O = objI l (lp q none) :: [objI b7 (.cells (List.toArray [(.slice (some ⟨b6, 0, none⟩) d.next.length d.next.length)]) 33 (0, 0)), rowI (some ⟨b6, 0, none⟩) d.next.length 3 1 (nats xs), objI b5 (.cells (List.toArray [(.func (.func 61) #[] #[(.pointer (some ⟨b4, 0, none⟩))])]) 94 (0, 0)), objI b4 (.cells (List.toArray [(.map (some m3))]) 92 (0, 0)), mapI str (fun n : Nat => Value.int .i64 (n : Int)) m3 ks.zipIdx, objI b2 (.cells (List.toArray [(.slice cb d.next.length cc)]) 33 (0, 0)), objI b1 (.cells (List.toArray [(.int .i64 d.vars), (.int .i64 d.start), (.slice nb d.next.length nc), (.slice fb d.final.length fc)]) 25 (0, 0))] ∧ k ≤ d.next.length ∧ xs.length = d.next.length ∧ ks = dd ((keysD d cs).take k) ∧ (∀ s, s < k → xs[s]? = some (ix (keyD d cs s) ks))) (fun _ => False) ?_ _ ?_)) ?_
  · intro k hlt vb vc O g1 s1 hJ
    obtain ⟨xs, ks, rfl, hk, hxl, hks, hall⟩ := hJ
    refine CallV.yield hq rfl rfl ?_
    have hkc : k < cs.length := by omega
    have hrow : d.next[k].length = 2 ^ d.vars.toNat := hv.len _ (List.getElem_mem hlt)
    have hrl : d.next[k].length ≤ 64 := by
      rw [hrow]; have := hv.v6; have := hv.v0
      exact Nat.le_trans (Nat.pow_le_pow_right (by omega) (show d.vars.toNat ≤ 6 by omega)) (by decide)
    have hks9 : ks.length < 1000000 := by
      have h1 := dd_length ((keysD d cs).take k)
      have h2 : ((keysD d cs).take k).length ≤ d.next.length := by rw [List.length_take]; simp [keysD]; omega
      rw [hks]; omega
    have hto : ∀ j (hj : j < d.next[k].length), 0 ≤ d.next[k][j] ∧ d.next[k][j].toNat < cs.length := fun j hj => by have := hv.ok _ (List.getElem_mem hlt) _ (List.getElem_mem hj); omega
    have hck : cs[k] < 100 := hc9 _ (List.getElem_mem hkc)
    have hr9 : ∀ x ∈ rowK cs d.next[k], x < 100 := rowK_lt hc9
    refine T.seq ?_
    refine T.region ?_
    refine TO.quiet (q_assign rfl) ?_
    refine TO.nil ?_
    refine T.region ?_
    refine TO.quiet (q_assign rfl) ?_
    refine TO.nil ?_
    refine T.block ?_
    refine T.seq ?_
    refine T.nilRow 5 1 ?_
    refine T.region ?_
    refine TO.quiet (q_load_box 6 Tryd.underlying33 rfl rfl rfl rfl) ?_
    refine TO.quiet (q_move rfl) ?_
    refine TO.quiet (q_ix (i := k) Tryd.underlying33 inf3 rfl rfl (Sl.o hcs) (by first | assumption | omega | (simp; omega) | simp_all) (by first | omega | (simp; done) | (simp; omega) | (simp_all; done) | (simp_all; omega))) ?_
    refine TO.quiet (q_ld Tryd.underlying3 rfl rfl (Sl.o hcs) (nats_get (by first | assumption | omega | (simp; omega) | simp_all))) ?_
    have hk26 := CallT.under (B := [objI b7 (.cells (List.toArray [(.slice (some ⟨b6, 0, none⟩) d.next.length d.next.length)]) 33 (0, 0)), rowI (some ⟨b6, 0, none⟩) d.next.length 3 1 (nats xs), objI b5 (.cells (List.toArray [(.func (.func 61) #[] #[(.pointer (some ⟨b4, 0, none⟩))])]) 94 (0, 0)), objI b4 (.cells (List.toArray [(.map (some m3))]) 92 (0, 0)), mapI str (fun n : Nat => Value.int .i64 (n : Int)) m3 ks.zipIdx, objI b2 (.cells (List.toArray [(.slice cb d.next.length cc)]) 33 (0, 0)), objI b1 (.cells (List.toArray [(.int .i64 d.vars), (.int .i64 d.start), (.slice nb d.next.length nc), (.slice fb d.final.length fc)]) 25 (0, 0))]) (O := [rowI none 0 5 1 (cells8 []), objI b7 (.cells (List.toArray [(.slice (some ⟨b6, 0, none⟩) d.next.length d.next.length)]) 33 (0, 0)), rowI (some ⟨b6, 0, none⟩) d.next.length 3 1 (nats xs), objI b5 (.cells (List.toArray [(.func (.func 61) #[] #[(.pointer (some ⟨b4, 0, none⟩))])]) 94 (0, 0)), objI b4 (.cells (List.toArray [(.map (some m3))]) 92 (0, 0)), mapI str (fun n : Nat => Value.int .i64 (n : Int)) m3 ks.zipIdx, objI b2 (.cells (List.toArray [(.slice cb d.next.length cc)]) 33 (0, 0)), objI b1 (.cells (List.toArray [(.int .i64 d.vars), (.int .i64 d.start), (.slice nb d.next.length nc), (.slice fb d.final.length fc)]) 25 (0, 0))]) (appF w none 0 0 0 cs[k] [] rfl hck (by omega)) (Sub.pick [0, 0, 0, 0, 0, 0, 0, 0] rfl)
    refine TO.loud rfl (l_call ent62 hk26 rfl ?_)
    clear hk26
    rintro v O' ⟨A1, rfl, kb, kc, rfl, rfl⟩
    refine TO.quiet (q_assign rfl) ?_
    refine TO.nil ?_
    refine T.seq ?_
    refine T.seq ?_
    refine T.region ?_
    refine TO.quiet (q_move rfl) ?_
    refine TO.quiet (q_len Tryd.underlying33 rfl) ?_
    refine TO.quiet (q_move rfl) ?_
    refine TO.nil ?_
    refine T.block ?_
    refine T.loop (fun (j : Nat) ρ O => ∃ (kb : Option Addr) (kc m : Nat), O = [rowI kb kc 5 1 (cells8 (keyK cs[k] (List.take j (rowK cs d.next[k])))), objI b7 (.cells (List.toArray [(.slice (some ⟨b6, 0, none⟩) d.next.length d.next.length)]) 33 (0, 0)), rowI (some ⟨b6, 0, none⟩) d.next.length 3 1 (nats xs), objI b5 (.cells (List.toArray [(.func (.func 61) #[] #[(.pointer (some ⟨b4, 0, none⟩))])]) 94 (0, 0)), objI b4 (.cells (List.toArray [(.map (some m3))]) 92 (0, 0)), mapI str (fun n : Nat => Value.int .i64 (n : Int)) m3 ks.zipIdx, objI b2 (.cells (List.toArray [(.slice cb d.next.length cc)]) 33 (0, 0)), objI b1 (.cells (List.toArray [(.int .i64 d.vars), (.int .i64 d.start), (.slice nb d.next.length nc), (.slice fb d.final.length fc)]) 25 (0, 0))] ∧ j ≤ d.next[k].length ∧ m = (keyK cs[k] (List.take j (rowK cs d.next[k]))).length ∧ Heads [(0, (.agg #[(.int .i64 d.vars), (.int .i64 d.start), (.slice nb d.next.length nc), (.slice fb d.final.length fc)])), (1, (.slice cb d.next.length cc)), (2, (.pointer (some ⟨b1, 0, none⟩))), (3, (.pointer (some ⟨b2, 0, none⟩))), (4, (.slice none 0 0)), (5, (.pointer (some ⟨b4, 0, none⟩))), (6, (.pointer (some ⟨b5, 0, none⟩))), (7, (.pointer (some ⟨b7, 0, none⟩))), (8, .int .i64 (k : Int)), (9, (.slice vb d.next[k].length vc)), (10, (.slice kb m kc)), (27, (.slice vb d.next[k].length vc)), (28, .int .i64 (d.next[k].length : Int)), (29, .int .i64 (j : Int))] ρ) (fun j => d.next[k].length - j) 0 ?_ ?_
    · refine ⟨kb, kc, _, ?_, Nat.zero_le _, ?_, ⟨rfl, rfl, rfl, rfl, rfl, rfl, rfl, rfl, rfl, rfl, rfl, rfl, rfl, rfl, trivial⟩⟩
      · rw [show keyK cs[k] (List.take 0 (rowK cs d.next[k])) = [] ++ Lib.decDigits cs[k] by simp [keyK, tailK]]
        rfl
      · simp [keyK, tailK]
    · rintro j ρ O ⟨kb, kc, m, rfl, hj, hm, hH⟩
      obtain ⟨ρ0, rfl⟩ := hH.elim
      clear hH
      have hm9 : m ≤ 194 := by
        have := keyK_len hck (fun x hx => hr9 x (List.mem_of_mem_take hx) : ∀ x ∈ List.take j (rowK cs d.next[k]), x < 100)
        rw [List.length_take] at this; omega
      refine T.seq ?_
      refine T.region ?_
      refine TO.quiet (q_lss rfl rfl) ?_
      refine TO.nil ?_
      refine T.seq ?_
      refine T.condP rfl (fun hc => ?_) (fun hc => ?_)
      · have hlt30 : j < d.next[k].length := by omega
        have htj := (hto j hlt30).2
        refine T.skip ?_
        refine T.seq ?_
        refine T.block ?_
        refine T.seq ?_
        refine T.region ?_
        refine TO.quiet (q_ix (i := j) Tryd.underlying33 inf3 rfl rfl (Sl.o s1) (by first | assumption | omega | (simp; omega) | simp_all) (by first | omega | (simp; done) | (simp; omega) | (simp_all; done) | (simp_all; omega))) ?_
        refine TO.quiet (q_ld Tryd.underlying3 rfl rfl (Sl.o s1) (ints_get (by first | assumption | omega | (simp; omega) | simp_all))) ?_
        refine TO.quiet (q_assign rfl) ?_
        refine TO.nil ?_
        refine T.draws [objI b2 (.cells (List.toArray [(.slice cb d.next.length cc)]) 33 (0, 0))] [(0, 0), (3, 0), (4, 0), (5, 0), (6, 0), (1, 1), (2, 1), (7, 2), (8, 2)] mixed (by kernel_rfl) (Sub.pick [6] rfl) (fun _ _ _ h => h) ?_
        refine DO.quiet rfl (q_move rfl) ?_
        refine DO.quiet rfl (q_load_box 0 Tryd.underlying33 rfl rfl rfl rfl) ?_
        refine DO.quiet rfl (q_move rfl) ?_
        refine DO.quiet rfl (q_ixz (i := d.next[k][j]) Tryd.underlying33 inf3 rfl rfl (Sl.o hcs) (hto j hlt30).1 (hcl ▸ (hto j hlt30).2) (by rw [List.length_map]; exact (hto j hlt30).2)) ?_
        refine DO.quiet rfl (q_ld Tryd.underlying3 rfl rfl (Sl.o hcs) (nats_get (hto j hlt30).2)) ?_
        refine DO.loud rfl rfl (l_build1 (v := .int .u8 32) Tryd.underlying42 inf5 rfl rfl rfl (fun b8 => ⟨Sub.pick [7] rfl, ?_⟩))
        refine DO.loud rfl rfl (l_append 1 Tryd.underlying42 Tryd.underlying42 inf5 rfl rfl rfl rfl (by rw [List.length_map, ← hm, Nat.mul_one]) (by decide) (Src.row (j := 0) rfl (by simp)) (by simp [oneB]) (by omega) (by decide) (by decide) (fun b9 c10 => ⟨Sub.pick [7] rfl, ?_⟩))
        have hk40 := CallT.under (B := [rowI (some ⟨b8, 0, none⟩) 1 5 1 [.int .u8 32], objI b7 (.cells (List.toArray [(.slice (some ⟨b6, 0, none⟩) d.next.length d.next.length)]) 33 (0, 0)), rowI (some ⟨b6, 0, none⟩) d.next.length 3 1 (nats xs), objI b5 (.cells (List.toArray [(.func (.func 61) #[] #[(.pointer (some ⟨b4, 0, none⟩))])]) 94 (0, 0)), objI b4 (.cells (List.toArray [(.map (some m3))]) 92 (0, 0)), mapI str (fun n : Nat => Value.int .i64 (n : Int)) m3 ks.zipIdx, objI b2 (.cells (List.toArray [(.slice cb d.next.length cc)]) 33 (0, 0)), objI b1 (.cells (List.toArray [(.int .i64 d.vars), (.int .i64 d.start), (.slice nb d.next.length nc), (.slice fb d.final.length fc)]) 25 (0, 0))]) (O := [rowI (some ⟨b8, 0, none⟩) 1 5 1 [.int .u8 32], rowI b9 c10 5 1 ((cells8 (keyK cs[k] (List.take j (rowK cs d.next[k])))) ++ [.int .u8 32]), objI b7 (.cells (List.toArray [(.slice (some ⟨b6, 0, none⟩) d.next.length d.next.length)]) 33 (0, 0)), rowI (some ⟨b6, 0, none⟩) d.next.length 3 1 (nats xs), objI b5 (.cells (List.toArray [(.func (.func 61) #[] #[(.pointer (some ⟨b4, 0, none⟩))])]) 94 (0, 0)), objI b4 (.cells (List.toArray [(.map (some m3))]) 92 (0, 0)), mapI str (fun n : Nat => Value.int .i64 (n : Int)) m3 ks.zipIdx, objI b2 (.cells (List.toArray [(.slice cb d.next.length cc)]) 33 (0, 0)), objI b1 (.cells (List.toArray [(.int .i64 d.vars), (.int .i64 d.start), (.slice nb d.next.length nc), (.slice fb d.final.length fc)]) 25 (0, 0))]) (appF w b9 c10 c10 (m + 1) cs[d.next[k][j].toNat] (keyK cs[k] (List.take j (rowK cs d.next[k])) ++ [32]) (by rw [List.length_append, ← hm]; rfl) (hc9 _ (List.getElem_mem (hto j hlt30).2)) (by omega)) (by rw [cells8_snoc]; exact (Sub.pick [1, 0, 0, 0, 0, 0, 0, 0, 0] rfl))
        refine DO.last rfl rfl (l_call ent62 hk40 rfl ?_)
        clear hk40
        rintro v O' ⟨A1, rfl, kb3, kc3, rfl, rfl⟩
        refine DO.sub (O' := [rowI kb3 kc3 5 1 (cells8 (keyK cs[k] (List.take j (rowK cs d.next[k])) ++ [32] ++ Lib.decDigits cs[d.next[k][j].toNat])), objI b7 (.cells (List.toArray [(.slice (some ⟨b6, 0, none⟩) d.next.length d.next.length)]) 33 (0, 0)), rowI (some ⟨b6, 0, none⟩) d.next.length 3 1 (nats xs), objI b5 (.cells (List.toArray [(.func (.func 61) #[] #[(.pointer (some ⟨b4, 0, none⟩))])]) 94 (0, 0)), objI b4 (.cells (List.toArray [(.map (some m3))]) 92 (0, 0)), mapI str (fun n : Nat => Value.int .i64 (n : Int)) m3 ks.zipIdx, objI b2 (.cells (List.toArray [(.slice cb d.next.length cc)]) 33 (0, 0)), objI b1 (.cells (List.toArray [(.int .i64 d.vars), (.int .i64 d.start), (.slice nb d.next.length nc), (.slice fb d.final.length fc)]) 25 (0, 0))]) (Sub.pick [0, 1, 1, 1, 1, 1, 1, 1] rfl) ?_
        refine DO.last rfl rfl (LT.of_quiet rfl rfl (q_assign rfl) ?_)
        refine DO.done ?_
        refine T.region ?_
        refine TO.quiet (q_inc rfl rfl (by omega)) ?_
        refine TO.quiet (q_move rfl) ?_
        refine TO.nil ?_
        have hst := keyK_row (a := cs[k]) hlt30 (hto j hlt30).2
        refine ⟨j + 1, by omega, kb3, kc3, _, by rw [hst], by omega, ?_, ⟨rfl, rfl, rfl, rfl, rfl, rfl, rfl, rfl, rfl, rfl, rfl, rfl, rfl, rfl, trivial⟩⟩
        rw [hst, List.length_append, List.length_append, ← hm]; rfl
      · have hge30 : ¬ j < d.next[k].length := by omega
        refine T.exit ?_
        have hjf : j = d.next[k].length := by omega
        have hfull : List.take j (rowK cs d.next[k]) = rowK cs d.next[k] := List.take_of_length_le (by simp [rowK]; omega)
        have hKE : keyD d cs k = keyK cs[k] (rowK cs d.next[k]) := keyD_eq hlt hkc
        refine T.draws [rowI kb kc 5 1 (cells8 (keyK cs[k] (List.take j (rowK cs d.next[k])))), objI b7 (.cells (List.toArray [(.slice (some ⟨b6, 0, none⟩) d.next.length d.next.length)]) 33 (0, 0)), rowI (some ⟨b6, 0, none⟩) d.next.length 3 1 (nats xs), objI b5 (.cells (List.toArray [(.func (.func 61) #[] #[(.pointer (some ⟨b4, 0, none⟩))])]) 94 (0, 0)), objI b4 (.cells (List.toArray [(.map (some m3))]) 92 (0, 0)), objI b2 (.cells (List.toArray [(.slice cb d.next.length cc)]) 33 (0, 0)), objI b1 (.cells (List.toArray [(.int .i64 d.vars), (.int .i64 d.start), (.slice nb d.next.length nc), (.slice fb d.final.length fc)]) 25 (0, 0))] [(0, 0), (1, 0), (2, 0), (3, 0), (4, 0), (5, 1), (6, 0), (7, 2)] mixed (by kernel_rfl) (Sub.pick [0, 0, 0, 0, 0, 1, 1] rfl) (fun _ _ _ h => h) ?_
        refine DO.quiet rfl (q_load_box 1 Tryd.underlying33 rfl rfl rfl rfl) ?_
        refine DO.quiet rfl (q_move rfl) ?_
        refine DO.quiet rfl (q_load_box 3 Tryd.underlying94 rfl rfl rfl rfl) ?_
        refine DO.quiet rfl (q_move rfl) ?_
        refine DO.quiet rfl (q_b2s (l := keyK cs[k] (List.take j (rowK cs d.next[k]))) Tryd.underlying42 Tryd.underlying9 Tryd.underlying5 rfl (List.mem_of_getElem? (i := 0) rfl) hm.symm) ?_
        have hk47 := CallV.of_fn (first := []) (args := [str (keyK cs[k] (List.take j (rowK cs d.next[k])))]) (caps := [(.pointer (some ⟨b4, 0, none⟩))]) ent61 (CallT.under (B := [rowI kb kc 5 1 (cells8 (keyK cs[k] (List.take j (rowK cs d.next[k])))), objI b7 (.cells (List.toArray [(.slice (some ⟨b6, 0, none⟩) d.next.length d.next.length)]) 33 (0, 0)), rowI (some ⟨b6, 0, none⟩) d.next.length 3 1 (nats xs), objI b5 (.cells (List.toArray [(.func (.func 61) #[] #[(.pointer (some ⟨b4, 0, none⟩))])]) 94 (0, 0)), objI b2 (.cells (List.toArray [(.slice cb d.next.length cc)]) 33 (0, 0)), objI b1 (.cells (List.toArray [(.int .i64 d.vars), (.int .i64 d.start), (.slice nb d.next.length nc), (.slice fb d.final.length fc)]) 25 (0, 0))]) (O := [rowI kb kc 5 1 (cells8 (keyK cs[k] (List.take j (rowK cs d.next[k])))), objI b7 (.cells (List.toArray [(.slice (some ⟨b6, 0, none⟩) d.next.length d.next.length)]) 33 (0, 0)), rowI (some ⟨b6, 0, none⟩) d.next.length 3 1 (nats xs), objI b5 (.cells (List.toArray [(.func (.func 61) #[] #[(.pointer (some ⟨b4, 0, none⟩))])]) 94 (0, 0)), objI b4 (.cells (List.toArray [(.map (some m3))]) 92 (0, 0)), mapI str (fun n : Nat => Value.int .i64 (n : Int)) m3 ks.zipIdx, objI b2 (.cells (List.toArray [(.slice cb d.next.length cc)]) 33 (0, 0)), objI b1 (.cells (List.toArray [(.int .i64 d.vars), (.int .i64 d.start), (.slice nb d.next.length nc), (.slice fb d.final.length fc)]) 25 (0, 0))]) (give w b4 m3 ks (keyK cs[k] (List.take j (rowK cs d.next[k]))) hks9) (Sub.pick [4, 4, 0, 0, 0, 0, 0, 0] rfl))
        refine DO.loud rfl rfl (l_callG hk47 rfl rfl ?_)
        clear hk47
        rintro v O' ⟨A1, rfl, rfl, rfl⟩
        refine ⟨Sub.pick [2, 2, 2, 2, 0, 1, 1] rfl, ?_⟩
        refine DO.sub (O' := [rowI kb kc 5 1 (cells8 (keyK cs[k] (List.take j (rowK cs d.next[k])))), objI b7 (.cells (List.toArray [(.slice (some ⟨b6, 0, none⟩) d.next.length d.next.length)]) 33 (0, 0)), rowI (some ⟨b6, 0, none⟩) d.next.length 3 1 (nats xs), objI b5 (.cells (List.toArray [(.func (.func 61) #[] #[(.pointer (some ⟨b4, 0, none⟩))])]) 94 (0, 0)), objI b4 (.cells (List.toArray [(.map (some m3))]) 92 (0, 0)), mapI str (fun n : Nat => Value.int .i64 (n : Int)) m3 ((add ks (keyK cs[k] (List.take j (rowK cs d.next[k])))).zipIdx), objI b2 (.cells (List.toArray [(.slice cb d.next.length cc)]) 33 (0, 0)), objI b1 (.cells (List.toArray [(.int .i64 d.vars), (.int .i64 d.start), (.slice nb d.next.length nc), (.slice fb d.final.length fc)]) 25 (0, 0))]) (Sub.pick [2, 2, 2, 2, 0, 0, 0, 0] rfl) ?_
        refine DO.quiet rfl (q_ix (i := k) Tryd.underlying33 inf3 rfl rfl (rowO (List.mem_of_getElem? (i := 2) rfl)) (by first | assumption | omega | (simp; omega) | simp_all) (by first | omega | (simp; done) | (simp; omega) | (simp_all; done) | (simp_all; omega))) ?_
        refine DO.last rfl rfl (l_st (j := k) (v := .int .i64 ((ix (keyK cs[k] (List.take j (rowK cs d.next[k]))) (add ks (keyK cs[k] (List.take j (rowK cs d.next[k])))) : Nat) : Int)) (vs := [(.int .i64 ((ix (keyK cs[k] (List.take j (rowK cs d.next[k]))) (add ks (keyK cs[k] (List.take j (rowK cs d.next[k])))) : Nat) : Int))]) (cs := nats xs) 2 inf3 rfl rfl rfl rfl rfl (by simp) rfl (by first | (simp; omega) | (simp_all; omega)) ?_)
        refine DO.sub (O' := [rowI kb kc 5 1 (cells8 (keyK cs[k] (List.take j (rowK cs d.next[k])))), objI b7 (.cells (List.toArray [(.slice (some ⟨b6, 0, none⟩) d.next.length d.next.length)]) 33 (0, 0)), rowI (some ⟨b6, 0, none⟩) d.next.length 3 1 (nats (xs.set k (ix (keyK cs[k] (List.take j (rowK cs d.next[k]))) (add ks (keyK cs[k] (List.take j (rowK cs d.next[k]))))))), objI b5 (.cells (List.toArray [(.func (.func 61) #[] #[(.pointer (some ⟨b4, 0, none⟩))])]) 94 (0, 0)), objI b4 (.cells (List.toArray [(.map (some m3))]) 92 (0, 0)), mapI str (fun n : Nat => Value.int .i64 (n : Int)) m3 ((add ks (keyK cs[k] (List.take j (rowK cs d.next[k])))).zipIdx), objI b2 (.cells (List.toArray [(.slice cb d.next.length cc)]) 33 (0, 0)), objI b1 (.cells (List.toArray [(.int .i64 d.vars), (.int .i64 d.start), (.slice nb d.next.length nc), (.slice fb d.final.length fc)]) 25 (0, 0))]) (by rw [show putL (nats xs) k [(.int .i64 ((ix (keyK cs[k] (List.take j (rowK cs d.next[k]))) (add ks (keyK cs[k] (List.take j (rowK cs d.next[k])))) : Nat) : Int))] = nats (xs.set k (ix (keyK cs[k] (List.take j (rowK cs d.next[k]))) (add ks (keyK cs[k] (List.take j (rowK cs d.next[k])))))) from by simp [putL]]; exact Sub.of (List.Sublist.refl _)) ?_
        refine DO.sub (O' := [objI b7 (.cells (List.toArray [(.slice (some ⟨b6, 0, none⟩) d.next.length d.next.length)]) 33 (0, 0)), rowI (some ⟨b6, 0, none⟩) d.next.length 3 1 (nats (xs.set k (ix (keyK cs[k] (List.take j (rowK cs d.next[k]))) (add ks (keyK cs[k] (List.take j (rowK cs d.next[k]))))))), objI b5 (.cells (List.toArray [(.func (.func 61) #[] #[(.pointer (some ⟨b4, 0, none⟩))])]) 94 (0, 0)), objI b4 (.cells (List.toArray [(.map (some m3))]) 92 (0, 0)), mapI str (fun n : Nat => Value.int .i64 (n : Int)) m3 ((add ks (keyK cs[k] (List.take j (rowK cs d.next[k])))).zipIdx), objI b2 (.cells (List.toArray [(.slice cb d.next.length cc)]) 33 (0, 0)), objI b1 (.cells (List.toArray [(.int .i64 d.vars), (.int .i64 d.start), (.slice nb d.next.length nc), (.slice fb d.final.length fc)]) 25 (0, 0))]) (Sub.pick [1, 1, 1, 1, 1, 1, 1] rfl) ?_
        refine DO.done ?_
        refine .inl ⟨rfl, xs.set k (ix (keyK cs[k] (List.take j (rowK cs d.next[k]))) (add ks (keyK cs[k] (List.take j (rowK cs d.next[k]))))), add ks (keyK cs[k] (List.take j (rowK cs d.next[k]))), rfl, by omega, by simp [hxl], ?_, ?_⟩
        · rw [keysD_take hlt, dd_snoc, ← hks, hKE, hfull]
        · intro s hs
          by_cases e : s = k
          · subst e; rw [List.getElem?_set_self (by omega), hKE, hfull]
          · rw [List.getElem?_set_ne (fun h => e h.symm), hall s (by omega)]
            refine congrArg some (ix_prefix (add_prefix _ _) ?_).symm
            rw [hks]; exact mem_dd.2 (keyD_mem (by omega) (by omega))
  · refine ⟨List.replicate d.next.length 0, [], ?_, Nat.zero_le _, by simp, by simp [dd], fun s hs => absurd hs (by omega)⟩
    simp
  · rintro v O' (⟨xs, ks, rfl, hk, hxl, hks, hall⟩ | hF)
    rotate_left
    · exact hF.elim
    refine ⟨none, _, rfl, ?_⟩
    refine T.seq ?_
    refine T.region ?_
    refine TO.quiet (q_load_box 0 Tryd.underlying33 rfl rfl rfl rfl) ?_
    refine TO.quiet (q_assign rfl) ?_
    refine TO.nil ?_
    refine T.ret ?_
    refine Res.drop ?_
    refine Res.one (.slice (some ⟨b6, 0, none⟩) d.next.length d.next.length) Tryd.results44 rfl ?_
    have hx : xs = refineF d cs := by
      apply List.ext_getElem?
      intro s
      by_cases hs : s < d.next.length
      · rw [hall s hs, hks, List.take_of_length_le (by simp [keysD])]; simp [refineF, keysD, hs]
      · rw [List.getElem?_eq_none (by omega), List.getElem?_eq_none (by simp [refineF, keysD]; omega)]
    exact ⟨[rowI (some ⟨b6, 0, none⟩) d.next.length 3 1 (nats xs)], (Sub.pick [1] rfl), _, _, rfl, by rw [hx]⟩

set_option maxHeartbeats 1000000 in
set_option maxRecDepth 20000 in
theorem beginC (w : World) (d : DFA) (nb fb : Option Addr) (nc fc : Nat) (vs : List Value) (h : DfaAt w d nb vs fb) (hv : Valid d) :
    PureT Tryd.prog 43 [.agg (dfaCells d nb nc fb fc).toArray] w fun v N => ∃ b c, v = .slice b d.next.length c ∧ N = [rowI b c 3 1 (nats (beginF d))] := by
  refine CallT.enter Tryd.func43 rfl Tryd.ntmps43 rfl ?_
  have hn4 := hv.n4
  have hn0 := hv.n0
  have hfl := hv.fin
  refine T.seq ?_
  refine T.region ?_
  refine TO.loud rfl (l_box (v := (.agg #[(.int .i64 d.vars), (.int .i64 d.start), (.slice nb d.next.length nc), (.slice fb d.final.length fc)])) (cs := [(.int .i64 d.vars), (.int .i64 d.start), (.slice nb d.next.length nc), (.slice fb d.final.length fc)]) rfl rfl (fun b1 => ?_))
  refine TO.quiet (q_assign rfl) ?_
  refine TO.nil ?_
  refine T.seq ?_
  refine T.region ?_
  refine TO.quiet (q_fieldAddr Tryd.underlying25 rfl inf22 rfl rfl) ?_
  refine TO.quiet (q_load_box 0 Tryd.underlying22 rfl rfl rfl rfl) ?_
  refine TO.quiet (q_len Tryd.underlying22 rfl) ?_
  refine TO.loud rfl (l_makeSlice (m := d.next.length) Tryd.underlying33 inf3 rfl rfl (by omega) (by omega) (fun b2 => ?_))
  refine TO.quiet (q_assign rfl) ?_
  refine TO.nil ?_
  refine T.seq ?_
  refine T.seq ?_
  refine T.region ?_
  refine TO.quiet (q_move rfl) ?_
  refine TO.quiet (q_len Tryd.underlying33 rfl) ?_
  refine TO.quiet (q_move rfl) ?_
  refine TO.nil ?_
  refine T.block ?_
  refine T.loop (fun (k : Nat) ρ O => ∃ (xs : List Nat), O = [rowI (some ⟨b2, 0, none⟩) d.next.length 3 1 (nats xs), objI b1 (.cells (List.toArray [(.int .i64 d.vars), (.int .i64 d.start), (.slice nb d.next.length nc), (.slice fb d.final.length fc)]) 25 (0, 0))] ∧ k ≤ d.next.length ∧ xs.length = d.next.length ∧ (∀ s, s < k → xs[s]? = some (if d.final.getD s false ≠ d.final.getD 0 false then 1 else 0)) ∧ (∀ s, k ≤ s → s < d.next.length → xs[s]? = some 0) ∧ Heads [(0, (.agg #[(.int .i64 d.vars), (.int .i64 d.start), (.slice nb d.next.length nc), (.slice fb d.final.length fc)])), (1, (.pointer (some ⟨b1, 0, none⟩))), (2, (.slice none 0 0)), (3, (.slice (some ⟨b2, 0, none⟩) d.next.length d.next.length)), (10, .int .i64 (d.next.length : Int)), (11, .int .i64 (k : Int))] ρ) (fun k => d.next.length - k) 0 ?_ ?_
  · refine ⟨List.replicate d.next.length 0, by simp, Nat.zero_le _, by simp, fun s hs => absurd hs (by omega), fun s _ hs => by simp [hs], ⟨rfl, rfl, rfl, rfl, rfl, rfl, trivial⟩⟩
  · rintro k ρ O ⟨xs, rfl, hk, hxl, hdone, htodo, hH⟩
    obtain ⟨ρ0, rfl⟩ := hH.elim
    clear hH
    refine T.seq ?_
    refine T.region ?_
    refine TO.quiet (q_lss rfl rfl) ?_
    refine TO.nil ?_
    refine T.seq ?_
    refine T.condP rfl (fun hc => ?_) (fun hc => ?_)
    · have hlt12 : k < d.next.length := by omega
      have hkf : k < d.final.length := by omega
      have h0f : 0 < d.final.length := by omega
      have hkx : k < xs.length := by omega
      refine T.skip ?_
      refine T.seq ?_
      refine T.block ?_
      refine T.seq ?_
      refine T.region ?_
      refine TO.quiet (q_move rfl) ?_
      refine TO.quiet (q_assign rfl) ?_
      refine TO.nil ?_
      refine T.seq ?_
      refine T.draws [objI b1 (.cells (List.toArray [(.int .i64 d.vars), (.int .i64 d.start), (.slice nb d.next.length nc), (.slice fb d.final.length fc)]) 25 (0, 0))] [(0, 0), (1, 0), (2, 0), (3, 0), (4, 0), (5, 0), (6, 0), (7, 0), (8, 0), (9, 0)] mixed (by kernel_rfl) (Sub.pick [1] rfl) (fun _ _ _ h => h) ?_
      refine DO.quiet rfl (q_fieldAddr Tryd.underlying25 rfl inf23 rfl rfl) ?_
      refine DO.quiet rfl (q_load_box 0 Tryd.underlying23 rfl rfl rfl rfl) ?_
      refine DO.quiet rfl (q_move rfl) ?_
      refine DO.quiet rfl (q_ix (i := k) Tryd.underlying23 inf4 rfl rfl (Sl.o h.final) (by first | assumption | omega | (simp; omega) | simp_all) (by first | omega | (simp; done) | (simp; omega) | (simp_all; done) | (simp_all; omega))) ?_
      refine DO.quiet rfl (q_ld Tryd.underlying4 rfl rfl (Sl.o h.final) (bools_get (by first | assumption | omega | (simp; omega) | simp_all))) ?_
      refine DO.quiet rfl (q_fieldAddr Tryd.underlying25 rfl inf23 rfl rfl) ?_
      refine DO.quiet rfl (q_load_box 0 Tryd.underlying23 rfl rfl rfl rfl) ?_
      refine DO.quiet rfl (q_ix (i := 0) Tryd.underlying23 inf4 rfl rfl (Sl.o h.final) (by first | assumption | omega | (simp; omega) | simp_all) (by first | omega | (simp; done) | (simp; omega) | (simp_all; done) | (simp_all; omega))) ?_
      refine DO.quiet rfl (q_ld Tryd.underlying4 rfl rfl (Sl.o h.final) (bools_get (by first | assumption | omega | (simp; omega) | simp_all))) ?_
      refine DO.quiet rfl (q_bneq Tryd.underlying4 rfl rfl) ?_
      refine DO.done ?_
      refine T.condP (p := ¬ d.final[k] = d.final[0]) (congrArg Value.bool (by cases d.final[k] <;> cases d.final[0] <;> rfl)) (fun hc => ?_) (fun hc => ?_)
      · refine T.region ?_
        refine TO.quiet (q_move rfl) ?_
        refine TO.quiet (q_move rfl) ?_
        refine TO.quiet (q_ix (i := k) Tryd.underlying33 inf3 rfl rfl (rowO (List.mem_of_getElem? (i := 0) rfl)) (by first | assumption | omega | (simp; omega) | simp_all) (by first | omega | (simp; done) | (simp; omega) | (simp_all; done) | (simp_all; omega))) ?_
        refine TO.loud rfl (l_st (j := k) (v := .int .i64 1) (vs := [(.int .i64 1)]) (cs := nats xs) 0 inf3 rfl rfl rfl rfl rfl (by simp) rfl (by first | (simp; omega) | (simp_all; omega)) ?_)
        refine TO.sub (O' := [rowI (some ⟨b2, 0, none⟩) d.next.length 3 1 (nats (xs.set k 1)), objI b1 (.cells (List.toArray [(.int .i64 d.vars), (.int .i64 d.start), (.slice nb d.next.length nc), (.slice fb d.final.length fc)]) 25 (0, 0))]) (by rw [show putL (nats xs) k [(.int .i64 1)] = nats (xs.set k 1) from by simp [putL]]; exact Sub.of (List.Sublist.refl _)) ?_
        refine TO.nil ?_
        refine T.region ?_
        refine TO.quiet (q_inc rfl rfl (by omega)) ?_
        refine TO.quiet (q_move rfl) ?_
        refine TO.nil ?_
        refine ⟨k + 1, by omega, xs.set k 1, rfl, by omega, by simp [hxl], fun s hs => ?_, fun s h1 h2 => ?_, ⟨rfl, rfl, rfl, rfl, rfl, rfl, trivial⟩⟩
        · by_cases e : s = k
          · subst e; rw [List.getElem?_set_self (by omega)]; simp [hkf, h0f, hc]
          · rw [List.getElem?_set_ne (fun h => e h.symm)]; exact hdone s (by omega)
        · rw [List.getElem?_set_ne (by omega)]; exact htodo s (by omega) h2
      · refine T.skip ?_
        refine T.region ?_
        refine TO.quiet (q_inc rfl rfl (by omega)) ?_
        refine TO.quiet (q_move rfl) ?_
        refine TO.nil ?_
        refine ⟨k + 1, by omega, xs, rfl, by omega, hxl, fun s hs => ?_, fun s h1 h2 => htodo s (by omega) h2, ⟨rfl, rfl, rfl, rfl, rfl, rfl, trivial⟩⟩
        by_cases e : s = k
        · subst e; rw [htodo _ (Nat.le_refl _) hlt12]; simp [hkf, h0f, Classical.not_not.1 hc]
        · exact hdone s (by omega)
    · have hge12 : ¬ k < d.next.length := by omega
      refine T.exit ?_
      refine T.seq ?_
      refine T.region ?_
      refine TO.quiet (q_move rfl) ?_
      refine TO.quiet (q_assign rfl) ?_
      refine TO.nil ?_
      refine T.ret ?_
      refine Res.drop ?_
      refine Res.one (.slice (some ⟨b2, 0, none⟩) d.next.length d.next.length) Tryd.results43 rfl ?_
      have hx : xs = beginF d := by
        apply List.ext_getElem?
        intro s
        by_cases hs : s < d.next.length
        · rw [hdone s (by omega)]; simp [beginF, hs]
        · rw [List.getElem?_eq_none (by omega), List.getElem?_eq_none (by simp [beginF]; omega)]
      exact ⟨[rowI (some ⟨b2, 0, none⟩) d.next.length 3 1 (nats xs)], (Sub.pick [0] rfl), _, _, rfl, by rw [hx]⟩

set_option maxHeartbeats 1000000 in
set_option maxRecDepth 20000 in
theorem slicesEqual (w : World) (b1 b2 : Option Addr) (c1 c2 n : Nat) (xs ys : List Nat) (h1 : Sl w b1 (nats xs)) (h2 : Sl w b2 (nats ys)) (hx : xs.length = n) (hy : ys.length = n) (hb : n < 9223372036854775807) :
    PureT Tryd.prog 45 [.slice b1 n c1, .slice b2 n c2] w fun v N => v = .bool (decide (xs = ys)) ∧ N = [] := by
  refine CallT.enter Tryd.func45 rfl Tryd.ntmps45 rfl ?_
  refine T.seq ?_
  refine T.region ?_
  refine TO.quiet (q_assign rfl) ?_
  refine TO.nil ?_
  refine T.seq ?_
  refine T.seq ?_
  refine T.region ?_
  refine TO.quiet (q_move rfl) ?_
  refine TO.quiet (q_len Tryd.underlying33 rfl) ?_
  refine TO.quiet (q_move rfl) ?_
  refine TO.quiet (q_len Tryd.underlying33 rfl) ?_
  refine TO.quiet (q_neq rfl rfl) ?_
  refine TO.nil ?_
  refine T.condP rfl (fun hc => ?_) (fun hc => ?_)
  · exact absurd hc (by omega)
  · have hge10 : ¬ n ≠ n := by omega
    refine T.skip ?_
    refine T.seq ?_
    refine T.seq ?_
    refine T.region ?_
    refine TO.quiet (q_move rfl) ?_
    refine TO.quiet (q_len Tryd.underlying33 rfl) ?_
    refine TO.quiet (q_move rfl) ?_
    refine TO.nil ?_
    refine T.block ?_
    refine T.loop (fun (k : Nat) ρ O => O = [] ∧ k ≤ n ∧ xs.take k = ys.take k ∧ Heads [(0, (.slice b1 n c1)), (1, (.slice b2 n c2)), (12, .int .i64 (n : Int)), (13, .int .i64 (k : Int))] ρ) (fun k => n - k) 0 ?_ ?_
    · exact ⟨rfl, Nat.zero_le _, rfl, ⟨rfl, rfl, rfl, rfl, trivial⟩⟩
    · rintro k ρ O ⟨rfl, hk, he, hH⟩
      obtain ⟨ρ0, rfl⟩ := hH.elim
      clear hH
      refine T.seq ?_
      refine T.region ?_
      refine TO.quiet (q_lss rfl rfl) ?_
      refine TO.nil ?_
      refine T.seq ?_
      refine T.condP rfl (fun hc => ?_) (fun hc => ?_)
      · have hlt14 : k < n := by omega
        have hkx : k < xs.length := by omega
        have hky : k < ys.length := by omega
        refine T.skip ?_
        refine T.seq ?_
        refine T.block ?_
        refine T.seq ?_
        refine T.region ?_
        refine TO.quiet (q_move rfl) ?_
        refine TO.quiet (q_assign rfl) ?_
        refine TO.nil ?_
        refine T.seq ?_
        refine T.draws _ [(0, 0), (1, 0), (2, 0), (3, 0), (4, 0), (5, 0), (6, 0), (7, 0), (8, 0)] mixed (by kernel_rfl) (Sub.of (List.Sublist.refl _)) (fun _ _ _ h => h) ?_
        refine DO.quiet rfl (q_move rfl) ?_
        refine DO.quiet rfl (q_move rfl) ?_
        refine DO.quiet rfl (q_ix (i := k) Tryd.underlying33 inf3 rfl rfl (Sl.o h1) (by first | assumption | omega | (simp; omega) | simp_all) (by first | omega | (simp; done) | (simp; omega) | (simp_all; done) | (simp_all; omega))) ?_
        refine DO.quiet rfl (q_ld Tryd.underlying3 rfl rfl (Sl.o h1) (nats_get (by first | assumption | omega | (simp; omega) | simp_all))) ?_
        refine DO.quiet rfl (q_move rfl) ?_
        refine DO.quiet rfl (q_move rfl) ?_
        refine DO.quiet rfl (q_ix (i := k) Tryd.underlying33 inf3 rfl rfl (Sl.o h2) (by first | assumption | omega | (simp; omega) | simp_all) (by first | omega | (simp; done) | (simp; omega) | (simp_all; done) | (simp_all; omega))) ?_
        refine DO.quiet rfl (q_ld Tryd.underlying3 rfl rfl (Sl.o h2) (nats_get (by first | assumption | omega | (simp; omega) | simp_all))) ?_
        refine DO.quiet rfl (q_neq rfl rfl) ?_
        refine DO.done ?_
        refine T.condP (p := ¬ xs[k] = ys[k]) (congrArg Value.bool (decide_eq_decide.2 (by omega))) (fun hc => ?_) (fun hc => ?_)
        · have hlt24 : xs[k] ≠ ys[k] := by omega
          refine T.seq ?_
          refine T.region ?_
          refine TO.quiet (q_assign rfl) ?_
          refine TO.nil ?_
          refine T.ret ?_
          refine Res.one (.bool false) Tryd.results45 rfl ?_
          exact ⟨congrArg Value.bool (decide_eq_false (fun e => hc (by subst e; rfl))).symm, rfl⟩
        · have hge24 : ¬ xs[k] ≠ ys[k] := by omega
          refine T.skip ?_
          refine T.region ?_
          refine TO.quiet (q_inc rfl rfl (by omega)) ?_
          refine TO.quiet (q_move rfl) ?_
          refine TO.nil ?_
          refine ⟨k + 1, by omega, rfl, by omega, ?_, ⟨rfl, rfl, rfl, rfl, trivial⟩⟩
          rw [List.take_succ_eq_append_getElem hkx, List.take_succ_eq_append_getElem hky, he]
          exact congrArg _ (congrArg (fun z => [z]) (Classical.not_not.1 hc))
      · have hge14 : ¬ k < n := by omega
        refine T.exit ?_
        refine T.seq ?_
        refine T.region ?_
        refine TO.quiet (q_assign rfl) ?_
        refine TO.nil ?_
        refine T.ret ?_
        refine Res.one (.bool true) Tryd.results45 rfl ?_
        exact ⟨congrArg Value.bool (decide_eq_true (show xs = ys by rw [List.take_of_length_le (by omega), List.take_of_length_le (by omega)] at he; exact he)).symm, rfl⟩

set_option maxHeartbeats 1000000 in
set_option maxRecDepth 20000 in
theorem roundsBad (w : World) (d : DFA) (nb fb : Option Addr) (nc fc : Nat) (vs : List Value) (h : DfaAt w d nb vs fb) (hb : d.next.length < 9223372036854775807) (hbr : ∀ r ∈ d.next, r.length < 9223372036854775807) (hbf : d.final.length < 9223372036854775807) (he : checkD d ≠ 0) (k : Int) :
    PureT Tryd.prog 19 [.agg (dfaCells d nb nc fb fc).toArray, .int .i64 k] w fun v N => v = .tuple #[.slice none 0 0, .int .i64 (checkD d : Int)] ∧ N = [] := by
  refine CallT.enter Tryd.func19 rfl Tryd.ntmps19 rfl ?_
  refine T.seq ?_
  refine T.region ?_
  refine TO.loud rfl (l_box (v := (.agg #[(.int .i64 d.vars), (.int .i64 d.start), (.slice nb d.next.length nc), (.slice fb d.final.length fc)])) (cs := [(.int .i64 d.vars), (.int .i64 d.start), (.slice nb d.next.length nc), (.slice fb d.final.length fc)]) rfl rfl (fun b1 => ?_))
  refine TO.quiet (q_assign rfl) ?_
  refine TO.quiet (q_assign rfl) ?_
  refine TO.nil ?_
  refine T.seq ?_
  refine T.seq ?_
  refine T.region ?_
  refine TO.quiet (q_load_boxAgg 0 Tryd.underlying25 rfl inf25 rfl rfl rfl) ?_
  have hk10 := fun (w1 : World) (hI : Inv w [objI b1 (.cells (List.toArray [(.int .i64 d.vars), (.int .i64 d.start), (.slice nb d.next.length nc), (.slice fb d.final.length fc)]) 25 (0, 0))] w1) => subsetCheck w1 d nb fb nc fc vs (hI.dfa h) hb hbr hbf
  refine TO.loud rfl (l_call ent24 (CallT.of_pure hk10) rfl ?_)
  clear hk10
  rintro v O' ⟨N, rfl, rfl, rfl⟩
  refine TO.quiet (q_assign rfl) ?_
  refine TO.nil ?_
  refine T.seq ?_
  refine T.region ?_
  refine TO.quiet (q_move rfl) ?_
  refine TO.quiet (QT.toB (q_neq rfl rfl) (decide_eq_true (by omega))) ?_
  refine TO.nil ?_
  refine T.cond1 rfl ?_
  refine T.seq ?_
  refine T.region ?_
  refine TO.quiet (q_move rfl) ?_
  refine TO.quiet (q_assign rfl) ?_
  refine TO.quiet (q_assign rfl) ?_
  refine TO.nil ?_
  refine T.ret ?_
  refine Res.drop ?_
  refine Res.two (.slice none 0 0) (.int .i64 (checkD d : Int)) Tryd.results19 rfl rfl ?_
  exact ⟨[], Sub.of (List.nil_sublist _), rfl, rfl⟩

set_option maxHeartbeats 1000000 in
set_option maxRecDepth 20000 in
theorem roundsOk (w : World) (d : DFA) (nb fb : Option Addr) (nc fc : Nat) (vs : List Value) (h : DfaAt w d nb vs fb) (hv : Valid d) (hn : d.next.length < 100) (k : Int) (hk9 : k ≤ 9223372036854775807) :
    PureT Tryd.prog 19 [.agg (dfaCells d nb nc fb fc).toArray, .int .i64 k] w fun v N => ∃ b c, v = .tuple #[.slice b d.next.length c, .int .i64 0] ∧ N = [rowI b c 3 1 (nats (itF d k.toNat))] := by
  refine CallT.enter Tryd.func19 rfl Tryd.ntmps19 rfl ?_
  have he := checkD_zero.2 hv
  have hb : d.next.length < 9223372036854775807 := by omega
  have hbr : ∀ r ∈ d.next, r.length < 9223372036854775807 := hv.bound
  have hbf : d.final.length < 9223372036854775807 := by have := hv.fin; omega
  refine T.seq ?_
  refine T.region ?_
  refine TO.loud rfl (l_box (v := (.agg #[(.int .i64 d.vars), (.int .i64 d.start), (.slice nb d.next.length nc), (.slice fb d.final.length fc)])) (cs := [(.int .i64 d.vars), (.int .i64 d.start), (.slice nb d.next.length nc), (.slice fb d.final.length fc)]) rfl rfl (fun b1 => ?_))
  refine TO.quiet (q_assign rfl) ?_
  refine TO.quiet (q_assign rfl) ?_
  refine TO.nil ?_
  refine T.seq ?_
  refine T.seq ?_
  refine T.region ?_
  refine TO.quiet (q_load_boxAgg 0 Tryd.underlying25 rfl inf25 rfl rfl rfl) ?_
  have hk10 := fun (w1 : World) (hI : Inv w [objI b1 (.cells (List.toArray [(.int .i64 d.vars), (.int .i64 d.start), (.slice nb d.next.length nc), (.slice fb d.final.length fc)]) 25 (0, 0))] w1) => subsetCheck w1 d nb fb nc fc vs (hI.dfa h) hb hbr hbf
  refine TO.loud rfl (l_call ent24 (CallT.of_pure hk10) rfl ?_)
  clear hk10
  rintro v O' ⟨N, rfl, rfl, rfl⟩
  rw [he]
  refine TO.quiet (q_assign rfl) ?_
  refine TO.nil ?_
  refine T.seq ?_
  refine T.region ?_
  refine TO.quiet (q_move rfl) ?_
  refine TO.quiet (q_neq rfl rfl) ?_
  refine TO.nil ?_
  refine T.cond0 rfl ?_
  refine T.skip ?_
  refine T.seq ?_
  refine T.region ?_
  refine TO.quiet (q_load_boxAgg 0 Tryd.underlying25 rfl inf25 rfl rfl rfl) ?_
  have hk15 := fun (w1 : World) (hI : Inv w [objI b1 (.cells (List.toArray [(.int .i64 d.vars), (.int .i64 d.start), (.slice nb d.next.length nc), (.slice fb d.final.length fc)]) 25 (0, 0))] w1) => beginC w1 d nb fb nc fc vs (hI.dfa h) hv
  refine TO.loud rfl (l_call ent43 (CallT.of_pure hk15) rfl ?_)
  clear hk15
  rintro v O' ⟨N, rfl, b0, c0, rfl, rfl⟩
  refine TO.quiet (q_assign rfl) ?_
  refine TO.nil ?_
  refine T.seq ?_
  refine T.seq ?_
  refine T.region ?_
  refine TO.quiet (q_move rfl) ?_
  refine TO.quiet (q_move rfl) ?_
  refine TO.nil ?_
  refine T.block ?_
  refine T.loop (fun (i : Nat) ρ O => ∃ (b : Option Addr) (c : Nat), O = [rowI b c 3 1 (nats (itF d i)), objI b1 (.cells (List.toArray [(.int .i64 d.vars), (.int .i64 d.start), (.slice nb d.next.length nc), (.slice fb d.final.length fc)]) 25 (0, 0))] ∧ i ≤ k.toNat ∧ Heads [(0, (.agg #[(.int .i64 d.vars), (.int .i64 d.start), (.slice nb d.next.length nc), (.slice fb d.final.length fc)])), (1, .int .i64 k), (2, (.pointer (some ⟨b1, 0, none⟩))), (4, (.slice none 0 0)), (5, .int .i64 0), (6, .int .i64 ((0 : Nat) : Int)), (7, (.slice b d.next.length c)), (16, .int .i64 k), (17, .int .i64 (i : Int))] ρ) (fun i => k.toNat - i) 0 ?_ ?_
  · exact ⟨b0, c0, rfl, Nat.zero_le _, ⟨rfl, rfl, rfl, rfl, rfl, rfl, rfl, rfl, rfl, trivial⟩⟩
  · rintro i ρ O ⟨b, c, rfl, hki, hH⟩
    obtain ⟨ρ0, rfl⟩ := hH.elim
    clear hH
    refine T.seq ?_
    refine T.region ?_
    refine TO.quiet (q_lss rfl rfl) ?_
    refine TO.nil ?_
    refine T.seq ?_
    refine T.condP rfl (fun hc => ?_) (fun hc => ?_)
    · have hik : i < k.toNat := by omega
      refine T.skip ?_
      refine T.seq ?_
      refine T.block ?_
      refine T.seq ?_
      refine T.region ?_
      refine TO.quiet (q_load_boxAgg 1 Tryd.underlying25 rfl inf25 rfl rfl rfl) ?_
      refine TO.quiet (q_move rfl) ?_
      have hk21 := fun (w1 : World) (hI : Inv w [rowI b c 3 1 (nats (itF d i)), objI b1 (.cells (List.toArray [(.int .i64 d.vars), (.int .i64 d.start), (.slice nb d.next.length nc), (.slice fb d.final.length fc)]) 25 (0, 0))] w1) => refineC w1 d nb fb nc fc vs (hI.dfa h) hv b c (itF d i) (hI.slOf (List.mem_of_getElem? (i := 0) rfl)) (itF_length d i) (itF_lt hn i)
      refine TO.loud rfl (l_call ent44 (CallT.of_pure hk21) rfl ?_)
      clear hk21
      rintro v O' ⟨N, rfl, b9, c9, rfl, rfl⟩
      refine TO.quiet (q_assign rfl) ?_
      refine TO.nil ?_
      refine T.seq ?_
      refine T.seq ?_
      refine T.region ?_
      refine TO.quiet (q_move rfl) ?_
      refine TO.quiet (q_move rfl) ?_
      by_cases hst : refineF d (itF d i) = itF d i
      · have hk24 := fun (w1 : World) (hI : Inv w [rowI b9 c9 3 1 (nats (refineF d (itF d i))), rowI b c 3 1 (nats (itF d i)), objI b1 (.cells (List.toArray [(.int .i64 d.vars), (.int .i64 d.start), (.slice nb d.next.length nc), (.slice fb d.final.length fc)]) 25 (0, 0))] w1) => slicesEqual w1 b9 b c9 c d.next.length (refineF d (itF d i)) (itF d i) (hI.slOf (List.mem_of_getElem? (i := 0) rfl)) (hI.slOf (List.mem_of_getElem? (i := 1) rfl)) (itF_length d (i + 1)) (itF_length d i) (by omega)
        refine TO.loud rfl (l_call ent45 (CallT.of_pure hk24) rfl ?_)
        clear hk24
        rintro v O' ⟨N, rfl, rfl, rfl⟩
        rw [decide_eq_true hst]
        refine TO.nil ?_
        refine T.cond1 rfl ?_
        refine T.exit ?_
        refine T.seq ?_
        refine T.region ?_
        refine TO.quiet (q_move rfl) ?_
        refine TO.quiet (q_assign rfl) ?_
        refine TO.quiet (q_assign rfl) ?_
        refine TO.nil ?_
        refine T.ret ?_
        refine Res.drop ?_
        refine Res.two (.slice b d.next.length c) (.int .i64 0) Tryd.results19 rfl rfl ?_
        have hx : itF d k.toNat = itF d i := itF_stable hst _ hki
        exact ⟨[rowI b c 3 1 (nats (itF d i))], (Sub.pick [1] rfl), _, _, rfl, by rw [hx]⟩
      · have hk24 := fun (w1 : World) (hI : Inv w [rowI b9 c9 3 1 (nats (refineF d (itF d i))), rowI b c 3 1 (nats (itF d i)), objI b1 (.cells (List.toArray [(.int .i64 d.vars), (.int .i64 d.start), (.slice nb d.next.length nc), (.slice fb d.final.length fc)]) 25 (0, 0))] w1) => slicesEqual w1 b9 b c9 c d.next.length (refineF d (itF d i)) (itF d i) (hI.slOf (List.mem_of_getElem? (i := 0) rfl)) (hI.slOf (List.mem_of_getElem? (i := 1) rfl)) (itF_length d (i + 1)) (itF_length d i) (by omega)
        refine TO.loud rfl (l_call ent45 (CallT.of_pure hk24) rfl ?_)
        clear hk24
        rintro v O' ⟨N, rfl, rfl, rfl⟩
        rw [decide_eq_false hst]
        refine TO.nil ?_
        refine T.cond0 rfl ?_
        refine T.skip ?_
        refine T.region ?_
        refine TO.quiet (q_move rfl) ?_
        refine TO.quiet (q_assign rfl) ?_
        refine TO.nil ?_
        refine T.region ?_
        refine TO.quiet (q_inc rfl rfl (by omega)) ?_
        refine TO.quiet (q_move rfl) ?_
        refine TO.sub (O' := [rowI b9 c9 3 1 (nats (refineF d (itF d i))), objI b1 (.cells (List.toArray [(.int .i64 d.vars), (.int .i64 d.start), (.slice nb d.next.length nc), (.slice fb d.final.length fc)]) 25 (0, 0))]) (Sub.pick [0, 1] rfl) ?_
        refine TO.nil ?_
        exact ⟨i + 1, by omega, b9, c9, rfl, by omega, ⟨rfl, rfl, rfl, rfl, rfl, rfl, rfl, rfl, rfl, trivial⟩⟩
    · refine T.exit ?_
      refine T.seq ?_
      refine T.region ?_
      refine TO.quiet (q_move rfl) ?_
      refine TO.quiet (q_assign rfl) ?_
      refine TO.quiet (q_assign rfl) ?_
      refine TO.nil ?_
      refine T.ret ?_
      refine Res.drop ?_
      refine Res.two (.slice b d.next.length c) (.int .i64 0) Tryd.results19 rfl rfl ?_
      have hx : itF d k.toNat = itF d i := by rw [show k.toNat = i by omega]
      exact ⟨[rowI b c 3 1 (nats (itF d i))], (Sub.pick [0] rfl), _, _, rfl, by rw [hx]⟩

set_option maxHeartbeats 1000000 in
set_option maxRecDepth 20000 in
theorem classesBad (w : World) (d : DFA) (nb fb : Option Addr) (nc fc : Nat) (vs : List Value) (h : DfaAt w d nb vs fb) (hb : d.next.length < 9223372036854775807) (hbr : ∀ r ∈ d.next, r.length < 9223372036854775807) (hbf : d.final.length < 9223372036854775807) (he : checkD d ≠ 0) :
    PureT Tryd.prog 18 [.agg (dfaCells d nb nc fb fc).toArray] w fun v N => v = .tuple #[.slice none 0 0, .int .i64 (checkD d : Int)] ∧ N = [] := by
  refine CallT.enter Tryd.func18 rfl Tryd.ntmps18 rfl ?_
  refine T.seq ?_
  refine T.region ?_
  refine TO.loud rfl (l_box (v := (.agg #[(.int .i64 d.vars), (.int .i64 d.start), (.slice nb d.next.length nc), (.slice fb d.final.length fc)])) (cs := [(.int .i64 d.vars), (.int .i64 d.start), (.slice nb d.next.length nc), (.slice fb d.final.length fc)]) rfl rfl (fun b1 => ?_))
  refine TO.quiet (q_assign rfl) ?_
  refine TO.quiet (q_assign rfl) ?_
  refine TO.nil ?_
  refine T.seq ?_
  refine T.region ?_
  refine TO.quiet (q_load_boxAgg 0 Tryd.underlying25 rfl inf25 rfl rfl rfl) ?_
  refine TO.quiet (q_fieldAddr Tryd.underlying25 rfl inf22 rfl rfl) ?_
  refine TO.quiet (q_load_box 0 Tryd.underlying22 rfl rfl rfl rfl) ?_
  refine TO.quiet (q_len Tryd.underlying22 rfl) ?_
  have hk8 := fun (w1 : World) (hI : Inv w [objI b1 (.cells (List.toArray [(.int .i64 d.vars), (.int .i64 d.start), (.slice nb d.next.length nc), (.slice fb d.final.length fc)]) 25 (0, 0))] w1) => roundsBad w1 d nb fb nc fc vs (hI.dfa h) hb hbr hbf he d.next.length
  refine TO.loud rfl (l_call ent19 (CallT.of_pure hk8) rfl ?_)
  clear hk8
  rintro v O' ⟨N, rfl, rfl, rfl⟩
  refine TO.quiet (q_extract (vs := _) rfl rfl) ?_
  refine TO.quiet (q_extract (vs := _) rfl rfl) ?_
  refine TO.quiet (q_assign rfl) ?_
  refine TO.quiet (q_assign rfl) ?_
  refine TO.nil ?_
  refine T.ret ?_
  refine Res.drop ?_
  refine Res.two (.slice none 0 0) (.int .i64 (checkD d : Int)) Tryd.results18 rfl rfl ?_
  exact ⟨[], Sub.of (List.nil_sublist _), rfl, rfl⟩

set_option maxHeartbeats 1000000 in
set_option maxRecDepth 20000 in
theorem classesOk (w : World) (d : DFA) (nb fb : Option Addr) (nc fc : Nat) (vs : List Value) (h : DfaAt w d nb vs fb) (hv : Valid d) (hn : d.next.length < 100) :
    PureT Tryd.prog 18 [.agg (dfaCells d nb nc fb fc).toArray] w fun v N => ∃ b c, v = .tuple #[.slice b d.next.length c, .int .i64 0] ∧ N = [rowI b c 3 1 (nats (itF d d.next.length))] := by
  refine CallT.enter Tryd.func18 rfl Tryd.ntmps18 rfl ?_
  refine T.seq ?_
  refine T.region ?_
  refine TO.loud rfl (l_box (v := (.agg #[(.int .i64 d.vars), (.int .i64 d.start), (.slice nb d.next.length nc), (.slice fb d.final.length fc)])) (cs := [(.int .i64 d.vars), (.int .i64 d.start), (.slice nb d.next.length nc), (.slice fb d.final.length fc)]) rfl rfl (fun b1 => ?_))
  refine TO.quiet (q_assign rfl) ?_
  refine TO.quiet (q_assign rfl) ?_
  refine TO.nil ?_
  refine T.seq ?_
  refine T.region ?_
  refine TO.quiet (q_load_boxAgg 0 Tryd.underlying25 rfl inf25 rfl rfl rfl) ?_
  refine TO.quiet (q_fieldAddr Tryd.underlying25 rfl inf22 rfl rfl) ?_
  refine TO.quiet (q_load_box 0 Tryd.underlying22 rfl rfl rfl rfl) ?_
  refine TO.quiet (q_len Tryd.underlying22 rfl) ?_
  have hk8 := fun (w1 : World) (hI : Inv w [objI b1 (.cells (List.toArray [(.int .i64 d.vars), (.int .i64 d.start), (.slice nb d.next.length nc), (.slice fb d.final.length fc)]) 25 (0, 0))] w1) => roundsOk w1 d nb fb nc fc vs (hI.dfa h) hv hn d.next.length (by omega)
  refine TO.loud rfl (l_call ent19 (CallT.of_pure hk8) rfl ?_)
  clear hk8
  rintro v O' ⟨N, rfl, b, c, rfl, rfl⟩
  refine TO.quiet (q_extract (vs := _) rfl rfl) ?_
  refine TO.quiet (q_extract (vs := _) rfl rfl) ?_
  refine TO.quiet (q_assign rfl) ?_
  refine TO.quiet (q_assign rfl) ?_
  refine TO.nil ?_
  refine T.ret ?_
  refine Res.drop ?_
  refine Res.two (.slice b d.next.length c) (.int .i64 0) Tryd.results18 rfl rfl ?_
  exact ⟨[rowI b c 3 1 (nats (itF d d.next.length))], (Sub.pick [0] rfl), _, _, rfl, rfl⟩
end Go.Proofs.YthfemndklplpbaaDoor

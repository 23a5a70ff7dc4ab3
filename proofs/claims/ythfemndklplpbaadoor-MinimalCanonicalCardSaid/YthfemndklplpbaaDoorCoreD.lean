/- The operations that make memory, write it or call; how a function is entered and left. -/
import Derived.Test.YthfemndklplpbaaDoorCoreC
set_option linter.unusedSectionVars false
set_option linter.unusedSimpArgs false
set_option linter.unusedVariables false
set_option linter.unnecessarySimpa false
namespace Go.Lx
open Go.RowKit

def oneB : Value → Bool
  | .agg _ | .tuple _ => false
  | _ => true

/-- Cells stored from place o on. -/
def putL (cs : List Value) : Nat → List Value → List Value
  | _, [] => cs
  | o, v :: vs => putL (cs.set o v) (o + 1) vs

theorem putL_length (vs : List Value) : ∀ (cs : List Value) (o : Nat), (putL cs o vs).length = cs.length := by
  induction vs with
  | nil => intro cs o; rfl
  | cons v vs ih => intro cs o; simp [putL, ih]

theorem putL_get (vs : List Value) : ∀ (cs : List Value) (o i : Nat), o + vs.length ≤ cs.length → (putL cs o vs)[i]? = if o ≤ i ∧ i < o + vs.length then vs[i - o]? else cs[i]? := by
  induction vs with
  | nil => intro cs o i h; simp [putL]; intro h1 h2; omega
  | cons v vs ih =>
    intro cs o i h
    simp only [putL, List.length_cons] at h ⊢
    rw [ih _ _ _ (by simp; omega)]
    by_cases h1 : o + 1 ≤ i ∧ i < o + 1 + vs.length
    · rw [if_pos h1, if_pos (by omega)]
      have : i - o = (i - (o + 1)) + 1 := by omega
      rw [this]; simp
    · rw [if_neg h1]
      by_cases h2 : i = o
      · subst h2
        rw [if_pos (by omega)]
        simp
        rw [List.getElem?_set_self (by omega)]
      · rw [if_neg (by omega), List.getElem?_set_ne (by omega)]

/-- One block turned. -/
def setB (w : World) (b : Nat) (o : Obj) : World := { w with heap := w.heap.setIfInBounds b o }

theorem setB_same {w : World} {b : Nat} {o : Obj} (h : b < w.heap.size) : (setB w b o).heap[b]? = some o := by simp [setB, h]
theorem setB_other {w : World} {b k : Nat} {o : Obj} (h : k ≠ b) : (setB w b o).heap[k]? = w.heap[k]? := by simp [setB, Array.getElem?_setIfInBounds_ne (Ne.symm h)]
theorem setB_size {w : World} {b : Nat} {o : Obj} : (setB w b o).heap.size = w.heap.size := by simp [setB]

theorem setCell_setB {w : World} {b o : Nat} {v : Value} {cs : List Value} {T : TypeId} {fr : Nat × Nat} (h : w.heap[b]? = some (.cells cs.toArray T fr)) : w.setCell ⟨b, o, none⟩ v = setB w b (.cells (cs.set o v).toArray T fr) := by
  unfold World.setCell setB
  congr 1
  apply Array.ext_getElem?
  intro i
  rw [Array.getElem?_modify]
  by_cases e : b = i
  · subst e
    obtain ⟨hlt, e⟩ := Array.getElem?_eq_some_iff.1 h
    simp [hlt, e]
  · simp [e, Array.getElem?_setIfInBounds_ne e]

theorem setB_setB {w : World} {b : Nat} {o o' : Obj} : setB (setB w b o) b o' = setB w b o' := by
  unfold setB; simp

theorem run_store1 {P : Program} {w : World} {b o : Nat} {v : Value} {cs : List Value} {T : TypeId} (h : w.heap[b]? = some (.cells cs.toArray T (0, 0))) (ho : o < cs.length) (hv : oneB v = true) :
    (store ⟨b, o, none⟩ v).run P w = .ok () (setB w b (.cells (cs.set o v).toArray T (0, 0))) := by
  have hc : w.cell? ⟨b, o, none⟩ = some cs[o] := by unfold World.cell?; simp [h, ho]
  have hf : w.frozen? ⟨b, o, none⟩ = false := by unfold World.frozen?; simp [h]
  have hv' : v.oneCell' = true := by cases v <;> simp_all [oneB, Value.oneCell']
  rw [run_store P w _ _ _ hv', hc]
  simp [hf, setCell_setB h]

theorem storeCells_run {P : Program} {b o : Nat} {T : TypeId} : ∀ (vs : List Value) (cs : List Value) (i : Nat) (w : World), w.heap[b]? = some (.cells cs.toArray T (0, 0)) → o + i + vs.length ≤ cs.length → (vs.all oneB) = true →
    (storeCells ⟨b, o, none⟩ vs i).run P w = .ok () (setB w b (.cells (putL cs (o + i) vs).toArray T (0, 0)))
  | [], cs, i, w, h, _, _ => by
    have : setB w b (.cells cs.toArray T (0, 0)) = w := by
      unfold setB
      have : w.heap.setIfInBounds b (.cells cs.toArray T (0, 0)) = w.heap := by
        apply Array.ext_getElem?
        intro k
        by_cases e : b = k
        · subst e
          obtain ⟨hlt, e⟩ := Array.getElem?_eq_some_iff.1 h
          simp [hlt, e]
        · rw [Array.getElem?_setIfInBounds_ne e]
      rw [this]
    simp [storeCells, putL, this]
  | v :: vs, cs, i, w, h, hl, hv => by
    simp only [List.length_cons, List.all_cons, Bool.and_eq_true] at hl hv
    have e : (Addr.add ⟨b, o, none⟩ i) = ⟨b, o + i, none⟩ := by
      unfold Addr.add; split <;> rename_i h <;> first | (subst h; rfl) | rfl
    have h1 := run_store1 (P := P) h (o := o + i) (v := v) (by omega) hv.1
    have hlt := (Array.getElem?_eq_some_iff.1 h).1
    have h2 := storeCells_run (P := P) (b := b) (o := o) (T := T) vs (cs.set (o + i) v) (i + 1) (setB w b (.cells (cs.set (o + i) v).toArray T (0, 0))) (setB_same hlt) (by simp; omega) hv.2
    simp only [storeCells, e, Sem.run_bind, h1, Result.andThen_ok, h2, setB_setB, putL]
    rfl

section
variable {P : Program} {r : Option Nat} {base : World} {n : Nat} {ρ : Env} {O : List Item} {K : Env → List Item → Prop} {d : Nat} {t : TypeId} {p : String} {af : Array Edge} {g : Option (Nat × Bool)}

theorem at_app {M : List Item} {j : Nat} {it : Item} (h : O[j]? = some it) : (O ++ M)[j]? = some it := by
  rw [List.getElem?_append_left (List.getElem?_eq_some_iff.1 h).1]; exact h
theorem set_app {M : List Item} {j : Nat} {it : Item} (h : O[j]? = some it) (x : Item) : (O ++ M).set j x = O.set j x ++ M :=
  List.set_append_left _ _ (List.getElem?_eq_some_iff.1 h).1

theorem LT.of_run {op : Op} (hn : Nat.blt d n = true)
    (h : ∀ w M, Inv base (O ++ M) w → ∃ v w' O', (execOp (ev ρ) ⟨some d, op, t, p, af, g⟩).run P w = .ok (.value v) w' ∧ Inv base (O' ++ M) w' ∧ K (upd ρ d v) O') : LT P r base n ⟨some d, op, t, p, af, g⟩ ρ O K := by
  intro a w M ds ha hi next Qx hnext
  obtain ⟨v, w', O', hr, hI, hK⟩ := h w M hi
  rw [← ha.eval] at hr
  refine wpIn_Fr (notDefer hr (by simp)) ?_
  rw [hr]
  exact hnext _ _ _ _ (ha.put hn v) hI hK

theorem LT.of_skip {op : Op}
    (h : ∀ w M, Inv base (O ++ M) w → ∃ w' O', (execOp (ev ρ) ⟨none, op, t, p, af, g⟩).run P w = .ok .skip w' ∧ Inv base (O' ++ M) w' ∧ K ρ O') : LT P r base n ⟨none, op, t, p, af, g⟩ ρ O K := by
  intro a w M ds ha hi next Qx hnext
  obtain ⟨w', O', hr, hI, hK⟩ := h w M hi
  rw [← ha.eval] at hr
  refine wpIn_Fr (notDefer hr (by simp)) ?_
  rw [hr]
  exact hnext _ _ _ _ ha hI hK

theorem Sub.app {O' M : List Item} (h : Sub O' O) : Sub (O' ++ M) (O ++ M) := by
  obtain ⟨l, hp, hs⟩ := h
  exact ⟨l ++ M, hp.append_right M, hs.append (List.Sublist.refl M)⟩

/-- An item that owns nothing may be laid beside the others: the nil slice, to which one will append. -/
theorem Inv.nilRow {w : World} (h : Inv base O w) (E : TypeId) (k : Nat) : Inv base (rowI none 0 E k [] :: O) w :=
  Inv.new (N := [rowI none 0 E k []]) h rfl rfl rfl (Nat.le_refl _) (fun _ _ => rfl) (by simp [rowI, rowP]) (by simp [rowI]) (by simp [rowI])

theorem T.nilRow {c : Code} {Q : Post} (E : TypeId) (k : Nat) (h : T P r base n c Q ρ (rowI none 0 E k [] :: O)) : T P r base n c Q ρ O :=
  fun a w M D hM ha hi => h a w M D hM ha (hi.nilRow E k)

/-- Some of the items are forgotten, the others put in another order. -/
theorem T.sub {c : Code} {Q : Post} {O' : List Item} (hs : Sub O' O) (h : T P r base n c Q ρ O') : T P r base n c Q ρ O :=
  fun a w M D hM ha hi => h a w M D hM ha (hi.subp hs.app)

theorem l_alloc {E : TypeId} {z : Value} {s by_ : Nat} {cs : List Value} (hi : Inf P E z s by_) (hz : z.cells = cs.toArray)
    (h : ∀ b, K (upd ρ d (.pointer (some ⟨b, 0, none⟩))) (objI b (.cells cs.toArray E (0, 0)) :: O)) (hn : Nat.blt d n = true := by rfl) : LT P r base n ⟨some d, .alloc E, t, p, af, g⟩ ρ O K :=
  LT.of_run hn fun w M hI => ⟨_, _, _, by simp [execOp, Instr.alloc, run_zeroValue' hi, newVar, newRow, hz], hI.alloc _, h _⟩

theorem l_box {E : TypeId} {x : Operand} {v : Value} {cs : List Value} (hx : ev ρ x = v) (hv : v.cells = cs.toArray)
    (h : ∀ b, K (upd ρ d (.pointer (some ⟨b, 0, none⟩))) (objI b (.cells cs.toArray E (0, 0)) :: O)) (hn : Nat.blt d n = true := by rfl) : LT P r base n ⟨some d, .box E x, t, p, af, g⟩ ρ O K :=
  LT.of_run hn fun w M hI => ⟨_, _, _, by simp [execOp, Instr.box, newVar, newRow, hx, hv], hI.alloc _, h _⟩

theorem Inv.setBox {w : World} (hI : Inv base O w) {i : Nat} {b : Nat} {o : Obj} (hO : O[i]? = some (objI b o)) (o' : Obj) : Inv base (O.set i (objI b o')) (setB w b o') := by
  have hb := hI.objAt hO
  have hlt := (Array.getElem?_eq_some_iff.1 hb).1
  refine hI.stepAt hO rfl rfl rfl (by rw [setB_size]; exact Nat.le_refl _) (fun k _ hk => setB_other (fun e => hk (by simp [objI, e]))) (setB_same hlt) (fun k hk => .inl hk) (by simp [objI])

theorem Inv.setRow {w : World} (hI : Inv base O w) {i b o c : Nat} {T : TypeId} {k : Nat} {cs cs' : List Value} {full : Array Value} (hO : O[i]? = some (rowI (some ⟨b, o, none⟩) c T k cs)) (hl : cs'.length ≤ c * k)
    (hf : o + c * k ≤ full.size) (hc : ∀ j (h : j < cs'.length), full[o + j]? = some cs'[j]) : Inv base (O.set i (rowI (some ⟨b, o, none⟩) c T k cs')) (setB w b (.cells full T (0, 0))) := by
  obtain ⟨_, full0, hb, _, _⟩ := hI.row hO
  have hlt := (Array.getElem?_eq_some_iff.1 hb).1
  refine hI.stepAt hO rfl rfl rfl (by rw [setB_size]; exact Nat.le_refl _) (fun k _ hk => setB_other (fun e => hk (by simp [rowI, e]))) ⟨rfl, full, setB_same hlt, hl, hf, hc⟩ (fun k hk => .inl hk) (by simp [rowI])

theorem run_storeVar {T : TypeId} {z : Value} {s by_ b o : Nat} {v : Value} {vs cs : List Value} {E : TypeId} {w : World} (hi : Inf P T z s by_) (hv : v.cells = vs.toArray) (hl : vs.length = s) (ho : (vs.all oneB) = true)
    (h : w.heap[b]? = some (.cells cs.toArray E (0, 0))) (hr : o + vs.length ≤ cs.length) : (storeVar T ⟨b, o, none⟩ v).run P w = .ok () (setB w b (.cells (putL cs o vs).toArray E (0, 0))) := by
  have := storeCells_run (P := P) (b := b) (o := o) (T := E) vs cs 0 w h (by omega) ho
  unfold storeVar
  simp [run_sizeOf' hi, hv, hl]
  exact this

/-- a store into a box of our own -/
theorem l_store_box (i : Nat) {T E : TypeId} {x y : Operand} {b o : Nat} {v : Value} {vs cs : List Value} {z : Value} {s by_ : Nat} (hi : Inf P T z s by_) (hx : ev ρ x = .pointer (some ⟨b, o, none⟩)) (hy : ev ρ y = v) (hv : v.cells = vs.toArray) (hl : vs.length = s) (ho : (vs.all oneB) = true)
    (hO : O[i]? = some (objI b (.cells cs.toArray E (0, 0)))) (hr : o + vs.length ≤ cs.length)
    (h : K ρ (O.set i (objI b (.cells (putL cs o vs).toArray E (0, 0))))) : LT P r base n ⟨none, .store T x y, t, p, af, g⟩ ρ O K :=
  LT.of_skip fun w M hI => ⟨setB w b (.cells (putL cs o vs).toArray E (0, 0)), _, by
    simp only [execOp, hx, hy, Instr.storeAt, Instr.sureAddr]
    simp [run_storeVar hi hv hl ho (hI.objAt (at_app hO)) hr], by have := hI.setBox (at_app hO) (.cells (putL cs o vs).toArray E (0, 0)); rwa [set_app hO] at this, h⟩

/-- a store into a slice of our own -/
theorem l_store_row (i : Nat) {T E : TypeId} {x y : Operand} {b o j c k : Nat} {v : Value} {vs cs : List Value} {z : Value} {s by_ : Nat} (hi : Inf P T z s by_) (hx : ev ρ x = .pointer (some ⟨b, o + j, none⟩)) (hy : ev ρ y = v) (hv : v.cells = vs.toArray) (hl : vs.length = s) (ho : (vs.all oneB) = true)
    (hO : O[i]? = some (rowI (some ⟨b, o, none⟩) c E k cs)) (hr : j + vs.length ≤ cs.length)
    (h : K ρ (O.set i (rowI (some ⟨b, o, none⟩) c E k (putL cs j vs)))) : LT P r base n ⟨none, .store T x y, t, p, af, g⟩ ρ O K :=
  LT.of_skip fun w M hI => by
    obtain ⟨_, full, hb, h1, h2, h3⟩ := hI.row (at_app hO)
    simp only at hb h2 h3
    obtain ⟨fl, rfl⟩ : ∃ fl : List Value, full = fl.toArray := ⟨full.toList, by simp⟩
    simp only [List.size_toArray] at h2
    refine ⟨setB w b (.cells (putL fl (o + j) vs).toArray E (0, 0)), _, ?_, set_app hO (rowI (some ⟨b, o, none⟩) c E k (putL cs j vs)) ▸ hI.setRow (at_app hO) (cs' := putL cs j vs) (by rw [putL_length]; exact h1) (by simp [putL_length]; exact h2) ?_, h⟩
    · have hr' : o + j + vs.length ≤ fl.length := by omega
      simp only [execOp, hx, hy, Instr.storeAt, Instr.sureAddr]
      simp [run_storeVar hi hv hl ho hb hr']
    · intro m hm
      rw [putL_length] at hm
      have e1 : (putL fl (o + j) vs).toArray[o + m]? = (putL fl (o + j) vs)[o + m]? := by simp
      have e2 : (putL cs j vs)[m]? = some ((putL cs j vs)[m]'(by rw [putL_length]; exact hm)) := List.getElem?_eq_getElem _
      rw [e1, ← e2, putL_get vs fl (o + j) (o + m) (by omega), putL_get vs cs j m (by omega)]
      by_cases hin : j ≤ m ∧ m < j + vs.length
      · rw [if_pos hin, if_pos (by omega)]
        congr 1; omega
      · rw [if_neg hin, if_neg (by omega)]
        have := h3 m hm
        simpa [List.getElem?_eq_getElem hm] using this

/-! ### new slices -/

theorem map_range0 {α : Type} (f : Nat → α) : (Array.range 0).map f = #[] := by simp

theorem zeros_one (z : Value) (m : Nat) : ((Array.range m).map fun i => (#[z] : Array Value)[i % (#[z] : Array Value).size]!) = (List.replicate m z).toArray := by
  apply Array.ext_getElem?
  intro i
  rw [Array.getElem?_map, Array.getElem?_range]
  by_cases h : i < m
  · simp [h, Nat.mod_one]
  · simp [h]

theorem l_makeSlice {T E : TypeId} {x : Operand} {k : IntKind} {m : Nat} {z : Value} {by_ : Nat} (hu : P.underlying T = some (.slice E)) (hi : Inf P E z 1 by_) (hz : z.cells = #[z]) (hx : ev ρ x = .int k (m : Int)) (hm : m * by_ ≤ 140737488355328) (hm' : m ≤ 9223372036854775807)
    (h : ∀ b, K (upd ρ d (.slice (some ⟨b, 0, none⟩) m m)) (rowI (some ⟨b, 0, none⟩) m E 1 (List.replicate m z) :: O)) (hn : Nat.blt d n = true := by rfl) : LT P r base n ⟨some d, .makeSlice T x x, t, p, af, g⟩ ρ O K :=
  LT.of_run hn fun w M hI => by
    obtain ⟨i, hi1, hi2, hi3, hi4⟩ := hi.get
    have hw : IntKind.i64.wrap (m : Int) = (m : Int) := wrap64_id (by omega)
    have hnot : ¬ ((by_ : Int) * (m : Int) > 2 ^ 48) := by
      have h1 : ((m * by_ : Nat) : Int) ≤ 140737488355328 := Int.ofNat_le.2 hm
      rw [Nat.mul_comm, Int.natCast_mul] at h1
      have h2 : (2 : Int) ^ 48 = 281474976710656 := by rfl
      rw [h2]; omega
    have hnot' : decide ((by_ : Int) * (m : Int) > 2 ^ 48) = false := decide_eq_false hnot
    refine ⟨.slice (some ⟨w.heap.size, 0, none⟩) m m, w.alloc (.cells (List.replicate m z).toArray E), _, ?_, Inv.new (O := O ++ M) (w' := w.alloc (.cells (List.replicate m z).toArray E)) (N := [rowI (some ⟨w.heap.size, 0, none⟩) m E 1 (List.replicate m z)]) hI rfl rfl rfl (by simp) (fun b hb => Below.heap_alloc w _ b hb) ?_ ?_ ?_, h _⟩
    · have hneg : decide ((m : Int) < 0) = false := by simp
      simp only [execOp, hx, Instr.makeSlice, Sem.run_bind, run_underlying' hu, Result.andThen_ok, asInt, asIntOf, Sem.run_pure, run_typeInfo' hi1, hi4, hw, hnot', hneg, Bool.or_false, Bool.or_self, Int.lt_irrefl, gt_iff_lt, decide_false, Bool.false_eq_true, if_false, run_askRoom, run_sizeOf' hi, Nat.mul_one, Int.toNat_natCast]
      by_cases h0 : m = 0
      · subst h0
        simp [newRow, map_range0]
      · simp [h0, hz, newRow, run_zeroValue' hi]
        have := zeros_one z m
        simp at this
        rw [this]
    · intro x hx
      simp at hx; subst hx
      refine ⟨rfl, (List.replicate m z).toArray, ?_, by simp, by simp, fun j hj => by simp at hj; simp [hj]⟩
      show (w.heap.push _)[w.heap.size]? = _
      simp
    · intro x hx b hb
      simp at hx; subst hx
      simp [rowI] at hb; subst hb
      simp
    · simp [rowI]

/-- A literal's slice: the cells that 'fill' lays. -/
theorem l_buildSlice {T E : TypeId} {m : Nat} {parts : List (Nat × Operand)} {z : Value} {s by_ : Nat} {cs : List Value} (hu : P.underlying T = some (.slice E)) (hi : Inf P E z s by_) (h24 : m * s ≤ 16777216)
    (hf : Instr.fill (fun i => some (i * s, s)) ((Array.range (m * s)).map (z.cells[· % z.cells.size]!)) (parts.map fun q => (q.1, ev ρ q.2)) = some cs.toArray) (hl : cs.length = m * s)
    (h : ∀ b, K (upd ρ d (.slice (some ⟨b, 0, none⟩) m m)) (rowI (some ⟨b, 0, none⟩) m E s cs :: O)) (hn : Nat.blt d n = true := by rfl) : LT P r base n ⟨some d, .buildSlice T m parts.toArray, t, p, af, g⟩ ρ O K :=
  LT.of_run hn fun w M hI => by
    refine ⟨.slice (some ⟨w.heap.size, 0, none⟩) m m, w.alloc (.cells cs.toArray E), _, ?_, Inv.new (O := O ++ M) (w' := w.alloc (.cells cs.toArray E)) (N := [rowI (some ⟨w.heap.size, 0, none⟩) m E s cs]) hI rfl rfl rfl (by simp) (fun b hb => Below.heap_alloc w _ b hb) ?_ ?_ ?_, h _⟩
    · have hno : ¬ (m * s > 2 ^ 24) := by omega
      by_cases h0 : m * s = 0
      · have hf' : Instr.fill (fun i => some (i * s, s)) #[] (parts.map fun q => (q.1, ev ρ q.2)) = some cs.toArray := by rw [h0, map_range0] at hf; exact hf
        simp only [execOp, Instr.buildSlice, Sem.run_bind, run_underlying' hu, run_sizeOf' hi, Result.andThen_ok, h0, gt_iff_lt, if_true, Sem.run_pure, map_range0]
        have hlt : ¬ (2 ^ 24 < 0) := by omega
        simp [hf', newRow]
      · simp [execOp, Instr.buildSlice, run_underlying' hu, run_sizeOf' hi, hno, h0, run_zeroValue' hi, hf, newRow]
    · intro x hx
      simp at hx; subst hx
      refine ⟨rfl, cs.toArray, ?_, by rw [hl]; exact Nat.le_refl _, by simp [hl], fun j hj => by simp [hj]⟩
      show (w.heap.push _)[w.heap.size]? = _
      simp
    · intro x hx b hb
      simp at hx; subst hx
      simp [rowI] at hb; subst hb
      simp
    · simp [rowI]


/-! ### append -/

theorem zeros_any (z : Array Value) (m : Nat) : (Builtin.zeroCells z m).size = m * z.size := by simp [Builtin.zeroCells]

theorem growBy_le (need : Nat) : ∀ (r c : Nat), c ≤ 2 * need → Builtin.growBy need r c ≤ 2 * need + 192
  | 0, c, h => by simp [Builtin.growBy]; omega
  | r + 1, c, h => by
    simp only [Builtin.growBy]
    split
    · omega
    · by_cases h2 : c + (c + 768) / 4 ≤ 2 * need
      · exact growBy_le need r _ h2
      · have : ∀ r, Builtin.growBy need r (c + (c + 768) / 4) = c + (c + 768) / 4 := by
          intro r
          cases r with
          | zero => rfl
          | succ r => simp only [Builtin.growBy]; rw [if_pos (by omega)]
        rw [this]; omega

theorem nextcap_le {need cap : Nat} (h : cap < need) : Builtin.nextslicecap need cap ≤ 2 * need + 192 := by
  unfold Builtin.nextslicecap
  split
  · omega
  · split
    · omega
    · exact growBy_le need 4 cap (by omega)

theorem firstCells_run {P : Program} {w : World} {b : Option Addr} {m c s : Nat} {cs : List Value} (h : Sl w b cs) (hl : cs.length = m * s) (hb : b = none → cs = []) :
    (Builtin.firstCells s m (.slice b m c)).run P w = .ok cs.toArray w := by
  cases b with
  | none => rw [hb rfl]; rfl
  | some a =>
    obtain ⟨k, o, sp⟩ := a
    simp only [Builtin.firstCells, ← hl, loadCells]
    by_cases h0 : cs.length = 0
    · have : cs = [] := List.length_eq_zero_iff.1 h0
      subst this; rfl
    · obtain ⟨a', e1, e2, _⟩ := h 0 (by omega)
      cases e1
      simp only at e2; subst e2
      have := loadCells_run (P := P) (w := w) (a := ⟨k, o, none⟩) cs 0 #[] (fun j hj => by
        have := h.get (List.getElem?_eq_getElem hj)
        simp only [Nat.zero_add, Addr.add]
        split <;> rename_i e
        · subst e; simpa using this
        · exact this)
      simpa using this

/-- What an appended source is: its first cells, wherever they lie. -/
def Src (P : Program) (base : World) (O : List Item) (s m : Nat) (x : Value) (cs : List Value) : Prop :=
  cs.length = m * s ∧ (∀ w, (Builtin.lenOf x).run P w = .ok m w) ∧ ∀ w, Inv base O w → (Builtin.firstCells s m x).run P w = .ok cs.toArray w

theorem Src.app {b : World} {M : List Item} {s m : Nat} {x : Value} {cs : List Value} (h : Src P b O s m x cs) : Src P b (O ++ M) s m x cs := ⟨h.1, h.2.1, fun w hI => h.2.2 w hI.left⟩

theorem Src.row {j : Nat} {b : Option Addr} {c k m : Nat} {E : TypeId} {cs : List Value} (hO : O[j]? = some (rowI b c E k cs)) (hl : cs.length = m * k) (c' : Nat := c) : Src P base O k m (.slice b m c') cs :=
  ⟨hl, fun w => by simp [Builtin.lenOf], fun w hI => firstCells_run (hI.row hO).sl hl (fun e => by subst e; exact (hI.row hO).1)⟩

theorem Src.sl {b : Option Addr} {c k m : Nat} {cs : List Value} (h : Sl base b cs) (hl : cs.length = m * k) : Src P base O k m (.slice b m c) cs :=
  ⟨hl, fun w => by simp [Builtin.lenOf], fun w hI => firstCells_run (hI.sl h) hl (fun e => by
    cases cs with
    | nil => rfl
    | cons v cs => obtain ⟨a, h1, _⟩ := h 0 (by simp); rw [e] at h1; cases h1)⟩

theorem add_off {b o i : Nat} : (Addr.add ⟨b, o, none⟩ i) = ⟨b, o + i, none⟩ := by
  unfold Addr.add; split <;> rename_i h <;> first | (subst h; rfl) | rfl

theorem cut_cap (need old t : Nat) (e : TypeId) : need ≤ (Question.appendCap need old e).cut t := Nat.le_add_right _ _

theorem run_append {T U E : TypeId} {xd : TypeDesc} {b : Option Addr} {m c l s by_ : Nat} {x z : Value} {cs new : List Value} {j : Nat} {ty : TypeId}
    (hu : P.underlying T = some (.slice E)) (hxu : P.underlying U = some xd) (hxi : (∃ XE, xd = .slice XE) ∨ xd = .string) (hi : Inf P E z s by_) (hz : z.cells.size = s)
    (hO : O[j]? = some (rowI b c E s cs)) (hl : cs.length = m * s) (_hs : 0 < s)
    (hx : Src P base O s l x new) (hone : (new.all oneB) = true) (hsz : (m + l) * by_ ≤ 70368744177664) (hby : by_ ≤ 1000000) (hsz' : 0 < by_) {w : World} (hI : Inv base O w) :
    ∃ b' c' w', (Builtin.append_ #[T, U] ty #[.slice b m c, x]).run P w = .ok (.slice b' (m + l) c') w' ∧ Inv base (O.set j (rowI b' c' E s (cs ++ new))) w' := by
  obtain ⟨hnl, hlen, hfirst⟩ := hx
  obtain ⟨i, hi1, hi2, hi3, hi4⟩ := hi.get
  have hrow := hI.row hO
  have hfx := hfirst w hI
  have hfs : (Builtin.firstCells s m (.slice b m c)).run P w = .ok cs.toArray w := firstCells_run hrow.sl hl (fun e => by subst e; exact hrow.1)
  by_cases hfit : m + l ≤ c
  · -- there is room
    cases b with
    | none =>
      obtain ⟨rfl, rfl⟩ := hrow
      have hm0 : m = 0 := by omega
      have hl0 : l = 0 := by omega
      subst hm0; subst hl0
      have hn0 : new = [] := List.length_eq_zero_iff.1 (by omega)
      subst hn0
      refine ⟨none, 0, w, ?_, ?_⟩
      · rcases hxi with ⟨XE, rfl⟩ | rfl <;> simp [Builtin.append_, run_underlying' hu, run_underlying' hxu, run_sizeOf' hi, hlen, hfx]
      · simp only [List.append_nil]
        obtain ⟨A, B, e, hset⟩ := split_at hO
        rw [hset, ← e]
        exact hI
    | some a =>
      obtain ⟨k, o, sp⟩ := a
      obtain ⟨hsp, full, hb, h1, h2, h3⟩ := hrow
      simp only at hsp hb h1 h2 h3
      subst hsp
      obtain ⟨fl, rfl⟩ : ∃ fl : List Value, full = fl.toArray := ⟨full.toList, by simp⟩
      simp only [List.size_toArray] at h2
      have hmul : m * s + l * s ≤ c * s := by rw [← Nat.add_mul]; exact Nat.mul_le_mul_right s hfit
      have hr : o + m * s + 0 + new.length ≤ fl.length := by omega
      have hst := storeCells_run (P := P) (b := k) (o := o + m * s) (T := E) new fl 0 w hb hr hone
      refine ⟨some ⟨k, o, none⟩, c, _, ?_, hI.setRow hO (cs' := cs ++ new) (full := (putL fl (o + m * s + 0) new).toArray) (by simp; omega) (by simp [putL_length]; exact h2) ?_⟩
      · rcases hxi with ⟨XE, rfl⟩ | rfl <;> simp [Builtin.append_, run_underlying' hu, run_underlying' hxu, run_sizeOf' hi, hlen, hfx, hfit, add_off]
        all_goals (simp at hst; rw [hst]; rfl)
      · intro q hq
        simp only [List.length_append] at hq
        have e1 : (putL fl (o + m * s + 0) new).toArray[o + q]? = (putL fl (o + m * s) new)[o + q]? := by simp
        have e2 : some ((cs ++ new)[q]'(by simp; omega)) = (cs ++ new)[q]? := (List.getElem?_eq_getElem _).symm
        rw [e1, e2, putL_get new fl (o + m * s) (o + q) (by omega)]
        by_cases hin : m * s ≤ q
        · rw [if_pos (by omega), List.getElem?_append_right (by omega)]
          congr 1; omega
        · rw [if_neg (by omega), List.getElem?_append_left (by omega)]
          have := h3 q (by omega)
          simpa [List.getElem?_eq_getElem (show q < cs.length by omega)] using this
  · -- a new array
    obtain ⟨cap, hcap⟩ : ∃ cap, (Question.appendCap (m + l) c E).cut (w.tape w.drawn (Question.appendCap (m + l) c E)) = cap := ⟨_, rfl⟩
    have hle : m + l ≤ cap := hcap ▸ cut_cap (m + l) c _ E
    have hforced : (Question.appendCap (m + l) c E).forced = false := rfl
    have hI' : Inv base O w.drew := hI.drew
    have hfx' := hfirst _ hI'
    have hrow' := hI'.row hO
    have hfs' : (Builtin.firstCells s m (.slice b m c)).run P w.drew = .ok cs.toArray w.drew := firstCells_run hrow'.sl hl (fun e => by subst e; exact hrow'.1)
    have hnext : ¬ (Builtin.nextslicecap (m + l) c * by_ > 2 ^ 48) := by
      have h1 := nextcap_le (need := m + l) (cap := c) (by omega)
      have h2 : Builtin.nextslicecap (m + l) c * by_ ≤ (2 * (m + l) + 192) * by_ := Nat.mul_le_mul_right _ h1
      have h3 : (2 * (m + l) + 192) * by_ = 2 * ((m + l) * by_) + 192 * by_ := by rw [Nat.add_mul, Nat.mul_assoc]
      omega
    obtain ⟨w', hw'⟩ : ∃ w' : World, w' = w.drew.alloc (.cells (cs.toArray ++ new.toArray ++ Builtin.zeroCells z.cells (cap - (m + l))) E) := ⟨_, rfl⟩
    refine ⟨some ⟨w.heap.size, 0, none⟩, cap, w', ?_, ?_⟩
    · have hmax' : ¬ (9223372036854775807 < ((m : Int) + (l : Int)) ∧ by_ = 0) := by rintro ⟨_, h⟩; omega
      have hnext' : ¬ (281474976710656 < Builtin.nextslicecap (m + l) c * by_) := by simpa using hnext
      rcases hxi with ⟨XE, rfl⟩ | rfl <;> simp [Builtin.append_, run_underlying' hu, run_underlying' hxu, run_sizeOf' hi, hlen, hfit, run_typeInfo' hi1, hi4, hmax', hnext', hforced, hcap, hfs', hfx', run_zeroValue' hi, newRow, hw']
      all_goals (have e : (cs ++ new).toArray = cs.toArray ++ new.toArray := by simp)
      all_goals rw [e, Array.append_assoc]
    · subst hw'
      refine hI.stepAt hO rfl rfl rfl (by simp) (fun q hq _ => ?_) ⟨rfl, cs.toArray ++ new.toArray ++ Builtin.zeroCells z.cells (cap - (m + l)), ?_, ?_, ?_, ?_⟩ ?_ (by simp [rowI])
      · show (w.heap.push _)[q]? = _
        rw [Array.getElem?_push, if_neg (by omega)]
      · show (w.heap.push _)[w.heap.size]? = _
        simp
      · simp only [List.length_append, hl, hnl, ← Nat.add_mul]; exact Nat.mul_le_mul_right s hle
      · simp only [Array.size_append, List.size_toArray, zeros_any, hz, hl, hnl, ← Nat.add_mul, Nat.zero_add]
        exact Nat.mul_le_mul_right s (by omega)
      · intro q hq
        simp only [Nat.zero_add]
        rw [Array.getElem?_append_left (by simp at hq ⊢; exact hq)]
        simp
      · intro q hq
        simp [rowI] at hq
        subst hq
        exact .inr ⟨Nat.le_refl _, by simp⟩

theorem l_append {T U E XE : TypeId} {b : Option Addr} {m c l s by_ : Nat} {x y : Operand} {xv z : Value} {cs new : List Value} (j : Nat)
    (hu : P.underlying T = some (.slice E)) (hxu : P.underlying U = some (.slice XE)) (hi : Inf P E z s by_) (hz : z.cells.size = s)
    (hx : ev ρ x = .slice b m c) (hy : ev ρ y = xv) (hO : O[j]? = some (rowI b c E s cs)) (hl : cs.length = m * s) (hs : 0 < s)
    (hsrc : Src P base O s l xv new) (hone : (new.all oneB) = true) (hsz : (m + l) * by_ ≤ 70368744177664) (hby : by_ ≤ 1000000) (hsz' : 0 < by_)
    (h : ∀ b' c', K (upd ρ d (.slice b' (m + l) c')) (O.set j (rowI b' c' E s (cs ++ new)))) (hn : Nat.blt d n = true := by rfl) :
    LT P r base n ⟨some d, .call ⟨.builtin .append, #[x, y], #[T, U]⟩, t, p, af, g⟩ ρ O K :=
  LT.of_run hn fun w M hI => by
    obtain ⟨b', c', w', hr, hI'⟩ := run_append (ty := t) hu hxu (.inl ⟨_, rfl⟩) hi hz (at_app hO) hl hs hsrc.app hone hsz hby hsz' hI
    rw [set_app hO] at hI'
    refine ⟨_, w', _, ?_, hI', h b' c'⟩
    simp [execOp, resolve, hx, hy, invoke, builtin, hr]

/-! ### calls -/

def Enters (P : Program) (f : FuncId) (fn : Func) : Prop := P.funcs[f]? = some fn ∧ (fn.name == "runtime.NumGoroutine") = false ∧ fn.body.isSome = true

/-- A call, from every world in which the items are as said, returns; what it returns and which items there are then, R says. -/
def CallT (P : Program) (base : World) (f : FuncId) (args : List Value) (O : List Item) (R : Value → List Item → Prop) : Prop :=
  ∀ w M, Inv base (O ++ M) w → Calls P f args.toArray w fun e w' => ∃ v O', e = .returned v ∧ Inv base (O' ++ M) w' ∧ R v O'

theorem CallT.mono {f : FuncId} {args : List Value} {R R' : Value → List Item → Prop} (h : CallT P base f args O R) (hr : ∀ v O', R v O' → R' v O') : CallT P base f args O R' :=
  fun w M hI => (h w M hI).mono fun _ _ ⟨v, O', h1, h2, h3⟩ => ⟨v, O', h1, h2, hr v O' h3⟩

/-- A function that leaves all memory as it found it: its contract, stated at the world at which it is called; what it hands back lies in items of its own. -/
def PureT (P : Program) (f : FuncId) (args : List Value) (w : World) (R : Value → List Item → Prop) : Prop := CallT P w f args [] R

theorem CallT.of_pure {f : FuncId} {args : List Value} {R : Value → List Item → Prop} (h : ∀ w, Inv base O w → PureT P f args w R) : CallT P base f args O (fun v O' => ∃ N, O' = N ++ O ∧ R v N) :=
  fun w M hI => (h w hI.left w [] (Inv.refl w)).mono fun _ _ ⟨v, N, h1, h2, h3⟩ => ⟨v, N ++ O, h1, by
    have := hI.call h2
    simpa [List.append_assoc] using this, N, rfl, h3⟩

/-- A call that knows of some of the items alone: the others stay. -/
theorem CallT.under {f : FuncId} {args : List Value} {A B : List Item} {R : Value → List Item → Prop} (h : CallT P base f args A R) (hs : Sub (A ++ B) O) : CallT P base f args O (fun v O' => ∃ A', O' = A' ++ B ∧ R v A') :=
  fun w M hI => (h w (B ++ M) (by have := hI.subp hs.app; rwa [List.append_assoc] at this)).mono fun _ _ ⟨v, A', h1, h2, h3⟩ => ⟨v, A' ++ B, h1, by rwa [List.append_assoc], A', rfl, h3⟩

/-- What a call comes to, once its callee is known: a function's activation, or a loop's round. -/
def NextT (P : Program) (base : World) (M : List Item) (R : Value → List Item → Prop) : Result Next → Prop
  | .ok (.enter f args) w => Calls P f args w fun e w' => ∃ v O', e = .returned v ∧ Inv base (O' ++ M) w' ∧ R v O'
  | .ok (.round l f tmps assign body) w => RoundIn Fence.wide 0 P l f tmps assign body w fun e w' => ∃ v O', e = .returned v ∧ Inv base (O' ++ M) w' ∧ R v O'
  | _ => False

def callSem (fv : Value) (args : Array Value) : Sem Next := do
  let d ← Deferred.ofValue fv args
  invoke d.target d.args

/-- A call of a function value: of a function, a closure, or of a loop's body. -/
def CallV (P : Program) (base : World) (fv : Value) (args : List Value) (O : List Item) (R : Value → List Item → Prop) : Prop :=
  ∀ w M, Inv base (O ++ M) w → NextT P base M R ((callSem fv args.toArray).run P w)

theorem NextT.mono {M : List Item} {R R' : Value → List Item → Prop} {x : Result Next} (h : NextT P base M R x) (hr : ∀ v O', R v O' → R' v O') : NextT P base M R' x := by
  cases x with
  | halt e w => exact h
  | ok y w =>
    cases y <;> first
      | exact h
      | exact Calls.mono h fun _ _ ⟨v, O', h1, h2, h3⟩ => ⟨v, O', h1, h2, hr v O' h3⟩
      | exact RoundIn.mono h fun _ _ ⟨v, O', h1, h2, h3⟩ => ⟨v, O', h1, h2, hr v O' h3⟩

theorem CallV.mono {fv : Value} {args : List Value} {R R' : Value → List Item → Prop} (h : CallV P base fv args O R) (hr : ∀ v O', R v O' → R' v O') : CallV P base fv args O R' :=
  fun w M hI => (h w M hI).mono hr

theorem CallV.under {fv : Value} {args : List Value} {A B : List Item} {R : Value → List Item → Prop} (h : CallV P base fv args A R) (hs : Sub (A ++ B) O) : CallV P base fv args O (fun v O' => ∃ A', O' = A' ++ B ∧ R v A') := fun w M hI => by
  have h1 := h w (B ++ M) (by have := hI.subp hs.app; rwa [List.append_assoc] at this)
  revert h1
  cases (callSem fv args.toArray).run P w with
  | halt e w => exact id
  | ok y w =>
    cases y <;> first
      | exact id
      | exact fun h => Calls.mono h fun _ _ ⟨v, A', h1, h2, h3⟩ => ⟨v, A' ++ B, h1, by rwa [List.append_assoc], A', rfl, h3⟩
      | exact fun h => RoundIn.mono h fun _ _ ⟨v, A', h1, h2, h3⟩ => ⟨v, A' ++ B, h1, by rwa [List.append_assoc], A', rfl, h3⟩

theorem CallV.of_fn {f : FuncId} {fn : Func} {first args caps : List Value} {R : Value → List Item → Prop} (he : Enters P f fn) (h : CallT P base f (first ++ args ++ caps) O R) : CallV P base (.func (.func f) first.toArray caps.toArray) args O R := fun w M hI => by
  have hname : ¬ fn.name = "runtime.NumGoroutine" := by simpa using he.2.1
  obtain ⟨bd, hbd⟩ := Option.isSome_iff_exists.1 he.2.2
  have hr : (callSem (.func (.func f) first.toArray caps.toArray) args.toArray).run P w = .ok (.enter f (first ++ args ++ caps).toArray) w := by
    have e : (first ++ args ++ caps).toArray = first.toArray ++ args.toArray ++ caps.toArray := by simp
    rw [e]
    simp [callSem, Deferred.ofValue, invoke, callFunc, he.1, hname, hbd]
  rw [hr]
  exact h w M hI

theorem run_callOp {x : Operand} {args : List Operand} {ats : Array TypeId} {dst : Option Nat} {w : World} : (execOp (ev ρ) ⟨dst, .call ⟨.value x, args.toArray, ats⟩, t, p, af, g⟩).run P w = (callSem (ev ρ x) (evs ρ args).toArray).run P w := by
  have hargs : (args.toArray.map (ev ρ)) = (evs ρ args).toArray := by simp [evs_eq]
  simp only [execOp, resolve, callSem, hargs, Sem.run_bind]

theorem CallsIn_Fr {r : Option Nat} {f : FuncId} {args : Array Value} {w : World} {R : Ending → World → Prop} (h : Calls P f args w R) : CallsIn (Fr r) (0 - 1) P f args w R := callsIn_wide.2 h

theorem l_callG {x : Operand} {args : List Operand} {ats : Array TypeId} {fv : Value} {vs : List Value} {R : Value → List Item → Prop} (hc : CallV P base fv vs O R) (hx : ev ρ x = fv) (ha : evs ρ args = vs)
    (h : ∀ v O', R v O' → K (upd ρ d v) O') (hn : Nat.blt d n = true := by rfl) : LT P r base n ⟨some d, .call ⟨.value x, args.toArray, ats⟩, t, p, af, g⟩ ρ O K := by
  subst hx; subst ha
  intro a w M ds ha hi next Qx hnext
  have h1 := hc w M hi
  rw [← run_callOp (t := t) (p := p) (af := af) (g := g) (ats := ats) (dst := some d)] at h1
  rw [← ha.eval] at h1
  revert h1
  generalize hr : (execOp a.eval ⟨some d, .call ⟨.value x, args.toArray, ats⟩, t, p, af, g⟩).run P w = y
  intro h1
  refine wpIn_Fr (by intro c e; cases e) ?_
  rw [hr]
  cases y with
  | halt e w => exact h1.elim
  | ok y w1 =>
    cases y with
    | enter f args' =>
      rw [Oper.uponIn_enter]
      refine ⟨fun e => by simp [Fr, Fence.wide] at e, CallsIn_Fr (Calls.mono h1 ?_)⟩
      rintro e w' ⟨v, O', rfl, hI', hR⟩
      exact hnext _ _ _ _ (ha.put hn v) hI' (h v O' hR)
    | round l f tmps assign body =>
      rw [Oper.uponIn_round]
      refine ⟨fun e => by simp [Fr, Fence.wide] at e, RoundIn.mono h1 ?_⟩
      rintro e w' ⟨v, O', rfl, hI', hR⟩
      exact hnext _ _ _ _ (ha.put hn v) hI' (h v O' hR)
    | _ => exact h1.elim

theorem l_callG0 {x : Operand} {args : List Operand} {ats : Array TypeId} {fv : Value} {vs : List Value} {R : Value → List Item → Prop} (hc : CallV P base fv vs O R) (hx : ev ρ x = fv) (ha : evs ρ args = vs)
    (h : ∀ v O', R v O' → K ρ O') : LT P r base n ⟨none, .call ⟨.value x, args.toArray, ats⟩, t, p, af, g⟩ ρ O K := by
  subst hx; subst ha
  intro a w M ds ha hi next Qx hnext
  have h1 := hc w M hi
  rw [← run_callOp (t := t) (p := p) (af := af) (g := g) (ats := ats) (dst := none)] at h1
  rw [← ha.eval] at h1
  revert h1
  generalize hr : (execOp a.eval ⟨none, .call ⟨.value x, args.toArray, ats⟩, t, p, af, g⟩).run P w = y
  intro h1
  refine wpIn_Fr (by intro c e; cases e) ?_
  rw [hr]
  cases y with
  | halt e w => exact h1.elim
  | ok y w1 =>
    cases y with
    | enter f args' =>
      rw [Oper.uponIn_enter]
      refine ⟨fun e => by simp [Fr, Fence.wide] at e, CallsIn_Fr (Calls.mono h1 ?_)⟩
      rintro e w' ⟨v, O', rfl, hI', hR⟩
      exact hnext _ _ _ _ ha hI' (h v O' hR)
    | round l f tmps assign body =>
      rw [Oper.uponIn_round]
      refine ⟨fun e => by simp [Fr, Fence.wide] at e, RoundIn.mono h1 ?_⟩
      rintro e w' ⟨v, O', rfl, hI', hR⟩
      exact hnext _ _ _ _ ha hI' (h v O' hR)
    | _ => exact h1.elim

/-- a call of a named function -/
theorem l_call {f : FuncId} {fn : Func} {args : List Operand} {ats : Array TypeId} {vs : List Value} {R : Value → List Item → Prop} (he : Enters P f fn)
    (hc : CallT P base f vs O R) (ha : evs ρ args = vs) (h : ∀ v O', R v O' → K (upd ρ d v) O') (hn : Nat.blt d n = true := by rfl) : LT P r base n ⟨some d, .call ⟨.value (.func f), args.toArray, ats⟩, t, p, af, g⟩ ρ O K :=
  l_callG (CallV.of_fn (first := []) (caps := []) he (by simpa using hc)) rfl ha h hn

/-- a call of a named function that returns nothing that is kept -/
theorem l_call0 {f : FuncId} {fn : Func} {args : List Operand} {ats : Array TypeId} {vs : List Value} {R : Value → List Item → Prop} (he : Enters P f fn)
    (hc : CallT P base f vs O R) (ha : evs ρ args = vs) (h : ∀ v O', R v O' → K ρ O') : LT P r base n ⟨none, .call ⟨.value (.func f), args.toArray, ats⟩, t, p, af, g⟩ ρ O K :=
  l_callG0 (CallV.of_fn (first := []) (caps := []) he (by simpa using hc)) rfl ha h

/-! ### a function's body -/

def entry (args : List Value) : Env := fun t => args.getD t undef

/-- What the result variables hold, and which items there are. -/
structure Res (P : Program) (base : World) (fn : Func) (ρ : Env) (O : List Item) (R : Value → List Item → Prop) : Prop where
  ex : ∃ v O', Sub O' O ∧ R v O' ∧ ∀ w tmps, Inv base O w → (∀ t, tmps.getD t undef = ρ t) → (results fn tmps).run P w = .ok v w

def bodyQ (P : Program) (base : World) (fn : Func) (R : Value → List Item → Prop) : Post
  | .normal, ρ, O => Res P base fn ρ O R
  | .ret, ρ, O => Res P base fn ρ O R
  | _, _, _ => False

theorem leaves_marks {fn : Func} {tmps : Array Value} {M O' : List Item} {Rx : Ending → World → Prop} (h : ∀ w, Inv base (O' ++ M) w → ∃ v, (results fn tmps).run P w = .ok v w ∧ Rx (.returned v) w) :
    ∀ (D : List Nat) (w : World), Inv base (O' ++ (mI D ++ M)) w → LeavesInM Fence.wide 0 P fn tmps Rx (mD D) .returning w
  | [], w, hI => h w hI
  | b :: D, w, hI => by
    have hI' : Inv base (O' ++ markI b :: (mI D ++ M)) w := hI
    have hb : w.heap[b]? = some (.deferred (some [])) := hI'.holds (markI b) (by simp)
    have hlt := (Array.getElem?_eq_some_iff.1 hb).1
    refine ⟨by simp, .inl ⟨b, w.putObj b (.deferred none), rfl, run_takeDeferred hb, leaves_marks h D _ ?_⟩⟩
    have := Inv.step (N := []) (w' := w.putObj b (.deferred none)) hI' rfl rfl rfl (by simp) (fun k _ hk => World.putObj_heap_other (fun e => hk (by simp [markI, objI, e]))) (by simp) (by simp) (by simp)
    simpa using this

theorem CallT.enter {f : FuncId} {fn : Func} {c : Code} {args : List Value} {R : Value → List Item → Prop} (hf : P.funcs[f]? = some fn) (hb : fn.body = some c) (hn : fn.ntmps = n) (hl : Nat.ble args.length n = true)
    (h : T P none base n c (bodyQ P base fn R) (entry args) O) : CallT P base f args O R := by
  have hl := Nat.le_of_ble_eq_true hl
  intro w M hI
  rw [← callsIn_wide (n := 0)]
  refine callsIn_of_wp_marks hf hb trivial (wpIn_mono (h _ w M [] trivial ⟨?_, ?_, rfl⟩ hI) ?_)
  · intro t
    show (args.toArray ++ Array.replicate (fn.ntmps - args.toArray.size) undef).getD t undef = args.getD t undef
    rw [Array.getD_eq_getD_getElem?, List.getD_eq_getElem?_getD]
    by_cases h : t < args.length
    · rw [Array.getElem?_append_left (by simpa using h)]; simp
    · rw [Array.getElem?_append_right (by simpa using h)]
      have : args[t]? = none := by simp; omega
      rw [this, Array.getElem?_replicate]
      split <;> rfl
  · simp; omega
  · have key : ∀ (a' : Act) (w' : World) (ρ' : Env) (O' : List Item) (D : List Nat), Ag n (mD D) a' ρ' → Inv base (O' ++ (mI D ++ M)) w' → Res P base fn ρ' O' R →
        LeavesInM Fence.wide 0 P fn a'.tmps (fun e w'' => ∃ v O', e = .returned v ∧ Inv base (O' ++ M) w'' ∧ R v O') a'.defers .returning w' := by
      intro a' w' ρ' O' D h1 h2 h3
      obtain ⟨v, O'', hsub, hR, hr⟩ := h3.ex
      rw [h1.defers]
      exact leaves_marks (fun w hI => ⟨v, hr w a'.tmps hI.left h1.tmp, v, O'', rfl, hI.subp hsub.app, hR⟩) D w' h2
    rintro e a' w' ⟨ρ', O', D, h1, h2, h3⟩
    cases e with
    | normal => exact key a' w' ρ' O' D h1 h2 h3
    | ret => exact key a' w' ρ' O' D h1 h2 h3
    | _ => exact h3.elim

/-! ### a range over a function -/

/-- The loop's record, ready, or done with a jump to make. -/
def lp (q : Loop) (j : Option Code) : Obj := .loop { q with state := if j.isNone then .ready else .done, pending := j }

/-- The record of a loop whose statement is met in the environment ρ. -/
structure LoopOk (q : Loop) (n : Nat) (ρ : Env) (ps : Array Nat) (assign body : Code) : Prop where
  params : q.params = ps
  assign : q.assign = assign
  body : q.body = body
  tmp : ∀ t, q.tmps.getD t undef = ρ t
  size : q.tmps.size = n

def jumpQ (Q : Post) (ρ : Env) (O : List Item) : Option Code → Prop
  | none => Q .normal ρ O
  | some .ret => Q .ret ρ O
  | some (.exit id) => Q (.exit id) ρ O
  | _ => False

theorem T.rangeFunc {gx : Operand} {ps : Array Nat} {assign body : Code} {Q : Post} {f : FuncId} {fn : Func} {first caps : List Value} (hg : ev ρ gx = .func (.func f) first.toArray caps.toArray) (he : Enters P f fn)
    (h : ∀ (l : Nat) (q : Loop), LoopOk q n ρ ps assign body → CallT P base f (first ++ [.func (.yield l) #[] #[]] ++ caps) (objI l (lp q none) :: O) (fun _ O' => ∃ j O'', O' = objI l (lp q j) :: O'' ∧ jumpQ Q ρ O'' j)) :
    T P r base n (.rangeFunc gx ps assign body) Q ρ O := by
  have hname : ¬ fn.name = "runtime.NumGoroutine" := by simpa using he.2.1
  obtain ⟨bd, hbd⟩ := Option.isSome_iff_exists.1 he.2.2
  intro a w M D hM ha hI
  refine wpIn_rangeFunc fun fnid _ => ?_
  have hev : a.eval gx = .func (.func f) first.toArray caps.toArray := by rw [ha.eval]; exact hg
  have hcall : ∀ (l : Nat) (w1 : World), (resolve a.eval (rangeCall gx l) 0).run P w1 = .ok ⟨.fn (.func f) caps.toArray, (first ++ [Value.func (.yield l) #[] #[]]).toArray⟩ w1 := fun l w1 => by
    have e : (first ++ [Value.func (.yield l) #[] #[]]).toArray = first.toArray ++ #[.func (.yield l) #[] #[]] := by simp
    rw [e]
    have hc : a.eval (.const (.func (.yield l) #[] #[])) = .func (.yield l) #[] #[] := rfl
    simp [resolve, hev, hc, Deferred.ofValue]
  have hinv : ∀ (l : Nat) (w1 : World), (invoke (.fn (.func f) caps.toArray) (first ++ [Value.func (.yield l) #[] #[]]).toArray).run P w1 = .ok (.enter f (first ++ [Value.func (.yield l) #[] #[]] ++ caps).toArray) w1 := fun l w1 => by
    have e : (first ++ [Value.func (.yield l) #[] #[]] ++ caps).toArray = (first ++ [Value.func (.yield l) #[] #[]]).toArray ++ caps.toArray := by simp
    rw [e]
    simp [invoke, callFunc, he.1, hname, hbd]
  -- behind the call
  have post : ∀ (l : Nat) (q : Loop) (mark : List Deferred) (D' : List Nat), mark ++ mD D = mD D' → ∀ e w', (∃ v O', e = Ending.returned v ∧ Inv base (O' ++ (mI D' ++ M)) w' ∧ ∃ j O'', O' = objI l (lp q j) :: O'' ∧ jumpQ Q ρ O'' j) →
      rangePost (Fr r) 0 P l (lift base n M Q) { a with defers := mark ++ a.defers } e w' := by
    rintro l q mark D' hmark e w' ⟨v, O', rfl, hI', j, O'', rfl, hj⟩
    have hl : w'.heap[l]? = some (lp q j) := hI'.holds (objI l (lp q j)) (by simp)
    have hlt := (Array.getElem?_eq_some_iff.1 hl).1
    refine ⟨j, _, run_endLoop (P := P) hl (by simp; split <;> simp), ?_⟩
    have hI2 : Inv base (O'' ++ (mI D' ++ M)) (w'.putObj l (.loop { ({ q with state := if j.isNone then .ready else .done, pending := j } : Loop) with state := .exhausted })) := by
      have := Inv.step (A := []) (N := []) (w' := w'.putObj l (.loop { ({ q with state := if j.isNone then .ready else .done, pending := j } : Loop) with state := .exhausted })) (B := O'' ++ (mI D' ++ M)) (it := objI l (lp q j)) hI'
        rfl rfl rfl (by simp) (fun k _ hk => World.putObj_heap_other (fun e => hk (by simp [objI, e]))) (by simp) (by simp) (by simp)
      simpa using this
    have hag : Ag n (mD D') ({ a with defers := mark ++ a.defers } : Act) ρ := ⟨ha.tmp, ha.size, by simp [ha.defers]; exact hmark⟩
    cases j with
    | none => exact ⟨ρ, O'', D', hag, hI2, hj⟩
    | some c =>
      cases c with
      | ret => exact wpIn_ret ⟨ρ, O'', D', hag, hI2, hj⟩
      | exit id => exact wpIn_exit ⟨ρ, O'', D', hag, hI2, hj⟩
      | _ => exact hj.elim
  cases r with
  | none =>
    have hI1 : Inv base (markI w.heap.size :: (O ++ (mI D ++ M))) (w.alloc (.deferred (some []))) := hI.alloc _
    have hI2 := hI1.alloc (.loop { state := .ready, pending := none, fn := fnid, tmps := a.tmps, params := ps, assign, body, defers := w.heap.size })
    have hI3 : Inv base ((objI (w.heap.size + 1) (lp { state := .ready, pending := none, fn := fnid, tmps := a.tmps, params := ps, assign, body, defers := w.heap.size } none) :: O) ++ (mI (w.heap.size :: D) ++ M))
        ((w.alloc (.deferred (some []))).alloc (.loop { state := .ready, pending := none, fn := fnid, tmps := a.tmps, params := ps, assign, body, defers := w.heap.size })) := by
      refine hI2.perm ?_
      have e : (w.alloc (.deferred (some []))).heap.size = w.heap.size + 1 := by simp
      rw [e]
      exact List.Perm.cons _ List.perm_middle
    refine ⟨_, _, _, _, _, f, _, _, run_enterLoop_outer (P := P) (w := w) fnid a.tmps ps assign body, hcall _ _, fun _ _ => trivial, hinv _ _, fun e => by simp [Fr, Fence.wide] at e, CallsIn_Fr ?_⟩
    refine Calls.mono (h (w.heap.size + 1) { state := .ready, pending := none, fn := fnid, tmps := a.tmps, params := ps, assign, body, defers := w.heap.size } ⟨rfl, rfl, rfl, ha.tmp, ha.size⟩ _ _ hI3) ?_
    exact post _ _ _ (w.heap.size :: D) rfl
  | some l0 =>
    obtain ⟨it, hit, hloop⟩ := hM
    obtain ⟨rc, hrc⟩ := hloop w (hI.holds it (by simp [hit]))
    have hI2 := hI.alloc (.loop { state := .ready, pending := none, fn := fnid, tmps := a.tmps, params := ps, assign, body, defers := rc.defers })
    refine ⟨_, _, _, _, _, f, _, _, run_enterLoop_inner (P := P) (w := w) hrc fnid a.tmps ps assign body, hcall _ _, fun _ _ => trivial, hinv _ _, fun e => by simp [Fr, Fence.wide] at e, CallsIn_Fr ?_⟩
    refine Calls.mono (h w.heap.size { state := .ready, pending := none, fn := fnid, tmps := a.tmps, params := ps, assign, body, defers := rc.defers } ⟨rfl, rfl, rfl, ha.tmp, ha.size⟩ _ (mI D ++ M) hI2) ?_
    exact post _ _ _ D rfl

/-- The loop's variables, given. -/
def bindP : List Nat → List Value → Env → Env
  | t :: ts, v :: vs, ρ => bindP ts vs (upd ρ t v)
  | _, _, ρ => ρ

theorem bindP_ag : ∀ (ts : List Nat) (vs : List Value) (tmps : Array Value) (ρ : Env), (ts.all fun t => Nat.blt t n) = true → tmps.size = n → (∀ t, tmps.getD t undef = ρ t) →
    (((ts.zip vs).foldl (fun tmps q => tmps.setIfInBounds q.1 q.2) tmps).size = n ∧ ∀ t, ((ts.zip vs).foldl (fun tmps q => tmps.setIfInBounds q.1 q.2) tmps).getD t undef = bindP ts vs ρ t)
  | [], vs, tmps, ρ, _, hs, ht => ⟨hs, ht⟩
  | t :: ts, [], tmps, ρ, _, hs, ht => ⟨hs, ht⟩
  | t :: ts, v :: vs, tmps, ρ, hb, hs, ht => by
    simp only [List.all_cons, Bool.and_eq_true] at hb
    have h1 := Ag.put (a := { tmps := tmps, defers := [] }) (ds := []) ⟨ht, hs, rfl⟩ hb.1 v
    exact bindP_ag ts vs _ (upd ρ t v) hb.2 h1.size h1.tmp

/-- How a round's body may be left. -/
def roundQ (l : Nat) (q : Loop) (R : Value → List Item → Prop) : Post
  | .normal, _, O => R (.bool true) (objI l (lp q none) :: O)
  | .ret, _, O => R (.bool false) (objI l (lp q (some .ret)) :: O)
  | .exit id, _, O => R (.bool false) (objI l (lp q (some (.exit id))) :: O)
  | _, _, _ => False

theorem Inv.loopStep {O M : List Item} {w : World} {l : Nat} {o o' : Obj} (hI : Inv base (objI l o :: O ++ M) w) : Inv base (objI l o' :: O ++ M) (w.putObj l o') := by
  have hl : w.heap[l]? = some o := hI.holds (objI l o) (by simp)
  have hlt := (Array.getElem?_eq_some_iff.1 hl).1
  have := Inv.step (A := []) (N := [objI l o']) (w' := w.putObj l o') (B := O ++ M) (it := objI l o) hI rfl rfl rfl (by simp) (fun k _ hk => World.putObj_heap_other (fun e => hk (by simp [objI, e])))
    (by intro x hx; simp at hx; subst hx; exact World.putObj_heap_same hlt) (by intro x hx b hb; simp at hx; subst hx; exact .inl hb) (by simp [objI])
  simpa using this

/-- A round: the loop's variables, the assignments, the body. -/
theorem CallV.yield {l : Nat} {q : Loop} {ps : Array Nat} {assign body : Code} {args : List Value} {R : Value → List Item → Prop} (hq : LoopOk q n ρ ps assign body) (hl : args.length = ps.size) (hps : (ps.toList.all fun t => Nat.blt t n) = true)
    (h : T P (some l) base n assign (thn (fun ρ O => T P (some l) base n body (roundQ l q R) ρ O) (fun _ _ _ => False)) (bindP ps.toList args ρ) O) :
    CallV P base (.func (.yield l) #[] #[]) args (objI l (lp q none) :: O) R := by
  obtain ⟨rfl, rfl, rfl, ht, hs⟩ := hq
  intro w M hI
  have hb : w.heap[l]? = some (.loop { q with state := .ready, pending := none }) := hI.holds (objI l (lp q none)) (by simp)
  have hrun : (callSem (.func (.yield l) #[] #[]) args.toArray).run P w = .ok (.round l q.fn ((q.params.toList.zip args).foldl (fun tmps p => tmps.setIfInBounds p.1 p.2) q.tmps) q.assign q.body) w := by
    have h1 := run_yield (P := P) (args := args.toArray) hb (by simpa using hl)
    simp only [callSem, Deferred.ofValue, invoke, Sem.run_bind, Sem.run_pure, Result.andThen_ok]
    have e : (#[] : Array Value) ++ args.toArray = args.toArray := by simp
    rw [e, h1]
    congr 2
    rw [← Array.foldl_toList]
    congr 1
    simp
  rw [hrun]
  obtain ⟨hsz, htm⟩ := bindP_ag q.params.toList args q.tmps ρ hps hs ht
  refine roundIn_of_wpIn trivial ?_
  have hI1 : Inv base (O ++ (mI [] ++ (objI l (lp q none) :: M))) w := hI.perm List.perm_middle
  refine wpIn_mono (h { tmps := _, defers := [] } w (objI l (lp q none) :: M) [] ⟨objI l (lp q none), by simp, fun w hw => ⟨_, hw⟩⟩ ⟨htm, hsz, rfl⟩ hI1) ?_
  rintro e a1 w1 ⟨ρ1, O1, D1, h1, h2, h3⟩
  cases e with
  | normal =>
    have h2' : Inv base (objI l (lp q none) :: (O1 ++ mI D1) ++ M) w1 := h2.perm (by
      have : (O1 ++ (mI D1 ++ objI l (lp q none) :: M)) = ((O1 ++ mI D1) ++ objI l (lp q none) :: M) := by simp
      rw [this]
      exact List.perm_middle.symm)
    have hb1 : w1.heap[l]? = some (.loop { q with state := .ready, pending := none }) := h2'.holds (objI l (lp q none)) (by simp)
    refine ⟨_, run_beginRound (P := P) hb1 rfl, ?_⟩
    have hI3 := h2'.loopStep (o' := .loop { ({ q with state := .ready, pending := none } : Loop) with state := .busy })
    have hI4 : Inv base (O1 ++ (mI D1 ++ (objI l (.loop { ({ q with state := .ready, pending := none } : Loop) with state := .busy }) :: M))) (w1.putObj l (.loop { ({ q with state := .ready, pending := none } : Loop) with state := .busy })) := hI3.perm (by
      have : (O1 ++ (mI D1 ++ objI l (.loop { ({ q with state := .ready, pending := none } : Loop) with state := .busy }) :: M)) = ((O1 ++ mI D1) ++ objI l (.loop { ({ q with state := .ready, pending := none } : Loop) with state := .busy }) :: M) := by simp
      rw [this]
      exact List.perm_middle)
    refine wpIn_mono (h3 a1 _ _ D1 ⟨objI l (.loop { ({ q with state := .ready, pending := none } : Loop) with state := .busy }), by simp, fun w hw => ⟨_, hw⟩⟩ h1 hI4) ?_
    rintro e a2 w2 ⟨ρ2, O2, D2, k1, k2, k3⟩
    have k2' : Inv base (objI l (.loop { ({ q with state := .ready, pending := none } : Loop) with state := .busy }) :: (O2 ++ mI D2) ++ M) w2 := k2.perm (by
      have : (O2 ++ (mI D2 ++ objI l (.loop { ({ q with state := .ready, pending := none } : Loop) with state := .busy }) :: M)) = ((O2 ++ mI D2) ++ objI l (.loop { ({ q with state := .ready, pending := none } : Loop) with state := .busy }) :: M) := by simp
      rw [this]
      exact List.perm_middle.symm)
    have hb2 : w2.heap[l]? = some (.loop { ({ q with state := .ready, pending := none } : Loop) with state := .busy }) := k2'.holds (objI l (.loop { ({ q with state := .ready, pending := none } : Loop) with state := .busy })) (by simp)
    have fin : ∀ j : Option Code, Inv base (objI l (lp q j) :: O2 ++ M) (w2.putObj l (lp q j)) := fun j => by
      have := k2'.loopStep (o' := lp q j)
      refine this.sub ?_
      simp only [List.cons_append, List.append_assoc]
      exact List.Sublist.cons_cons _ (List.Sublist.append (List.Sublist.refl _) (List.sublist_append_right _ _))
    cases e with
    | normal => exact ⟨_, _, run_endRound (P := P) none hb2, _, _, rfl, fin none, k3⟩
    | ret => exact ⟨_, _, run_endRound (P := P) (some .ret) hb2, _, _, rfl, fin (some .ret), k3⟩
    | exit id => exact ⟨_, _, run_endRound (P := P) (some (.exit id)) hb2, _, _, rfl, fin (some (.exit id)), k3⟩
    | _ => exact k3.elim
  | _ => exact h3.elim

theorem Res.zero {fn : Func} {R : Value → List Item → Prop} (hr : fn.results = #[]) (h : R (.tuple #[]) O) : Res P base fn ρ O R :=
  ⟨⟨_, O, Sub.of (List.Sublist.refl _), h, fun w tmps _ _ => results_none hr tmps P w⟩⟩
theorem Res.one {fn : Func} {R : Value → List Item → Prop} {a : Nat} (v : Value) (hr : fn.results = #[.tmp a]) (hv : ρ a = v) (h : R v O) : Res P base fn ρ O R :=
  ⟨⟨_, O, Sub.of (List.Sublist.refl _), h, fun w tmps _ ht => by rw [results_tmp hr tmps P w, ht, hv]⟩⟩
theorem Res.two {fn : Func} {R : Value → List Item → Prop} {a b : Nat} (v u : Value) (hr : fn.results = #[.tmp a, .tmp b]) (hv : ρ a = v) (hu : ρ b = u) (h : R (.tuple #[v, u]) O) : Res P base fn ρ O R :=
  ⟨⟨_, O, Sub.of (List.Sublist.refl _), h, fun w tmps _ ht => by rw [results_tmp2 hr tmps P w, ht, ht, hv, hu]⟩⟩
theorem Res.three {fn : Func} {R : Value → List Item → Prop} {a b c : Nat} (v u x : Value) (hr : fn.results = #[.tmp a, .tmp b, .tmp c]) (hv : ρ a = v) (hu : ρ b = u) (hx : ρ c = x) (h : R (.tuple #[v, u, x]) O) : Res P base fn ρ O R :=
  ⟨⟨_, O, Sub.of (List.Sublist.refl _), h, fun w tmps _ ht => by rw [← hv, ← hu, ← hx, ← ht a, ← ht b, ← ht c]; simp [results, hr]⟩⟩

/-- Some of the items may be forgotten at the end. -/
theorem Res.drop {fn : Func} {R : Value → List Item → Prop} (h : Res P base fn ρ O (fun v O1 => ∃ O2, Sub O2 O1 ∧ R v O2)) : Res P base fn ρ O R := by
  obtain ⟨v, O1, hs, ⟨O2, hs2, hR⟩, hr⟩ := h.ex
  refine ⟨⟨v, O2, ?_, hR, hr⟩⟩
  obtain ⟨l2, p2, s2⟩ := hs2
  obtain ⟨l1, p1, s1⟩ := hs
  obtain ⟨l3, p3, s3⟩ := List.exists_perm_sublist s2 p1
  exact ⟨l3, p2.trans p3.symm, s3.trans s1⟩

/-- a box loaded whole -/
theorem run_loadBox {T E : TypeId} {d : TypeDesc} {z : Value} {s by_ b : Nat} {cs : List Value} {fr : Nat × Nat} {w : World} (hu : P.underlying T = some d) (ha : aggB d = true) (hi : Inf P T z s by_) (hl : cs.length = s) (hw : w.heap[b]? = some (.cells cs.toArray E fr)) :
    (loadVar T ⟨b, 0, none⟩).run P w = .ok (.agg cs.toArray) w := by
  have h := loadCells_run (P := P) (w := w) (a := ⟨b, 0, none⟩) cs 0 #[] (fun j hj => by
    rw [add_off]; unfold World.cell?; simp [hw])
  simp [loadVar, run_isAgg' hu, ha, run_sizeOf' hi, loadCells, ← hl, h]

theorem Res.cell1 {fn : Func} {R : Value → List Item → Prop} {a i : Nat} {T E : TypeId} {d : TypeDesc} {z : Value} {s by_ b : Nat} {cs : List Value} {fr : Nat × Nat} (hr : fn.results = #[.cell a T]) (hu : P.underlying T = some d) (ha : aggB d = true) (hi : Inf P T z s by_) (hp : ρ a = .pointer (some ⟨b, 0, none⟩)) (hO : O[i]? = some (objI b (.cells cs.toArray E fr))) (hl : cs.length = s)
    (h : R (.agg cs.toArray) O) : Res P base fn ρ O R :=
  ⟨⟨_, O, Sub.of (List.Sublist.refl _), h, fun w tmps hI ht => by
    have := run_loadBox (P := P) hu ha hi hl (hI.objAt hO)
    have ht' := ht a
    simp only [Array.getD_eq_getD_getElem?] at ht'
    simp [results, hr, ht', hp, asAddr, this]⟩⟩

theorem Res.cell1b {fn : Func} {R : Value → List Item → Prop} {a i c : Nat} (u : Value) {T E : TypeId} {d : TypeDesc} {z : Value} {s by_ b : Nat} {cs : List Value} {fr : Nat × Nat} (hr : fn.results = #[.cell a T, .tmp c]) (hu : P.underlying T = some d) (ha : aggB d = true) (hi : Inf P T z s by_) (hp : ρ a = .pointer (some ⟨b, 0, none⟩)) (hO : O[i]? = some (objI b (.cells cs.toArray E fr))) (hl : cs.length = s) (hc' : ρ c = u)
    (h : R (.tuple #[.agg cs.toArray, u]) O) : Res P base fn ρ O R :=
  ⟨⟨_, O, Sub.of (List.Sublist.refl _), h, fun w tmps hI ht => by
    have := run_loadBox (P := P) hu ha hi hl (hI.objAt hO)
    have ht' := ht a
    have hc := ht c
    simp only [Array.getD_eq_getD_getElem?] at ht' hc
    simp [results, hr, ht', hc, hc', hp, asAddr, this]⟩⟩

end
end Go.Lx

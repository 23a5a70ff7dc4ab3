/- One rule for each operation that leaves the world alone: what it yields. -/
import Derived.Test.YthfemndklplpbaaDoorCoreB
set_option linter.unusedSectionVars false
set_option linter.unusedSimpArgs false
set_option linter.unusedVariables false
set_option linter.unnecessarySimpa false
namespace Go.Lx
open Go.RowKit

/-- What a type's row of the table says: its zero value, its cells, its bytes. -/
def Inf (P : Program) (t : TypeId) (z : Value) (s b : Nat) : Prop := (P.info? t).map (fun i => (i.zero, i.size, i.bytes)) = some (some z, s, b)

theorem Inf.get {P : Program} {t : TypeId} {z : Value} {s b : Nat} (h : Inf P t z s b) : ∃ i, P.info? t = some i ∧ i.zero = some z ∧ i.size = s ∧ i.bytes = b := by
  unfold Inf at h
  cases hi : P.info? t with
  | none => rw [hi] at h; cases h
  | some i =>
    rw [hi] at h
    simp only [Option.map_some, Option.some.injEq, Prod.mk.injEq] at h
    exact ⟨i, rfl, h.1, h.2.1, h.2.2⟩

theorem run_typeInfo' {P : Program} {t : TypeId} {i : TypeInfo} (h : P.info? t = some i) (w : World) : (typeInfo t).run P w = .ok i w := by
  unfold typeInfo; simp [h]

theorem run_sizeOf' {P : Program} {t : TypeId} {z : Value} {s b : Nat} (h : Inf P t z s b) (w : World) : (sizeOf t).run P w = .ok s w := by
  obtain ⟨i, hi, _, hs, _⟩ := h.get
  unfold sizeOf; simp [run_typeInfo' hi, hs]

theorem run_zeroValue' {P : Program} {t : TypeId} {z : Value} {s b : Nat} (h : Inf P t z s b) (w : World) : (zeroValue t).run P w = .ok z w := by
  obtain ⟨i, hi, hz, _, _⟩ := h.get
  unfold zeroValue; simp [run_typeInfo' hi, hz]

theorem run_underlying' {P : Program} {t : TypeId} {d : TypeDesc} (h : P.underlying t = some d) (w : World) : (underlying t).run P w = .ok d w := by
  unfold underlying; simp [h]

theorem run_equal_bool {P : Program} {T : TypeId} (h : P.underlying T = some .bool) (a b : Bool) (w : World) : (Op.equal T (.bool a) (.bool b)).run P w = .ok (a == b) w := by
  show (Op.equalIn (9999 + 1) T (.bool a) (.bool b)).run P w = _
  rw [Op.equalIn]
  simp [run_underlying' h]

def aggB : TypeDesc → Bool
  | .struct _ | .array _ _ => true
  | _ => false

theorem run_isAgg' {P : Program} {t : TypeId} {d : TypeDesc} (h : P.underlying t = some d) (w : World) : (isAgg t).run P w = .ok (aggB d) w := by
  unfold isAgg; simp [run_underlying' h]; cases d <;> rfl

section
variable {P : Program} {base : World} {ρ : Env} {O : List Item} {dst : Option Nat} {t : TypeId} {p : String} {af : Array Edge} {g : Option (Nat × Bool)}

theorem q_move {x : Operand} {v : Value} (h : ev ρ x = v) : QT P base ⟨dst, .move x, t, p, af, g⟩ ρ O v := fun w _ => by simp [execOp, h]
theorem q_assign {x : Operand} {v : Value} (h : ev ρ x = v) : QT P base ⟨dst, .assign x, t, p, af, g⟩ ρ O v := fun w _ => by simp [execOp, h]

theorem q_lss {x y : Operand} {T U : TypeId} {k : IntKind} {a b : Int} (hx : ev ρ x = .int k a) (hy : ev ρ y = .int k b) : QT P base ⟨dst, .binOp .lss T x y U, t, p, af, g⟩ ρ O (.bool (decide (a < b))) := fun w _ => by
  simp [execOp, hx, hy, eqGuard, binOp, Op.intCmp]
theorem q_leq {x y : Operand} {T U : TypeId} {k : IntKind} {a b : Int} (hx : ev ρ x = .int k a) (hy : ev ρ y = .int k b) : QT P base ⟨dst, .binOp .leq T x y U, t, p, af, g⟩ ρ O (.bool (decide (a ≤ b))) := fun w _ => by
  simp [execOp, hx, hy, eqGuard, binOp, Op.intCmp]
theorem q_gtr {x y : Operand} {T U : TypeId} {k : IntKind} {a b : Int} (hx : ev ρ x = .int k a) (hy : ev ρ y = .int k b) : QT P base ⟨dst, .binOp .gtr T x y U, t, p, af, g⟩ ρ O (.bool (decide (b < a))) := fun w _ => by
  simp [execOp, hx, hy, eqGuard, binOp, Op.intCmp]
theorem q_geq {x y : Operand} {T U : TypeId} {k : IntKind} {a b : Int} (hx : ev ρ x = .int k a) (hy : ev ρ y = .int k b) : QT P base ⟨dst, .binOp .geq T x y U, t, p, af, g⟩ ρ O (.bool (decide (b ≤ a))) := fun w _ => by
  simp [execOp, hx, hy, eqGuard, binOp, Op.intCmp]
theorem q_eql {x y : Operand} {T U : TypeId} {k : IntKind} {a b : Int} (hx : ev ρ x = .int k a) (hy : ev ρ y = .int k b) : QT P base ⟨dst, .binOp .eql T x y U, t, p, af, g⟩ ρ O (.bool (decide (a = b))) := fun w _ => by
  simp [execOp, hx, hy, eqGuard, binOp, Op.intCmp]; rfl
theorem q_neq {x y : Operand} {T U : TypeId} {k : IntKind} {a b : Int} (hx : ev ρ x = .int k a) (hy : ev ρ y = .int k b) : QT P base ⟨dst, .binOp .neq T x y U, t, p, af, g⟩ ρ O (.bool (decide (a ≠ b))) := fun w _ => by
  simp [execOp, hx, hy, eqGuard, binOp, Op.intCmp, bne]; rfl

theorem q_add {x y : Operand} {T U : TypeId} {k : IntKind} {a b : Int} (hx : ev ρ x = .int k a) (hy : ev ρ y = .int k b) : QT P base ⟨dst, .binOp .add T x y U, t, p, af, g⟩ ρ O (.int k (k.wrap (a + b))) := fun w _ => by
  simp [execOp, hx, hy, eqGuard, binOp, Op.intArith]
theorem q_sub {x y : Operand} {T U : TypeId} {k : IntKind} {a b : Int} (hx : ev ρ x = .int k a) (hy : ev ρ y = .int k b) : QT P base ⟨dst, .binOp .sub T x y U, t, p, af, g⟩ ρ O (.int k (k.wrap (a - b))) := fun w _ => by
  simp [execOp, hx, hy, eqGuard, binOp, Op.intArith]
theorem q_mul {x y : Operand} {T U : TypeId} {k : IntKind} {a b : Int} (hx : ev ρ x = .int k a) (hy : ev ρ y = .int k b) : QT P base ⟨dst, .binOp .mul T x y U, t, p, af, g⟩ ρ O (.int k (k.wrap (a * b))) := fun w _ => by
  simp [execOp, hx, hy, eqGuard, binOp, Op.intArith]

theorem wrap64_id {n : Int} (h : -9223372036854775808 ≤ n ∧ n ≤ 9223372036854775807) : IntKind.i64.wrap n = n := IntWalk.i64_in n h

/-- ints that stay in range -/
theorem q_add64 {x y : Operand} {T U : TypeId} {a b : Int} (hx : ev ρ x = .int .i64 a) (hy : ev ρ y = .int .i64 b) (h : -9223372036854775808 ≤ a + b ∧ a + b ≤ 9223372036854775807) :
    QT P base ⟨dst, .binOp .add T x y U, t, p, af, g⟩ ρ O (.int .i64 (a + b)) := by have := q_add (P := P) (base := base) (O := O) (dst := dst) (t := t) (p := p) (af := af) (g := g) (T := T) (U := U) hx hy; rwa [wrap64_id h] at this
theorem q_sub64 {x y : Operand} {T U : TypeId} {a b : Int} (hx : ev ρ x = .int .i64 a) (hy : ev ρ y = .int .i64 b) (h : -9223372036854775808 ≤ a - b ∧ a - b ≤ 9223372036854775807) :
    QT P base ⟨dst, .binOp .sub T x y U, t, p, af, g⟩ ρ O (.int .i64 (a - b)) := by have := q_sub (P := P) (base := base) (O := O) (dst := dst) (t := t) (p := p) (af := af) (g := g) (T := T) (U := U) hx hy; rwa [wrap64_id h] at this
theorem q_mul64 {x y : Operand} {T U : TypeId} {a b : Int} (hx : ev ρ x = .int .i64 a) (hy : ev ρ y = .int .i64 b) (h : -9223372036854775808 ≤ a * b ∧ a * b ≤ 9223372036854775807) :
    QT P base ⟨dst, .binOp .mul T x y U, t, p, af, g⟩ ρ O (.int .i64 (a * b)) := by have := q_mul (P := P) (base := base) (O := O) (dst := dst) (t := t) (p := p) (af := af) (g := g) (T := T) (U := U) hx hy; rwa [wrap64_id h] at this
/-- a counter's step -/
theorem q_inc {x y : Operand} {T U : TypeId} {a : Nat} (hx : ev ρ x = .int .i64 (a : Int)) (hy : ev ρ y = .int .i64 1) (h : a < 9223372036854775807) :
    QT P base ⟨dst, .binOp .add T x y U, t, p, af, g⟩ ρ O (.int .i64 ((a + 1 : Nat) : Int)) := by
  have := q_add64 (P := P) (base := base) (O := O) (dst := dst) (t := t) (p := p) (af := af) (g := g) (T := T) (U := U) hx hy (by omega); rwa [← Int.natCast_succ] at this

theorem q_not {x : Operand} {T : TypeId} {b : Bool} (hx : ev ρ x = .bool b) : QT P base ⟨dst, .unOp .not T x, t, p, af, g⟩ ρ O (.bool !b) := fun w _ => by
  simp [execOp, hx, Op.unary]

theorem q_beql {x y : Operand} {T U : TypeId} {a b : Bool} (hu : P.underlying T = some .bool) (hx : ev ρ x = .bool a) (hy : ev ρ y = .bool b) : QT P base ⟨dst, .binOp .eql T x y U, t, p, af, g⟩ ρ O (.bool (a == b)) := fun w _ => by
  simp [execOp, hx, hy, eqGuard, binOp, run_equal_bool hu]
theorem q_bneq {x y : Operand} {T U : TypeId} {a b : Bool} (hu : P.underlying T = some .bool) (hx : ev ρ x = .bool a) (hy : ev ρ y = .bool b) : QT P base ⟨dst, .binOp .neq T x y U, t, p, af, g⟩ ρ O (.bool (a != b)) := fun w _ => by
  simp [execOp, hx, hy, eqGuard, binOp, run_equal_bool hu, bne]

theorem q_conv {x : Operand} {S D : TypeId} {ds : TypeDesc} {k k' : IntKind} {a : Int} (hs : P.underlying S = some ds) (hd : P.underlying D = some (.int k)) (hx : ev ρ x = .int k' a) :
    QT P base ⟨dst, .convert S D x, t, p, af, g⟩ ρ O (.int k (k.wrap a)) := fun w _ => by
  simp [execOp, hx, convert, run_underlying' hs, run_underlying' hd, Conv.intToInt]
theorem q_conv_id {x : Operand} {S D : TypeId} {ds : TypeDesc} {k k' : IntKind} {a : Int} (hs : P.underlying S = some ds) (hd : P.underlying D = some (.int k)) (hx : ev ρ x = .int k' a) (hw : k.wrap a = a) :
    QT P base ⟨dst, .convert S D x, t, p, af, g⟩ ρ O (.int k a) := by have := q_conv (P := P) (base := base) (O := O) (dst := dst) (t := t) (p := p) (af := af) (g := g) hs hd hx; rwa [hw] at this

theorem q_len {x : Operand} {T : TypeId} {E : TypeId} {b : Option Addr} {n c : Nat} (hu : P.underlying T = some (.slice E)) (hx : ev ρ x = .slice b n c) :
    QT P base ⟨dst, .call ⟨.builtin .len, #[x], #[T]⟩, t, p, af, g⟩ ρ O (.int .i64 (n : Int)) := fun w _ => by
  simp [execOp, resolve, hx, invoke, builtin, Builtin.len_, run_underlying' hu, goInt]

theorem q_extract {x : Operand} {i : Nat} {vs : List Value} {v : Value} (hx : ev ρ x = .tuple vs.toArray) (hv : vs[i]? = some v) : QT P base ⟨dst, .extract x i, t, p, af, g⟩ ρ O v := fun w _ => by
  simp [execOp, hx, Instr.extract, hv]

theorem q_makeFunc {fn : Fn} {first captured : List Operand} : QT P base ⟨dst, .makeFunc fn first.toArray captured.toArray, t, p, af, g⟩ ρ O (.func fn (evs ρ first).toArray (evs ρ captured).toArray) := fun w _ => by
  simp [execOp, Instr.makeFunc, evs_eq]

theorem q_fieldAddr {x : Operand} {S : TypeId} {fs : Array Field} {i : Nat} {f : Field} {b o : Nat} {z : Value} {s by_ : Nat} (hu : P.underlying S = some (.struct fs)) (hf : fs[i]? = some f) (hi : Inf P f.type z s by_) (hs : (s == 0) = false)
    (hx : ev ρ x = .pointer (some ⟨b, o, none⟩)) : QT P base ⟨dst, .fieldAddr S x i, t, p, af, g⟩ ρ O (.pointer (some ⟨b, o + f.offset, none⟩)) := fun w _ => by
  have hs' : s ≠ 0 := by simpa using hs
  simp [execOp, hx, Instr.fieldAt, run_underlying' hu, hf, Instr.sureAddr, fieldPlace, run_sizeOf' hi, hs', Addr.add]
  try (intro h; simp [h])

/-- Where a slice's element i begins. -/
theorem q_indexAddr {x y : Operand} {T E : TypeId} {b o n c i : Nat} {k : IntKind} {z : Value} {s by_ : Nat} (hu : P.underlying T = some (.slice E)) (hi : Inf P E z s by_) (hx : ev ρ x = .slice (some ⟨b, o, none⟩) n c) (hy : ev ρ y = .int k (i : Int)) (hlt : i < n) :
    QT P base ⟨dst, .indexAddr T x y, t, p, af, g⟩ ρ O (.pointer (some ⟨b, o + i * s, none⟩)) := fun w _ => by
  have h2 : (i : Int) < (n : Int) := by omega
  simp [execOp, hx, hy, Instr.indexAt, asIntOf, run_underlying' hu, hlt, run_sizeOf' hi, Addr.add]
  try (intro h; rcases h with h | h <;> simp [h])

/-! ### loads -/

theorem q_load_cell {x : Operand} {T : TypeId} {d : TypeDesc} {b o : Nat} {v : Value} (hu : P.underlying T = some d) (ha : aggB d = false) (hx : ev ρ x = .pointer (some ⟨b, o, none⟩))
    (hc : ∀ w, Inv base O w → w.cell? ⟨b, o, none⟩ = some v) : QT P base ⟨dst, .load T x, t, p, af, g⟩ ρ O v := fun w hI => by
  simp [execOp, hx, Instr.loadAt, Instr.sureAddr, loadVar, run_isAgg' hu, ha, hc w hI]

theorem loadCells_run {P : Program} {w : World} {a : Addr} : ∀ (cs : List Value) (i : Nat) (acc : Array Value), (∀ j (h : j < cs.length), w.cell? (a.add (i + j)) = some cs[j]) →
    (loadCellsFrom a i cs.length acc).run P w = .ok (acc ++ cs.toArray) w
  | [], i, acc, _ => by simp [loadCellsFrom]
  | v :: cs, i, acc, h => by
    have h0 : w.cell? (a.add i) = some v := h 0 (by simp)
    have ih := loadCells_run (P := P) cs (i + 1) (acc.push v) (fun j hj => by have := h (j + 1) (by simp; omega); simpa [Nat.add_assoc, Nat.add_comm 1 j] using this)
    simp only [List.length_cons, loadCellsFrom, Sem.run_bind, run_load, h0, Result.andThen_ok, ih]
    simp

theorem q_load_agg {x : Operand} {T : TypeId} {d : TypeDesc} {b o : Nat} {cs : List Value} {z : Value} {s by_ : Nat} (hu : P.underlying T = some d) (ha : aggB d = true) (hi : Inf P T z s by_) (hx : ev ρ x = .pointer (some ⟨b, o, none⟩)) (hl : cs.length = s)
    (hc : ∀ w, Inv base O w → ∀ j (h : j < cs.length), w.cell? ⟨b, o + j, none⟩ = some cs[j]) : QT P base ⟨dst, .load T x, t, p, af, g⟩ ρ O (.agg cs.toArray) := fun w hI => by
  have h := loadCells_run (P := P) (w := w) (a := ⟨b, o, none⟩) cs 0 #[] (fun j hj => by
    have := hc w hI j hj
    simp only [Nat.zero_add, Addr.add]
    split <;> rename_i e
    · subst e; simpa using this
    · exact this)
  simp [execOp, hx, Instr.loadAt, Instr.sureAddr, loadVar, run_isAgg' hu, ha, run_sizeOf' hi, loadCells, ← hl, h]

end

/-! ### Reading -/

/-- The memory at b holds the cells cs (b: what a slice value points to). -/
def Sl (w : World) (b : Option Addr) (cs : List Value) : Prop := ∀ i (h : i < cs.length), ∃ a, b = some a ∧ a.spot = none ∧ w.cell? ⟨a.block, a.off + i, none⟩ = some cs[i]

theorem Sl.nil (w : World) (b : Option Addr) : Sl w b [] := fun i h => by simp at h

theorem Sl.keep {w w' : World} {b : Option Addr} {cs : List Value} (h : Sl w b cs) (hb : ∀ k, k < w.heap.size → w'.heap[k]? = w.heap[k]?) : Sl w' b cs := fun i hi => by
  obtain ⟨a, h1, h2, h3⟩ := h i hi
  refine ⟨a, h1, h2, ?_⟩
  have hlt := World.block_lt_of_cell? _ _ h3
  unfold World.cell? at h3 ⊢
  rw [hb _ hlt]
  exact h3

theorem Sl.below {w w' : World} {b : Option Addr} {cs : List Value} (h : Sl w b cs) (hb : Below w.heap.size w w') : Sl w' b cs := h.keep hb.block

/-- What the base holds, every later world holds. -/
theorem Inv.sl {base : World} {O : List Item} {w : World} (hI : Inv base O w) {b : Option Addr} {cs : List Value} (h : Sl base b cs) : Sl w b cs := h.below hI.below

theorem Sl.addr {w : World} {b : Option Addr} {cs : List Value} (h : Sl w b cs) {i : Nat} (hi : i < cs.length) : ∃ k o, b = some ⟨k, o, none⟩ := by
  obtain ⟨⟨k, o, s⟩, h1, h2, _⟩ := h i hi
  simp only at h2; subst h2
  exact ⟨k, o, h1⟩

theorem Sl.get {w : World} {k o : Nat} {cs : List Value} (h : Sl w (some ⟨k, o, none⟩) cs) {i : Nat} {v : Value} (hv : cs[i]? = some v) : w.cell? ⟨k, o + i, none⟩ = some v := by
  obtain ⟨hi, e⟩ := List.getElem?_eq_some_iff.1 hv
  obtain ⟨a, h1, _, h3⟩ := h i hi
  cases h1
  rw [h3, e]

/-- An owned slice: value (b, n, c) over a block of its own, elements of type T and k cells each, the cells cs. -/
def rowP (b : Option Addr) (c : Nat) (T : TypeId) (k : Nat) (cs : List Value) (w : World) : Prop :=
  match b with
  | none => cs = [] ∧ c = 0
  | some a => a.spot = none ∧ ∃ full, w.heap[a.block]? = some (.cells full T (0, 0)) ∧ cs.length ≤ c * k ∧ a.off + c * k ≤ full.size ∧ ∀ i (h : i < cs.length), full[a.off + i]? = some cs[i]

def rowI (b : Option Addr) (c : Nat) (T : TypeId) (k : Nat) (cs : List Value) : Item where
  blocks := match b with | none => [] | some a => [a.block]
  P := rowP b c T k cs
  loc := fun w w' h hp => by
    cases b with
    | none => exact hp
    | some a =>
      obtain ⟨h1, full, h2, h3⟩ := hp
      exact ⟨h1, full, (h a.block (by simp)).trans h2, h3⟩

theorem rowP.sl {b : Option Addr} {c : Nat} {T : TypeId} {k : Nat} {cs : List Value} {w : World} (h : rowP b c T k cs w) : Sl w b cs := fun i hi => by
  cases b with
  | none => rw [h.1] at hi; simp at hi
  | some a =>
    obtain ⟨h1, full, h2, _, _, h5⟩ := h
    refine ⟨a, rfl, h1, ?_⟩
    unfold World.cell?
    simp [h2, h5 i hi]

theorem Inv.row {base : World} {O : List Item} {w : World} (hI : Inv base O w) {i : Nat} {b : Option Addr} {c : Nat} {T : TypeId} {k : Nat} {cs : List Value} (h : O[i]? = some (rowI b c T k cs)) : rowP b c T k cs w :=
  hI.holds _ (List.mem_of_getElem? h)

theorem Inv.objAt {base : World} {O : List Item} {w : World} (hI : Inv base O w) {i : Nat} {b : Nat} {o : Obj} (h : O[i]? = some (objI b o)) : w.heap[b]? = some o :=
  hI.holds _ (List.mem_of_getElem? h)

section
variable {P : Program} {base : World} {ρ : Env} {O : List Item} {dst : Option Nat} {t : TypeId} {p : String} {af : Array Edge} {g : Option (Nat × Bool)}

/-- a cell of a box of our own -/
theorem q_load_box (i : Nat) {x : Operand} {T E : TypeId} {d : TypeDesc} {b o : Nat} {cs : List Value} {fr : Nat × Nat} {v : Value} (hu : P.underlying T = some d) (ha : aggB d = false) (hx : ev ρ x = .pointer (some ⟨b, o, none⟩))
    (hO : O[i]? = some (objI b (.cells cs.toArray E fr))) (hv : cs[o]? = some v) : QT P base ⟨dst, .load T x, t, p, af, g⟩ ρ O v :=
  q_load_cell hu ha hx fun w hI => by have := hI.objAt hO; unfold World.cell?; simp [this, hv]

theorem q_load_boxAgg (i : Nat) {x : Operand} {T E : TypeId} {d : TypeDesc} {b : Nat} {cs : List Value} {fr : Nat × Nat} {z : Value} {s by_ : Nat} (hu : P.underlying T = some d) (ha : aggB d = true) (hi : Inf P T z s by_) (hx : ev ρ x = .pointer (some ⟨b, 0, none⟩)) (hl : cs.length = s)
    (hO : O[i]? = some (objI b (.cells cs.toArray E fr))) : QT P base ⟨dst, .load T x, t, p, af, g⟩ ρ O (.agg cs.toArray) :=
  q_load_agg hu ha hi hx hl fun w hI j hj => by have := hI.objAt hO; unfold World.cell?; simp [this]

/-- an element of a slice that was there -/
theorem q_load_sl {x : Operand} {T : TypeId} {d : TypeDesc} {b o i : Nat} {cs : List Value} {v : Value} (hu : P.underlying T = some d) (ha : aggB d = false) (hx : ev ρ x = .pointer (some ⟨b, o + i, none⟩))
    (hs : Sl base (some ⟨b, o, none⟩) cs) (hv : cs[i]? = some v) : QT P base ⟨dst, .load T x, t, p, af, g⟩ ρ O v :=
  q_load_cell hu ha hx fun _ hI => (hI.sl hs).get hv

/-- an element of a slice of our own -/
theorem q_load_row (j : Nat) {x : Operand} {T E : TypeId} {d : TypeDesc} {b o i c k : Nat} {cs : List Value} {v : Value} (hu : P.underlying T = some d) (ha : aggB d = false) (hx : ev ρ x = .pointer (some ⟨b, o + i, none⟩))
    (hO : O[j]? = some (rowI (some ⟨b, o, none⟩) c E k cs)) (hv : cs[i]? = some v) : QT P base ⟨dst, .load T x, t, p, af, g⟩ ρ O v :=
  q_load_cell hu ha hx fun _ hI => (hI.row hO).sl.get hv

end
end Go.Lx

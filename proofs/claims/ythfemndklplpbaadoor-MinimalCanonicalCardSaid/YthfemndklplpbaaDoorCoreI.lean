/- Elements of several cells; parts of slices; keys that are pairs; strings appended. -/
import Derived.Test.YthfemndklplpbaaDoorCoreH
set_option linter.unusedSectionVars false
set_option linter.unusedSimpArgs false
set_option linter.unusedVariables false
set_option linter.unnecessarySimpa false
namespace Go.Lx
open Go.RowKit

section
variable {P : Program} {base : World} {ρ : Env} {O : List Item} {dst : Option Nat} {t : TypeId} {p : String} {af : Array Edge} {g : Option (Nat × Bool)}

/-- an element of several cells, of a slice of our own -/
theorem q_load_rowAgg {x : Operand} {T E : TypeId} {d : TypeDesc} {b o i c k : Nat} {cs vs : List Value} {z : Value} {s by_ : Nat} (hu : P.underlying T = some d) (ha : aggB d = true) (hi : Inf P T z s by_) (hx : ev ρ x = .pointer (some ⟨b, o + i, none⟩)) (hl : vs.length = s)
    (hO : rowI (some ⟨b, o, none⟩) c E k cs ∈ O) (hv : ∀ j (h : j < vs.length), cs[i + j]? = some vs[j]) : QT P base ⟨dst, .load T x, t, p, af, g⟩ ρ O (.agg vs.toArray) :=
  q_load_agg hu ha hi hx hl fun w hI j hj => by
    have := (hI.slOf hO).get (hv j hj)
    rwa [← Nat.add_assoc] at this

/-- an element of several cells, of a slice that was there -/
theorem q_load_slAgg {x : Operand} {T : TypeId} {d : TypeDesc} {b o i : Nat} {cs vs : List Value} {z : Value} {s by_ : Nat} (hu : P.underlying T = some d) (ha : aggB d = true) (hi : Inf P T z s by_) (hx : ev ρ x = .pointer (some ⟨b, o + i, none⟩)) (hl : vs.length = s)
    (hs : Sl base (some ⟨b, o, none⟩) cs) (hv : ∀ j (h : j < vs.length), cs[i + j]? = some vs[j]) : QT P base ⟨dst, .load T x, t, p, af, g⟩ ρ O (.agg vs.toArray) :=
  q_load_agg hu ha hi hx hl fun w hI j hj => by
    have := (hI.sl hs).get (hv j hj)
    rwa [← Nat.add_assoc] at this

end

section
variable {P : Program} {r : Option Nat} {base : World} {n : Nat} {ρ : Env} {O : List Item} {K : Env → List Item → Prop} {d : Nat} {t : TypeId} {p : String} {af : Array Edge} {g : Option (Nat × Bool)}

/-- What an item says, said more loosely. -/
theorem Inv.weaken {w : World} {it it' : Item} {i : Nat} (hI : Inv base O w) (hO : O[i]? = some it) (hb : it'.blocks = it.blocks) (hp : it.P w → it'.P w) : Inv base (O.set i it') w := by
  obtain ⟨A, B, e, hset⟩ := split_at hO
  rw [hset it']
  subst e
  refine ⟨hI.below, fun x hx => ?_, fun x hx b hb' => ?_, ?_⟩
  · rcases List.mem_append.1 hx with hx | hx
    · exact hI.holds x (by simp [hx])
    · rcases List.mem_cons.1 hx with rfl | hx
      · exact hp (hI.holds it (by simp))
      · exact hI.holds x (by simp [hx])
  · rcases List.mem_append.1 hx with hx | hx
    · exact hI.fresh x (by simp [hx]) b hb'
    · rcases List.mem_cons.1 hx with rfl | hx
      · rw [hb] at hb'; exact hI.fresh it (by simp) b hb'
      · exact hI.fresh x (by simp [hx]) b hb'
  · have := hI.nodup
    simpa [List.flatMap_append, List.flatMap_cons, hb] using this

/-- q = q[1:], of a slice of our own: its first element is given up. -/
theorem l_tail (i : Nat) {x y : Operand} {T E : TypeId} {b : Option Addr} {m c k by_ : Nat} {z : Value} {kk : IntKind} {cs : List Value} (hu : P.underlying T = some (.slice E)) (hi : Inf P E z k by_) (hk : 0 < k) (hx : ev ρ x = .slice b m c) (hy : ev ρ y = .int kk 1)
    (hO : O[i]? = some (rowI b c E k cs)) (hl : cs.length = m * k) (hm : 0 < m)
    (h : ∀ b', K (upd ρ d (.slice b' (m - 1) (c - 1))) (O.set i (rowI b' (c - 1) E k (cs.drop k)))) (hn : Nat.blt d n = true := by rfl) : LT P r base n ⟨some d, .slice T x (some y) none none, t, p, af, g⟩ ρ O K :=
  LT.of_run hn fun w M hI => by
    have hrow := hI.row (at_app hO)
    cases b with
    | none =>
      obtain ⟨rfl, rfl⟩ := hrow
      have : m * k = 0 := by simpa using hl.symm
      have : 0 < m * k := Nat.mul_pos hm hk
      omega
    | some a =>
      obtain ⟨bk, o, sp⟩ := a
      obtain ⟨hsp, full, hb, h1, h2, h3⟩ := hrow
      simp only at hsp hb h1 h2 h3
      subst hsp
      have hmc : m ≤ c := by
        rw [hl] at h1
        exact Nat.le_of_mul_le_mul_right h1 hk
      have hdl : (cs.drop k).length ≤ (c - 1) * k := by
        rw [List.length_drop, hl, Nat.sub_mul, Nat.one_mul]
        have := Nat.mul_le_mul_right k hmc
        omega
      have hck : (c - 1) * k + k = c * k := by
        have : c - 1 + 1 = c := by omega
        rw [← this, Nat.add_mul, Nat.one_mul, Nat.add_sub_cancel]
      refine ⟨.slice (if c = 1 then some ⟨bk, o, none⟩ else some ⟨bk, o + k, none⟩) (m - 1) (c - 1), w, _, ?_, ?_, h _⟩
      · have e1 : (1 : Int) ≤ (m : Int) := by omega
        by_cases e : c = 1
        · simp [execOp, Instr.sliceAt, Instr.slice, hx, hy, run_underlying' hu, run_sizeOf' hi, Instr.sliceBounds, Instr.sliceBound, asIntOf, e1, e]
        · simp [execOp, Instr.sliceAt, Instr.slice, hx, hy, run_underlying' hu, run_sizeOf' hi, Instr.sliceBounds, Instr.sliceBound, asIntOf, e1, e, add_off]
      · rw [← set_app hO]
        refine hI.weaken (at_app hO) (by split <;> rfl) fun _ => ?_
        by_cases e : c = 1
        · simp only [e, if_true]
          have hm1 : m = 1 := by omega
          subst hm1
          have : cs.drop k = [] := by simp [hl]
          rw [this]
          refine ⟨rfl, full, hb, by simp, by simp; omega, by simp⟩
        · simp only [e, if_false]
          refine ⟨rfl, full, hb, hdl, by simp only; omega, fun q hq => ?_⟩
          have hq' : k + q < cs.length := by rw [List.length_drop] at hq; omega
          have := h3 (k + q) hq'
          simp only [List.getElem_drop]
          rw [show o + k + q = o + (k + q) by omega]
          exact this

/-- bytes and then a string's -/
theorem Src.str {s : List UInt8} {m : Nat} (hl : s.length = m) : Src P base O 1 m (str s) (cells8 s) :=
  ⟨by simp [hl], fun w => by
    have e : (ByteArray.mk s.toArray).size = m := by show s.toArray.size = _; simp [hl]
    simp [Lx.str, Builtin.lenOf, e], fun w _ => by
    subst hl
    have e : (ByteArray.mk s.toArray).extract 0 s.length = ByteArray.mk s.toArray := by
      have := ByteArray.extract_zero_size (b := ByteArray.mk s.toArray)
      simpa [ByteArray.size] using this
    simp [Lx.str, Builtin.firstCells, e, cells8]⟩

theorem l_appendS {T U E : TypeId} {b : Option Addr} {m c l by_ : Nat} {x y : Operand} {z : Value} {cs : List Value} {s : List UInt8} (j : Nat)
    (hu : P.underlying T = some (.slice E)) (hxu : P.underlying U = some .string) (hi : Inf P E z 1 by_) (hz : z.cells.size = 1)
    (hx : ev ρ x = .slice b m c) (hy : ev ρ y = str s) (hO : O[j]? = some (rowI b c E 1 cs)) (hl : cs.length = m) (hs : s.length = l)
    (hsz : (m + l) * by_ ≤ 70368744177664) (hby : by_ ≤ 1000000) (hsz' : 0 < by_)
    (h : ∀ b' c', K (upd ρ d (.slice b' (m + l) c')) (O.set j (rowI b' c' E 1 (cs ++ cells8 s)))) (hn : Nat.blt d n = true := by rfl) :
    LT P r base n ⟨some d, .call ⟨.builtin .append, #[x, y], #[T, U]⟩, t, p, af, g⟩ ρ O K :=
  LT.of_run hn fun w M hI => by
    obtain ⟨b', c', w', hr, hI'⟩ := run_append (ty := t) hu hxu (.inr rfl) hi hz (at_app hO) (by simpa using hl) (by decide) (Src.app (Src.str hs)) (cells8_one s) hsz hby hsz' hI
    rw [set_app hO] at hI'
    refine ⟨_, w', _, ?_, hI', h b' c'⟩
    simp [execOp, resolve, hx, hy, invoke, builtin, hr]

end

theorem QT.cast {P : Program} {base : World} {o : Oper} {ρ : Env} {O : List Item} {v v' : Value} (h : QT P base o ρ O v) (e : v = v') : QT P base o ρ O v' := e ▸ h

/-! ### places of elements, wherever the slice lies -/

/-- Where element i of a slice begins (i counts cells). -/
def elP (b : Option Addr) (i : Nat) : Value := .pointer (b.map fun a => ⟨a.block, a.off + i, none⟩)

theorem Sl.o {base : World} {O : List Item} {b : Option Addr} {cs : List Value} (h : Sl base b cs) : ∀ w, Inv base O w → Sl w b cs := fun _ hI => hI.sl h
theorem rowO {base : World} {O : List Item} {b : Option Addr} {c k : Nat} {E : TypeId} {cs : List Value} (h : rowI b c E k cs ∈ O) : ∀ w, Inv base O w → Sl w b cs := fun _ hI => hI.slOf h

section
variable {P : Program} {base : World} {ρ : Env} {O : List Item} {dst : Option Nat} {t : TypeId} {p : String} {af : Array Edge} {g : Option (Nat × Bool)}

theorem q_ixK {x y : Operand} {T E : TypeId} {b : Option Addr} {n c i : Nat} {kk : IntKind} {z : Value} {s by_ : Nat} {cs : List Value} (hu : P.underlying T = some (.slice E)) (hi : Inf P E z s by_) (hx : ev ρ x = .slice b n c) (hy : ev ρ y = .int kk (i : Int)) (hs : ∀ w, Inv base O w → Sl w b cs) (hlt : i < n) (hl : i * s < cs.length) :
    QT P base ⟨dst, .indexAddr T x y, t, p, af, g⟩ ρ O (elP b (i * s)) := fun w hI => by
  obtain ⟨bk, o, rfl⟩ := (hs w hI).addr hl
  exact q_indexAddr hu hi hx hy hlt w hI

theorem q_ix {x y : Operand} {T E : TypeId} {b : Option Addr} {n c i : Nat} {kk : IntKind} {z : Value} {by_ : Nat} {cs : List Value} (hu : P.underlying T = some (.slice E)) (hi : Inf P E z 1 by_) (hx : ev ρ x = .slice b n c) (hy : ev ρ y = .int kk (i : Int)) (hs : ∀ w, Inv base O w → Sl w b cs) (hlt : i < n) (hl : i < cs.length) :
    QT P base ⟨dst, .indexAddr T x y, t, p, af, g⟩ ρ O (elP b i) := by
  have := q_ixK (P := P) (base := base) (O := O) (dst := dst) (t := t) (p := p) (af := af) (g := g) hu hi hx hy hs hlt (by simpa using hl)
  rwa [Nat.mul_one] at this

/-- the index an int that is known not to be negative -/
theorem q_ixz {x y : Operand} {T E : TypeId} {b : Option Addr} {n c : Nat} {i : Int} {kk : IntKind} {z : Value} {by_ : Nat} {cs : List Value} (hu : P.underlying T = some (.slice E)) (hi : Inf P E z 1 by_) (hx : ev ρ x = .slice b n c) (hy : ev ρ y = .int kk i) (hs : ∀ w, Inv base O w → Sl w b cs) (h0 : 0 ≤ i) (hlt : i.toNat < n) (hl : i.toNat < cs.length) :
    QT P base ⟨dst, .indexAddr T x y, t, p, af, g⟩ ρ O (elP b i.toNat) :=
  q_ix hu hi hx (by rw [hy, Int.toNat_of_nonneg h0]) hs hlt hl

theorem q_ld {x : Operand} {T : TypeId} {d : TypeDesc} {b : Option Addr} {i : Nat} {cs : List Value} {v : Value} (hu : P.underlying T = some d) (ha : aggB d = false) (hx : ev ρ x = elP b i)
    (hs : ∀ w, Inv base O w → Sl w b cs) (hv : cs[i]? = some v) : QT P base ⟨dst, .load T x, t, p, af, g⟩ ρ O v := fun w hI => by
  obtain ⟨hi, _⟩ := List.getElem?_eq_some_iff.1 hv
  obtain ⟨bk, o, rfl⟩ := (hs w hI).addr hi
  exact q_load_cell hu ha hx (fun w hI => (hs w hI).get hv) w hI

theorem q_ldK {x : Operand} {T : TypeId} {d : TypeDesc} {b : Option Addr} {i : Nat} {cs vs : List Value} {z : Value} {s by_ : Nat} (hu : P.underlying T = some d) (ha : aggB d = true) (hi : Inf P T z s by_) (hx : ev ρ x = elP b i) (hl : vs.length = s) (hpos : 0 < vs.length)
    (hs : ∀ w, Inv base O w → Sl w b cs) (hv : ∀ j (h : j < vs.length), cs[i + j]? = some vs[j]) : QT P base ⟨dst, .load T x, t, p, af, g⟩ ρ O (.agg vs.toArray) := fun w hI => by
  obtain ⟨h0, _⟩ := List.getElem?_eq_some_iff.1 (hv 0 hpos)
  obtain ⟨bk, o, rfl⟩ := (hs w hI).addr (i := i) (by omega)
  exact q_load_agg hu ha hi hx hl (fun w hI j hj => by have := (hs w hI).get (hv j hj); rwa [← Nat.add_assoc] at this) w hI

/-- a field of an element -/
theorem q_fieldEl {x : Operand} {S : TypeId} {fs : Array Field} {i : Nat} {f : Field} {b : Option Addr} {o : Nat} {z : Value} {s by_ : Nat} {cs : List Value} (hu : P.underlying S = some (.struct fs)) (hf : fs[i]? = some f) (hi : Inf P f.type z s by_) (hs : (s == 0) = false)
    (hx : ev ρ x = elP b o) (hsl : ∀ w, Inv base O w → Sl w b cs) (ho : o < cs.length) : QT P base ⟨dst, .fieldAddr S x i, t, p, af, g⟩ ρ O (elP b (o + f.offset)) := fun w hI => by
  obtain ⟨bk, o', rfl⟩ := (hsl w hI).addr ho
  have := q_fieldAddr (P := P) (base := base) (O := O) (dst := dst) (t := t) (p := p) (af := af) (g := g) hu hf hi hs (b := bk) (o := o' + o) hx w hI
  rw [this]; simp [elP, Nat.add_assoc]
end

section
variable {P : Program} {r : Option Nat} {base : World} {n : Nat} {ρ : Env} {O : List Item} {K : Env → List Item → Prop} {d : Nat} {t : TypeId} {p : String} {af : Array Edge} {g : Option (Nat × Bool)}

/-- a store into a slice of our own -/
theorem l_st (i : Nat) {T E : TypeId} {x y : Operand} {b : Option Addr} {j c k : Nat} {v : Value} {vs cs : List Value} {z : Value} {s by_ : Nat} (hi : Inf P T z s by_) (hx : ev ρ x = elP b j) (hy : ev ρ y = v) (hv : v.cells = vs.toArray) (hl : vs.length = s) (ho : (vs.all oneB) = true) (hs : 0 < vs.length)
    (hO : O[i]? = some (rowI b c E k cs)) (hr : j + vs.length ≤ cs.length)
    (h : K ρ (O.set i (rowI b c E k (putL cs j vs)))) : LT P r base n ⟨none, .store T x y, t, p, af, g⟩ ρ O K := fun a w M ds ha hI => by
  obtain ⟨bk, o, rfl⟩ := (hI.left.slOf (List.mem_of_getElem? hO)).addr (i := j) (by omega)
  exact l_store_row i hi hx hy hv hl ho hO hr h a w M ds ha hI
end

/-! ### keys that are pairs of ints -/

def pairV (q : Int × Int) : Value := .agg #[.int .i64 q.1, .int .i64 q.2]

theorem run_equal_int {P : Program} {T : TypeId} {k : IntKind} (h : P.underlying T = some (.int k)) (d : Nat) (a b : Int) (w : World) : (Op.equalIn (d + 1) T (.int .i64 a) (.int .i64 b)).run P w = .ok (a == b) w := by
  rw [Op.equalIn]
  simp [run_underlying' h]

/-- What is asked of a struct of two ints that is a key. -/
structure Pair2 (P : Program) (kt : TypeId) (f1 f2 : Field) : Prop where
  under : P.underlying kt = some (.struct #[f1, f2])
  u1 : P.underlying f1.type = some (.int .i64)
  u2 : P.underlying f2.type = some (.int .i64)
  o1 : f1.offset = 0
  o2 : f2.offset = 1
  n1 : f1.name ≠ "_"
  n2 : f2.name ≠ "_"
  held : P.stoodInHeld kt = false

theorem Pair2.equal {P : Program} {kt : TypeId} {f1 f2 : Field} (h : Pair2 P kt f1 f2) (a b : Int × Int) (w : World) : (Op.equal kt (pairV a) (pairV b)).run P w = .ok (decide (a = b)) w := by
  show (Op.equalIn (9998 + 1 + 1) kt (pairV a) (pairV b)).run P w = _
  rw [Op.equalIn]
  have hp1 : ∀ (c : Int × Int), (part f1.type #[.int .i64 c.1, .int .i64 c.2] f1.offset).run P w = .ok (.int .i64 c.1) w := fun c => by
    simp [part, run_isAgg' h.u1, aggB, h.o1]
  have hp2 : ∀ (c : Int × Int), (part f2.type #[.int .i64 c.1, .int .i64 c.2] f2.offset).run P w = .ok (.int .i64 c.2) w := fun c => by
    simp [part, run_isAgg' h.u2, aggB, h.o2]
  simp [run_underlying' h.under, pairV, h.held, h.n1, h.n2, hp1, hp2, run_equal_int h.u1, run_equal_int h.u2]
  by_cases e1 : a.1 = b.1
  · by_cases e2 : a.2 = b.2
    · have : a = b := by cases a; cases b; simp_all
      simp [e1, e2, this]
    · have : ¬ a = b := fun e => e2 (by rw [e])
      simp [e1, e2, this]
  · have : ¬ a = b := fun e => e1 (by rw [e])
    simp [e1, this]

theorem KeyOk.pair {P : Program} {kt : TypeId} {f1 f2 : Field} (h : Pair2 P kt f1 f2) : KeyOk P kt pairV where
  check := fun e a w => by
    show (Instr.checkKey e (9998 + 1 + 1) kt _).run P w = _
    rw [Instr.checkKey]
    have hp1 : ∀ (c : Int × Int), (part f1.type #[.int .i64 c.1, .int .i64 c.2] f1.offset).run P w = .ok (.int .i64 c.1) w := fun c => by
      simp [part, run_isAgg' h.u1, aggB, h.o1]
    have hp2 : ∀ (c : Int × Int), (part f2.type #[.int .i64 c.1, .int .i64 c.2] f2.offset).run P w = .ok (.int .i64 c.2) w := fun c => by
      simp [part, run_isAgg' h.u2, aggB, h.o2]
    have hk : ∀ (tt : TypeId) (v : Int), P.underlying tt = some (.int .i64) → (Instr.checkKey e (9998 + 1) tt (.int .i64 v)).run P w = .ok () w := fun tt v hu => by
      rw [Instr.checkKey]; simp [run_underlying' hu]
    simp [run_underlying' h.under, pairV, h.n1, h.n2, hp1, hp2, hk _ _ h.u1, hk _ _ h.u2]
  find := fun es ks a w hks => by
    have ask : ∀ (es : List MapEntry) (ks : List (Int × Int)) (i : Nat), es.map (·.key) = ks.map pairV → (Instr.findAsking kt (pairV a) es i).run P w = .ok (findL a ks es i) w := by
      intro es
      induction es with
      | nil => intro ks i h; cases ks <;> simp_all [Instr.findAsking, findL]
      | cons e es ih =>
        intro ks i hh
        cases ks with
        | nil => simp at hh
        | cons b ks =>
          simp only [List.map_cons, List.cons.injEq] at hh
          simp only [Instr.findAsking, hh.1, Sem.run_bind, h.equal, Result.andThen_ok, findL]
          by_cases e : a = b
          · simp [e]
          · simp [e, ih ks (i + 1) hh.2]
    have key : ∀ (es : List MapEntry) (ks : List (Int × Int)), es.map (·.key) = ks.map pairV → Instr.findNow (.struct #[f1, f2]) (pairV a) es 0 = some (findL a ks es 0) ∨ Instr.findNow (.struct #[f1, f2]) (pairV a) es 0 = none := by
      intro es ks hh
      cases es with
      | nil => left; cases ks <;> simp_all [Instr.findNow, findL]
      | cons e es => right; simp [Instr.findNow, Instr.sameNow]
    rcases key es ks hks with hk | hk
    · simp [Instr.findKey, run_underlying' h.under, hk]
    · simp [Instr.findKey, run_underlying' h.under, hk, ask es ks 0 hks]

end Go.Lx

/- Maps, strings, shifts, parts of slices, elements of several cells. -/
import Derived.Test.YthfemndklplpbaaDoorCoreG
set_option linter.unusedSectionVars false
set_option linter.unusedSimpArgs false
set_option linter.unusedVariables false
set_option linter.unnecessarySimpa false
namespace Go.Lx
open Go.RowKit

/-! ### small operations on numbers -/
section
variable {P : Program} {base : World} {ρ : Env} {O : List Item} {dst : Option Nat} {t : TypeId} {p : String} {af : Array Edge} {g : Option (Nat × Bool)}

theorem q_shl {x y : Operand} {T U : TypeId} {k k' : IntKind} {a b : Int} (hx : ev ρ x = .int k a) (hy : ev ρ y = .int k' b) (h0 : 0 ≤ b) : QT P base ⟨dst, .binOp .shl T x y U, t, p, af, g⟩ ρ O (.int k (k.wrap (a * 2 ^ (min b.toNat k.bits)))) := fun w _ => by
  have : ¬ b < 0 := by omega
  simp [execOp, hx, hy, eqGuard, binOp, Op.shift, this]

/-- 1 << v for a small v -/
theorem q_shl1 {x y : Operand} {T U : TypeId} {k' : IntKind} {v : Nat} (hx : ev ρ x = .int .i64 1) (hy : ev ρ y = .int k' (v : Int)) (hv : v ≤ 60) : QT P base ⟨dst, .binOp .shl T x y U, t, p, af, g⟩ ρ O (.int .i64 ((2 ^ v : Nat) : Int)) := by
  have h := q_shl (P := P) (base := base) (O := O) (dst := dst) (t := t) (p := p) (af := af) (g := g) (T := T) (U := U) hx hy (by omega)
  have e : min (v : Int).toNat (IntKind.i64.bits) = v := by
    have : IntKind.i64.bits = 64 := rfl
    rw [this]; simp; omega
  rw [e] at h
  have hle : (2 : Nat) ^ v ≤ 2 ^ 60 := Nat.pow_le_pow_right (by omega) hv
  have h60 : (2 : Nat) ^ 60 = 1152921504606846976 := by rfl
  have e2 : (1 : Int) * 2 ^ v = ((2 ^ v : Nat) : Int) := by rw [Int.one_mul, Int.natCast_pow]; rfl
  rw [e2] at h
  rw [h60] at hle
  generalize (2 : Nat) ^ v = q at *
  rwa [wrap64_id (by omega)] at h

theorem q_rem {x y : Operand} {T U : TypeId} {k : IntKind} {a b : Int} (hx : ev ρ x = .int k a) (hy : ev ρ y = .int k b) (h0 : b ≠ 0) : QT P base ⟨dst, .binOp .rem T x y U, t, p, af, g⟩ ρ O (.int k (a.tmod b)) := fun w _ => by
  simp [execOp, hx, hy, eqGuard, binOp, Op.intDiv, h0]

theorem q_min {x y : Operand} {ats : Array TypeId} {k k' : IntKind} {a b : Int} (hx : ev ρ x = .int k a) (hy : ev ρ y = .int k' b) : QT P base ⟨dst, .call ⟨.builtin .min, #[x, y], ats⟩, t, p, af, g⟩ ρ O (.int k (if b < a then b else a)) := fun w _ => by
  simp [execOp, resolve, hx, hy, invoke, builtin, Builtin.min_, Builtin.min2]
theorem q_max {x y : Operand} {ats : Array TypeId} {k k' : IntKind} {a b : Int} (hx : ev ρ x = .int k a) (hy : ev ρ y = .int k' b) : QT P base ⟨dst, .call ⟨.builtin .max, #[x, y], ats⟩, t, p, af, g⟩ ρ O (.int k (if b > a then b else a)) := fun w _ => by
  simp [execOp, resolve, hx, hy, invoke, builtin, Builtin.max_, Builtin.max2]

/-! ### strings -/

def str (l : List UInt8) : Value := .string ⟨l.toArray⟩

theorem q_lenStr {x : Operand} {T : TypeId} {l : List UInt8} (hu : P.underlying T = some .string) (hx : ev ρ x = str l) : QT P base ⟨dst, .call ⟨.builtin .len, #[x], #[T]⟩, t, p, af, g⟩ ρ O (.int .i64 (l.length : Int)) := fun w _ => by
  have e : (ByteArray.mk l.toArray).size = l.length := by show l.toArray.size = _; simp
  simp [execOp, resolve, hx, str, invoke, builtin, Builtin.len_, run_underlying' hu, goInt, e]

/-- bytes, as cells -/
abbrev cells8 (l : List UInt8) : List Value := l.map fun b : UInt8 => Value.int .u8 (b.toNat : Int)

theorem cells8_one (l : List UInt8) : ((cells8 l).all oneB) = true := by simp [oneB]

theorem run_b2s {w : World} {b : Option Addr} {n c : Nat} {l : List UInt8} (h : Sl w b (cells8 l)) (hl : l.length = n) : (Conv.bytesToString (.slice b n c)).run P w = .ok (str l) w := by
  subst hl
  cases b with
  | none =>
    have : l = [] := by
      cases l with
      | nil => rfl
      | cons a l => obtain ⟨_, h1, _⟩ := h 0 (by simp); cases h1
    subst this; rfl
  | some a =>
    obtain ⟨k, o, sp⟩ := a
    have hl := firstCells_run (P := P) (c := c) (m := l.length) (s := 1) h (by simp) (by simp)
    simp only [Builtin.firstCells, Nat.mul_one] at hl
    have fold : ∀ (l : List UInt8) (acc : ByteArray), List.foldl (fun (b : ByteArray) (a : UInt8) => ByteArray.mk (b.data.push a)) acc l = ⟨(acc.data.toList ++ l).toArray⟩ := by
      intro l
      induction l with
      | nil => intro acc; simp
      | cons b l ih => intro acc; rw [List.foldl_cons, ih]; simp
    simp only [Conv.bytesToString, Sem.run_bind, hl, Result.andThen_ok]
    simp [cells8, ByteArray.push, fold, str]

/-- string(bytes), bytes of our own -/
theorem q_b2s {x : Operand} {S D E : TypeId} {b : Option Addr} {n c c' k : Nat} {l : List UInt8} (hs : P.underlying S = some (.slice E)) (hd : P.underlying D = some .string) (he : P.underlying E = some (.int .u8)) (hx : ev ρ x = .slice b n c)
    (hO : rowI b c' E k (cells8 l) ∈ O) (hl : l.length = n) : QT P base ⟨dst, .convert S D x, t, p, af, g⟩ ρ O (str l) := fun w hI => by
  simp [execOp, hx, convert, run_underlying' hs, run_underlying' hd, run_underlying' he, run_b2s (hI.slOf hO) hl]

/-! ### maps -/

/-- A map of our own: its entries, in the order in which they came. -/
def mapP {α β : Type} (K : α → Value) (V : β → Value) (m : Nat) (l : List (α × β)) (w : World) : Prop :=
  ∃ es clk, w.heap[m]? = some (.map es clk) ∧ es.toList.map (fun e => (e.key, e.val)) = l.map fun q => (K q.1, V q.2)

def mapI {α β : Type} (K : α → Value) (V : β → Value) (m : Nat) (l : List (α × β)) : Item where
  blocks := [m]
  P := mapP K V m l
  loc := fun w w' h hp => by
    obtain ⟨es, clk, h1, h2⟩ := hp
    exact ⟨es, clk, by rw [h m (by simp)]; exact h1, h2⟩

def findL {α : Type} [DecidableEq α] (a : α) : List α → List MapEntry → Nat → Option (Nat × Value)
  | k :: ks, e :: es, i => if a = k then some (i, e.val) else findL a ks es (i + 1)
  | _, _, _ => none

/-- Keys that Go compares as we do. -/
structure KeyOk (P : Program) {α : Type} [DecidableEq α] (kt : TypeId) (K : α → Value) : Prop where
  check : ∀ e a w, (Instr.checkKey e 10000 kt (K a)).run P w = .ok () w
  find : ∀ (es : List MapEntry) (ks : List α) (a : α) (w : World), es.map (·.key) = ks.map K → (Instr.findKey kt (K a) es).run P w = .ok (findL a ks es 0) w

theorem KeyOk.int {kt : TypeId} {k : IntKind} (hu : P.underlying kt = some (.int k)) : KeyOk P kt (fun a : Int => Value.int .i64 a) where
  check := fun e a w => by
    show (Instr.checkKey e (9999 + 1) kt _).run P w = _
    rw [Instr.checkKey]
    simp [run_underlying' hu, str]
  find := fun es ks a w h => by
    have key : ∀ (es : List MapEntry) (ks : List Int) (i : Nat), es.map (·.key) = ks.map (fun a : Int => Value.int .i64 a) → Instr.findNow (.int k) (.int .i64 a) es i = some (findL a ks es i) := by
      intro es
      induction es with
      | nil => intro ks i h; cases ks <;> simp_all [Instr.findNow, findL]
      | cons e es ih =>
        intro ks i h
        cases ks with
        | nil => simp at h
        | cons b ks =>
          simp only [List.map_cons, List.cons.injEq] at h
          simp only [Instr.findNow, h.1, Instr.sameNow, if_true, findL]
          by_cases e : a = b
          · simp [e]
          · have : (a == b) = false := by simpa using e
            simp [this, e, ih ks (i + 1) h.2]
    simp [Instr.findKey, run_underlying' hu, key es ks 0 h]

theorem bytes_eq (a b : List UInt8) : ((⟨a.toArray⟩ : ByteArray) == ⟨b.toArray⟩) = decide (a = b) := by
  show (a.toArray == b.toArray) = _
  by_cases e : a = b
  · subst e; simp
  · simp [e]

theorem KeyOk.string {kt : TypeId} (hu : P.underlying kt = some .string) : KeyOk P kt str where
  check := fun e a w => by
    show (Instr.checkKey e (9999 + 1) kt _).run P w = _
    rw [Instr.checkKey]
    simp [run_underlying' hu, str]
  find := fun es ks a w h => by
    have key : ∀ (es : List MapEntry) (ks : List (List UInt8)) (i : Nat), es.map (·.key) = ks.map str → Instr.findNow .string (str a) es i = some (findL a ks es i) := by
      intro es
      induction es with
      | nil => intro ks i h; cases ks <;> simp_all [Instr.findNow, findL]
      | cons e es ih =>
        intro ks i h
        cases ks with
        | nil => simp at h
        | cons b ks =>
          simp only [List.map_cons, List.cons.injEq] at h
          simp only [Instr.findNow, h.1, Instr.sameNow, str, bytes_eq, findL]
          by_cases e : a = b
          · simp [e]
          · have := ih ks (i + 1) h.2
            simp only [str] at this
            simp [e, this]
    simp [Instr.findKey, run_underlying' hu, key es ks 0 h]

theorem findL_none {α : Type} [DecidableEq α] {a : α} : ∀ (ks : List α) (es : List MapEntry) (i : Nat), a ∉ ks → findL a ks es i = none
  | [], _, _, _ => rfl
  | k :: ks, [], _, _ => rfl
  | k :: ks, e :: es, i, h => by
    simp only [List.mem_cons, not_or] at h
    simp [findL, h.1, findL_none ks es (i + 1) h.2]

/-- What the map holds under a key: the first entry's value. -/
def lookL {α β : Type} [DecidableEq α] (a : α) : List (α × β) → Option β
  | [] => none
  | q :: l => if a = q.1 then some q.2 else lookL a l

theorem findL_look {α β : Type} [DecidableEq α] {K : α → Value} {V : β → Value} {a : α} : ∀ (l : List (α × β)) (es : List MapEntry) (i : Nat), es.map (fun e => (e.key, e.val)) = l.map (fun q => (K q.1, V q.2)) → (findL a (l.map Prod.fst) es i).map Prod.snd = (lookL a l).map V
  | [], es, i, h => by cases es <;> rfl
  | q :: l, [], i, h => by simp at h
  | q :: l, e :: es, i, h => by
    simp only [List.map_cons, List.cons.injEq, Prod.mk.injEq] at h
    simp only [List.map_cons, findL, lookL]
    by_cases e : a = q.1
    · simp [e, h.1.2]
    · simp only [e, if_false]; exact findL_look l es (i + 1) h.2

theorem keys_of {α β : Type} {K : α → Value} {V : β → Value} {es : List MapEntry} {l : List (α × β)} (h : es.map (fun e => (e.key, e.val)) = l.map (fun q => (K q.1, V q.2))) : es.map (·.key) = (l.map Prod.fst).map K := by
  have := congrArg (List.map Prod.fst) h
  simpa [Function.comp_def] using this

theorem q_lenMap {x : Operand} {T kt vt : TypeId} {m : Nat} {α β : Type} {K : α → Value} {V : β → Value} {l : List (α × β)} (hu : P.underlying T = some (.map kt vt)) (hx : ev ρ x = .map (some m)) (hO : mapI K V m l ∈ O) :
    QT P base ⟨dst, .call ⟨.builtin .len, #[x], #[T]⟩, t, p, af, g⟩ ρ O (.int .i64 (l.length : Int)) := fun w hI => by
  obtain ⟨es, clk, h1, h2⟩ := hI.holds _ hO
  have hl : es.size = l.length := by have := congrArg List.length h2; simpa using this
  simp [execOp, resolve, hx, invoke, builtin, Builtin.len_, run_underlying' hu, getObj, Sem.run, h1, goInt, hl]

theorem run_lookup {T kt vt : TypeId} {m : Nat} {α β : Type} [DecidableEq α] {K : α → Value} {V : β → Value} {l : List (α × β)} {z : Value} {s by_ : Nat} {w : World} (hu : P.underlying T = some (.map kt vt)) (hz : Inf P vt z s by_) (hk : KeyOk P kt K) (h : mapP K V m l w) (a : α) (ok : Bool) :
    (Instr.lookup T (.map (some m)) (K a) ok).run P w = .ok (if ok then .tuple #[((lookL a l).map V).getD z, .bool (lookL a l).isSome] else ((lookL a l).map V).getD z) w := by
  obtain ⟨es, clk, h1, h2⟩ := h
  have hf := hk.find es.toList (l.map Prod.fst) a w (keys_of h2)
  have hl := findL_look (a := a) l es.toList 0 h2
  have hg : (getObj m).run P w = .ok (.map es clk) w := by simp [getObj, Sem.run, h1]
  simp only [Instr.lookup, Sem.run_bind, run_underlying' hu, Result.andThen_ok, hg, Sem.run_pure, hk.check, hf]
  cases e : findL a (l.map Prod.fst) es.toList 0 with
  | none =>
    rw [e] at hl
    have : lookL a l = none := by cases e2 : lookL a l with | none => rfl | some v => rw [e2] at hl; cases hl
    simp [run_zeroValue' hz, this]
  | some q =>
    rw [e] at hl
    obtain ⟨i, v⟩ := q
    cases e2 : lookL a l with
    | none => rw [e2] at hl; cases hl
    | some u =>
      rw [e2] at hl
      simp at hl
      simp [hl]

theorem q_lookup {x y : Operand} {T kt vt : TypeId} {m : Nat} {α β : Type} [DecidableEq α] {K : α → Value} {V : β → Value} {l : List (α × β)} {z : Value} {s by_ : Nat} {a : α} (hu : P.underlying T = some (.map kt vt)) (hz : Inf P vt z s by_) (hk : KeyOk P kt K)
    (hx : ev ρ x = .map (some m)) (hy : ev ρ y = K a) (hO : mapI K V m l ∈ O) : QT P base ⟨dst, .lookup T x y false, t, p, af, g⟩ ρ O (((lookL a l).map V).getD z) := fun w hI => by
  have := run_lookup hu hz hk (hI.holds _ hO) a false
  simp [execOp, hx, hy, this]

theorem q_lookupOk {x y : Operand} {T kt vt : TypeId} {m : Nat} {α β : Type} [DecidableEq α] {K : α → Value} {V : β → Value} {l : List (α × β)} {z : Value} {s by_ : Nat} {a : α} (hu : P.underlying T = some (.map kt vt)) (hz : Inf P vt z s by_) (hk : KeyOk P kt K)
    (hx : ev ρ x = .map (some m)) (hy : ev ρ y = K a) (hO : mapI K V m l ∈ O) : QT P base ⟨dst, .lookup T x y true, t, p, af, g⟩ ρ O (.tuple #[((lookL a l).map V).getD z, .bool (lookL a l).isSome]) := fun w hI => by
  have := run_lookup hu hz hk (hI.holds _ hO) a true
  simp [execOp, hx, hy, this]
end

section
variable {P : Program} {r : Option Nat} {base : World} {n : Nat} {ρ : Env} {O : List Item} {K' : Env → List Item → Prop} {d : Nat} {t : TypeId} {p : String} {af : Array Edge} {g : Option (Nat × Bool)}

theorem l_makeMap {T : TypeId} {α β : Type} (K : α → Value) (V : β → Value) (h : ∀ m, K' (upd ρ d (.map (some m))) (mapI K V m [] :: O)) (hn : Nat.blt d n = true := by rfl) : LT P r base n ⟨some d, .makeMap T none, t, p, af, g⟩ ρ O K' :=
  LT.of_run hn fun w M hI => ⟨.map (some w.heap.size), w.alloc (.map #[] 0), _, by simp [execOp, Instr.makeMap], by
    refine Inv.new (O := O ++ M) (N := [mapI K V w.heap.size []]) (w' := w.alloc (.map #[] 0)) hI rfl rfl rfl (by simp) (fun b hb => Below.heap_alloc w _ b hb) ?_ ?_ (by simp [mapI])
    · intro x hx
      simp at hx; subst hx
      exact ⟨#[], 0, by show (w.heap.push _)[w.heap.size]? = _; simp, rfl⟩
    · intro x hx b hb
      simp at hx; subst hx
      simp [mapI] at hb; subst hb
      simp, h _⟩

theorem run_put {T kt vt : TypeId} {m : Nat} {α β : Type} [DecidableEq α] {K : α → Value} {V : β → Value} {l : List (α × β)} {w : World} {a : α} {v : β} (hu : P.underlying T = some (.map kt vt)) (hk : KeyOk P kt K) (h : mapP K V m l w) (hfresh : a ∉ l.map Prod.fst) :
    ∃ es clk, (Instr.mapUpdate T (.map (some m)) (K a) (V v)).run P w = .ok () (setB w m (.map es clk)) ∧ es.toList.map (fun e => (e.key, e.val)) = (l ++ [(a, v)]).map fun q => (K q.1, V q.2) := by
  obtain ⟨es, clk, h1, h2⟩ := h
  have hf := hk.find es.toList (l.map Prod.fst) a w (keys_of h2)
  rw [findL_none _ _ _ hfresh] at hf
  have hg : (getObj m).run P w = .ok (.map es clk) w := by simp [getObj, Sem.run, h1]
  have hs : ∀ o, (setObj m o).run P w = .ok () (setB w m o) := fun o => by simp [setObj, Sem.run, h1, setB]
  refine ⟨es.push { key := K a, val := V v, born := clk }, clk + 1, ?_, by simp [h2]⟩
  simp only [Instr.mapUpdate, Sem.run_bind, run_underlying' hu, Result.andThen_ok, hg, hk.check, hf, hs]

theorem Inv.setMap {w : World} {M : List Item} {α β : Type} {K : α → Value} {V : β → Value} {m i : Nat} {l l' : List (α × β)} (hI : Inv base (O ++ M) w) (hO : O[i]? = some (mapI K V m l)) {es : Array MapEntry} {clk : Nat} (h : es.toList.map (fun e => (e.key, e.val)) = l'.map fun q => (K q.1, V q.2)) :
    Inv base (O.set i (mapI K V m l') ++ M) (setB w m (.map es clk)) := by
  obtain ⟨es0, clk0, h1, _⟩ := hI.holds (mapI K V m l) (List.mem_append_left _ (List.mem_of_getElem? hO))
  have hlt := (Array.getElem?_eq_some_iff.1 h1).1
  rw [← set_app hO]
  exact hI.stepAt (at_app hO) rfl rfl rfl (by rw [setB_size]; exact Nat.le_refl _) (fun k _ hk => setB_other (fun e => hk (by simp [mapI, e]))) ⟨es, clk, setB_same hlt, h⟩ (fun k hk => .inl hk) (by simp [mapI])

/-- a new key's entry -/
theorem l_mapPut (i : Nat) {x y z : Operand} {T kt vt : TypeId} {m : Nat} {α β : Type} [DecidableEq α] {K : α → Value} {V : β → Value} {l : List (α × β)} {a : α} {v : β} (hu : P.underlying T = some (.map kt vt)) (hk : KeyOk P kt K) (hx : ev ρ x = .map (some m)) (hy : ev ρ y = K a) (hz : ev ρ z = V v)
    (hO : O[i]? = some (mapI K V m l)) (hfresh : a ∉ l.map Prod.fst) (h : K' ρ (O.set i (mapI K V m (l ++ [(a, v)])))) : LT P r base n ⟨none, .mapUpdate T x y z, t, p, af, g⟩ ρ O K' :=
  LT.of_skip fun w M hI => by
    obtain ⟨es, clk, hr, hes⟩ := run_put (v := v) hu hk (hI.holds (mapI K V m l) (List.mem_append_left _ (List.mem_of_getElem? hO))) hfresh
    exact ⟨setB w m (.map es clk), _, by simp [execOp, hx, hy, hz, hr], hI.setMap hO hes, h⟩

theorem l_mapInsert (i : Nat) {x y z : Operand} {T kt vt : TypeId} {m : Nat} {α β : Type} [DecidableEq α] {K : α → Value} {V : β → Value} {l : List (α × β)} {a : α} {v : β} (hu : P.underlying T = some (.map kt vt)) (hk : KeyOk P kt K) (hx : ev ρ x = .map (some m)) (hy : ev ρ y = K a) (hz : ev ρ z = V v)
    (hO : O[i]? = some (mapI K V m l)) (hfresh : a ∉ l.map Prod.fst) (h : K' ρ (O.set i (mapI K V m (l ++ [(a, v)])))) : LT P r base n ⟨none, .insert T x y z, t, p, af, g⟩ ρ O K' :=
  LT.of_skip fun w M hI => by
    obtain ⟨es, clk, hr, hes⟩ := run_put (v := v) hu hk (hI.holds (mapI K V m l) (List.mem_append_left _ (List.mem_of_getElem? hO))) hfresh
    exact ⟨setB w m (.map es clk), _, by simp [execOp, hx, hy, hz, hr], hI.setMap hO hes, h⟩

end
end Go.Lx
